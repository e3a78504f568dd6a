/- The program's LoseDisk and the reference's LoseDisk return the same, for every disk and every list of numbers; the arguments are left alone, and what is returned is shared with nothing. -/
import Derived.Test.YtdllmlnigihpcaaXFnExactLoseDiskx9
import Derived.Test.YtdllmlnigihpcaaVf
set_option linter.unusedVariables false
set_option linter.unusedSimpArgs false
namespace Go.Proofs.Ytdllmlnigihpcaa.Pure
open Go.RowKit Go.Proofs.Ytdllmlnigihpcaa.XFnExactLoseDisk Go.Proofs.YtdllmlnigihpcaaV.PrintWords Go.Proofs.YtdllmlnigihpcaaV.PrintLast

/-! ### small words -/
theorem w64 {x : Int} (h0 : -9223372036854775808 ≤ x) (h1 : x ≤ 9223372036854775807) : wrap64 x = x := by
  unfold wrap64
  omega
theorem wsucc {n : Nat} (h : n ≤ 4611686018427387904) : wrap64 ((n : Int) + 1) = ((n + 1 : Nat) : Int) := by
  rw [w64 (by omega) (by omega)]
  rfl
theorem Ev.some_bind {α β : Type} {a : Option α} {x : α} (h : a = some x) {f : Nat → α → Option β} {r : β} (k : Ev (fun n => f n x) r) : Ev (fun n => a.bind (f n)) r := by
  subst h
  exact k
theorem Ev.pos {α : Type} {p : Prop} [Decidable p] (h : p) {f g : Nat → Option α} {r : α} (k : Ev f r) : Ev (fun n => if p then f n else g n) r :=
  Ev.congr (fun _ => if_pos h) k
theorem Ev.neg {α : Type} {p : Prop} [Decidable p] (h : ¬ p) {f g : Nat → Option α} {r : α} (k : Ev g r) : Ev (fun n => if p then f n else g n) r :=
  Ev.congr (fun _ => if_neg h) k
theorem strOfNums_size (xs : List Int) : (strOfNums xs).size = xs.length := by simp [strOfNums, ByteArray.size]
theorem spec_l01In_eq (a l h : Int) : spec_l01In.f a l h = some (decide (l ≤ a ∧ a ≤ h)) := by
  unfold spec_l01In.f
  by_cases h1 : l ≤ a
  · rw [if_pos h1]; simp [h1]
  · rw [if_neg h1]; simp [h1]

theorem impl_within_eq (a l h : Int) : impl_within.f a l h = some (decide (l ≤ a ∧ a ≤ h)) := by
  unfold impl_within.f
  by_cases h1 : l ≤ a
  · rw [if_pos h1]; simp [h1]
  · rw [if_neg h1]; simp [h1]

/-! ### files -/
theorem rdF_nat {l : List S57} {i : Nat} (h : i < l.length) : rd_T57 l (i : Int) = l[i] := by
  unfold rd_T57
  rw [Int.toNat_natCast, List.getD_eq_getElem?_getD, List.getElem?_eq_getElem h]
  rfl
def fileOk (f : S57) : Bool := decide (1 ≤ (f.f0.size : Int) ∧ (f.f0.size : Int) ≤ 8) && decide (¬ (f.f1.size : Int) > 20000) && decide (0 ≤ f.f2 ∧ f.f2 ≤ (f.f1.size : Int))
def placeOk (l : List S57) (i : Nat) : Bool := fileOk (rd_T57 l (i : Int)) && (decide (i = 0) || Op.bytesLess ((rd_T57 l ((i - 1 : Nat) : Int)).f0.toList) ((rd_T57 l (i : Int)).f0.toList))
def allFrom (l : List S57) : Nat → Nat → Bool
  | 0, _ => true
  | d + 1, i => placeOk l i && allFrom l d (i + 1)
def diskOkV (l : List S57) : Bool := decide ((l.length : Int) ≤ 30) && allFrom l l.length 0

theorem impl_DiskOk_l0 (l : List S57) (hl : l.length ≤ 4611686018427387904) (d : Nat) : ∀ i : Nat, i ≤ l.length → l.length - i = d → Ev (fun k => impl_DiskOk.l0 k l (l.length : Int) (i : Int) l) (allFrom l d i && decide ((l.length : Int) ≤ 30)) := by
  induction d with
  | zero =>
    intro i hi hd
    exact Ev.step (f := fun _ => some (decide ((l.length : Int) ≤ 30))) (fun k => by simp only [impl_DiskOk.l0]; rw [if_neg (by omega)]) (Ev.now _)
  | succ d ih =>
    intro i hi hd
    have g1 : (i : Int) < (l.length : Int) := by omega
    have g2 : 0 ≤ (i : Int) := by omega
    have hw := wsucc (n := i) (by omega)
    have hrec := ih (i + 1) (by omega) (by omega)
    unfold allFrom placeOk fileOk
    by_cases c1 : 1 ≤ ((rd_T57 l (i : Int)).f0.size : Int) ∧ ((rd_T57 l (i : Int)).f0.size : Int) ≤ 8
    · rw [decide_eq_true c1, Bool.true_and]
      by_cases c2 : ((rd_T57 l (i : Int)).f1.size : Int) > 20000
      · rw [decide_eq_false (fun h => h c2)]
        refine Ev.step (f := fun _ => some false) (fun k => ?_) (by simpa using Ev.now _)
        simp only [impl_DiskOk.l0, impl_within_eq, decide_eq_true c1, Option.bind_some]
        rw [if_pos g1, if_pos g2, if_pos g1, if_pos trivial, if_pos c2]
      · rw [decide_eq_true c2, Bool.true_and]
        by_cases c3 : 0 ≤ (rd_T57 l (i : Int)).f2 ∧ (rd_T57 l (i : Int)).f2 ≤ ((rd_T57 l (i : Int)).f1.size : Int)
        · rw [decide_eq_true c3, Bool.true_and]
          by_cases c4 : i = 0
          · rw [decide_eq_true c4, Bool.true_or, Bool.true_and]
            refine Ev.step (fun k => ?_) hrec
            simp only [impl_DiskOk.l0, impl_within_eq, decide_eq_true c1, decide_eq_true c3, Option.bind_some]
            rw [if_pos g1, if_pos g2, if_pos g1, if_pos trivial, if_neg c2, if_pos trivial, if_neg (by omega), hw]
          · rw [decide_eq_false c4, Bool.false_or]
            have hp : wrap64 ((i : Int) - 1) = ((i - 1 : Nat) : Int) := by rw [w64 (by omega) (by omega)]; omega
            have g3 : (i : Int) > 0 := by omega
            have g4 : 0 ≤ ((i - 1 : Nat) : Int) := by omega
            have g5 : ((i - 1 : Nat) : Int) < (l.length : Int) := by omega
            by_cases c5 : Op.bytesLess ((rd_T57 l ((i - 1 : Nat) : Int)).f0.toList) ((rd_T57 l (i : Int)).f0.toList) = true
            · rw [c5, Bool.true_and]
              refine Ev.step (fun k => ?_) hrec
              simp only [impl_DiskOk.l0, impl_within_eq, decide_eq_true c1, decide_eq_true c3, Option.bind_some, hp]
              rw [if_pos g1, if_pos g2, if_pos g1, if_pos trivial, if_neg c2, if_pos trivial, if_pos g3, if_pos g4, if_pos g5, if_pos c5, hw]
            · rw [Bool.eq_false_iff.2 c5]
              refine Ev.step (f := fun _ => some false) (fun k => ?_) (by simpa using Ev.now _)
              simp only [impl_DiskOk.l0, impl_within_eq, decide_eq_true c1, decide_eq_true c3, Option.bind_some, hp]
              rw [if_pos g1, if_pos g2, if_pos g1, if_pos trivial, if_neg c2, if_pos trivial, if_pos g3, if_pos g4, if_pos g5, if_neg c5]
        · rw [decide_eq_false c3]
          refine Ev.step (f := fun _ => some false) (fun k => ?_) (by simpa using Ev.now _)
          simp only [impl_DiskOk.l0, impl_within_eq, decide_eq_true c1, decide_eq_false c3, Option.bind_some]
          rw [if_pos g1, if_pos g2, if_pos g1, if_pos trivial, if_neg c2, if_neg (by simp)]
    · rw [decide_eq_false c1]
      refine Ev.step (f := fun _ => some false) (fun k => ?_) (by simpa using Ev.now _)
      simp only [impl_DiskOk.l0, impl_within_eq, decide_eq_false c1, Option.bind_some]
      rw [if_pos g1, if_pos g2, if_pos g1, if_neg (by simp)]
theorem impl_DiskOk_ev (l : List S57) (hl : l.length ≤ 4611686018427387904) : Ev (fun k => impl_DiskOk.f k l) (diskOkV l) := by
  unfold impl_DiskOk.f diskOkV
  rw [Bool.and_comm]
  exact impl_DiskOk_l0 l hl l.length 0 (by omega) (by omega)

theorem spec_l03Name_eq (s : ByteArray) : spec_l03Name.f s = some (decide (1 ≤ (s.size : Int) ∧ (s.size : Int) ≤ 8)) := by
  unfold spec_l03Name.f
  rw [spec_l01In_eq]
  rfl
theorem spec_DiskOk_l0 (l : List S57) (hl : l.length ≤ 4611686018427387904) (d : Nat) : ∀ i : Nat, i ≤ l.length → l.length - i = d → Ev (fun k => spec_DiskOk.l0 k (i : Int) l) (allFrom l d i) := by
  induction d with
  | zero =>
    intro i hi hd
    exact Ev.step (f := fun _ => some true) (fun k => by simp only [spec_DiskOk.l0]; rw [if_neg (by omega)]) (Ev.now _)
  | succ d ih =>
    intro i hi hd
    have g1 : (i : Int) < (l.length : Int) := by omega
    have g2 : 0 ≤ (i : Int) := by omega
    have hw := wsucc (n := i) (by omega)
    have hrec := ih (i + 1) (by omega) (by omega)
    unfold allFrom placeOk fileOk
    by_cases c1 : 1 ≤ ((rd_T57 l (i : Int)).f0.size : Int) ∧ ((rd_T57 l (i : Int)).f0.size : Int) ≤ 8
    · rw [decide_eq_true c1, Bool.true_and]
      by_cases c2 : ((rd_T57 l (i : Int)).f1.size : Int) > 20000
      · rw [decide_eq_false (fun h => h c2)]
        refine Ev.step (f := fun _ => some false) (fun k => ?_) (by simpa using Ev.now _)
        simp only [spec_DiskOk.l0, spec_l03Name_eq, decide_eq_true c1, Option.bind_some]
        rw [if_pos g1, if_pos g2, if_pos trivial, if_pos c2]
      · rw [decide_eq_true c2, Bool.true_and]
        by_cases c3 : 0 ≤ (rd_T57 l (i : Int)).f2 ∧ (rd_T57 l (i : Int)).f2 ≤ ((rd_T57 l (i : Int)).f1.size : Int)
        · rw [decide_eq_true c3, Bool.true_and]
          by_cases c4 : i = 0
          · rw [decide_eq_true c4, Bool.true_or, Bool.true_and]
            refine Ev.step (fun k => ?_) hrec
            simp only [spec_DiskOk.l0, spec_l03Name_eq, spec_l01In_eq, decide_eq_true c1, decide_eq_true c3, Option.bind_some]
            rw [if_pos g1, if_pos g2, if_pos trivial, if_neg c2, if_pos trivial, if_neg (by omega), hw]
          · rw [decide_eq_false c4, Bool.false_or]
            have hp : wrap64 ((i : Int) - 1) = ((i - 1 : Nat) : Int) := by rw [w64 (by omega) (by omega)]; omega
            have g3 : (i : Int) > 0 := by omega
            have g4 : 0 ≤ ((i - 1 : Nat) : Int) := by omega
            have g5 : ((i - 1 : Nat) : Int) < (l.length : Int) := by omega
            by_cases c5 : Op.bytesLess ((rd_T57 l ((i - 1 : Nat) : Int)).f0.toList) ((rd_T57 l (i : Int)).f0.toList) = true
            · rw [c5, Bool.true_and]
              refine Ev.step (fun k => ?_) hrec
              simp only [spec_DiskOk.l0, spec_l03Name_eq, spec_l01In_eq, decide_eq_true c1, decide_eq_true c3, Option.bind_some, hp]
              rw [if_pos g1, if_pos g2, if_pos trivial, if_neg c2, if_pos trivial, if_pos g3, if_pos g4, if_pos g5, if_pos c5, hw]
            · rw [Bool.eq_false_iff.2 c5]
              refine Ev.step (f := fun _ => some false) (fun k => ?_) (by simpa using Ev.now _)
              simp only [spec_DiskOk.l0, spec_l03Name_eq, spec_l01In_eq, decide_eq_true c1, decide_eq_true c3, Option.bind_some, hp]
              rw [if_pos g1, if_pos g2, if_pos trivial, if_neg c2, if_pos trivial, if_pos g3, if_pos g4, if_pos g5, if_neg c5]
        · rw [decide_eq_false c3]
          refine Ev.step (f := fun _ => some false) (fun k => ?_) (by simpa using Ev.now _)
          simp only [spec_DiskOk.l0, spec_l03Name_eq, spec_l01In_eq, decide_eq_true c1, decide_eq_false c3, Option.bind_some]
          rw [if_pos g1, if_pos g2, if_pos trivial, if_neg c2, if_neg (by simp)]
    · rw [decide_eq_false c1]
      refine Ev.step (f := fun _ => some false) (fun k => ?_) (by simpa using Ev.now _)
      simp only [spec_DiskOk.l0, spec_l03Name_eq, decide_eq_false c1, Option.bind_some]
      rw [if_pos g1, if_pos g2, if_neg (by simp)]
theorem spec_DiskOk_ev (l : List S57) (hl : l.length ≤ 4611686018427387904) : Ev (fun k => spec_DiskOk.f k l) (diskOkV l) := by
  unfold spec_DiskOk.f diskOkV
  by_cases h : (l.length : Int) > 30
  · rw [decide_eq_false (show ¬ (l.length : Int) ≤ 30 by omega)]
    simp only [if_pos h]
    exact Ev.now _
  · rw [decide_eq_true (show (l.length : Int) ≤ 30 by omega), Bool.true_and]
    simp only [if_neg h]
    exact spec_DiskOk_l0 l hl l.length 0 (by omega) (by omega)

/-! ### a disk as an argument of a law -/
def toF (y : S82) : S57 := ⟨y.f0, y.f1, y.f2⟩
theorem rdLF_nat {l : List S82} {i : Nat} (h : i < l.length) : rd_T82 l (i : Int) = l[i] := by
  unfold rd_T82
  rw [Int.toNat_natCast, List.getD_eq_getElem?_getD, List.getElem?_eq_getElem h]
  rfl
theorem szFile_ex (y : S82) (h0 : y.f0.size ≤ 9223372036854775807) (h1 : y.f1.size ≤ 9223372036854775807) (c : Int) (left : Int) (hl0 : 0 ≤ left) (hl1 : left ≤ 1048576) :
    ∃ r, laws_szFile.f y.f0 y.f1 c left = some r ∧ (r < 0 ∨ (0 ≤ r ∧ r ≤ left ∧ (y.f0.size : Int) ≤ left ∧ (y.f1.size : Int) ≤ left)) := by
  unfold laws_szFile.f
  rw [w64 (x := left - (y.f0.size : Int)) (by omega) (by omega)]
  by_cases c1 : left - (y.f0.size : Int) < 0
  · rw [if_pos c1]
    exact ⟨_, rfl, .inl (by omega)⟩
  · rw [if_neg c1, w64 (by omega) (by omega)]
    by_cases c2 : left - (y.f0.size : Int) - (y.f1.size : Int) < 0
    · rw [if_pos c2]
      exact ⟨_, rfl, .inl (by omega)⟩
    · rw [if_neg c2]
      exact ⟨_, rfl, .inr ⟨by omega, by omega, by omega, by omega⟩⟩
theorem szDisk_ex (l : List S82) (hl : l.length ≤ 9223372036854775807) (hw : ∀ y ∈ l, y.f0.size ≤ 9223372036854775807 ∧ y.f1.size ≤ 9223372036854775807) :
    ∃ r, Ev (fun k => laws_szDisk.f k l 1048576) r ∧ (¬ r < 0 → l.length ≤ 1048576 ∧ r ≤ 1048576 ∧ ∀ y ∈ l, (y.f0.size : Int) ≤ 1048576 ∧ (y.f1.size : Int) ≤ 1048576) := by
  have key : ∀ d (i : Nat) (left : Int), i ≤ l.length → l.length - i = d → l.length ≤ 1048576 → 0 ≤ left → left ≤ 1048576 → ∃ r, Ev (fun k => laws_szFileS.l0 k l left (i : Int)) r ∧ (¬ r < 0 → r ≤ 1048576 ∧ ∀ y ∈ l.drop i, (y.f0.size : Int) ≤ 1048576 ∧ (y.f1.size : Int) ≤ 1048576) := by
    intro d
    induction d with
    | zero =>
      intro i left hi hd hlen h0 h1
      refine ⟨left, Ev.step (f := fun _ => some left) (fun k => by simp only [laws_szFileS.l0]; rw [if_neg (by omega)]) (Ev.now _), fun _ => ⟨h1, fun y hy => ?_⟩⟩
      rw [List.drop_of_length_le (by omega)] at hy
      simp at hy
    | succ d ih =>
      intro i left hi hd hlen h0 h1
      have hlt : i < l.length := by omega
      have hy := hw (l[i]) (List.getElem_mem hlt)
      obtain ⟨r, hr, hr2⟩ := szFile_ex (l[i]) hy.1 hy.2 (l[i].f2) left h0 h1
      have hwr := wsucc (n := i) (by omega)
      rcases hr2 with hr2 | ⟨r0, r1, r2, r3⟩
      · refine ⟨-1, Ev.step (f := fun _ => some (-1)) (fun k => ?_) (Ev.now _), fun h => absurd (show (-1 : Int) < 0 by omega) h⟩
        simp only [laws_szFileS.l0, rdLF_nat hlt, hr, Option.bind_some]
        rw [if_pos (by omega), if_pos (by omega), if_pos hr2]
      · obtain ⟨s, hs, hs2⟩ := ih (i + 1) r (by omega) (by omega) hlen r0 (by omega)
        refine ⟨s, Ev.step (fun k => ?_) hs, fun h => ⟨(hs2 h).1, fun y hy2 => ?_⟩⟩
        · simp only [laws_szFileS.l0, rdLF_nat hlt, hr, Option.bind_some, hwr]
          rw [if_pos (by omega), if_pos (by omega), if_neg (by omega)]
        · rw [List.drop_eq_getElem_cons hlt] at hy2
          rcases List.mem_cons.1 hy2 with h2 | h2
          · rw [h2]; exact ⟨by omega, by omega⟩
          · exact (hs2 h).2 y h2
  unfold laws_szDisk.f laws_szFileS.f
  by_cases c : wrap64 (1048576 - (l.length : Int)) < 0
  · refine ⟨-1, ?_, fun h => absurd (show (-1 : Int) < 0 by omega) h⟩
    simp only [if_pos c, Option.bind_some, if_pos (show (-1 : Int) < 0 by omega)]
    exact Ev.now _
  · rw [w64 (by omega) (by omega)] at c ⊢
    obtain ⟨r, hr, hr2⟩ := key l.length 0 (1048576 - (l.length : Int)) (by omega) (by omega) (by omega) (by omega) (by omega)
    refine ⟨if r < 0 then -1 else r, ?_, ?_⟩
    · simp only [if_neg c]
      refine Ev.bind hr ?_
      by_cases h : r < 0
      · simp only [if_pos h]; exact Ev.now _
      · simp only [if_neg h]; exact Ev.now _
    · intro h
      by_cases h2 : r < 0
      · rw [if_pos h2] at h; omega
      · rw [if_neg h2] at h ⊢
        have := hr2 h2
        rw [List.drop_zero] at this
        exact ⟨by omega, this.1, this.2⟩
theorem toDisk_ev (l : List S82) (hl : l.length ≤ 1048576) : Ev (fun k => laws_toDisk.f k l) (l.map toF) := by
  have key : ∀ d (i : Nat), i ≤ l.length → l.length - i = d → Ev (fun k => laws_toFileS.l0 k l ((l.take i).map toF ++ List.replicate (l.length - i) z57) (i : Int)) (l.map toF) := by
    intro d
    induction d with
    | zero =>
      intro i hi hd
      obtain rfl : i = l.length := by omega
      rw [List.take_length, Nat.sub_self, List.replicate_zero, List.append_nil]
      exact Ev.step (f := fun _ => some (l.map toF)) (fun k => by simp only [laws_toFileS.l0]; rw [if_neg (by omega)]) (Ev.now _)
    | succ d ih =>
      intro i hi hd
      have hlt : i < l.length := by omega
      have hwr := wsucc (n := i) (by omega)
      have hlen : ((l.take i).map toF ++ List.replicate (l.length - i) z57).length = l.length := by simp; omega
      have hset : ((l.take i).map toF ++ List.replicate (l.length - i) z57).set i (toF l[i]) = (l.take (i + 1)).map toF ++ List.replicate (l.length - (i + 1)) z57 := by
        have h1 : ((l.take i).map toF).length = i := by simp; omega
        rw [List.set_append_right _ _ (by omega), h1, Nat.sub_self, show l.length - i = (l.length - (i + 1)) + 1 by omega, List.replicate_succ, List.set_cons_zero, List.take_succ_eq_append_getElem hlt, List.map_append, List.append_assoc]
        rfl
      have := ih (i + 1) (by omega) (by omega)
      rw [← hset] at this
      refine Ev.step (fun k => ?_) this
      simp only [laws_toFileS.l0, laws_toFile.f, Option.bind_some, hlen, rdLF_nat hlt, hwr]
      rw [if_pos (by omega), if_pos (by omega), if_pos (by omega)]
      rfl
  have h0 := key l.length 0 (by omega) (by omega)
  rw [List.take_zero, List.map_nil, List.nil_append, Nat.sub_zero] at h0
  unfold laws_toDisk.f laws_toFileS.f
  simp only [Int.toNat_natCast, if_pos (show 0 ≤ (l.length : Int) by omega), if_pos (show l.length ≤ 7036874417766 by omega)]
  exact Ev.bind h0 (Ev.now _)
theorem eqDisk_ev (l : List S57) (hl : l.length ≤ 4611686018427387904) : Ev (fun k => laws_eqDisk.f k l l) true := by
  have key : ∀ d (i : Nat), i ≤ l.length → l.length - i = d → Ev (fun k => laws_eqFileS.l0 k l l (i : Int)) true := by
    intro d
    induction d with
    | zero =>
      intro i hi hd
      exact Ev.step (f := fun _ => some true) (fun k => by simp only [laws_eqFileS.l0]; rw [if_neg (by omega)]) (Ev.now _)
    | succ d ih =>
      intro i hi hd
      have hwr := wsucc (n := i) (by omega)
      refine Ev.step (fun k => ?_) (ih (i + 1) (by omega) (by omega))
      simp only [laws_eqFileS.l0, laws_eqFile.f, if_true, Option.bind_some, hwr]
      rw [if_pos (by omega), if_pos (by omega), if_pos (by omega)]
  unfold laws_eqDisk.f laws_eqFileS.f
  simp only [if_true]
  exact Ev.bind (key l.length 0 (by omega) (by omega)) (Ev.pos rfl (Ev.now _))

/-! ### lists of whole numbers alone: copied, compared, marked -/
theorem rdI_mid (A : List Int) (x : Int) (B : List Int) : rd (A ++ x :: B) (A.length : Int) = x := by simp [rd]
theorem set_midI {α : Type} (A : List α) (x v : α) (B : List α) : (A ++ x :: B).set A.length v = A ++ v :: B := by simp
theorem toIntS_ev (l : List Int) (hl : l.length ≤ 35184372088832) : Ev (fun k => laws_toIntS.f k l) l := by
  have key : ∀ (B A : List Int), l = A ++ B → Ev (fun k => laws_toIntS.l0 k l (A ++ List.replicate B.length 0) (A.length : Int)) l := by
    intro B
    induction B with
    | nil =>
      intro A h
      refine Ev.step (f := fun _ => some l) (fun k => ?_) (Ev.now _)
      simp only [laws_toIntS.l0]
      rw [if_neg (by rw [h]; simp)]
      simp [h]
    | cons x B ih =>
      intro A h
      refine Ev.step (fun k => ?_) (ih (A ++ [x]) (by simp [h]))
      have e : l.length = A.length + (B.length + 1) := by rw [h]; simp
      simp only [laws_toIntS.l0]
      rw [if_pos (by omega), if_pos (by omega), if_pos (by simp; omega), wsucc (by omega), Int.toNat_natCast]
      have r : rd l (A.length : Int) = x := by rw [h]; exact rdI_mid A x B
      rw [r, List.length_cons, List.replicate_succ, set_midI]
      simp
  unfold laws_toIntS.f
  refine Ev.pos (by omega) (Ev.pos (by omega) ?_)
  have z := key l [] rfl
  simpa using z
theorem eqIntS_ev (l : List Int) (hl : l.length ≤ 4611686018427387904) : Ev (fun k => laws_eqIntS.f k l l) true := by
  have key : ∀ d (i : Nat), i ≤ l.length → l.length - i = d → Ev (fun k => laws_eqIntS.l0 k l l (i : Int)) true := by
    intro d
    induction d with
    | zero =>
      intro i hi hd
      exact Ev.step (f := fun _ => some true) (fun k => by simp only [laws_eqIntS.l0]; rw [if_neg (by omega)]) (Ev.now _)
    | succ d ih =>
      intro i hi hd
      refine Ev.step (fun k => ?_) (ih (i + 1) (by omega) (by omega))
      simp only [laws_eqIntS.l0]
      rw [if_pos (by omega), if_pos (by omega), if_pos (by omega), wsucc (by omega)]
      simp only [if_true]
  unfold laws_eqIntS.f
  simp only [if_true]
  exact key l.length 0 (by omega) (by omega)
theorem markIntS_ex (l : List Int) (m : Nat) (hl : l.length + m ≤ 1000000000000) : ∃ r, Ev (fun k => laws_markIntS.f k l (m : Int)) (((m + l.length : Nat) : Int), r) := by
  have key : ∀ d (i : Nat) (x : List Int), x.length = l.length → i ≤ l.length → l.length - i = d → ∃ r, Ev (fun k => laws_markIntS.l0 k x ((m + i : Nat) : Int) (i : Int)) (((m + l.length : Nat) : Int), r) := by
    intro d
    induction d with
    | zero =>
      intro i x hx hi hd
      obtain rfl : i = l.length := by omega
      exact ⟨x, Ev.step (f := fun _ => some (((m + l.length : Nat) : Int), x)) (fun k => by simp only [laws_markIntS.l0]; rw [if_neg (by omega)]) (Ev.now _)⟩
    | succ d ih =>
      intro i x hx hi hd
      obtain ⟨r, hr⟩ := ih (i + 1) (x.set i ((m + i : Nat) : Int)) (by simp [hx]) (by omega) (by omega)
      refine ⟨r, Ev.step (fun k => ?_) hr⟩
      simp only [laws_markIntS.l0]
      rw [if_pos (by omega), if_pos (by omega), wsucc (n := m + i) (by omega), wsucc (n := i) (by omega), Int.toNat_natCast]
      rfl
  exact key l.length 0 l rfl (by omega) (by omega)

/-! ### marks -/
theorem markText_ex (m : Nat) (hm : m ≤ 1000000000000) : ∃ t, Ev (fun k => laws_markText.f k (m : Int)) t := by
  have key : ∀ (f : Nat) (x : Nat) (acc : ByteArray), x < 10 ^ f → x ≤ 1000000000000 → acc.size + f ≤ 1000 → ∃ t, Ev (fun k => laws_markText.l0 k (x : Int) acc) t := by
    intro f
    induction f with
    | zero =>
      intro x acc hx hf ha
      refine ⟨_, Ev.step (fun k => ?_) (Ev.now ((⟨#[109]⟩ : ByteArray) ++ acc))⟩
      simp only [laws_markText.l0]
      rw [if_neg (by omega), if_pos (by omega)]
    | succ f ih =>
      intro x acc hx hf ha
      by_cases h : x = 0
      · refine ⟨_, Ev.step (fun k => ?_) (Ev.now ((⟨#[109]⟩ : ByteArray) ++ acc))⟩
        simp only [laws_markText.l0]
        rw [if_neg (by omega), if_pos (by omega)]
      · have hp : 10 ^ (f + 1) = 10 * 10 ^ f := by rw [Nat.pow_succ]; omega
        have hs : ∀ c : Int, (strOfNums [c]).size = 1 := fun c => by rw [strOfNums_size]; rfl
        obtain ⟨t, ht⟩ := ih (x / 10) (strOfNums [(wrap64 (48 + (Int.tmod (x : Int) 10))) % 256] ++ acc) (by omega) (by omega) (by rw [ByteArray.size_append, hs]; omega)
        refine ⟨t, Ev.step (fun k => ?_) ht⟩
        simp only [laws_markText.l0, Option.bind_some]
        rw [if_pos (by omega), if_pos (by rw [hs]; omega), Int.tdiv_eq_ediv_of_nonneg (by omega), w64 (x := (x : Int) / 10) (by omega) (by omega)]
        rfl
  unfold laws_markText.f
  by_cases h : (m : Int) ≤ 0
  · simp only [if_pos h]
    exact ⟨_, Ev.now _⟩
  · simp only [if_neg h]
    exact key 13 m _ (by omega) hm (by decide)
theorem markText_fun : ∃ T : Nat → ByteArray, ∀ m : Nat, m ≤ 1000000000000 → Ev (fun k => laws_markText.f k (m : Int)) (T m) := by
  refine ⟨fun m => if h : m ≤ 1000000000000 then Classical.choose (markText_ex m h) else ByteArray.empty, fun m h => ?_⟩
  simp only [dif_pos h]
  exact Classical.choose_spec (markText_ex m h)

/-! ### disks, marked -/
theorem rdF_set {l : List S57} {i : Nat} (h : i < l.length) (v : S57) : rd_T57 (l.set i v) (i : Int) = v := by
  rw [rdF_nat (by rw [List.length_set]; exact h)]
  simp
def markF (T : Nat → ByteArray) (m i : Nat) : S57 := ⟨T (m + 3 * i), T (m + 3 * i + 1), ((m + 3 * i + 2 : Nat) : Int)⟩
def markedF (T : Nat → ByteArray) (m n : Nat) : List S57 := (List.range n).map (markF T m)
theorem markedF_length (T : Nat → ByteArray) (m n : Nat) : (markedF T m n).length = n := by simp [markedF]
theorem markDisk_ev (T : Nat → ByteArray) (hT : ∀ m : Nat, m ≤ 1000000000000 → Ev (fun k => laws_markText.f k (m : Int)) (T m)) (l : List S57) (m : Nat) (hl : 3 * l.length + m ≤ 1000000000000) :
    Ev (fun k => laws_markDisk.f k l (m : Int)) (((m + 3 * l.length : Nat) : Int), markedF T m l.length) := by
  have key : ∀ d (i : Nat), i ≤ l.length → l.length - i = d → Ev (fun k => laws_markFileS.l0 k (markedF T m i ++ l.drop i) ((m + 3 * i : Nat) : Int) (i : Int)) (((m + 3 * l.length : Nat) : Int), markedF T m l.length) := by
    intro d
    induction d with
    | zero =>
      intro i hi hd
      obtain rfl : i = l.length := by omega
      rw [List.drop_length, List.append_nil]
      exact Ev.step (f := fun _ => some (((m + 3 * l.length : Nat) : Int), markedF T m l.length)) (fun k => by simp only [laws_markFileS.l0]; rw [markedF_length, if_neg (by omega)]) (Ev.now _)
    | succ d ih =>
      intro i hi hd
      have hlen : (markedF T m i ++ l.drop i).length = l.length := by rw [List.length_append, markedF_length, List.length_drop]; omega
      have hset : (markedF T m i ++ l.drop i).set i (markF T m i) = markedF T m (i + 1) ++ l.drop (i + 1) := by
        rw [List.set_append_right _ _ (by rw [markedF_length]; omega), markedF_length, Nat.sub_self, List.drop_eq_getElem_cons (by omega), List.set_cons_zero]
        simp [markedF, List.range_succ]
      have z := ih (i + 1) (by omega) (by omega)
      rw [← hset] at z
      generalize hx : markedF T m i ++ l.drop i = x at z hlen ⊢
      have r1 : ∀ v, rd_T57 (x.set i v) (i : Int) = v := fun v => rdF_set (by omega) v
      refine Ev.step (f := fun k => (laws_markText.f k ((m + 3 * i : Nat) : Int)).bind fun t => (laws_markText.f k ((m + 3 * i + 1 : Nat) : Int)).bind fun u => laws_markFileS.l0 k (x.set i ⟨t, u, ((m + 3 * i + 2 : Nat) : Int)⟩) ((m + 3 * (i + 1) : Nat) : Int) ((i + 1 : Nat) : Int)) (fun k => ?_) (Ev.bind (hT (m + 3 * i) (by omega)) (Ev.bind (hT (m + 3 * i + 1) (by omega)) z))
      simp only [laws_markFileS.l0]
      rw [hlen, if_pos (by omega), wsucc (n := m + 3 * i) (by omega), wsucc (n := m + 3 * i + 1) (by omega), wsucc (n := m + 3 * i + 1 + 1) (by omega), wsucc (n := i) (by omega)]
      simp only [if_pos (show 0 ≤ (i : Int) by omega), Int.toNat_natCast, Option.bind_some, r1, List.set_set]
      rfl
  unfold laws_markDisk.f laws_markFileS.f
  refine Ev.bind (key l.length 0 (by omega) (by omega)) (Ev.now _)
theorem heldDisk_ev (T : Nat → ByteArray) (hT : ∀ m : Nat, m ≤ 1000000000000 → Ev (fun k => laws_markText.f k (m : Int)) (T m)) (n m : Nat) (hl : 3 * n + m ≤ 1000000000000) :
    Ev (fun k => laws_heldDisk.f k (markedF T m n) (m : Int)) ((m + 3 * n : Nat) : Int) := by
  have key : ∀ d (i : Nat), i ≤ n → n - i = d → Ev (fun k => laws_heldFileS.l0 k (markedF T m n) ((m + 3 * i : Nat) : Int) (i : Int)) ((m + 3 * n : Nat) : Int) := by
    intro d
    induction d with
    | zero =>
      intro i hi hd
      obtain rfl : i = n := by omega
      exact Ev.step (f := fun _ => some ((m + 3 * i : Nat) : Int)) (fun k => by simp only [laws_heldFileS.l0]; rw [markedF_length, if_neg (by omega)]) (Ev.now _)
    | succ d ih =>
      intro i hi hd
      have hg : rd_T57 (markedF T m n) (i : Int) = markF T m i := by
        rw [rdF_nat (by rw [markedF_length]; omega)]
        simp [markedF]
      have z := ih (i + 1) (by omega) (by omega)
      refine Ev.step (f := fun k => (laws_markText.f k ((m + 3 * i : Nat) : Int)).bind fun t => if (T (m + 3 * i)).toList = t.toList then (laws_markText.f k ((m + 3 * i + 1 : Nat) : Int)).bind fun u => if (T (m + 3 * i + 1)).toList = u.toList then laws_heldFileS.l0 k (markedF T m n) ((m + 3 * (i + 1) : Nat) : Int) ((i + 1 : Nat) : Int) else some (-1) else some (-1)) (fun k => ?_) (Ev.bind (hT (m + 3 * i) (by omega)) (Ev.pos rfl (Ev.bind (hT (m + 3 * i + 1) (by omega)) (Ev.pos rfl z))))
      simp only [laws_heldFileS.l0]
      rw [markedF_length, if_pos (by omega), if_pos (by omega), hg, wsucc (n := m + 3 * i) (by omega), wsucc (n := m + 3 * i + 1) (by omega), wsucc (n := m + 3 * i + 1 + 1) (by omega), wsucc (n := i) (by omega)]
      simp only [markF, if_pos (show ((m + 3 * i + 2 : Nat) : Int) = ((m + 3 * i + 1 + 1 : Nat) : Int) from rfl)]
      rfl
  unfold laws_heldDisk.f laws_heldFileS.f
  refine Ev.bind (key n 0 (by omega) (by omega)) (Ev.neg (by omega) (Ev.now _))

/-! ### a disk behind a loss -/
def lostN (l1 : List Int) (x : S57) (i : Nat) : Int := mx x.f2 (mn (if (i : Int) < (l1.length : Int) then rd l1 (i : Int) else 0) (x.f1.size : Int))
def lostF (l1 : List Int) (x : S57) (i : Nat) : S57 := ⟨x.f0, x.f1.extract 0 (lostN l1 x i).toNat, lostN l1 x i⟩
def lostP (l1 : List Int) (l : List S57) (n : Nat) : List S57 := (List.range n).map fun (i : Nat) => lostF l1 (rd_T57 l (i : Int)) i
def lostV (l : List S57) (l1 : List Int) : List S57 × Bool := if diskOkV l = true then (lostP l1 l l.length, true) else ([], false)
theorem lostP_length (l1 : List Int) (l : List S57) (n : Nat) : (lostP l1 l n).length = n := by simp [lostP]
theorem lostP_succ (l1 : List Int) (l : List S57) (n : Nat) : lostP l1 l (n + 1) = lostP l1 l n ++ [lostF l1 (rd_T57 l (n : Int)) n] := by simp [lostP, List.range_succ]
theorem placed_at {l : List S57} : ∀ {d i : Nat}, allFrom l d i = true → ∀ j, i ≤ j → j < i + d → placeOk l j = true
  | 0, _, _, j, h1, h2 => by omega
  | d + 1, i, h, j, h1, h2 => by
    unfold allFrom at h
    rw [Bool.and_eq_true] at h
    by_cases e : j = i
    · subst e
      exact h.1
    · exact placed_at h.2 j (by omega) (by omega)
theorem diskOk_at {l : List S57} (h : diskOkV l = true) : l.length ≤ 30 ∧ ∀ i : Nat, i < l.length → placeOk l i = true := by
  unfold diskOkV at h
  rw [Bool.and_eq_true] at h
  have := of_decide_eq_true h.1
  exact ⟨by omega, fun i hi => placed_at h.2 i (by omega) (by omega)⟩
theorem file_at {l : List S57} (h : diskOkV l = true) {i : Nat} (hi : i < l.length) : 0 ≤ (rd_T57 l (i : Int)).f2 ∧ (rd_T57 l (i : Int)).f2 ≤ ((rd_T57 l (i : Int)).f1.size : Int) := by
  have p := (diskOk_at h).2 i hi
  unfold placeOk fileOk at p
  rw [Bool.and_eq_true, Bool.and_eq_true] at p
  exact of_decide_eq_true p.1.2
theorem lostN_range (l1 : List Int) {x : S57} (h : 0 ≤ x.f2 ∧ x.f2 ≤ (x.f1.size : Int)) (i : Nat) : 0 ≤ lostN l1 x i ∧ lostN l1 x i ≤ (x.f1.size : Int) := by
  unfold lostN
  generalize (if (i : Int) < (l1.length : Int) then rd l1 (i : Int) else 0) = z
  unfold mx mn
  constructor <;> (split <;> split) <;> omega

theorem impl_LoseDisk_ev (l : List S57) (l1 : List Int) (hl : l.length ≤ 1048576) : Ev (fun k => impl_LoseDisk.f k l l1) (lostV l l1) := by
  unfold impl_LoseDisk.f lostV
  refine Ev.bind (impl_DiskOk_ev l (by omega)) ?_
  cases hd : diskOkV l with
  | false => exact Ev.neg (by simp) (by simpa using Ev.now _)
  | true =>
    refine Ev.pos rfl ?_
    rw [if_pos rfl]
    refine Ev.some_bind (x := l) (by unfold impl_copyDisk.f; rw [if_pos (by omega)]) ?_
    have key : ∀ d i : Nat, i ≤ l.length → l.length - i = d → Ev (fun k => impl_LoseDisk.l0 k l1 l.length (lostP l1 l i ++ l.drop i) (i : Int)) (lostP l1 l l.length, true) := by
      intro d
      induction d with
      | zero =>
        intro i hi he
        obtain rfl : i = l.length := by omega
        rw [List.drop_length, List.append_nil]
        refine Ev.step (f := fun _ => some (lostP l1 l l.length, true)) (fun k => ?_) (Ev.now _)
        simp only [impl_LoseDisk.l0]
        rw [if_neg (by omega)]
      | succ d ih =>
        intro i hi he
        have ci : i < l.length := by omega
        have z := ih (i + 1) (by omega) (by omega)
        have hr : rd_T57 (lostP l1 l i ++ l.drop i) (i : Int) = rd_T57 l (i : Int) := by
          rw [rdF_nat (by rw [List.length_append, lostP_length, List.length_drop]; omega), rdF_nat ci, List.getElem_append_right (by rw [lostP_length]; omega)]
          simp [lostP_length]
        have hs : (lostP l1 l i ++ l.drop i).set i (lostF l1 (rd_T57 l (i : Int)) i) = lostP l1 l (i + 1) ++ l.drop (i + 1) := by
          rw [List.set_append_right _ _ (by rw [lostP_length]; omega), lostP_length, Nat.sub_self, List.drop_eq_getElem_cons ci, List.set_cons_zero, lostP_succ]
          simp
        have hn := lostN_range l1 (file_at hd ci) i
        rw [← hs] at z
        refine Ev.step (fun k => ?_) z
        simp only [impl_LoseDisk.l0]
        rw [hr, if_pos (by omega), wsucc (by omega), Int.toNat_natCast]
        exact if_pos ⟨by omega, hn.1, hn.2⟩
    have z := key l.length 0 (by omega) (by omega)
    rw [show lostP l1 l 0 = [] from rfl, List.nil_append, List.drop_zero] at z
    exact z

theorem spec_LoseDisk_ev (l : List S57) (l1 : List Int) (hl : l.length ≤ 1048576) : Ev (fun k => spec_LoseDisk.f k l l1) (lostV l l1) := by
  unfold spec_LoseDisk.f lostV
  refine Ev.bind (spec_DiskOk_ev l (by omega)) ?_
  cases hd : diskOkV l with
  | false => exact Ev.neg (by simp) (by simpa using Ev.now _)
  | true =>
    refine Ev.pos rfl ?_
    rw [if_pos rfl]
    have key : ∀ d i : Nat, i ≤ l.length → l.length - i = d → Ev (fun k => spec_LoseDisk.l0 k l1 (i : Int) l (lostP l1 l i)) (lostP l1 l l.length, true) := by
      intro d
      induction d with
      | zero =>
        intro i hi he
        obtain rfl : i = l.length := by omega
        refine Ev.step (f := fun _ => some (lostP l1 l l.length, true)) (fun k => ?_) (Ev.now _)
        simp only [spec_LoseDisk.l0]
        rw [if_neg (by omega)]
      | succ d ih =>
        intro i hi he
        have ci : i < l.length := by omega
        have z := ih (i + 1) (by omega) (by omega)
        obtain ⟨f1, f2⟩ := file_at hd ci
        rw [lostP_succ] at z
        have hj : ∀ v : Int, v = (if (i : Int) < (l1.length : Int) then rd l1 (i : Int) else 0) → Ev (fun k => spec_LoseDisk.j1 k l1 (i : Int) v l (lostP l1 l i) (rd_T57 l (i : Int)).f0 (rd_T57 l (i : Int)).f1 (rd_T57 l (i : Int)).f2) (lostP l1 l l.length, true) := by
          intro v hv
          refine Ev.step (fun k => ?_) z
          simp only [spec_LoseDisk.j1]
          have hlen := lostP_length l1 l i
          have hL : lostN l1 (rd_T57 l (i : Int)) i = mx (rd_T57 l (i : Int)).f2 (mn v ((rd_T57 l (i : Int)).f1.size : Int)) := by rw [hv]; rfl
          unfold lostF
          rw [hL]
          by_cases h1 : v > ((rd_T57 l (i : Int)).f1.size : Int)
          · have e : mx (rd_T57 l (i : Int)).f2 (mn v ((rd_T57 l (i : Int)).f1.size : Int)) = ((rd_T57 l (i : Int)).f1.size : Int) := by rw [show mn v ((rd_T57 l (i : Int)).f1.size : Int) = ((rd_T57 l (i : Int)).f1.size : Int) from if_pos (by omega)]; unfold mx; split <;> omega
            rw [if_pos h1, if_neg (by omega), if_pos (by omega), if_pos (by omega), if_pos (by omega), e, wsucc (by omega)]
          · by_cases h2 : v < (rd_T57 l (i : Int)).f2
            · have e : mx (rd_T57 l (i : Int)).f2 (mn v ((rd_T57 l (i : Int)).f1.size : Int)) = (rd_T57 l (i : Int)).f2 := by rw [show mn v ((rd_T57 l (i : Int)).f1.size : Int) = v from if_neg (by omega)]; unfold mx; rw [if_neg (by omega)]
              rw [if_neg h1, if_pos h2, if_pos (by omega), if_pos (by omega), if_pos (by omega), e, wsucc (by omega)]
            · have e : mx (rd_T57 l (i : Int)).f2 (mn v ((rd_T57 l (i : Int)).f1.size : Int)) = v := by rw [show mn v ((rd_T57 l (i : Int)).f1.size : Int) = v from if_neg (by omega)]; unfold mx; split <;> omega
              rw [if_neg h1, if_neg h2, if_pos (by omega), if_pos (by omega), if_pos (by omega), e, wsucc (by omega)]
        by_cases h : (i : Int) < (l1.length : Int)
        · refine Ev.step (fun k => ?_) (hj (rd l1 (i : Int)) (by rw [if_pos h]))
          simp only [spec_LoseDisk.l0]
          rw [if_pos (by omega), if_pos (by omega), if_pos h]
        · refine Ev.step (fun k => ?_) (hj 0 (by rw [if_neg h]))
          simp only [spec_LoseDisk.l0]
          rw [if_pos (by omega), if_pos (by omega), if_neg h]
    exact key l.length 0 (by omega) (by omega)

theorem FnExactLoseDisk : laws_FnExactLoseDisk.Pure := by
  intro l l1 hl hl1
  obtain ⟨h1, h2⟩ := hl
  have hml : l.length ≤ 9223372036854775807 := h1
  obtain ⟨r, hr, hr2⟩ := szDisk_ex l hml (fun y hy => ⟨(h2 y hy).1, (h2 y hy).2.1⟩)
  refine Ev.rounds ?_
  unfold laws_FnExactLoseDisk.f
  by_cases c0 : (l1.length : Int) > 1048576
  · exact Ev.pos c0 (Ev.now _)
  refine Ev.neg c0 (Ev.bind hr ?_)
  by_cases c : r < 0
  · exact Ev.pos c (Ev.now _)
  refine Ev.neg c ?_
  have hb := (hr2 c).1
  have hb2 : (l.map toF).length ≤ 1048576 := by rw [List.length_map]; omega
  have td := toDisk_ev l hb
  have ti := toIntS_ev l1 (by omega)
  have sp := spec_LoseDisk_ev (l.map toF) l1 hb2
  have im := impl_LoseDisk_ev (l.map toF) l1 hb2
  have hv : (lostV (l.map toF) l1).1.length ≤ 1048576 := by
    unfold lostV
    split
    · rw [lostP_length]; exact hb2
    · simp
  have e1 := eqDisk_ev (lostV (l.map toF) l1).1 (by omega)
  have e2 := eqDisk_ev (l.map toF) (by omega)
  have e3 := eqIntS_ev l1 (by omega)
  obtain ⟨T, hT⟩ := markText_fun
  have m1 := markDisk_ev T hT (l.map toF) 1 (by omega)
  obtain ⟨q, m2⟩ := markIntS_ex l1 (1 + 3 * (l.map toF).length) (by omega)
  have m3 := markDisk_ev T hT (lostV (l.map toF) l1).1 1 (by omega)
  have m4 := heldDisk_ev T hT (lostV (l.map toF) l1).1.length 1 (by omega)
  generalize lostV (l.map toF) l1 = v at *
  refine Ev.bind td (Ev.bind ti (Ev.bind sp (Ev.bind td (Ev.bind ti (Ev.bind im (Ev.bind e1 (Ev.pos rfl ?_)))))))
  simp only [bne_self_eq_false]
  have j2 : Ev (fun k => laws_FnExactLoseDisk.j2 k ((1 + 3 * v.1.length : Nat) : Int) false (markedF T 1 v.1.length)) true := by
    refine Ev.step (fun k => by simp only [laws_FnExactLoseDisk.j2]; rfl) ?_
    exact Ev.neg (by simp) (Ev.bind m4 (Ev.neg (by omega) (Ev.pos rfl (Ev.now _))))
  have j1 : Ev (fun k => laws_FnExactLoseDisk.j1 k l1 v.2 false l v.1 v.1) true := by
    refine Ev.step (fun k => by simp only [laws_FnExactLoseDisk.j1]; rfl) ?_
    refine Ev.neg (by simp) (Ev.bind m3 (Ev.bind m4 (Ev.neg (by omega) (Ev.pos rfl (Ev.bind td (Ev.bind ti (Ev.bind im (Ev.bind e1 (Ev.pos rfl ?_)))))))))
    simp only [bne_self_eq_false]
    exact j2
  refine Ev.step (fun k => by simp only [laws_FnExactLoseDisk.j0]; rfl) ?_
  refine Ev.neg (by simp) (Ev.bind td (Ev.bind e2 (Ev.pos rfl (Ev.bind ti (Ev.bind e3 (Ev.pos rfl (Ev.bind m1 (Ev.bind m2 (Ev.neg (by omega) (Ev.bind e1 (Ev.pos rfl ?_)))))))))))
  simp only [bne_self_eq_false]
  exact j1


end Go.Proofs.Ytdllmlnigihpcaa.Pure
