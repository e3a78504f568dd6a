/- Drawn acts, done one by one, leave what they leave all at once; what is added stands behind, what is dropped is gone; cut off, the program and the reference leave the same. -/
import Derived.Test.YtnkldnkolcighaaXFnActsx14
set_option linter.unusedVariables false
set_option linter.unusedSimpArgs false
namespace Go.Proofs.Ytnkldnkolcighaa.Pure
open Go.RowKit Go.Proofs.Ytnkldnkolcighaa.XFnActs Go.Proofs.YtnkldnkolcighaaQ.PrintWords Go.Proofs.YtnkldnkolcighaaQ.PrintLast

/-! ### small words -/
theorem w64 {x : Int} (h0 : -9223372036854775808 ≤ x) (h1 : x ≤ 9223372036854775807) : wrap64 x = x := by
 unfold wrap64
 omega
theorem wsucc {n : Nat} (h : n ≤ 4611686018427387904) : wrap64 ((n : Int) + 1) = ((n + 1 : Nat) : Int) := by
 rw [w64 (by omega) (by omega)]
 rfl
theorem wnat {n : Nat} (h : n ≤ 4611686018427387904) : wrap64 (n : Int) = (n : Int) := w64 (by omega) (by omega)
theorem Ev.some_bind {α β : Type} {a : Option α} {x : α} (h : a = some x) {f : Nat → α → Option β} {r : β} (k : Ev (fun n => f n x) r) : Ev (fun n => a.bind (f n)) r := by
 subst h
 exact k
theorem Ev.pos {α : Type} {p : Prop} [Decidable p] (h : p) {f g : Nat → Option α} {r : α} (k : Ev f r) : Ev (fun n => if p then f n else g n) r :=
 Ev.congr (fun _ => if_pos h) k
theorem Ev.neg {α : Type} {p : Prop} [Decidable p] (h : ¬ p) {f g : Nat → Option α} {r : α} (k : Ev g r) : Ev (fun n => if p then f n else g n) r :=
 Ev.congr (fun _ => if_neg h) k
theorem strOfNums_size (xs : List Int) : (strOfNums xs).size = xs.length := by simp [strOfNums, ByteArray.size]
theorem str_ext {a b : ByteArray} (h : a.data.toList = b.data.toList) : a = b := by
 apply ByteArray.ext
 exact Array.toList_inj.1 h
theorem str_toList {a b : ByteArray} : a.toList = b.toList ↔ a = b := by
 rw [ByteArray.toList_eq, ByteArray.toList_eq]
 exact ⟨str_ext, fun h => by rw [h]⟩
theorem spec_l01In_eq (a l h : Int) : spec_l01In.f a l h = some (decide (l ≤ a ∧ a ≤ h)) := by
 unfold spec_l01In.f
 by_cases h1 : l ≤ a
 ·rw [if_pos h1]; simp [h1]
 ·rw [if_neg h1]; simp [h1]

theorem impl_within_eq (a l h : Int) : impl_within.f a l h = some (decide (l ≤ a ∧ a ≤ h)) := by
 unfold impl_within.f
 by_cases h1 : l ≤ a
 ·rw [if_pos h1]; simp [h1]
 ·rw [if_neg h1]; simp [h1]

/-! ### a disk behind a loss -/
def lostN (l1 : List Int) (x : S67) (i : Nat) : Int := mx x.f2 (mn (if (i : Int) < (l1.length : Int) then rd l1 (i : Int) else 0) (x.f1.size : Int))
def lostF (l1 : List Int) (x : S67) (i : Nat) : S67 := ⟨x.f0, x.f1.extract 0 (lostN l1 x i).toNat, lostN l1 x i⟩
def lostP (l1 : List Int) (l : List S67) (n : Nat) : List S67 := (List.range n).map fun (i : Nat) => lostF l1 (rd_T67 l (i : Int)) i
def lostV (l : List S67) (l1 : List Int) : List S67 × Bool := if diskOkV l = true then (lostP l1 l l.length, true) else ([], false)
theorem lostP_length (l1 : List Int) (l : List S67) (n : Nat) : (lostP l1 l n).length = n := by simp [lostP]
theorem lostP_succ (l1 : List Int) (l : List S67) (n : Nat) : lostP l1 l (n + 1) = lostP l1 l n ++ [lostF l1 (rd_T67 l (n : Int)) n] := by simp [lostP, List.range_succ]
theorem placed_at {l : List S67} : ∀ {d i : Nat}, allFrom l d i = true → ∀ j, i ≤ j → j < i + d → placeOk l j = true
 | 0, _, _, j, h1, h2 => by omega
 | d + 1, i, h, j, h1, h2 => by
  unfold allFrom at h
  rw [Bool.and_eq_true] at h
  by_cases e : j = i
  ·subst e
   exact h.1
  ·exact placed_at h.2 j (by omega) (by omega)
theorem diskOk_at {l : List S67} (h : diskOkV l = true) : l.length ≤ 30 ∧ ∀ i : Nat, i < l.length → placeOk l i = true := by
 unfold diskOkV at h
 rw [Bool.and_eq_true] at h
 have := of_decide_eq_true h.1
 exact ⟨by omega, fun i hi => placed_at h.2 i (by omega) (by omega)⟩
theorem file_at {l : List S67} (h : diskOkV l = true) {i : Nat} (hi : i < l.length) : 0 ≤ (rd_T67 l (i : Int)).f2 ∧ (rd_T67 l (i : Int)).f2 ≤ ((rd_T67 l (i : Int)).f1.size : Int) := by
 have p := (diskOk_at h).2 i hi
 unfold placeOk fileOk at p
 rw [Bool.and_eq_true, Bool.and_eq_true] at p
 exact of_decide_eq_true p.1.2
theorem lostN_range (l1 : List Int) {x : S67} (h : 0 ≤ x.f2 ∧ x.f2 ≤ (x.f1.size : Int)) (i : Nat) : 0 ≤ lostN l1 x i ∧ lostN l1 x i ≤ (x.f1.size : Int) := by
 unfold lostN
 generalize (if (i : Int) < (l1.length : Int) then rd l1 (i : Int) else 0) = z
 unfold mx mn
 constructor <;> (split <;> split) <;> omega

theorem spec_DiskOk_ev (l : List S67) (hl : l.length ≤ 4611686018427387904) : Ev (fun k => spec_DiskOk.f k l) (diskOkV l) := Ev.now _
theorem impl_DiskOk_ev (l : List S67) (hl : l.length ≤ 4611686018427387904) : Ev (fun k => impl_DiskOk.f k l) (diskOkV l) := Ev.now _

theorem impl_LoseDisk_ev (l : List S67) (l1 : List Int) (hl : l.length ≤ 1048576) : Ev (fun k => impl_LoseDisk.f k l l1) (lostV l l1) := by
 unfold impl_LoseDisk.f lostV
 refine Ev.bind (impl_DiskOk_ev l (by omega)) ?_
 cases hd : diskOkV l with
 | false => exact Ev.neg (by simp) (by simpa using Ev.now _)
 | true =>
  refine Ev.pos rfl ?_
  rw [if_pos rfl]
  refine Ev.some_bind (x := l) (by unfold impl_copyDisk.f; rw [if_pos (by omega)]) ?_
  have key : ∀ d i : Nat, i ≤ l.length → l.length - i = d → Ev (fun k => impl_LoseDisk.l0 k l1 l.length (lostP l1 l i ++ l.drop i) (i : Int)) (lostP l1 l l.length, true) := by
   intro d
   induction d with
   | zero =>
    intro i hi he
    obtain rfl : i = l.length := by omega
    rw [List.drop_length, List.append_nil]
    refine Ev.step (f := fun _ => some (lostP l1 l l.length, true)) (fun k => ?_) (Ev.now _)
    simp only [impl_LoseDisk.l0]
    rw [if_neg (by omega)]
   | succ d ih =>
    intro i hi he
    have ci : i < l.length := by omega
    have z := ih (i + 1) (by omega) (by omega)
    have hr : rd_T67 (lostP l1 l i ++ l.drop i) (i : Int) = rd_T67 l (i : Int) := by
     rw [rdF_nat (by rw [List.length_append, lostP_length, List.length_drop]; omega), rdF_nat ci, List.getElem_append_right (by rw [lostP_length]; omega)]
     simp [lostP_length]
    have hs : (lostP l1 l i ++ l.drop i).set i (lostF l1 (rd_T67 l (i : Int)) i) = lostP l1 l (i + 1) ++ l.drop (i + 1) := by
     rw [List.set_append_right _ _ (by rw [lostP_length]; omega), lostP_length, Nat.sub_self, List.drop_eq_getElem_cons ci, List.set_cons_zero, lostP_succ]
     simp
    have hn := lostN_range l1 (file_at hd ci) i
    rw [← hs] at z
    refine Ev.step (fun k => ?_) z
    simp only [impl_LoseDisk.l0]
    rw [hr, if_pos (by omega), wsucc (by omega), Int.toNat_natCast]
    exact if_pos ⟨by omega, hn.1, hn.2⟩
  have z := key l.length 0 (by omega) (by omega)
  rw [show lostP l1 l 0 = [] from rfl, List.nil_append, List.drop_zero] at z
  exact z

theorem spec_LoseDisk_ev (l : List S67) (l1 : List Int) (hl : l.length ≤ 1048576) : Ev (fun k => spec_LoseDisk.f k l l1) (lostV l l1) := by
 unfold spec_LoseDisk.f lostV
 refine Ev.bind (spec_DiskOk_ev l (by omega)) ?_
 cases hd : diskOkV l with
 | false => exact Ev.neg (by simp) (by simpa using Ev.now _)
 | true =>
  refine Ev.pos rfl ?_
  rw [if_pos rfl]
  have key : ∀ d i : Nat, i ≤ l.length → l.length - i = d → Ev (fun k => spec_LoseDisk.l0 k l1 (i : Int) l (lostP l1 l i)) (lostP l1 l l.length, true) := by
   intro d
   induction d with
   | zero =>
    intro i hi he
    obtain rfl : i = l.length := by omega
    refine Ev.step (f := fun _ => some (lostP l1 l l.length, true)) (fun k => ?_) (Ev.now _)
    simp only [spec_LoseDisk.l0]
    rw [if_neg (by omega)]
   | succ d ih =>
    intro i hi he
    have ci : i < l.length := by omega
    have z := ih (i + 1) (by omega) (by omega)
    obtain ⟨f1, f2⟩ := file_at hd ci
    rw [lostP_succ] at z
    have hj : ∀ v : Int, v = (if (i : Int) < (l1.length : Int) then rd l1 (i : Int) else 0) → Ev (fun k => spec_LoseDisk.j1 k l1 (i : Int) v l (lostP l1 l i) (rd_T67 l (i : Int)).f0 (rd_T67 l (i : Int)).f1 (rd_T67 l (i : Int)).f2) (lostP l1 l l.length, true) := by
     intro v hv
     refine Ev.step (fun k => ?_) z
     simp only [spec_LoseDisk.j1]
     have hlen := lostP_length l1 l i
     have hL : lostN l1 (rd_T67 l (i : Int)) i = mx (rd_T67 l (i : Int)).f2 (mn v ((rd_T67 l (i : Int)).f1.size : Int)) := by rw [hv]; rfl
     unfold lostF
     rw [hL]
     by_cases h1 : v > ((rd_T67 l (i : Int)).f1.size : Int)
     ·have e : mx (rd_T67 l (i : Int)).f2 (mn v ((rd_T67 l (i : Int)).f1.size : Int)) = ((rd_T67 l (i : Int)).f1.size : Int) := by rw [show mn v ((rd_T67 l (i : Int)).f1.size : Int) = ((rd_T67 l (i : Int)).f1.size : Int) from if_pos (by omega)]; unfold mx; split <;> omega
      rw [if_pos h1, if_neg (by omega), if_pos (by omega), if_pos (by omega), if_pos (by omega), e, wsucc (by omega)]
     ·by_cases h2 : v < (rd_T67 l (i : Int)).f2
      ·have e : mx (rd_T67 l (i : Int)).f2 (mn v ((rd_T67 l (i : Int)).f1.size : Int)) = (rd_T67 l (i : Int)).f2 := by rw [show mn v ((rd_T67 l (i : Int)).f1.size : Int) = v from if_neg (by omega)]; unfold mx; rw [if_neg (by omega)]
       rw [if_neg h1, if_pos h2, if_pos (by omega), if_pos (by omega), if_pos (by omega), e, wsucc (by omega)]
      ·have e : mx (rd_T67 l (i : Int)).f2 (mn v ((rd_T67 l (i : Int)).f1.size : Int)) = v := by rw [show mn v ((rd_T67 l (i : Int)).f1.size : Int) = v from if_neg (by omega)]; unfold mx; split <;> omega
       rw [if_neg h1, if_neg h2, if_pos (by omega), if_pos (by omega), if_pos (by omega), e, wsucc (by omega)]
    by_cases h : (i : Int) < (l1.length : Int)
    ·refine Ev.step (fun k => ?_) (hj (rd l1 (i : Int)) (by rw [if_pos h]))
     simp only [spec_LoseDisk.l0]
     rw [if_pos (by omega), if_pos (by omega), if_pos h]
    ·refine Ev.step (fun k => ?_) (hj 0 (by rw [if_neg h]))
     simp only [spec_LoseDisk.l0]
     rw [if_pos (by omega), if_pos (by omega), if_neg h]
  exact key l.length 0 (by omega) (by omega)

/-! ### the order of names; disks in order -/
theorem less_irrefl : ∀ x : List UInt8, Op.bytesLess x x = false
 | [] => rfl
 | a :: x => by
  unfold Op.bytesLess
  rw [less_irrefl x]
  simp
theorem less_trans : ∀ x y z : List UInt8, Op.bytesLess x y = true → Op.bytesLess y z = true → Op.bytesLess x z = true
 | _, [], _, h, _ => by simp [Op.bytesLess] at h
 | _, _ :: _, [], _, h => by simp [Op.bytesLess] at h
 | [], _ :: _, _ :: _, _, _ => by simp [Op.bytesLess]
 | a :: x, b :: y, c :: z, h1, h2 => by
  have ih := less_trans x y z
  simp only [Op.bytesLess, Bool.or_eq_true, Bool.and_eq_true, decide_eq_true_eq, beq_iff_eq, UInt8.lt_iff_toNat_lt] at h1 h2 ⊢
  rcases h1 with h1 | ⟨rfl, h1⟩
  ·rcases h2 with h2 | ⟨rfl, h2⟩
   ·exact .inl (by omega)
   ·exact .inl h1
  ·rcases h2 with h2 | ⟨rfl, h2⟩
   ·exact .inl h2
   ·exact .inr ⟨rfl, ih h1 h2⟩
theorem less_tri : ∀ x y : List UInt8, Op.bytesLess x y = false → Op.bytesLess y x = false → x = y
 | [], [], _, _ => rfl
 | [], _ :: _, h, _ => by simp [Op.bytesLess] at h
 | _ :: _, [], _, h => by simp [Op.bytesLess] at h
 | a :: x, b :: y, h1, h2 => by
  have ih := less_tri x y
  simp only [Op.bytesLess, Bool.or_eq_false_iff, decide_eq_false_iff_not, UInt8.lt_iff_toNat_lt] at h1 h2
  obtain rfl : a = b := UInt8.toNat_inj.1 (by omega)
  simp only [beq_self_eq_true, Bool.true_and] at h1 h2
  rw [ih h1.2 h2.2]
theorem less_asymm {x y : List UInt8} (h : Op.bytesLess x y = true) : Op.bytesLess y x = false := by
 cases h2 : Op.bytesLess y x with
 | false => rfl
 | true =>
  have := less_trans x y x h h2
  rw [less_irrefl] at this
  cases this
/-- a stands ahead of b -/
def ahead (a b : S67) : Bool := Op.bytesLess a.f0.toList b.f0.toList
theorem ahead_trans {a b c : S67} (h : ahead a b = true) (k : ahead b c = true) : ahead a c = true := less_trans _ _ _ h k
def InOrder (l : List S67) : Prop := l.Pairwise fun a b => ahead a b = true
theorem inOrder_of : ∀ (l : List S67), (∀ i, (h : i + 1 < l.length) → ahead l[i] l[i + 1] = true) → InOrder l
 | [], _ => List.Pairwise.nil
 | [x], _ => List.pairwise_singleton _ _
 | x :: y :: l, h => by
  have ih := inOrder_of (y :: l) (fun i hi => h (i + 1) (by simpa using hi))
  have h0 : ahead x y = true := h 0 (by simp)
  refine List.pairwise_cons.2 ⟨fun z hz => ?_, ih⟩
  rcases List.mem_cons.1 hz with rfl | hz
  ·exact h0
  ·exact ahead_trans h0 ((List.pairwise_cons.1 ih).1 z hz)
theorem inOrder_at {l : List S67} (h : InOrder l) {i : Nat} (hi : i + 1 < l.length) : ahead l[i] l[i + 1] = true := List.pairwise_iff_getElem.1 h i (i + 1) (by omega) hi (by omega)
theorem placed_all {l : List S67} : ∀ {d i : Nat}, (∀ j, i ≤ j → j < i + d → placeOk l j = true) → allFrom l d i = true
 | 0, _, _ => rfl
 | d + 1, i, h => by
  unfold allFrom
  rw [h i (Nat.le_refl _) (by omega), Bool.true_and]
  exact placed_all (fun j h1 h2 => h j (by omega) (by omega))
theorem diskOk_iff {l : List S67} : diskOkV l = true ↔ l.length ≤ 30 ∧ (∀ x ∈ l, fileOk x = true) ∧ InOrder l := by
 constructor
 ·intro h
  obtain ⟨h1, h2⟩ := diskOk_at h
  refine ⟨h1, fun x hx => ?_, inOrder_of l fun i hi => ?_⟩
  ·obtain ⟨i, hi, rfl⟩ := List.mem_iff_getElem.1 hx
   have p := h2 i hi
   unfold placeOk at p
   rw [Bool.and_eq_true, rdF_nat hi] at p
   exact p.1
  ·have p := h2 (i + 1) hi
   unfold placeOk at p
   rw [Bool.and_eq_true] at p
   have q := p.2
   rw [decide_eq_false (show ¬ (i + 1 = 0) by omega), Bool.false_or, Nat.add_sub_cancel, rdF_nat (show i < l.length by omega), rdF_nat hi] at q
   exact q
 ·rintro ⟨h1, h2, h3⟩
  unfold diskOkV
  rw [decide_eq_true (show (l.length : Int) ≤ 30 by omega), Bool.true_and]
  refine placed_all (fun j _ hj => ?_)
  have hj' : j < l.length := by omega
  unfold placeOk
  rw [rdF_nat hj', h2 _ (List.getElem_mem hj'), Bool.true_and]
  by_cases c : j = 0
  ·rw [decide_eq_true c, Bool.true_or]
  ·obtain ⟨i, rfl⟩ : ∃ i, j = i + 1 := ⟨j - 1, by omega⟩
   rw [decide_eq_false c, Bool.false_or, Nat.add_sub_cancel, rdF_nat (show i < l.length by omega)]
   exact inOrder_at h3 hj'
/-! ### a file put in its place -/
def putS (l : List S67) (f : S67) : List S67 := l.filter (fun x => ahead x f) ++ f :: l.filter (fun x => ahead f x)
theorem putS_length (l : List S67) (f : S67) : (putS l f).length ≤ l.length + 1 := by
 have : (l.filter (fun x => ahead x f)).length + (l.filter (fun x => ahead f x)).length ≤ l.length := by
  induction l with
  | nil => simp
  | cons x l ih =>
   rw [List.filter_cons, List.filter_cons]
   by_cases h : ahead x f = true
   ·have h2 : ahead f x = false := less_asymm h
    rw [if_pos h, h2, if_neg (by simp), List.length_cons, List.length_cons]
    omega
   ·rw [if_neg h]
    split <;> (simp only [List.length_cons]; omega)
 unfold putS
 simp only [List.length_append, List.length_cons]
 omega
theorem putS_order {l : List S67} (h : InOrder l) (f : S67) : InOrder (putS l f) := by
 unfold putS InOrder
 refine List.pairwise_append.2 ⟨List.Pairwise.filter _ h, List.pairwise_cons.2 ⟨fun x hx => (List.mem_filter.1 hx).2, List.Pairwise.filter _ h⟩, fun x hx y hy => ?_⟩
 have hx := (List.mem_filter.1 hx).2
 rcases List.mem_cons.1 hy with rfl | hy
 ·exact hx
 ·exact ahead_trans hx (List.mem_filter.1 hy).2
theorem filter_take_succ (p : S67 → Bool) {l : List S67} {i : Nat} (h : i < l.length) : (l.take (i + 1)).filter p = (l.take i).filter p ++ (if p l[i] = true then [l[i]] else []) := by
 rw [List.take_succ_eq_append_getElem h, List.filter_append, List.filter_cons, List.filter_nil]
theorem spec_l03Put_ev (l : List S67) (f0 f1 : ByteArray) (f2 : Int) (hl : l.length ≤ 1048576) : Ev (fun k => spec_l03Put.f k l f0 f1 f2) (putS l ⟨f0, f1, f2⟩) := by
 have key1 : ∀ d i : Nat, i ≤ l.length → l.length - i = d → Ev (fun k => spec_l03Put.l1 k (i : Int) l f0 f1 f2 (l.filter (fun x => ahead x ⟨f0, f1, f2⟩) ++ (⟨f0, f1, f2⟩ : S67) :: (l.take i).filter (fun x => ahead ⟨f0, f1, f2⟩ x))) (putS l ⟨f0, f1, f2⟩) := by
  intro d
  induction d with
  | zero =>
   intro i hi hd
   obtain rfl : i = l.length := by omega
   refine Ev.step (f := fun _ => some (putS l ⟨f0, f1, f2⟩)) (fun k => ?_) (Ev.now _)
   simp only [spec_l03Put.l1]
   rw [if_neg (by omega), List.take_length]
   rfl
  | succ d ih =>
   intro i hi hd
   have ci : i < l.length := by omega
   have z := ih (i + 1) (by omega) (by omega)
   rw [filter_take_succ _ ci] at z
   have b1 : (l.filter (fun x => ahead x ⟨f0, f1, f2⟩)).length ≤ l.length := List.length_filter_le _ _
   have b2 : ((l.take i).filter (fun x => ahead ⟨f0, f1, f2⟩ x)).length ≤ i := Nat.le_trans (List.length_filter_le _ _) (List.length_take_le _ _)
   by_cases c : ahead ⟨f0, f1, f2⟩ l[i] = true
   ·rw [if_pos c] at z
    refine Ev.step (fun k => ?_) z
    simp only [spec_l03Put.l1]
    rw [if_pos (by omega), if_pos (by omega), rdF_nat ci, if_pos (show Op.bytesLess f0.toList l[i].f0.toList = true from c), if_pos (by simp only [List.length_append, List.length_cons]; omega), wsucc (by omega)]
    simp only [List.append_assoc, List.cons_append]
   ·rw [if_neg c, List.append_nil] at z
    refine Ev.step (fun k => ?_) z
    simp only [spec_l03Put.l1]
    rw [if_pos (by omega), if_pos (by omega), rdF_nat ci, if_neg (show ¬ Op.bytesLess f0.toList l[i].f0.toList = true from c), wsucc (by omega)]
 have key0 : ∀ d i : Nat, i ≤ l.length → l.length - i = d → Ev (fun k => spec_l03Put.l0 k (i : Int) l f0 f1 f2 ((l.take i).filter (fun x => ahead x ⟨f0, f1, f2⟩))) (putS l ⟨f0, f1, f2⟩) := by
  intro d
  induction d with
  | zero =>
   intro i hi hd
   obtain rfl : i = l.length := by omega
   have b1 : (l.filter (fun x => ahead x ⟨f0, f1, f2⟩)).length ≤ l.length := List.length_filter_le _ _
   have z := key1 l.length 0 (by omega) (by omega)
   rw [List.take_zero, List.filter_nil] at z
   refine Ev.step (fun k => ?_) z
   simp only [spec_l03Put.l0]
   rw [if_neg (by omega), List.take_length, if_pos (by omega)]
   rfl
  | succ d ih =>
   intro i hi hd
   have ci : i < l.length := by omega
   have z := ih (i + 1) (by omega) (by omega)
   rw [filter_take_succ _ ci] at z
   have b2 : ((l.take i).filter (fun x => ahead x ⟨f0, f1, f2⟩)).length ≤ i := Nat.le_trans (List.length_filter_le _ _) (List.length_take_le _ _)
   by_cases c : ahead l[i] ⟨f0, f1, f2⟩ = true
   ·rw [if_pos c] at z
    refine Ev.step (fun k => ?_) z
    simp only [spec_l03Put.l0]
    rw [if_pos (by omega), if_pos (by omega), rdF_nat ci, if_pos (show Op.bytesLess l[i].f0.toList f0.toList = true from c), if_pos (by omega), wsucc (by omega)]
   ·rw [if_neg c, List.append_nil] at z
    refine Ev.step (fun k => ?_) z
    simp only [spec_l03Put.l0]
    rw [if_pos (by omega), if_pos (by omega), rdF_nat ci, if_neg (show ¬ Op.bytesLess l[i].f0.toList f0.toList = true from c), wsucc (by omega)]
 exact key0 l.length 0 (by omega) (by omega)

/-! ### where a file stands -/
theorem atN_range : ∀ (l : List S67) (nm : ByteArray) (i : Nat), atN l nm i = -1 ∨ ∃ j, i ≤ j ∧ j < i + l.length ∧ atN l nm i = (j : Int)
 | [], _, _ => .inl rfl
 | x :: l, nm, i => by
  unfold atN
  by_cases h : x.f0.toList = nm.toList
  ·rw [if_pos h]
   exact .inr ⟨i, Nat.le_refl _, by simp, rfl⟩
  ·rw [if_neg h]
   rcases atN_range l nm (i + 1) with e | ⟨j, h1, h2, e⟩
   ·exact .inl e
   ·exact .inr ⟨j, by omega, by simp; omega, e⟩
theorem spec_at_ev (l : List S67) (nm : ByteArray) (hl : l.length ≤ 4611686018427387904) : Ev (fun k => spec_l03At.f k l nm) (atN l nm 0) := by
 have key : ∀ d i : Nat, i ≤ l.length → l.length - i = d → Ev (fun k => spec_l03At.l0 k nm (i : Int) l) (atN (l.drop i) nm i) := by
  intro d
  induction d with
  | zero =>
   intro i hi he
   rw [List.drop_eq_nil_of_le (by omega)]
   refine Ev.step (f := fun _ => some (-1)) (fun k => ?_) (Ev.now _)
   simp only [spec_l03At.l0]
   rw [if_neg (by omega)]
  | succ d ih =>
   intro i hi he
   have ci : i < l.length := by omega
   have hrd : rd_T67 l (i : Int) = l[i] := by
    unfold rd_T67
    rw [Int.toNat_natCast, List.getD_eq_getElem?_getD, List.getElem?_eq_getElem ci]
    rfl
   rw [List.drop_eq_getElem_cons ci, atN]
   by_cases h : l[i].f0.toList = nm.toList
   ·rw [if_pos h]
    refine Ev.step (f := fun _ => some (i : Int)) (fun k => ?_) (Ev.now _)
    simp only [spec_l03At.l0]
    rw [hrd, if_pos (by omega), if_pos (by omega), if_pos h]
   ·rw [if_neg h]
    refine Ev.step (fun k => ?_) (ih (i + 1) (by omega) (by omega))
    simp only [spec_l03At.l0]
    rw [hrd, if_pos (by omega), if_pos (by omega), if_neg h, wsucc (by omega)]
 exact key l.length 0 (by omega) (by omega)
def fileAtV (l : List S67) (nm : ByteArray) : ByteArray × Bool := if atN l nm 0 < 0 then ((⟨#[]⟩ : ByteArray), false) else ((rd_T67 l (atN l nm 0)).f1, true)
theorem impl_FileAt_eq (l : List S67) (nm : ByteArray) : impl_FileAt.f l nm = some (fileAtV l nm) := by
 unfold impl_FileAt.f fileAtV impl_fileAt.f
 rw [Option.bind_some]
 rcases atN_range l nm 0 with e | ⟨j, h1, h2, e⟩
 ·rw [e]
  rfl
 ·rw [e, if_neg (show ¬ (j : Int) < 0 by omega), if_neg (show ¬ (j : Int) < 0 by omega), if_pos (show 0 ≤ (j : Int) by omega), if_pos (show (j : Int) < (l.length : Int) by omega)]

/-! ### a file found, taken out, put in -/
theorem at_split : ∀ (l : List S67) (nm : ByteArray) (i : Nat), (atN l nm i = -1 ∧ ∀ x ∈ l, ¬ x.f0.toList = nm.toList) ∨ ∃ (a : List S67) (x : S67) (b : List S67), l = a ++ x :: b ∧ x.f0.toList = nm.toList ∧ atN l nm i = ((i + a.length : Nat) : Int)
 | [], _, _ => .inl ⟨rfl, fun x hx => by simp at hx⟩
 | x :: l, nm, i => by
  unfold atN
  by_cases h : x.f0.toList = nm.toList
  ·rw [if_pos h]
   exact .inr ⟨[], x, l, rfl, h, rfl⟩
  ·rw [if_neg h]
   rcases at_split l nm (i + 1) with ⟨e, f⟩ | ⟨a, y, b, rfl, h2, e⟩
   ·refine .inl ⟨e, fun y hy => ?_⟩
    rcases List.mem_cons.1 hy with rfl | hy
    ·exact h
    ·exact f y hy
   ·refine .inr ⟨x :: a, y, b, rfl, h2, ?_⟩
    rw [e, List.length_cons, show i + 1 + a.length = i + (a.length + 1) by omega]
theorem gt_split : ∀ (l : List S67) (nm : ByteArray) (i : Nat), (gtN l nm i = -1 ∧ ∀ x ∈ l, ¬ Op.bytesLess nm.toList x.f0.toList = true) ∨ ∃ (a : List S67) (x : S67) (b : List S67), l = a ++ x :: b ∧ Op.bytesLess nm.toList x.f0.toList = true ∧ (∀ y ∈ a, ¬ Op.bytesLess nm.toList y.f0.toList = true) ∧ gtN l nm i = ((i + a.length : Nat) : Int)
 | [], _, _ => .inl ⟨rfl, fun x hx => by simp at hx⟩
 | x :: l, nm, i => by
  unfold gtN
  by_cases h : Op.bytesLess nm.toList x.f0.toList = true
  ·rw [if_pos h]
   exact .inr ⟨[], x, l, rfl, h, fun y hy => by simp at hy, rfl⟩
  ·rw [if_neg h]
   rcases gt_split l nm (i + 1) with ⟨e, f⟩ | ⟨a, y, b, rfl, h2, h3, e⟩
   ·refine .inl ⟨e, fun y hy => ?_⟩
    rcases List.mem_cons.1 hy with rfl | hy
    ·exact h
    ·exact f y hy
   ·refine .inr ⟨x :: a, y, b, rfl, h2, fun z hz => ?_, ?_⟩
    ·rcases List.mem_cons.1 hz with rfl | hz
     ·exact h
     ·exact h3 z hz
    ·rw [e, List.length_cons, show i + 1 + a.length = i + (a.length + 1) by omega]
theorem rd_mid (a : List S67) (x : S67) (b : List S67) : rd_T67 (a ++ x :: b) (a.length : Int) = x := by
 rw [rdF_nat (by simp)]
 simp
theorem set_mid (a : List S67) (x f : S67) (b : List S67) : (a ++ x :: b).set a.length f = a ++ f :: b := by simp
theorem out_mid (a : List S67) (x : S67) (b : List S67) : (a ++ x :: b).take a.length ++ (a ++ x :: b).drop (a.length + 1) = a ++ b := by simp [List.drop_append]
theorem split_order {a : List S67} {x : S67} {b : List S67} (h : InOrder (a ++ x :: b)) : (∀ y ∈ a, ahead y x = true) ∧ (∀ y ∈ b, ahead x y = true) ∧ InOrder (a ++ b) := by
 obtain ⟨h1, h2, h3⟩ := List.pairwise_append.1 h
 obtain ⟨h4, h5⟩ := List.pairwise_cons.1 h2
 exact ⟨fun y hy => h3 y hy x (List.mem_cons_self ..), h4, List.pairwise_append.2 ⟨h1, h5, fun y hy z hz => h3 y hy z (List.mem_cons_of_mem _ hz)⟩⟩
theorem filt (p : S67 → Bool) (a b : List S67) (ha : ∀ y ∈ a, p y = true) (hb : ∀ y ∈ b, p y = false) : (a ++ b).filter p = a := by
 rw [List.filter_append, List.filter_eq_self.2 ha, List.filter_eq_nil_iff.2 (fun y hy => by rw [hb y hy]; simp), List.append_nil]
theorem filt2 (p : S67 → Bool) (a b : List S67) (ha : ∀ y ∈ a, p y = false) (hb : ∀ y ∈ b, p y = true) : (a ++ b).filter p = b := by
 rw [List.filter_append, List.filter_eq_self.2 hb, List.filter_eq_nil_iff.2 (fun y hy => by rw [ha y hy]; simp), List.nil_append]
theorem putS_mid {a : List S67} {x f : S67} {b : List S67} (h : InOrder (a ++ x :: b)) (e : x.f0.toList = f.f0.toList) : putS (a ++ x :: b) f = a ++ f :: b := by
 obtain ⟨h1, h2, _⟩ := split_order h
 have e1 : ∀ y, ahead y f = ahead y x := fun y => by unfold ahead; rw [e]
 have e2 : ∀ y, ahead f y = ahead x y := fun y => by unfold ahead; rw [e]
 have hx : ahead x x = false := less_irrefl _
 unfold putS
 rw [filt (fun y => ahead y f) a (x :: b) (fun y hy => by rw [e1]; exact h1 y hy) (fun y hy => by
  rw [e1]
  rcases List.mem_cons.1 hy with rfl | hy
  ·exact hx
  ·exact less_asymm (h2 y hy))]
 rw [show a ++ x :: b = (a ++ [x]) ++ b by simp, filt2 (fun y => ahead f y) (a ++ [x]) b (fun y hy => by
  rw [e2]
  rcases List.mem_append.1 hy with hy | hy
  ·exact less_asymm (h1 y hy)
  ·rw [List.mem_singleton.1 hy]; exact hx) (fun y hy => by rw [e2]; exact h2 y hy)]
theorem putS_gap {a b : List S67} {f : S67} (ha : ∀ y ∈ a, ahead y f = true) (hb : ∀ y ∈ b, ahead f y = true) : putS (a ++ b) f = a ++ f :: b := by
 unfold putS
 rw [filt (fun y => ahead y f) a b ha (fun y hy => less_asymm (hb y hy)), filt2 (fun y => ahead f y) a b (fun y hy => less_asymm (ha y hy)) hb]
theorem putL_eq {l : List S67} (h : InOrder l) (f : S67) : putL l f = putS l f := by
 unfold putL
 rcases at_split l f.f0 0 with ⟨e, hn⟩ | ⟨a, x, b, rfl, hx, e⟩
 ·rw [e, if_neg (by omega)]
  have lt : ∀ y ∈ l, ¬ Op.bytesLess f.f0.toList y.f0.toList = true → ahead y f = true := fun y hy hg => by
   unfold ahead
   cases c : Op.bytesLess y.f0.toList f.f0.toList with
   | true => rfl
   | false => exact absurd (less_tri _ _ c (by simpa using hg)) (hn y hy)
  rcases gt_split l f.f0 0 with ⟨e2, h2⟩ | ⟨a, x, b, rfl, h2, h3, e2⟩
  ·rw [e2, if_pos (by omega)]
   have := putS_gap (a := l) (b := []) (f := f) (fun y hy => lt y hy (h2 y hy)) (fun y hy => by simp at hy)
   rw [List.append_nil] at this
   exact this.symm
  ·obtain ⟨_, p2, _⟩ := split_order h
   rw [e2, if_neg (by omega), Nat.zero_add, Int.toNat_natCast, List.take_left, List.drop_left]
   refine (putS_gap (fun y hy => lt y (List.mem_append_left _ hy) (h3 y hy)) (fun y hy => ?_)).symm
   rcases List.mem_cons.1 hy with rfl | hy
   ·exact h2
   ·exact ahead_trans (b := x) h2 (p2 y hy)
 ·rw [e, if_pos (by omega), Nat.zero_add, Int.toNat_natCast, set_mid, putS_mid h hx]
/-- the files but the one of a name -/
def without (l : List S67) (nm : ByteArray) : List S67 := l.filter (fun x => decide (¬ x.f0.toList = nm.toList))
theorem without_mid {a : List S67} {x : S67} {b : List S67} {nm : ByteArray} (h : InOrder (a ++ x :: b)) (e : x.f0.toList = nm.toList) : without (a ++ x :: b) nm = a ++ b := by
 obtain ⟨h1, h2, _⟩ := split_order h
 unfold without
 rw [List.filter_append, List.filter_cons, if_neg (by simp [e]), List.filter_eq_self.2, List.filter_eq_self.2]
 ·intro y hy
  have := h2 y hy
  refine decide_eq_true (fun c => ?_)
  unfold ahead at this
  rw [c, e, less_irrefl] at this
  cases this
 ·intro y hy
  have := h1 y hy
  refine decide_eq_true (fun c => ?_)
  unfold ahead at this
  rw [c, e, less_irrefl] at this
  cases this
theorem spec_l03Without_ev (l : List S67) (nm : ByteArray) (hl : l.length ≤ 1048576) : Ev (fun k => spec_l03Without.f k l nm) (without l nm) := by
 have key0 : ∀ d i : Nat, i ≤ l.length → l.length - i = d → Ev (fun k => spec_l03Without.l0 k nm (i : Int) l ((l.take i).filter (fun x => decide (¬ x.f0.toList = nm.toList)))) (without l nm) := by
  intro d
  induction d with
  | zero =>
   intro i hi hd
   obtain rfl : i = l.length := by omega
   refine Ev.step (f := fun _ => some (without l nm)) (fun k => ?_) (Ev.now _)
   simp only [spec_l03Without.l0]
   rw [if_neg (by omega), List.take_length]
   rfl
  | succ d ih =>
   intro i hi hd
   have ci : i < l.length := by omega
   have z := ih (i + 1) (by omega) (by omega)
   rw [filter_take_succ _ ci] at z
   have b2 : ((l.take i).filter (fun x => decide (¬ x.f0.toList = nm.toList))).length ≤ i := Nat.le_trans (List.length_filter_le _ _) (List.length_take_le _ _)
   by_cases c : l[i].f0.toList = nm.toList
   ·rw [if_neg (by simp [c]), List.append_nil] at z
    refine Ev.step (fun k => ?_) z
    simp only [spec_l03Without.l0]
    rw [if_pos (by omega), if_pos (by omega), rdF_nat ci, if_pos c, wsucc (by omega)]
   ·rw [if_pos (by simp [c])] at z
    refine Ev.step (fun k => ?_) z
    simp only [spec_l03Without.l0]
    rw [if_pos (by omega), if_pos (by omega), rdF_nat ci, if_neg c, if_pos (by omega), wsucc (by omega)]
 exact key0 l.length 0 (by omega) (by omega)

/-! ### what an act does -/
def endV : Option (List S67) → List S67 × Bool
 | none => ([], false)
 | some y => if diskOkV y = true then (y, true) else ([], false)
def actO (l : List S67) (kd : Int) (nm tx nw : ByteArray) : Option (List S67) :=
 if kd = 1 then (if 0 ≤ atN l nm 0 then some (putS l ⟨(rd_T67 l (atN l nm 0)).f0, (rd_T67 l (atN l nm 0)).f1 ++ tx, (rd_T67 l (atN l nm 0)).f2⟩) else some (putS l ⟨nm, (⟨#[]⟩ : ByteArray) ++ tx, 0⟩))
 else if kd = 2 then some (putS l ⟨(rd_T67 l (atN l nm 0)).f0, (rd_T67 l (atN l nm 0)).f1, ((rd_T67 l (atN l nm 0)).f1.size : Int)⟩)
 else if kd = 3 then (if nw.toList = nm.toList then none else if (rd_T67 l (atN l nm 0)).f2 = ((rd_T67 l (atN l nm 0)).f1.size : Int) then some (putS (without l nm) ⟨nw, (rd_T67 l (atN l nm 0)).f1, (rd_T67 l (atN l nm 0)).f2⟩) else none)
 else if kd = 4 then some (without l nm)
 else none
def actV (l : List S67) (kd : Int) (nm tx nw : ByteArray) : List S67 × Bool :=
 if diskOkV l = true ∧ (kd = 3 ∨ nw.toList = []) ∧ (kd = 1 ∨ (tx.toList = [] ∧ 0 ≤ atN l nm 0)) then endV (actO l kd nm tx nw) else ([], false)
theorem endV_some (y : List S67) : endV (some y) = if diskOkV y = true then (y, true) else ([], false) := rfl
theorem endV_le (o : Option (List S67)) : (endV o).1.length ≤ 30 := by
 cases o with
 | none => exact Nat.zero_le _
 | some y =>
  rw [endV_some]
  by_cases h : diskOkV y = true
  ·rw [if_pos h]; exact (diskOk_iff.1 h).1
  ·rw [if_neg h]; exact Nat.zero_le _
theorem actV_le (l : List S67) (kd : Int) (nm tx nw : ByteArray) : (actV l kd nm tx nw).1.length ≤ 30 := by
 unfold actV
 split
 ·exact endV_le _
 ·exact Nat.zero_le _
theorem impl_DiskOk_some (l : List S67) (k : Nat) : impl_DiskOk.f k l = some (diskOkV l) := rfl
theorem impl_end (k : Nat) (o : Option (List S67)) : impl_DoAct.end_ k o = some (endV o) := by
 cases o with
 | none => rfl
 | some y =>
  rw [endV_some]
  simp only [impl_DoAct.end_, impl_DiskOk_some, Option.bind_some]
  by_cases h : diskOkV y = true
  ·rw [if_pos h, if_pos h, h]
  ·rw [if_neg h, if_neg h, (by simpa using h : diskOkV y = false)]
theorem impl_DoAct_eq (k : Nat) (l : List S67) (kd : Int) (nm tx nw : ByteArray) (ht : tx.size ≤ 4611686018427387904) : impl_DoAct.f k l kd nm tx nw = some (actV l kd nm tx nw) := by
 unfold impl_DoAct.f actV
 rw [impl_DiskOk_some, Option.bind_some]
 by_cases c : diskOkV l = true ∧ (kd = 3 ∨ nw.toList = []) ∧ (kd = 1 ∨ (tx.toList = [] ∧ 0 ≤ atN l nm 0))
 ·obtain ⟨hl, hf, ho⟩ := diskOk_iff.1 c.1
  rw [if_pos c, if_pos c, if_pos (by omega)]
  have hz : ∀ x ∈ l, x.f1.size ≤ 20000 := fun x hx => by
   have := hf x hx
   unfold fileOk at this
   simp only [Bool.and_eq_true, decide_eq_true_eq] at this
   omega
  have key : impl_DoAct.out l kd nm tx nw = some (actO l kd nm tx nw) := by
   unfold impl_DoAct.out actO
   rcases at_split l nm 0 with ⟨e, hn⟩ | ⟨a, x, b, rfl, hx, e⟩
   ·have h1 : kd = 1 := c.2.2.resolve_right (fun z => by rw [e] at z; omega)
    rw [if_pos h1, if_pos h1, e, if_neg (show ¬ (0 : Int) ≤ -1 by omega), if_neg (show ¬ (0 : Int) ≤ -1 by omega), if_pos (by rw [show (⟨#[]⟩ : ByteArray).size = 0 from rfl]; omega), putL_eq ho]
   ·have hx2 := hz x (by simp)
    rw [Nat.zero_add] at e
    have hpos : (0 : Int) ≤ (a.length : Int) := by omega
    rw [e, rd_mid, if_pos hpos, if_pos hpos, Int.toNat_natCast, if_pos (show x.f1.size + tx.size ≤ 9223372036854775807 by omega), putL_eq ho, set_mid, out_mid, putS_mid ho (f := ⟨x.f0, x.f1, (x.f1.size : Int)⟩) rfl, without_mid ho hx, putL_eq (split_order ho).2.2]
    by_cases c1 : kd = 1
    ·rw [if_pos c1, if_pos c1]
    rw [if_neg c1, if_neg c1]
    by_cases c2 : kd = 2
    ·rw [if_pos c2, if_pos c2]
    rw [if_neg c2, if_neg c2]
    by_cases c3 : kd = 3
    ·rw [if_pos c3, if_pos c3]
     by_cases c4 : nw.toList = nm.toList
     ·rw [if_pos c4, if_pos c4]
     rw [if_neg c4, if_neg c4]
     by_cases c5 : x.f2 = (x.f1.size : Int)
     ·rw [if_pos c5, if_pos c5]
     ·rw [if_neg c5, if_neg c5]
    rw [if_neg c3, if_neg c3]
    by_cases c4 : kd = 4
    ·rw [if_pos c4, if_pos c4]
    ·rw [if_neg c4, if_neg c4]
  rw [key, Option.bind_some, impl_end]
 ·rw [if_neg c, if_neg c]

theorem l03Name_eq (nm : ByteArray) : spec_l03Name.f nm = some (decide (1 ≤ (nm.size : Int) ∧ (nm.size : Int) ≤ 8)) := by
 unfold spec_l03Name.f
 rw [spec_l01In_eq]
 rfl
theorem spec_DiskOk_now (l : List S67) : Ev (fun k => spec_DiskOk.f k l) (diskOkV l) := Ev.now _
theorem end_ev (y : List S67) : Ev (fun k => (spec_DiskOk.f k y).bind fun t => if t = true then some (y, true) else some (([] : List S67), false)) (endV (some y)) := by
 refine Ev.bind (spec_DiskOk_now y) ?_
 rw [endV_some]
 by_cases h : diskOkV y = true
 ·simp only [if_pos h]; exact Ev.now _
 ·simp only [if_neg h]; exact Ev.now _
theorem bad_put {l : List S67} {f : S67} (h : ¬ (1 ≤ (f.f0.size : Int) ∧ (f.f0.size : Int) ≤ 8)) : endV (some (putS l f)) = ([], false) := by
 rw [endV_some, if_neg]
 intro e
 have := (diskOk_iff.1 e).2.1 f (by unfold putS; simp)
 unfold fileOk at this
 simp only [Bool.and_eq_true, decide_eq_true_eq] at this
 exact h this.1.1
theorem size_of_list {a b : ByteArray} (h : a.toList = b.toList) : a.size = b.size := by rw [str_toList.1 h]
theorem actV_name {l : List S67} {kd : Int} {nm tx nw : ByteArray} (hd : diskOkV l = true) (hn : ¬ (1 ≤ (nm.size : Int) ∧ (nm.size : Int) ≤ 8)) : actV l kd nm tx nw = ([], false) := by
 unfold actV
 split
 ·rename_i c
  rcases at_split l nm 0 with ⟨e, _⟩ | ⟨a, x, b, rfl, hx, e⟩
  ·have h1 : kd = 1 := c.2.2.resolve_right (fun z => by rw [e] at z; omega)
   unfold actO
   rw [if_pos h1, e, if_neg (by omega)]
   exact bad_put hn
  ·have := (diskOk_iff.1 hd).2.1 x (by simp)
   unfold fileOk at this
   simp only [Bool.and_eq_true, decide_eq_true_eq, size_of_list hx] at this
   exact absurd this.1.1 hn
 ·rfl
theorem spec_DoAct_ev (l : List S67) (kd : Int) (nm tx nw : ByteArray) (ht : tx.size ≤ 4611686018427387904) (hlen : l.length ≤ 1048576) : Ev (fun k => spec_DoAct.f k l kd nm tx nw) (actV l kd nm tx nw) := by
 have bad : ∀ V, V = ([], false) → Ev (fun k => spec_DoAct.j0 k true l kd nm tx nw) V := fun V e => by
  rw [e]
  exact Ev.step (fun k => by simp only [spec_DoAct.j0]; rfl) (Ev.pos (rfl : true = true) (Ev.now _))
 have no : ¬ (diskOkV l = true ∧ (kd = 3 ∨ nw.toList = []) ∧ (kd = 1 ∨ (tx.toList = [] ∧ 0 ≤ atN l nm 0))) → actV l kd nm tx nw = ([], false) := fun h => by
  unfold actV
  rw [if_neg h]
 unfold spec_DoAct.f
 refine Ev.bind (spec_DiskOk_now l) ?_
 by_cases hd : diskOkV l = true
 case neg => exact Ev.neg hd (bad _ (no fun z => hd z.1))
 refine Ev.pos hd (Ev.some_bind (l03Name_eq nm) ?_)
 by_cases hn : 1 ≤ (nm.size : Int) ∧ (nm.size : Int) ≤ 8
 case neg => exact Ev.neg (by rw [decide_eq_false hn]; simp) (bad _ (actV_name hd hn))
 refine Ev.pos (by rw [decide_eq_true hn]) ?_
 obtain ⟨h30, hf, ho⟩ := diskOk_iff.1 hd
 have j2bad : ∀ (f0 f1 : ByteArray) (f2 : Int), Ev (fun k => spec_DoAct.j2 k true l kd nm tx nw f0 f1 f2) ([], false) := fun f0 f1 f2 => Ev.step (f := fun _ => some ([], false)) (fun k => by unfold spec_DoAct.j2; exact if_pos rfl) (Ev.now _)
 have good : (kd = 3 ∨ nw.toList = []) → (kd = 1 ∨ tx.toList = []) → Ev (fun k => spec_DoAct.j0 k false l kd nm tx nw) (actV l kd nm tx nw) := by
  intro g1 g2
  refine Ev.step (fun k => by simp only [spec_DoAct.j0]; rfl) ?_
  refine Ev.neg (by simp) (Ev.bind (spec_at_ev l nm (by omega)) ?_)
  rcases at_split l nm 0 with ⟨e, hno⟩ | ⟨a, x, b, hl, hx, e⟩
  ·rw [e]
   refine Ev.neg (by omega) (Ev.step (fun k => by simp only [spec_DoAct.j1]; rfl) ?_)
   by_cases c1 : kd = 1
   ·have hv : actV l kd nm tx nw = endV (some (putS l ⟨nm, (⟨#[]⟩ : ByteArray) ++ tx, 0⟩)) := by
     unfold actV actO
     rw [if_pos ⟨hd, g1, .inl c1⟩, if_pos c1, e, if_neg (by omega)]
    rw [hv]
    exact Ev.pos c1 (Ev.pos (by rw [show (⟨#[]⟩ : ByteArray).size = 0 from rfl]; omega) (Ev.bind (spec_l03Put_ev l _ _ _ hlen) (end_ev _)))
   ·rw [no (fun z => c1 (z.2.2.resolve_right (fun y => by rw [e] at y; omega)))]
    exact Ev.neg c1 (Ev.pos (by omega) (Ev.now _))
  ·have hm : x ∈ l := by rw [hl]; simp
   have hxf := hf x hm
   unfold fileOk at hxf
   simp only [Bool.and_eq_true, decide_eq_true_eq] at hxf
   have hrd : rd_T67 l (a.length : Int) = x := by rw [hl]; exact rd_mid a x b
   have hal : a.length < l.length := by rw [hl]; simp
   rw [Nat.zero_add] at e
   have hv : actV l kd nm tx nw = endV (actO l kd nm tx nw) := by
    unfold actV
    rw [if_pos ⟨hd, g1, g2.imp id (fun z => ⟨z, by rw [e]; omega⟩)⟩]
   have hw : (without l nm).length ≤ 1048576 := Nat.le_trans (List.length_filter_le _ _) hlen
   rw [hv, e]
   unfold actO
   rw [e, hrd, if_pos (show (0 : Int) ≤ (a.length : Int) by omega)]
   refine Ev.pos (by omega) (Ev.pos (by omega) (Ev.pos (by omega) (Ev.step (fun k => by simp only [spec_DoAct.j1]; rfl) ?_)))
   by_cases c1 : kd = 1
   ·rw [if_pos c1]
    exact Ev.pos c1 (Ev.pos (by omega) (Ev.bind (spec_l03Put_ev l _ _ _ hlen) (end_ev _)))
   rw [if_neg c1]
   refine Ev.neg c1 (Ev.neg (by omega) ?_)
   by_cases c2 : kd = 2
   ·rw [if_pos c2]
    exact Ev.pos c2 (Ev.bind (spec_l03Put_ev l _ _ _ hlen) (end_ev _))
   rw [if_neg c2]
   refine Ev.neg c2 ?_
   by_cases c3 : kd = 3
   ·rw [if_pos c3]
    refine Ev.pos c3 ?_
    by_cases c5 : x.f2 < (x.f1.size : Int)
    ·have : (if nw.toList = nm.toList then none else if x.f2 = (x.f1.size : Int) then some (putS (without l nm) ⟨nw, x.f1, x.f2⟩) else none) = (none : Option (List S67)) := by
      by_cases c4 : nw.toList = nm.toList
      ·rw [if_pos c4]
      ·rw [if_neg c4, if_neg (by omega)]
     rw [this]
     exact Ev.pos c5 (j2bad _ _ _)
    refine Ev.neg c5 ?_
    by_cases c4 : nw.toList = nm.toList
    ·rw [if_pos c4]
     exact Ev.pos c4 (j2bad _ _ _)
    rw [if_neg c4, if_pos (by omega)]
    refine Ev.neg c4 (Ev.some_bind (l03Name_eq nw) ?_)
    by_cases c6 : 1 ≤ (nw.size : Int) ∧ (nw.size : Int) ≤ 8
    ·rw [decide_eq_true c6]
     exact Ev.step (fun k => by simp only [spec_DoAct.j2]; rfl) (Ev.neg (by simp) (Ev.bind (spec_l03Without_ev l nm hlen) (Ev.bind (spec_l03Put_ev (without l nm) _ _ _ hw) (end_ev _))))
    ·rw [decide_eq_false c6, bad_put (f := ⟨nw, x.f1, x.f2⟩) c6]
     exact j2bad _ _ _
   rw [if_neg c3]
   refine Ev.neg c3 ?_
   by_cases c4 : kd = 4
   ·rw [if_pos c4]
    exact Ev.pos c4 (Ev.bind (spec_l03Without_ev l nm hlen) (end_ev _))
   ·rw [if_neg c4]
    exact Ev.neg c4 (Ev.now _)
 have txt : kd ≠ 1 → (kd = 3 ∨ nw.toList = []) → Ev (fun k => spec_DoAct.j0 k (tx.toList != ([] : List UInt8)) l kd nm tx nw) (actV l kd nm tx nw) := fun c1 g => by
  by_cases ct : tx.toList = []
  ·rw [show (tx.toList != ([] : List UInt8)) = false by rw [ct]; rfl]
   exact good g (.inr ct)
  ·rw [show (tx.toList != ([] : List UInt8)) = true by simpa using ct]
   exact bad _ (no fun z => ct (z.2.2.resolve_left c1).1)
 by_cases c3 : kd = 3
 ·exact Ev.pos c3 (Ev.neg (by omega) (txt (by omega) (.inl c3)))
 refine Ev.neg c3 ?_
 by_cases cn : nw.toList = []
 ·refine Ev.pos cn ?_
  by_cases c1 : kd = 1
  ·exact Ev.pos c1 (good (.inr cn) (.inl c1))
  ·exact Ev.neg c1 (txt c1 (.inr cn))
 ·exact Ev.neg cn (bad _ (no fun z => z.2.1.elim c3 cn))

theorem rdA_nat {l : List S41} {i : Nat} (h : i < l.length) : rd_T41 l (i : Int) = l[i] := by
 unfold rd_T41
 rw [Int.toNat_natCast, List.getD_eq_getElem?_getD, List.getElem?_eq_getElem h]
 rfl

/-! ### acts, one behind another -/
def runA : List S67 → List S41 → Nat → List S67 × Int
 | d, [], i => (d, (i : Int))
 | d, x :: l, i => if (actV d x.f0 x.f1 x.f2 x.f3).2 = true then runA (actV d x.f0 x.f1 x.f2 x.f3).1 l (i + 1) else (d, (i : Int))
theorem runA_le : ∀ (l : List S41) (d : List S67) (i : Nat), d.length ≤ 1048576 → (runA d l i).1.length ≤ 1048576
 | [], d, i, h => h
 | x :: l, d, i, h => by
  unfold runA
  split
  ·exact runA_le l _ _ (Nat.le_trans (actV_le ..) (by omega))
  ·exact h
theorem runA_at : ∀ (l : List S41) (d : List S67) (i : Nat), (i : Int) ≤ (runA d l i).2 ∧ (runA d l i).2 ≤ ((i + l.length : Nat) : Int)
 | [], d, i => ⟨Int.le_refl _, Int.le_refl _⟩
 | x :: l, d, i => by
  unfold runA
  split
  ·have := runA_at l (actV d x.f0 x.f1 x.f2 x.f3).1 (i + 1)
   rw [List.length_cons]
   omega
  ·rw [List.length_cons]
   exact ⟨Int.le_refl _, by omega⟩
theorem spec_DoActs_ev (d : List S67) (L : List S41) (hd : d.length ≤ 1048576) (hL : L.length ≤ 1048576) (ht : ∀ x ∈ L, x.f2.size ≤ 1048576) : Ev (fun k => spec_DoActs.f k d L) (runA d L 0) := by
 have key : ∀ n i : Nat, ∀ d : List S67, d.length ≤ 1048576 → i ≤ L.length → L.length - i = n → Ev (fun k => spec_DoActs.l0 k L (i : Int) d) (runA d (L.drop i) i) := by
  intro n
  induction n with
  | zero =>
   intro i d hd hi hn
   obtain rfl : i = L.length := by omega
   rw [List.drop_length]
   exact Ev.step (f := fun _ => some (d, (L.length : Int))) (fun k => by simp only [spec_DoActs.l0]; rw [if_neg (by omega)]) (Ev.now _)
  | succ n ih =>
   intro i d hd hi hn
   have ci : i < L.length := by omega
   have sp := spec_DoAct_ev d L[i].f0 L[i].f1 L[i].f2 L[i].f3 (by have := ht _ (List.getElem_mem ci); omega) hd
   have le := actV_le d L[i].f0 L[i].f1 L[i].f2 L[i].f3
   rw [List.drop_eq_getElem_cons ci]
   unfold runA
   refine Ev.step (f := fun k => (spec_DoAct.f k d L[i].f0 L[i].f1 L[i].f2 L[i].f3).bind fun b => if b.2 = true then spec_DoActs.l0 k L ((i + 1 : Nat) : Int) b.1 else some (d, (i : Int))) (fun k => ?_) (Ev.bind sp ?_)
   ·simp only [spec_DoActs.l0]
    rw [if_pos (by omega), if_pos (by omega), rdA_nat ci, wsucc (by omega)]
   ·by_cases c : (actV d L[i].f0 L[i].f1 L[i].f2 L[i].f3).2 = true
    ·simp only [if_pos c]
     exact ih (i + 1) _ (by omega) (by omega) (by omega)
    ·simp only [if_neg c]
     exact Ev.now _
 unfold spec_DoActs.f
 refine Ev.some_bind (x := []) rfl (Ev.pos (show ([] : List S67).length + d.length < 3518437208883 by rw [List.length_nil]; omega) ?_)
 exact key L.length 0 d hd (by omega) (by omega)
theorem impl_DoActs_ev (d : List S67) (L : List S41) (hd : d.length ≤ 1048576) (hL : L.length ≤ 1048576) (ht : ∀ x ∈ L, x.f2.size ≤ 1048576) : Ev (fun k => impl_DoActs.f k d L) (runA d L 0) := by
 have key : ∀ n i : Nat, ∀ d : List S67, d.length ≤ 1048576 → i ≤ L.length → L.length - i = n → Ev (fun k => impl_DoActs.l0 k L L (L.length : Int) (i : Int) d) (runA d (L.drop i) i) := by
  intro n
  induction n with
  | zero =>
   intro i d hd hi hn
   obtain rfl : i = L.length := by omega
   rw [List.drop_length]
   exact Ev.step (f := fun _ => some (d, (L.length : Int))) (fun k => by simp only [impl_DoActs.l0]; rw [if_neg (by omega)]) (Ev.now _)
  | succ n ih =>
   intro i d hd hi hn
   have ci : i < L.length := by omega
   have sp : Ev (fun k => impl_DoAct.f k d L[i].f0 L[i].f1 L[i].f2 L[i].f3) (actV d L[i].f0 L[i].f1 L[i].f2 L[i].f3) := ⟨0, fun k _ => impl_DoAct_eq k _ _ _ _ _ (by have := ht _ (List.getElem_mem ci); omega)⟩
   have le := actV_le d L[i].f0 L[i].f1 L[i].f2 L[i].f3
   rw [List.drop_eq_getElem_cons ci]
   unfold runA
   refine Ev.step (f := fun k => (impl_DoAct.f k d L[i].f0 L[i].f1 L[i].f2 L[i].f3).bind fun b => if b.2 = true then impl_DoActs.l0 k L L (L.length : Int) ((i + 1 : Nat) : Int) b.1 else some (d, (i : Int))) (fun k => ?_) (Ev.bind sp ?_)
   ·simp only [impl_DoActs.l0]
    rw [if_pos (by omega), if_pos (by omega), if_pos (by omega), rdA_nat ci, wsucc (by omega)]
   ·by_cases c : (actV d L[i].f0 L[i].f1 L[i].f2 L[i].f3).2 = true
    ·simp only [if_pos c]
     exact ih (i + 1) _ (by omega) (by omega) (by omega)
    ·simp only [if_neg c]
     exact Ev.now _
 unfold impl_DoActs.f
 refine Ev.some_bind (x := d) (by unfold impl_copyDisk.f; rw [if_pos (by omega)]) ?_
 exact key L.length 0 d hd (by omega) (by omega)

/-! ### acts cut off -/
def cutV (d : List S67) (L : List S41) (a : Int) (left : List Int) : List S67 × Bool :=
 if 0 ≤ a ∧ a ≤ (L.length : Int) then (if (runA d (L.take a.toNat) 0).2 < a then ([], false) else lostV (runA d (L.take a.toNat) 0).1 left) else ([], false)
theorem lostV_le (l : List S67) (l1 : List Int) (h : l.length ≤ 1048576) : (lostV l l1).1.length ≤ 1048576 := by
 unfold lostV
 split
 ·rw [lostP_length]; exact h
 ·exact Nat.zero_le _
theorem cutV_le (d : List S67) (L : List S41) (a : Int) (left : List Int) (hd : d.length ≤ 1048576) : (cutV d L a left).1.length ≤ 1048576 := by
 unfold cutV
 split
 ·split
  ·exact Nat.zero_le _
  ·exact lostV_le _ _ (runA_le _ _ _ hd)
 ·exact Nat.zero_le _
theorem spec_CutActs_ev (d : List S67) (L : List S41) (a : Int) (left : List Int) (hd : d.length ≤ 1048576) (hL : L.length ≤ 1048576) (ht : ∀ x ∈ L, x.f2.size ≤ 1048576) : Ev (fun k => spec_CutActs.f k d L a left) (cutV d L a left) := by
 unfold spec_CutActs.f cutV
 refine Ev.some_bind (spec_l01In_eq _ _ _) ?_
 by_cases c : 0 ≤ a ∧ a ≤ (L.length : Int)
 ·rw [if_pos c, decide_eq_true c]
  refine Ev.pos (rfl : true = true) (Ev.pos c.1 (Ev.pos c.2 (Ev.bind (spec_DoActs_ev d (L.take a.toNat) hd (Nat.le_trans (List.length_take_le _ _) (by omega)) (fun x hx => ht x (List.mem_of_mem_take hx))) ?_)))
  by_cases c2 : (runA d (L.take a.toNat) 0).2 < a
  ·rw [if_pos c2]
   exact Ev.pos c2 (Ev.now _)
  ·rw [if_neg c2]
   exact Ev.neg c2 (Ev.bind (spec_LoseDisk_ev _ left (runA_le _ _ _ hd)) (Ev.now _))
 ·rw [if_neg c, decide_eq_false c]
  exact Ev.neg (by simp) (Ev.now _)
theorem impl_CutActs_ev (d : List S67) (L : List S41) (a : Int) (left : List Int) (hd : d.length ≤ 1048576) (hL : L.length ≤ 1048576) (ht : ∀ x ∈ L, x.f2.size ≤ 1048576) : Ev (fun k => impl_CutActs.f k d L a left) (cutV d L a left) := by
 unfold impl_CutActs.f cutV
 refine Ev.some_bind (impl_within_eq _ _ _) ?_
 by_cases c : 0 ≤ a ∧ a ≤ (L.length : Int)
 ·rw [if_pos c, decide_eq_true c]
  refine Ev.pos (rfl : true = true) (Ev.pos c.1 (Ev.pos c.2 (Ev.bind (impl_DoActs_ev d (L.take a.toNat) hd (Nat.le_trans (List.length_take_le _ _) (by omega)) (fun x hx => ht x (List.mem_of_mem_take hx))) ?_)))
  by_cases c2 : (runA d (L.take a.toNat) 0).2 < a
  ·rw [if_pos c2]
   exact Ev.pos c2 (Ev.now _)
  ·rw [if_neg c2]
   exact Ev.neg c2 (Ev.bind (impl_LoseDisk_ev _ left (runA_le _ _ _ hd)) (Ev.now _))
 ·rw [if_neg c, decide_eq_false c]
  exact Ev.neg (by simp) (Ev.now _)

/-! ### what is drawn -/
theorem and255_range (x : Int) : 0 ≤ Go.bits .and .i64 x 255 ∧ Go.bits .and .i64 x 255 ≤ 255 := by
 have e : ((BitVec.ofInt 64 x) &&& (BitVec.ofInt 64 255)).toNat = (x % 18446744073709551616).toNat % 256 := by
  rw [BitVec.toNat_and, BitVec.toNat_ofInt, show (BitVec.ofInt 64 255).toNat = 2 ^ 8 - 1 by decide, Nat.and_two_pow_sub_one_eq_mod]
  rfl
 have e2 : Go.bits .and .i64 x 255 = IntKind.i64.wrap (((BitVec.ofInt 64 x) &&& (BitVec.ofInt 64 255)).toNat : Int) := rfl
 rw [e2, e, IntKind.wrap_i64]
 omega
theorem byte_ex (l : List Int) (i h : Int) (hl : l.length ≤ 140737488351232) (hi : 0 ≤ i) : ∃ x i' h', spec_l01Byte.f l i h = some (x, i', h') ∧ 0 ≤ x ∧ x ≤ 255 ∧ 0 ≤ i' := by
 unfold spec_l01Byte.f
 by_cases c : i < (l.length : Int)
 ·rw [if_pos c, if_pos hi]
  refine ⟨_, _, _, rfl, (and255_range _).1, (and255_range _).2, ?_⟩
  rw [w64 (by omega) (by omega)]
  omega
 ·rw [if_neg c]
  exact ⟨_, _, _, rfl, (and255_range _).1, (and255_range _).2, hi⟩
theorem below_ex (l : List Int) (i h n : Int) (hl : l.length ≤ 140737488351232) (hi : 0 ≤ i) (hn : n ≤ 4294967296) : ∃ x i' h', spec_l01Below.f l i h n = some (x, i', h') ∧ 0 ≤ x ∧ (0 < n → x < n) ∧ (n ≤ 0 → x = 0) ∧ 0 ≤ i' := by
 unfold spec_l01Below.f
 by_cases c1 : n ≤ 0
 ·rw [if_pos c1]
  exact ⟨_, _, _, rfl, by omega, by omega, fun _ => rfl, hi⟩
 ·rw [if_neg c1]
  by_cases c2 : n ≤ 256
  ·rw [if_pos c2]
   obtain ⟨x, i1, h1, e1, b0, b1, hi1⟩ := byte_ex l i h hl hi
   simp only [e1, Option.bind_some]
   rw [if_neg (by omega)]
   refine ⟨_, _, _, rfl, Int.tmod_nonneg _ b0, fun _ => ?_, by omega, hi1⟩
   exact Int.tmod_lt_of_pos _ (by omega)
  ·rw [if_neg c2]
   obtain ⟨x, i1, h1, e1, x0, x1, hi1⟩ := byte_ex l i h hl hi
   obtain ⟨y, i2, h2, e2, y0, y1, hi2⟩ := byte_ex l i1 h1 hl hi1
   obtain ⟨z, i3, h3, e3, z0, z1, hi3⟩ := byte_ex l i2 h2 hl hi2
   obtain ⟨u, i4, h4, e4, u0, u1, hi4⟩ := byte_ex l i3 h3 hl hi3
   simp only [e1, e2, e3, e4, Option.bind_some]
   rw [if_neg (by omega)]
   refine ⟨_, _, _, rfl, Int.tmod_nonneg _ ?_, fun _ => Int.tmod_lt_of_pos _ (by omega), by omega, hi4⟩
   rw [w64 (x := x * 16777216) (by omega) (by omega), w64 (x := y * 65536) (by omega) (by omega), w64 (x := z * 256) (by omega) (by omega), w64 (x := x * 16777216 + y * 65536) (by omega) (by omega), w64 (x := x * 16777216 + y * 65536 + z * 256) (by omega) (by omega), w64 (by omega) (by omega)]
   omega
theorem new_ev (l : List Int) (hl : l.length ≤ 140737488351232) : ∃ h, Ev (fun k => spec_l01New.f k l) (l, 0, h) := by
 have key : ∀ d (i : Nat) (h : Int), l.length - i = d → ∃ h', Ev (fun k => spec_l01New.l0 k l h (i : Int)) (l, 0, h') := by
  intro d
  induction d with
  | zero =>
   intro i h hd
   exact ⟨h, Ev.step (f := fun _ => some (l, 0, h)) (fun k => by simp only [spec_l01New.l0]; rw [if_neg (by omega)]) (Ev.now _)⟩
  | succ d ih =>
   intro i h hd
   by_cases c : (i : Int) < 4000
   ·obtain ⟨h', hh⟩ := ih (i + 1) _ (by omega)
    refine ⟨h', Ev.step (fun k => ?_) hh⟩
    simp only [spec_l01New.l0]
    rw [if_pos (by omega), if_pos c, if_pos (by omega), wsucc (by omega)]
   ·exact ⟨h, Ev.step (f := fun _ => some (l, 0, h)) (fun k => by simp only [spec_l01New.l0]; rw [if_pos (by omega), if_neg c]) (Ev.now _)⟩
 obtain ⟨h', hh⟩ := key l.length 0 (wrap64 (36801 + (l.length : Int))) (by omega)
 exact ⟨h', hh⟩

theorem text_ev (l : List Int) (i h n : Int) (hl : l.length ≤ 140737488351232) (hi : 0 ≤ i) (hn : n ≤ 5000) : ∃ t i' h', Ev (fun k => spec_l01Text.f k l i h n) (t, i', h') ∧ t.size = n.toNat ∧ 0 ≤ i' := by
 have key : ∀ d (j : Nat) (acc : List Int) (i h : Int), j ≤ n.toNat → n.toNat - j = d → acc.length = j → 0 ≤ i → ∃ t i' h', Ev (fun k => spec_l01Text.l0 k n acc (j : Int) l i h) (t, i', h') ∧ t.size = n.toNat ∧ 0 ≤ i' := by
  intro d
  induction d with
  | zero =>
   intro j acc i h hj hd ha hi
   refine ⟨strOfNums acc, i, h, Ev.step (f := fun _ => some (strOfNums acc, i, h)) (fun k => by simp only [spec_l01Text.l0]; rw [if_neg (by omega)]) (Ev.now _), ?_, hi⟩
   rw [strOfNums_size]
   omega
  | succ d ih =>
   intro j acc i h hj hd ha hi
   obtain ⟨y, i2, h2, e2, _, _, hi2⟩ := byte_ex l i h hl hi
   obtain ⟨t, i3, h3, hp, hp1, hp2⟩ := ih (j + 1) (acc ++ [y % 256]) i2 h2 (by omega) (by omega) (by simp; omega) hi2
   refine ⟨t, i3, h3, Ev.step (fun k => ?_) hp, hp1, hp2⟩
   simp only [spec_l01Text.l0]
   rw [if_pos (by omega), e2]
   simp only [Option.bind_some]
   rw [if_pos (by omega), wsucc (by omega)]
 obtain ⟨t, i', h', ht, hs, hi'⟩ := key n.toNat 0 [] i h (by omega) (by omega) rfl hi
 refine ⟨t, i', h', ?_, hs, hi'⟩
 unfold spec_l01Text.f
 simp only [if_neg (show ¬ n > 5000 by omega)]
 exact Ev.step (fun k => by simp only [spec_l01Text.j0]; rfl) ht

theorem long_ev (n : Nat) (x : Int) (hn : n ≤ 100000) : ∃ t, Ev (fun k => spec_l01Long.f k (n : Int) x) t ∧ t.size = n := by
 have key : ∀ d (j : Nat) (acc : List Int), j ≤ n → n - j = d → acc.length = n → ∃ t, Ev (fun k => spec_l01Long.l0 k (n : Int) x acc (j : Int)) t ∧ t.size = n := by
  intro d
  induction d with
  | zero =>
   intro j acc hj hd ha
   exact ⟨strOfNums acc, Ev.step (f := fun _ => some (strOfNums acc)) (fun k => by simp only [spec_l01Long.l0]; rw [if_neg (by omega)]) (Ev.now _), by rw [strOfNums_size]; exact ha⟩
  | succ d ih =>
   intro j acc hj hd ha
   obtain ⟨t, ht, hs⟩ := ih (j + 1) (acc.set j x) (by omega) (by omega) (by rw [List.length_set]; exact ha)
   refine ⟨t, Ev.step (fun k => ?_) ht, hs⟩
   simp only [spec_l01Long.l0]
   rw [if_pos (by omega), if_pos (by omega), if_pos (by omega), wsucc (by omega)]
   rfl
 obtain ⟨t, ht, hs⟩ := key n 0 (List.replicate n 0) (by omega) (by omega) (by simp)
 refine ⟨t, ?_, hs⟩
 unfold spec_l01Long.f
 simp only [if_pos (show 0 ≤ (n : Int) by omega), Int.toNat_natCast, if_pos (show n ≤ 281474976710656 by omega)]
 exact ht

theorem once_ex (l : List Int) (i h n : Int) (hl : l.length ≤ 140737488351232) (hi : 0 ≤ i) (hn : n ≤ 4294967296) : ∃ b i' h', spec_l01Once.f l i h n = some (b, i', h') ∧ 0 ≤ i' := by
 obtain ⟨x, i1, h1, e1, _, _, _, hi1⟩ := below_ex l i h n hl hi hn
 unfold spec_l01Once.f
 simp only [e1, Option.bind_some]
 exact ⟨_, _, _, rfl, hi1⟩

/-! ### what is drawn: a disk, acts, a place, what is left -/
theorem pickInt_ex (l : List Int) (i h : Int) (p : List Int) (hl : l.length ≤ 140737488351232) (hi : 0 ≤ i) (h0 : 0 < p.length) (h1 : p.length ≤ 256) : ∃ x i' h', spec_l01PickInt.f l i h p = some (x, i', h') ∧ 0 ≤ i' := by
 obtain ⟨x, i1, h1, e1, x0, x1, _, hi1⟩ := below_ex l i h (p.length : Int) hl hi (by omega)
 have x1 := x1 (by omega)
 unfold spec_l01PickInt.f
 simp only [e1, Option.bind_some]
 rw [if_pos x0, if_pos x1]
 exact ⟨_, _, _, rfl, hi1⟩
theorem pick_ex (l : List Int) (i h : Int) (p : List ByteArray) (hl : l.length ≤ 140737488351232) (hi : 0 ≤ i) (h0 : 0 < p.length) (h1 : p.length ≤ 256) : ∃ x i' h', spec_l01Pick.f l i h p = some (x, i', h') ∧ 0 ≤ i' := by
 obtain ⟨x, i1, h1, e1, x0, x1, _, hi1⟩ := below_ex l i h (p.length : Int) hl hi (by omega)
 have x1 := x1 (by omega)
 unfold spec_l01Pick.f
 simp only [e1, Option.bind_some]
 rw [if_pos x0, if_pos x1]
 exact ⟨_, _, _, rfl, hi1⟩
theorem named_ex (l : List Int) (i h : Int) (hl : l.length ≤ 140737488351232) (hi : 0 ≤ i) : ∃ s i' h', spec_l03Named.f l i h = some (s, i', h') ∧ 0 ≤ i' := by
 unfold spec_l03Named.f
 obtain ⟨x, i1, h1, e1, hi1⟩ := pick_ex l i h [(⟨#[97]⟩ : ByteArray), (⟨#[98]⟩ : ByteArray), (⟨#[99]⟩ : ByteArray), (⟨#[108, 111, 103]⟩ : ByteArray), (⟨#[108, 111, 103, 43]⟩ : ByteArray), (⟨#[120]⟩ : ByteArray), (⟨#[121]⟩ : ByteArray), (⟨#[122]⟩ : ByteArray)] hl hi (by simp) (by simp)
 exact ⟨x, i1, h1, by rw [e1]; rfl, hi1⟩
theorem fig_ex {x : Int} (h : x < 10) : ∃ y, spec_l01Figure.f x = some y := ⟨_, if_pos h⟩
theorem dec_ex : ∀ (d n : Nat) (s : ByteArray), n < 10 ^ d → d ≤ 10 → s.size + d ≤ 1000 → ∃ t, Ev (fun k => spec_Decimal.l0 k (n : Int) false s) t ∧ t.size ≤ s.size + d := by
 intro d
 induction d with
 | zero =>
  intro n s hn _ hs
  obtain rfl : n = 0 := by simpa using hn
  exact ⟨s, Ev.step (f := fun _ => some s) (fun k => by simp only [spec_Decimal.l0]; rw [if_pos (show ((0 : Nat) : Int) = 0 from rfl), if_neg (by simp)]) (Ev.now _), by omega⟩
 | succ d ih =>
  intro n s hn hd hs
  by_cases c : n = 0
  ·subst c
   exact ⟨s, Ev.step (f := fun _ => some s) (fun k => by simp only [spec_Decimal.l0]; rw [if_pos (show ((0 : Nat) : Int) = 0 from rfl), if_neg (by simp)]) (Ev.now _), by omega⟩
  ·have h10 : (10 : Nat) ^ d ≤ 10 ^ 9 := Nat.pow_le_pow_right (by omega) (by omega)
   have e1 : Int.tmod (n : Int) 10 = ((n % 10 : Nat) : Int) := rfl
   have e2 : Int.tdiv (n : Int) 10 = ((n / 10 : Nat) : Int) := rfl
   obtain ⟨y, hy⟩ := fig_ex (x := ((n % 10 : Nat) : Int)) (by omega)
   have z1 : (strOfNums [y]).size = 1 := strOfNums_size _
   have z2 : (strOfNums [y] ++ s).size = 1 + s.size := by rw [ByteArray.size_append, z1]
   rw [Nat.pow_succ] at hn
   obtain ⟨t, ht, hs2⟩ := ih (n / 10) (strOfNums [y] ++ s) (by omega) (by omega) (by omega)
   refine ⟨t, Ev.step (fun k => ?_) ht, by omega⟩
   simp only [spec_Decimal.l0]
   rw [if_neg (by omega), e1, e2, if_neg (by omega), hy]
   simp only [Option.bind_some]
   rw [if_pos (by omega), wnat (by omega)]
theorem step3 {α β γ : Type} {g f : Nat → Option (α × β × γ)} {P : α → β → γ → Prop} (h : ∀ k, g (k + 1) = f k) : (∃ a b c, Ev f (a, b, c) ∧ P a b c) → ∃ a b c, Ev g (a, b, c) ∧ P a b c := fun ⟨a, b, c, k, p⟩ => ⟨a, b, c, Ev.step h k, p⟩
theorem step6 {α β γ δ ε ζ : Type} {g f : Nat → Option (α × β × γ × δ × ε × ζ)} {P : α → β → γ → δ → ε → ζ → Prop} (h : ∀ k, g (k + 1) = f k) : (∃ a b c d e z, Ev f (a, b, c, d, e, z) ∧ P a b c d e z) → ∃ a b c d e z, Ev g (a, b, c, d, e, z) ∧ P a b c d e z := fun ⟨a, b, c, d, e, z, k, p⟩ => ⟨a, b, c, d, e, z, Ev.step h k, p⟩
theorem diskMany (l : List Int) (hl : l.length ≤ 140737488351232) : ∀ m (j : Nat) (acc : List S67) (i h : Int), j ≤ 31 → 31 - j = m → acc.length = j → 0 ≤ i → ∃ d i' h', Ev (fun k => spec_l03Disk.l1 k (j : Int) l i h acc) (d, i', h') ∧ d.length ≤ 40 ∧ 0 ≤ i' := by
 intro m
 induction m with
 | zero =>
  intro j acc i h hj hm ha hi
  obtain ⟨x, i1, h1, e1, x0, x1, _, hi1⟩ := below_ex l i h 2 hl hi (by omega)
  have x1 := x1 (by omega)
  have c : ¬ (j : Int) < 30 + x := by omega
  refine step3 (fun k => by simp only [spec_l03Disk.l1]; rfl) ?_
  simp only [e1, Option.bind_some, w64 (x := 30 + x) (by omega) (by omega), if_neg c]
  exact ⟨_, _, _, Ev.now _, by omega, hi1⟩
 | succ m ih =>
  intro j acc i h hj hm ha hi
  obtain ⟨x, i1, h1, e1, x0, x1, _, hi1⟩ := below_ex l i h 2 hl hi (by omega)
  have x1 := x1 (by omega)
  refine step3 (fun k => by simp only [spec_l03Disk.l1]; rfl) ?_
  simp only [e1, Option.bind_some, w64 (x := 30 + x) (by omega) (by omega)]
  by_cases c : (j : Int) < 30 + x
  ·obtain ⟨t, ht, hs⟩ := dec_ex 3 (100 + j) (⟨#[]⟩ : ByteArray) (by omega) (by omega) (by decide)
   replace hs : t.size ≤ 3 := hs
   have hn : ¬ ((100 + j : Nat) : Int) < 0 := by omega
   have hz : ¬ ((100 + j : Nat) : Int) = 0 := by omega
   have g1 : 1 + t.size ≤ 9223372036854775807 := by omega
   have g2 : acc.length < 3518437208883 := by omega
   have g3 : -9223372036854775808 ≤ 100 + (j : Int) ∧ 100 + (j : Int) ≤ 9223372036854775807 := by omega
   have g4 : j ≤ 4611686018427387904 := by omega
   have hd : Ev (fun k => spec_Decimal.f k ((100 + j : Nat) : Int)) t := by
    unfold spec_Decimal.f
    rw [decide_eq_false hn]
    exact Ev.neg hz ht
   obtain ⟨d, i2, h2, hd2, hl2, hi2⟩ := ih (j + 1) (acc ++ [(⟨(⟨#[102]⟩ : ByteArray) ++ t, (⟨#[]⟩ : ByteArray), 0⟩ : S67)]) i1 h1 (by omega) (by omega) (by simp [ha]) hi1
   have e : wrap64 (100 + (j : Int)) = ((100 + j : Nat) : Int) := w64 g3.1 g3.2
   have hj2 := wsucc g4
   refine ⟨d, i2, h2, ?_, hl2, hi2⟩
   simp only [if_pos c, e, hj2]
   exact Ev.bind hd (Ev.pos g1 (Ev.pos g2 hd2))
  ·simp only [if_neg c]
   exact ⟨_, _, _, Ev.now _, by omega, hi1⟩
theorem diskLast (l : List Int) (hl : l.length ≤ 140737488351232) (j : Nat) (acc : List S67) (i h x i1 h1 : Int) (ha : acc.length ≤ 6) (e1 : spec_l01Below.f l i h 6 = some (x, i1, h1)) (c : ¬ (j : Int) < x) (hi1 : 0 ≤ i1) : ∃ d i' h', Ev (fun k => spec_l03Disk.l0 k (j : Int) l i h acc) (d, i', h') ∧ d.length ≤ 40 ∧ 0 ≤ i' := by
 refine step3 (fun k => by simp only [spec_l03Disk.l0]; rfl) ?_
 simp only [e1, Option.bind_some, if_neg c]
 by_cases c0 : (acc.length : Int) = 0
 ·simp only [if_pos c0]
  exact ⟨_, _, _, Ev.now _, by omega, hi1⟩
 obtain ⟨y, i2, h2, e2, y0, y1, _, hi2⟩ := below_ex l i1 h1 (acc.length : Int) hl hi1 (by omega)
 have y1 := y1 (by omega)
 obtain ⟨z, i3, h3, e3, z0, z1, _, hi3⟩ := below_ex l i2 h2 40 hl hi2 (by omega)
 simp only [if_neg c0, e2, e3, Option.bind_some]
 have hset : ∀ v, (acc.set y.toNat v).length ≤ 40 := fun v => by rw [List.length_set]; omega
 by_cases z_0 : z = 0
 ·obtain ⟨u, i4, h4, e4, hi4⟩ := pickInt_ex l i3 h3 [(-1), wrap64 ((((rd_T67 acc y).f1).size : Int) + 1)] hl hi3 (by simp) (by simp)
  simp only [if_pos z_0, if_pos y0, if_pos y1, e4, Option.bind_some]
  exact ⟨_, _, _, Ev.now _, hset _, hi4⟩
 by_cases z_1 : z = 1
 ·simp only [if_neg z_0, if_pos z_1, if_pos y0, if_pos y1]
  have g2 : acc.length < 3518437208883 := by omega
  exact ⟨_, _, _, Ev.pos g2 (Ev.now _), by rw [List.length_append, List.length_singleton]; omega, hi3⟩
 by_cases z_2 : z = 2
 ·obtain ⟨u, i4, h4, e4, hi4⟩ := pick_ex l i3 h3 [(⟨#[]⟩ : ByteArray), (⟨#[49, 50, 51, 52, 53, 54, 55, 56]⟩ : ByteArray), (⟨#[49, 50, 51, 52, 53, 54, 55, 56, 57]⟩ : ByteArray)] hl hi3 (by simp) (by simp)
  simp only [if_neg z_0, if_neg z_1, if_pos z_2, if_pos y0, if_pos y1, e4, Option.bind_some]
  exact ⟨_, _, _, Ev.now _, hset _, hi4⟩
 by_cases z_3 : z = 3
 ·simp only [if_neg z_0, if_neg z_1, if_neg z_2, if_pos z_3]
  exact diskMany l hl 31 0 [] i3 h3 (by omega) (by omega) rfl hi3
 by_cases z_4 : z = 4
 ·obtain ⟨u, i4, h4, e4, u0, u1, _, hi4⟩ := below_ex l i3 h3 3 hl hi3 (by omega)
  have u1 := u1 (by omega)
  obtain ⟨n, hn⟩ := Int.eq_ofNat_of_zero_le (show 0 ≤ 19999 + u by omega)
  have ew : wrap64 (19999 + u) = (n : Int) := by rw [w64 (by omega) (by omega), hn]
  have hn2 : n ≤ 100000 := by omega
  obtain ⟨t, ht, _⟩ := long_ev n 65 hn2
  simp only [if_neg z_0, if_neg z_1, if_neg z_2, if_neg z_3, if_pos z_4, e4, Option.bind_some, ew]
  exact ⟨_, _, _, Ev.bind ht (Ev.pos y0 (Ev.pos y1 (Ev.now _))), hset _, hi4⟩
 ·simp only [if_neg z_0, if_neg z_1, if_neg z_2, if_neg z_3, if_neg z_4]
  exact ⟨_, _, _, Ev.now _, by omega, hi3⟩
theorem l03Disk_ev (l : List Int) (i h : Int) (hl : l.length ≤ 140737488351232) (hi : 0 ≤ i) : ∃ d i' h', Ev (fun k => spec_l03Disk.f k l i h) (d, i', h') ∧ d.length ≤ 40 ∧ 0 ≤ i' := by
 have key : ∀ m (j : Nat) (acc : List S67) (i h : Int), j ≤ 6 → 6 - j = m → acc.length ≤ j → 0 ≤ i → ∃ d i' h', Ev (fun k => spec_l03Disk.l0 k (j : Int) l i h acc) (d, i', h') ∧ d.length ≤ 40 ∧ 0 ≤ i' := by
  intro m
  induction m with
  | zero =>
   intro j acc i h hj hm ha hi
   obtain ⟨x, i1, h1, e1, x0, x1, _, hi1⟩ := below_ex l i h 6 hl hi (by omega)
   have x1 := x1 (by omega)
   exact diskLast l hl j acc i h x i1 h1 (by omega) e1 (by omega) hi1
  | succ m ih =>
   intro j acc i h hj hm ha hi
   obtain ⟨x, i1, h1, e1, x0, x1, _, hi1⟩ := below_ex l i h 6 hl hi (by omega)
   by_cases c : (j : Int) < x
   ·obtain ⟨y, i2, h2, e2, y0, y1, _, hi2⟩ := below_ex l i1 h1 9 hl hi1 (by omega)
    have y1 := y1 (by omega)
    obtain ⟨t, i3, h3, e3, t1, hi3⟩ := text_ev l i2 h2 y hl hi2 (by omega)
    obtain ⟨s, i4, h4, e4, hi4⟩ := named_ex l i3 h3 hl hi3
    have hts : t.size ≤ 100 := by omega
    obtain ⟨q, i5, h5, e5, _, _, _, hi5⟩ := below_ex l i4 h4 ((t.size + 1 : Nat) : Int) hl hi4 (by omega)
    have hlen := putS_length acc ⟨s, t, q⟩
    obtain ⟨d, i6, h6, hd, hd1, hi6⟩ := ih (j + 1) (putS acc ⟨s, t, q⟩) i5 h5 (by omega) (by omega) (by omega) hi5
    have hpl := spec_l03Put_ev acc s t q (by omega)
    have g4 : j ≤ 4611686018427387904 := by omega
    have g5 : t.size ≤ 4611686018427387904 := by omega
    have hj2 := wsucc g4
    have hw : wrap64 ((t.size : Int) + 1) = ((t.size + 1 : Nat) : Int) := wsucc g5
    refine ⟨d, i6, h6, ?_, hd1, hi6⟩
    refine Ev.step (fun k => by simp only [spec_l03Disk.l0]; rfl) ?_
    refine Ev.some_bind e1 (Ev.pos c (Ev.some_bind e2 (Ev.bind e3 (Ev.some_bind e4 ?_))))
    simp only [hw, hj2]
    exact Ev.some_bind e5 (Ev.bind hpl hd)
   ·exact diskLast l hl j acc i h x i1 h1 (by omega) e1 c hi1
 exact key 6 0 [] i h (by omega) (by omega) (by simp) hi
theorem l03Act_ev (l : List Int) (i h : Int) (hl : l.length ≤ 140737488351232) (hi : 0 ≤ i) : ∃ kd nm tx nw i' h', Ev (fun k => spec_l03Act.f k l i h) (kd, nm, tx, nw, i', h') ∧ tx.size ≤ 1048576 ∧ 0 ≤ i' := by
 have tail : ∀ (i h kd : Int) (nm tx nw : ByteArray), 0 ≤ i → tx.size ≤ 1048576 → ∃ kd' nm' tx' nw' i' h', Ev (fun k => spec_l03Act.j0 k l i h kd nm tx nw) (kd', nm', tx', nw', i', h') ∧ tx'.size ≤ 1048576 ∧ 0 ≤ i' := by
  intro i h kd nm tx nw hi ht
  obtain ⟨z, i3, h3, e3, z0, z1, _, hi3⟩ := below_ex l i h 40 hl hi (by omega)
  refine step6 (fun k => by simp only [spec_l03Act.j0]; rfl) ?_
  simp only [e3, Option.bind_some]
  by_cases z_0 : z = 0
  ·obtain ⟨u, i4, h4, e4, hi4⟩ := pickInt_ex l i3 h3 [0, 5] hl hi3 (by simp) (by simp)
   simp only [if_pos z_0, e4, Option.bind_some]
   exact ⟨_, _, _, _, _, _, Ev.now _, ht, hi4⟩
  by_cases z_1 : z = 1
  ·obtain ⟨u, i4, h4, e4, hi4⟩ := pick_ex l i3 h3 [(⟨#[]⟩ : ByteArray), (⟨#[49, 50, 51, 52, 53, 54, 55, 56, 57]⟩ : ByteArray), (⟨#[110, 101, 119]⟩ : ByteArray)] hl hi3 (by simp) (by simp)
   simp only [if_neg z_0, if_pos z_1, e4, Option.bind_some]
   exact ⟨_, _, _, _, _, _, Ev.now _, ht, hi4⟩
  by_cases z_2 : z = 2
  ·simp only [if_neg z_0, if_neg z_1, if_pos z_2]
   exact ⟨_, _, _, _, _, _, Ev.now _, ht, hi3⟩
  by_cases z_3 : z = 3
  ·simp only [if_neg z_0, if_neg z_1, if_neg z_2, if_pos z_3]
   exact ⟨_, _, _, _, _, _, Ev.now _, by decide, hi3⟩
  ·simp only [if_neg z_0, if_neg z_1, if_neg z_2, if_neg z_3]
   exact ⟨_, _, _, _, _, _, Ev.now _, ht, hi3⟩
 obtain ⟨x, i1, h1, e1, x0, x1, _, hi1⟩ := below_ex l i h 4 hl hi (by omega)
 obtain ⟨s, i2, h2, e2, hi2⟩ := named_ex l i1 h1 hl hi1
 unfold spec_l03Act.f
 by_cases c1 : wrap64 (1 + x) = 1
 ·obtain ⟨y, i3, h3, e3, y0, y1, _, hi3⟩ := below_ex l i2 h2 6 hl hi2 (by omega)
  have y1 := y1 (by omega)
  obtain ⟨t, i4, h4, e4, t1, hi4⟩ := text_ev l i3 h3 y hl hi3 (by omega)
  obtain ⟨kd, nm, tx, nw, i5, h5, hp, hp1, hp2⟩ := tail i4 h4 (wrap64 (1 + x)) s t (⟨#[]⟩ : ByteArray) hi4 (by omega)
  exact ⟨kd, nm, tx, nw, i5, h5, Ev.some_bind e1 (Ev.some_bind e2 (Ev.pos c1 (Ev.some_bind e3 (Ev.bind e4 hp)))), hp1, hp2⟩
 by_cases c3 : wrap64 (1 + x) = 3
 ·obtain ⟨s2, i3, h3, e3, hi3⟩ := named_ex l i2 h2 hl hi2
  obtain ⟨kd, nm, tx, nw, i5, h5, hp, hp1, hp2⟩ := tail i3 h3 (wrap64 (1 + x)) s (⟨#[]⟩ : ByteArray) s2 hi3 (by decide)
  exact ⟨kd, nm, tx, nw, i5, h5, Ev.some_bind e1 (Ev.some_bind e2 (Ev.neg c1 (Ev.pos c3 (Ev.some_bind e3 hp)))), hp1, hp2⟩
 ·obtain ⟨kd, nm, tx, nw, i5, h5, hp, hp1, hp2⟩ := tail i2 h2 (wrap64 (1 + x)) s (⟨#[]⟩ : ByteArray) (⟨#[]⟩ : ByteArray) hi2 (by decide)
  exact ⟨kd, nm, tx, nw, i5, h5, Ev.some_bind e1 (Ev.some_bind e2 (Ev.neg c1 (Ev.neg c3 hp))), hp1, hp2⟩
theorem l03Acts_ev (l : List Int) (i h : Int) (d : List S67) (hl : l.length ≤ 140737488351232) (hi : 0 ≤ i) (hd : d.length ≤ 1048576) : ∃ L i' h', Ev (fun k => spec_l03Acts.f k l i h d) (L, i', h') ∧ L.length ≤ 9 ∧ (∀ x ∈ L, x.f2.size ≤ 1048576) ∧ 0 ≤ i' := by
 have key : ∀ m (j : Nat) (acc : List S41) (i h : Int) (d : List S67), j ≤ 9 → 9 - j = m → acc.length ≤ j → (∀ x ∈ acc, x.f2.size ≤ 1048576) → 0 ≤ i → d.length ≤ 1048576 → ∃ L i' h', Ev (fun k => spec_l03Acts.l0 k acc (j : Int) l i h d) (L, i', h') ∧ L.length ≤ 9 ∧ (∀ x ∈ L, x.f2.size ≤ 1048576) ∧ 0 ≤ i' := by
  intro m
  induction m with
  | zero =>
   intro j acc i h d hj hm ha ht hi hd
   obtain ⟨x, i1, h1, e1, x0, x1, _, hi1⟩ := below_ex l i h 9 hl hi (by omega)
   have x1 := x1 (by omega)
   have c : ¬ (j : Int) < x := by omega
   refine ⟨acc, i1, h1, ?_, by omega, ht, hi1⟩
   refine Ev.step (fun k => by simp only [spec_l03Acts.l0]; rfl) ?_
   exact Ev.some_bind e1 (Ev.neg c (Ev.now _))
  | succ m ih =>
   intro j acc i h d hj hm ha ht hi hd
   obtain ⟨x, i1, h1, e1, x0, x1, _, hi1⟩ := below_ex l i h 9 hl hi (by omega)
   by_cases c : (j : Int) < x
   ·obtain ⟨kd, nm, tx, nw, i2, h2, e2, t2, hi2⟩ := l03Act_ev l i1 h1 hl hi1
    have sp := spec_DoAct_ev d kd nm tx nw (by omega) hd
    have le := actV_le d kd nm tx nw
    have g4 : j ≤ 4611686018427387904 := by omega
    have g2 : acc.length < 2513169434916 := by omega
    have ht2 : ∀ x ∈ acc ++ [(⟨kd, nm, tx, nw⟩ : S41)], x.f2.size ≤ 1048576 := fun x hx => by
     rcases List.mem_append.1 hx with hx | hx
     ·exact ht x hx
     ·rw [List.mem_singleton.1 hx]; exact t2
    by_cases c2 : (actV d kd nm tx nw).2 = true
    ·obtain ⟨L, i3, h3, hL, b1, b2, b3⟩ := ih (j + 1) (acc ++ [(⟨kd, nm, tx, nw⟩ : S41)]) i2 h2 (actV d kd nm tx nw).1 (by omega) (by omega) (by simp; omega) ht2 hi2 (by omega)
     refine ⟨L, i3, h3, ?_, b1, b2, b3⟩
     refine Ev.step (fun k => by simp only [spec_l03Acts.l0]; rfl) ?_
     refine Ev.some_bind e1 (Ev.pos c (Ev.bind e2 (Ev.bind sp ?_)))
     simp only [wsucc g4]
     exact Ev.pos c2 (Ev.pos g2 hL)
    ·obtain ⟨b, i3, h3, e3, hi3⟩ := once_ex l i2 h2 20 hl hi2 (by omega)
     by_cases c3 : b = true
     ·obtain ⟨L, i4, h4, hL, b1, b2, b3⟩ := ih (j + 1) (acc ++ [(⟨kd, nm, tx, nw⟩ : S41)]) i3 h3 (actV d kd nm tx nw).1 (by omega) (by omega) (by simp; omega) ht2 hi3 (by omega)
      refine ⟨L, i4, h4, ?_, b1, b2, b3⟩
      refine Ev.step (fun k => by simp only [spec_l03Acts.l0]; rfl) ?_
      refine Ev.some_bind e1 (Ev.pos c (Ev.bind e2 (Ev.bind sp ?_)))
      simp only [wsucc g4]
      exact Ev.neg c2 (Ev.some_bind e3 (Ev.pos c3 (Ev.pos g2 hL)))
     ·obtain ⟨L, i4, h4, hL, b1, b2, b3⟩ := ih (j + 1) acc i3 h3 d (by omega) (by omega) (by omega) ht hi3 hd
      refine ⟨L, i4, h4, ?_, b1, b2, b3⟩
      refine Ev.step (fun k => by simp only [spec_l03Acts.l0]; rfl) ?_
      refine Ev.some_bind e1 (Ev.pos c (Ev.bind e2 (Ev.bind sp ?_)))
      simp only [wsucc g4]
      exact Ev.neg c2 (Ev.some_bind e3 (Ev.neg c3 hL))
   ·refine ⟨acc, i1, h1, ?_, by omega, ht, hi1⟩
    refine Ev.step (fun k => by simp only [spec_l03Acts.l0]; rfl) ?_
    exact Ev.some_bind e1 (Ev.neg c (Ev.now _))
 exact key 9 0 [] i h d (by omega) (by omega) (by simp) (by simp) hi hd
theorem place_ex (l : List Int) (i h a : Int) (hl : l.length ≤ 140737488351232) (hi : 0 ≤ i) (ha : a ≤ 4294967296) : ∃ x i' h', spec_l01Place.f l i h a = some (x, i', h') ∧ 0 ≤ i' := by
 obtain ⟨b, i1, h1, e1, hi1⟩ := once_ex l i h 15 hl hi (by omega)
 unfold spec_l01Place.f
 simp only [e1, Option.bind_some]
 by_cases c : b = true
 ·obtain ⟨x, i2, h2, e2, hi2⟩ := pickInt_ex l i1 h1 [(-1), a, wrap64 (a + 1), 9223372036854775807, (-9223372036854775808)] hl hi1 (by simp) (by simp)
  simp only [if_pos c, e2, Option.bind_some]
  exact ⟨_, _, _, rfl, hi2⟩
 ·obtain ⟨x, i2, h2, e2, _, _, _, hi2⟩ := below_ex l i1 h1 a hl hi1 ha
  simp only [if_neg c, e2, Option.bind_some]
  exact ⟨_, _, _, rfl, hi2⟩
theorem left_ev (l : List Int) (i h : Int) (hl : l.length ≤ 140737488351232) (hi : 0 ≤ i) : ∃ q i' h', Ev (fun k => spec_l03Left.f k l i h) (q, i', h') := by
 have key : ∀ m (j : Nat) (acc : List Int) (i h : Int), j ≤ 6 → 6 - j = m → acc.length ≤ j → 0 ≤ i → ∃ q i' h', Ev (fun k => spec_l03Left.l0 k acc (j : Int) l i h) (q, i', h') := by
  intro m
  induction m with
  | zero =>
   intro j acc i h hj hm ha hi
   obtain ⟨x, i1, h1, e1, x0, x1, _, hi1⟩ := below_ex l i h 6 hl hi (by omega)
   have x1 := x1 (by omega)
   have c : ¬ (j : Int) < x := by omega
   refine ⟨acc, i1, h1, ?_⟩
   refine Ev.step (fun k => by simp only [spec_l03Left.l0]; rfl) ?_
   exact Ev.some_bind e1 (Ev.neg c (Ev.now _))
  | succ m ih =>
   intro j acc i h hj hm ha hi
   obtain ⟨x, i1, h1, e1, x0, x1, _, hi1⟩ := below_ex l i h 6 hl hi (by omega)
   by_cases c : (j : Int) < x
   ·obtain ⟨u, i2, h2, e2, hi2⟩ := pickInt_ex l i1 h1 [0, 1, 2, 3, 5, 9, 40, 200, (-1), 9223372036854775807] hl hi1 (by simp) (by simp)
    obtain ⟨q, i3, h3, hq⟩ := ih (j + 1) (acc ++ [u]) i2 h2 (by omega) (by omega) (by simp; omega) hi2
    have g4 : j ≤ 4611686018427387904 := by omega
    have g2 : acc.length < 17592186044416 := by omega
    refine ⟨q, i3, h3, ?_⟩
    refine Ev.step (fun k => by simp only [spec_l03Left.l0]; rfl) ?_
    refine Ev.some_bind e1 (Ev.pos c (Ev.some_bind e2 ?_))
    simp only [wsucc g4]
    exact Ev.pos g2 hq
   ·refine ⟨acc, i1, h1, ?_⟩
    refine Ev.step (fun k => by simp only [spec_l03Left.l0]; rfl) ?_
    exact Ev.some_bind e1 (Ev.neg c (Ev.now _))
 exact key 6 0 [] i h (by omega) (by omega) (by simp) hi
theorem drawCut_ev (l : List Int) (hl : l.length ≤ 140737488351232) : ∃ d L a q, Ev (fun k => spec_DrawCutActs.f k l) (d, L, a, q) ∧ d.length ≤ 1048576 ∧ L.length ≤ 1048576 ∧ ∀ x ∈ L, x.f2.size ≤ 1048576 := by
 obtain ⟨h0, hn⟩ := new_ev l hl
 obtain ⟨d, i1, h1, e1, d1, hi1⟩ := l03Disk_ev l 0 h0 hl (by omega)
 obtain ⟨L, i2, h2, e2, L1, L2, hi2⟩ := l03Acts_ev l i1 h1 d hl hi1 (by omega)
 have g1 : L.length ≤ 4611686018427387904 := by omega
 obtain ⟨a, i3, h3, e3, hi3⟩ := place_ex l i2 h2 ((L.length + 1 : Nat) : Int) hl hi2 (by omega)
 obtain ⟨q, i4, h4, e4⟩ := left_ev l i3 h3 hl hi3
 refine ⟨d, L, a, q, ?_, by omega, by omega, L2⟩
 unfold spec_DrawCutActs.f
 refine Ev.bind hn (Ev.bind e1 (Ev.bind e2 ?_))
 simp only [wsucc g1]
 exact Ev.some_bind e3 (Ev.bind e4 (Ev.now _))

theorem sameDisk_ev (l : List S67) (hl : l.length ≤ 4611686018427387904) : Ev (fun k => laws_sameDisk.f k l l) true := by
 have key : ∀ d i : Nat, i ≤ l.length → l.length - i = d → Ev (fun k => laws_sameDisk.l0 k (i : Int) l l) true := by
  intro d
  induction d with
  | zero =>
   intro i hi hd
   exact Ev.step (f := fun _ => some true) (fun k => by simp only [laws_sameDisk.l0]; rw [if_neg (by omega)]) (Ev.now _)
  | succ d ih =>
   intro i hi hd
   refine Ev.step (fun k => ?_) (ih (i + 1) (by omega) (by omega))
   simp only [laws_sameDisk.l0]
   rw [if_pos (by omega), if_pos (by omega), if_pos (by omega), if_neg (by simp), wsucc (by omega)]
 unfold laws_sameDisk.f
 exact Ev.pos rfl (key l.length 0 (by omega) (by omega))

/-! ### what an act leaves at its name -/
theorem at_put {l : List S67} (ho : InOrder l) {f : S67} (hf : f ∈ l) {nm : ByteArray} (e : f.f0.toList = nm.toList) : fileAtV l nm = (f.f1, true) := by
 unfold fileAtV
 rcases at_split l nm 0 with ⟨_, hn⟩ | ⟨a, x, b, rfl, hx, ea⟩
 ·exact absurd e (hn f hf)
 ·obtain ⟨h1, h2, _⟩ := split_order ho
  have no : ∀ {y z : S67}, ahead y z = true → y.f0.toList = z.f0.toList → False := fun h k => by
   unfold ahead at h
   rw [k, less_irrefl] at h
   cases h
  obtain rfl : f = x := by
   rcases List.mem_append.1 hf with h | h
   ·exact (no (h1 f h) (e.trans hx.symm)).elim
   ·rcases List.mem_cons.1 h with h | h
    ·exact h
    ·exact (no (h2 f h) (hx.trans e.symm)).elim
  rw [ea, Nat.zero_add, if_neg (by omega), rd_mid]
theorem at_none {l : List S67} {nm : ByteArray} (h : ∀ x ∈ l, ¬ x.f0.toList = nm.toList) : fileAtV l nm = ((⟨#[]⟩ : ByteArray), false) := by
 unfold fileAtV
 rcases at_split l nm 0 with ⟨e, _⟩ | ⟨a, x, b, rfl, hx, _⟩
 ·rw [e, if_pos (by omega)]
 ·exact absurd hx (h x (by simp))
theorem at_size {l : List S67} (hd : diskOkV l = true) (nm : ByteArray) : (fileAtV l nm).1.size ≤ 20000 := by
 unfold fileAtV
 rcases at_split l nm 0 with ⟨e, _⟩ | ⟨a, x, b, rfl, hx, e⟩
 ·rw [e, if_pos (by omega)]
  exact Nat.zero_le _
 ·rw [e, Nat.zero_add, if_neg (by omega), rd_mid]
  have := (diskOk_iff.1 hd).2.1 x (by simp)
  unfold fileOk at this
  simp only [Bool.and_eq_true, decide_eq_true_eq] at this
  show x.f1.size ≤ 20000
  omega
theorem act_at {l : List S67} {kd : Int} {nm tx nw : ByteArray} (h : (actV l kd nm tx nw).2 = true) : (fileAtV l nm).1.size ≤ 20000 ∧ (kd = 1 → fileAtV (actV l kd nm tx nw).1 nm = ((fileAtV l nm).1 ++ tx, true)) ∧ (kd = 4 → (fileAtV (actV l kd nm tx nw).1 nm).2 = false) := by
 have hc : diskOkV l = true ∧ (kd = 3 ∨ nw.toList = []) ∧ (kd = 1 ∨ (tx.toList = [] ∧ 0 ≤ atN l nm 0)) := by
  refine Classical.byContradiction fun c => ?_
  unfold actV at h
  rw [if_neg c] at h
  cases h
 have he : actV l kd nm tx nw = endV (actO l kd nm tx nw) := if_pos hc
 obtain ⟨_, _, ho⟩ := diskOk_iff.1 hc.1
 have hy : ∀ y, actO l kd nm tx nw = some y → (actV l kd nm tx nw).1 = y := fun y e => by
  rw [he, e, endV_some] at h ⊢
  by_cases k : diskOkV y = true
  ·rw [if_pos k]
  ·rw [if_neg k] at h; cases h
 refine ⟨at_size hc.1 nm, fun k1 => ?_, fun k4 => ?_⟩
 ·rcases at_split l nm 0 with ⟨e, hn⟩ | ⟨a, x, b, hl, hx, e⟩
  ·have := hy (putS l ⟨nm, (⟨#[]⟩ : ByteArray) ++ tx, 0⟩) (by unfold actO; rw [if_pos k1, e, if_neg (by omega)])
   rw [this, at_none hn]
   exact at_put (f := ⟨nm, (⟨#[]⟩ : ByteArray) ++ tx, 0⟩) (putS_order ho _) (by unfold putS; simp) rfl
  ·have hp : (0 : Int) ≤ ((0 + a.length : Nat) : Int) := by omega
   have hrd : rd_T67 l ((0 + a.length : Nat) : Int) = x := by rw [Nat.zero_add, hl]; exact rd_mid a x b
   have := hy (putS l ⟨x.f0, x.f1 ++ tx, x.f2⟩) (by unfold actO; rw [if_pos k1, e, if_pos hp, hrd])
   rw [this, at_put ho (f := x) (by rw [hl]; simp) hx]
   exact at_put (f := ⟨x.f0, x.f1 ++ tx, x.f2⟩) (putS_order ho _) (by unfold putS; simp) hx
 ·have := hy (without l nm) (by unfold actO; rw [if_neg (by omega), if_neg (by omega), if_neg (by omega), if_pos k4])
  rw [this, at_none]
  intro x hx
  exact of_decide_eq_true (List.mem_filter.1 hx).2
theorem FnActs : laws_FnActs.Pure := by
 intro l _ hl _
 have hl : l.length ≤ 140737488351232 := by omega
 refine Ev.rounds ?_
 unfold laws_FnActs.f
 by_cases c0 : (l.length : Int) > 1048576
 ·exact Ev.some_bind (x := true) (by unfold laws_big.f; rw [decide_eq_true c0]) (Ev.pos rfl (Ev.now _))
 refine Ev.some_bind (x := false) (by unfold laws_big.f; rw [decide_eq_false c0]) (Ev.neg (by simp) ?_)
 obtain ⟨d, L, a, q, hdr, hd, hL, ht⟩ := drawCut_ev l hl
 have im := impl_DoActs_ev d L hd hL ht
 have sp := spec_DoActs_ev d L hd hL ht
 have hv := runA_le L d 0 hd
 have hat := runA_at L d 0
 have ci := impl_CutActs_ev d L a q hd hL ht
 have cs := spec_CutActs_ev d L a q hd hL ht
 have hcv := cutV_le d L a q hd
 have s1 := sameDisk_ev (runA d L 0).1 (by omega)
 have s2 := sameDisk_ev (cutV d L a q).1 (by omega)
 generalize hR : runA d L 0 = R at im sp hv hat s1
 refine Ev.bind hdr (Ev.bind im (Ev.bind sp (Ev.pos rfl (Ev.bind s1 ?_))))
 refine Ev.step (fun k => by simp only [laws_FnActs.j0]; rfl) ?_
 refine Ev.neg (by simp) ?_
 -- the rounds
 have key : ∀ m (i : Nat) (one : List S67), i ≤ L.length → L.length - i = m → one.length ≤ 1048576 → runA one (L.drop i) i = R → Ev (fun k => laws_FnActs.l0 k L a q R.2 (i : Int) d R.1 one) true := by
  intro m
  have fin : ∀ (i : Nat) (one : List S67), R.2 = (i : Int) → one = R.1 → Ev (fun k => laws_FnActs.l0 k L a q R.2 (i : Int) d R.1 one) true := by
   intro i one e1 e2
   subst e2
   refine Ev.step (fun k => by simp only [laws_FnActs.l0]; rfl) ?_
   refine Ev.neg (by omega) (Ev.bind ci (Ev.bind cs (Ev.pos (by simp) (Ev.bind s2 (Ev.pos rfl ?_)))))
   by_cases c : R.2 = 0
   ·exact Ev.pos c (Ev.now _)
   ·exact Ev.neg c (Ev.bind s1 (Ev.now _))
  induction m with
  | zero =>
   intro i one hi hm h1 h2
   obtain rfl : i = L.length := by omega
   rw [List.drop_length] at h2
   have h3 : (one, (L.length : Int)) = R := h2
   exact fin _ _ (by rw [← h3]) (by rw [← h3])
  | succ m ih =>
   intro i one hi hm h1 h2
   have ci : i < L.length := by omega
   rw [List.drop_eq_getElem_cons ci] at h2
   unfold runA at h2
   by_cases c : (actV one L[i].f0 L[i].f1 L[i].f2 L[i].f3).2 = true
   ·rw [if_pos c] at h2
    have hgt := (runA_at (L.drop (i + 1)) (actV one L[i].f0 L[i].f1 L[i].f2 L[i].f3).1 (i + 1)).1
    rw [h2] at hgt
    have le := actV_le one L[i].f0 L[i].f1 L[i].f2 L[i].f3
    have z := ih (i + 1) (actV one L[i].f0 L[i].f1 L[i].f2 L[i].f3).1 (by omega) (by omega) (by omega) h2
    have hti := ht _ (List.getElem_mem ci)
    have ac : Ev (fun k => impl_DoAct.f k one L[i].f0 L[i].f1 L[i].f2 L[i].f3) (actV one L[i].f0 L[i].f1 L[i].f2 L[i].f3) := ⟨0, fun k _ => impl_DoAct_eq k _ _ _ _ _ (by omega)⟩
    obtain ⟨a1, a2, a3⟩ := act_at c
    refine Ev.step (fun k => by simp only [laws_FnActs.l0]; rfl) ?_
    simp only [rdA_nat ci, wsucc (n := i) (by omega)]
    refine Ev.pos (by omega) (Ev.pos (by omega) (Ev.pos (by omega) (Ev.bind ac (Ev.pos c (Ev.some_bind (impl_FileAt_eq _ _) (Ev.some_bind (impl_FileAt_eq _ _) ?_))))))
    by_cases k1 : L[i].f0 = 1
    ·have a2 := a2 k1
     exact Ev.pos k1 (Ev.pos (by rw [a2]) (Ev.pos (by omega) (Ev.pos (by rw [a2]) (Ev.neg (by omega) z))))
    refine Ev.neg k1 ?_
    by_cases k4 : L[i].f0 = 4
    ·exact Ev.pos k4 (Ev.neg (by rw [a3 k4]; simp) z)
    ·exact Ev.neg k4 z
   ·rw [if_neg c] at h2
    exact fin _ _ (by rw [← h2]) (by rw [← h2])
 exact key L.length 0 d (by omega) (by omega) hd hR


end Go.Proofs.Ytnkldnkolcighaa.Pure
