/- The program's CutActs and the reference's CutActs return the same, for every disk, list of acts, number and list of numbers; the arguments are left alone, and what is returned is shared with nothing. -/
import Derived.Test.YtnkldnkolcighaaXFnExactCutActsx17
import Derived.Test.YtnkldnkolcighaaTf
set_option linter.unusedVariables false
set_option linter.unusedSimpArgs false
namespace Go.Proofs.Ytnkldnkolcighaa.Pure
open Go.RowKit Go.Proofs.Ytnkldnkolcighaa.XFnExactCutActs Go.Proofs.YtnkldnkolcighaaT.PrintWords Go.Proofs.YtnkldnkolcighaaT.PrintLast

/-! ### small words -/
theorem w64 {x : Int} (h0 : -9223372036854775808 ≤ x) (h1 : x ≤ 9223372036854775807) : wrap64 x = x := by
 unfold wrap64
 omega
theorem wsucc {n : Nat} (h : n ≤ 4611686018427387904) : wrap64 ((n : Int) + 1) = ((n + 1 : Nat) : Int) := by
 rw [w64 (by omega) (by omega)]
 rfl
theorem Ev.some_bind {α β : Type} {a : Option α} {x : α} (h : a = some x) {f : Nat → α → Option β} {r : β} (k : Ev (fun n => f n x) r) : Ev (fun n => a.bind (f n)) r := by
 subst h
 exact k
theorem Ev.pos {α : Type} {p : Prop} [Decidable p] (h : p) {f g : Nat → Option α} {r : α} (k : Ev f r) : Ev (fun n => if p then f n else g n) r :=
 Ev.congr (fun _ => if_pos h) k
theorem Ev.neg {α : Type} {p : Prop} [Decidable p] (h : ¬ p) {f g : Nat → Option α} {r : α} (k : Ev g r) : Ev (fun n => if p then f n else g n) r :=
 Ev.congr (fun _ => if_neg h) k
theorem strOfNums_size (xs : List Int) : (strOfNums xs).size = xs.length := by simp [strOfNums, ByteArray.size]
theorem str_ext {a b : ByteArray} (h : a.data.toList = b.data.toList) : a = b := by
 apply ByteArray.ext
 exact Array.toList_inj.1 h
theorem str_toList {a b : ByteArray} : a.toList = b.toList ↔ a = b := by
 rw [ByteArray.toList_eq, ByteArray.toList_eq]
 exact ⟨str_ext, fun h => by rw [h]⟩
theorem spec_l01In_eq (a l h : Int) : spec_l01In.f a l h = some (decide (l ≤ a ∧ a ≤ h)) := by
 unfold spec_l01In.f
 by_cases h1 : l ≤ a
 ·rw [if_pos h1]; simp [h1]
 ·rw [if_neg h1]; simp [h1]

theorem impl_within_eq (a l h : Int) : impl_within.f a l h = some (decide (l ≤ a ∧ a ≤ h)) := by
 unfold impl_within.f
 by_cases h1 : l ≤ a
 ·rw [if_pos h1]; simp [h1]
 ·rw [if_neg h1]; simp [h1]

/-! ### a disk as an argument of a law -/
def toF (y : S91) : S67 := ⟨y.f0, y.f1, y.f2⟩
theorem rdLF_nat {l : List S91} {i : Nat} (h : i < l.length) : rd_T91 l (i : Int) = l[i] := by
 unfold rd_T91
 rw [Int.toNat_natCast, List.getD_eq_getElem?_getD, List.getElem?_eq_getElem h]
 rfl
theorem szFile_ex (y : S91) (h0 : y.f0.size ≤ 9223372036854775807) (h1 : y.f1.size ≤ 9223372036854775807) (c : Int) (left : Int) (hl0 : 0 ≤ left) (hl1 : left ≤ 1048576) :
  ∃ r, laws_szFile.f y.f0 y.f1 c left = some r ∧ (r < 0 ∨ (0 ≤ r ∧ r ≤ left ∧ (y.f0.size : Int) ≤ left ∧ (y.f1.size : Int) ≤ left)) := by
 unfold laws_szFile.f
 rw [w64 (x := left - (y.f0.size : Int)) (by omega) (by omega)]
 by_cases c1 : left - (y.f0.size : Int) < 0
 ·rw [if_pos c1]
  exact ⟨_, rfl, .inl (by omega)⟩
 ·rw [if_neg c1, w64 (by omega) (by omega)]
  by_cases c2 : left - (y.f0.size : Int) - (y.f1.size : Int) < 0
  ·rw [if_pos c2]
   exact ⟨_, rfl, .inl (by omega)⟩
  ·rw [if_neg c2]
   exact ⟨_, rfl, .inr ⟨by omega, by omega, by omega, by omega⟩⟩
theorem szDisk_ex (l : List S91) (hl : l.length ≤ 9223372036854775807) (hw : ∀ y ∈ l, y.f0.size ≤ 9223372036854775807 ∧ y.f1.size ≤ 9223372036854775807) :
  ∃ r, Ev (fun k => laws_szDisk.f k l 1048576) r ∧ (¬ r < 0 → l.length ≤ 1048576 ∧ r ≤ 1048576 ∧ ∀ y ∈ l, (y.f0.size : Int) ≤ 1048576 ∧ (y.f1.size : Int) ≤ 1048576) := by
 have key : ∀ d (i : Nat) (left : Int), i ≤ l.length → l.length - i = d → l.length ≤ 1048576 → 0 ≤ left → left ≤ 1048576 → ∃ r, Ev (fun k => laws_szFileS.l0 k l left (i : Int)) r ∧ (¬ r < 0 → r ≤ 1048576 ∧ ∀ y ∈ l.drop i, (y.f0.size : Int) ≤ 1048576 ∧ (y.f1.size : Int) ≤ 1048576) := by
  intro d
  induction d with
  | zero =>
   intro i left hi hd hlen h0 h1
   refine ⟨left, Ev.step (f := fun _ => some left) (fun k => by simp only [laws_szFileS.l0]; rw [if_neg (by omega)]) (Ev.now _), fun _ => ⟨h1, fun y hy => ?_⟩⟩
   rw [List.drop_of_length_le (by omega)] at hy
   simp at hy
  | succ d ih =>
   intro i left hi hd hlen h0 h1
   have hlt : i < l.length := by omega
   have hy := hw (l[i]) (List.getElem_mem hlt)
   obtain ⟨r, hr, hr2⟩ := szFile_ex (l[i]) hy.1 hy.2 (l[i].f2) left h0 h1
   have hwr := wsucc (n := i) (by omega)
   rcases hr2 with hr2 | ⟨r0, r1, r2, r3⟩
   ·refine ⟨-1, Ev.step (f := fun _ => some (-1)) (fun k => ?_) (Ev.now _), fun h => absurd (show (-1 : Int) < 0 by omega) h⟩
    simp only [laws_szFileS.l0, rdLF_nat hlt, hr, Option.bind_some]
    rw [if_pos (by omega), if_pos (by omega), if_pos hr2]
   ·obtain ⟨s, hs, hs2⟩ := ih (i + 1) r (by omega) (by omega) hlen r0 (by omega)
    refine ⟨s, Ev.step (fun k => ?_) hs, fun h => ⟨(hs2 h).1, fun y hy2 => ?_⟩⟩
    ·simp only [laws_szFileS.l0, rdLF_nat hlt, hr, Option.bind_some, hwr]
     rw [if_pos (by omega), if_pos (by omega), if_neg (by omega)]
    ·rw [List.drop_eq_getElem_cons hlt] at hy2
     rcases List.mem_cons.1 hy2 with h2 | h2
     ·rw [h2]; exact ⟨by omega, by omega⟩
     ·exact (hs2 h).2 y h2
 unfold laws_szDisk.f laws_szFileS.f
 by_cases c : wrap64 (1048576 - (l.length : Int)) < 0
 ·refine ⟨-1, ?_, fun h => absurd (show (-1 : Int) < 0 by omega) h⟩
  simp only [if_pos c, Option.bind_some, if_pos (show (-1 : Int) < 0 by omega)]
  exact Ev.now _
 ·rw [w64 (by omega) (by omega)] at c ⊢
  obtain ⟨r, hr, hr2⟩ := key l.length 0 (1048576 - (l.length : Int)) (by omega) (by omega) (by omega) (by omega) (by omega)
  refine ⟨if r < 0 then -1 else r, ?_, ?_⟩
  ·simp only [if_neg c]
   refine Ev.bind hr ?_
   by_cases h : r < 0
   ·simp only [if_pos h]; exact Ev.now _
   ·simp only [if_neg h]; exact Ev.now _
  ·intro h
   by_cases h2 : r < 0
   ·rw [if_pos h2] at h; omega
   ·rw [if_neg h2] at h ⊢
    have := hr2 h2
    rw [List.drop_zero] at this
    exact ⟨by omega, this.1, this.2⟩
theorem toDisk_ev (l : List S91) (hl : l.length ≤ 1048576) : Ev (fun k => laws_toDisk.f k l) (l.map toF) := by
 have key : ∀ d (i : Nat), i ≤ l.length → l.length - i = d → Ev (fun k => laws_toFileS.l0 k l ((l.take i).map toF ++ List.replicate (l.length - i) z67) (i : Int)) (l.map toF) := by
  intro d
  induction d with
  | zero =>
   intro i hi hd
   obtain rfl : i = l.length := by omega
   rw [List.take_length, Nat.sub_self, List.replicate_zero, List.append_nil]
   exact Ev.step (f := fun _ => some (l.map toF)) (fun k => by simp only [laws_toFileS.l0]; rw [if_neg (by omega)]) (Ev.now _)
  | succ d ih =>
   intro i hi hd
   have hlt : i < l.length := by omega
   have hwr := wsucc (n := i) (by omega)
   have hlen : ((l.take i).map toF ++ List.replicate (l.length - i) z67).length = l.length := by simp; omega
   have hset : ((l.take i).map toF ++ List.replicate (l.length - i) z67).set i (toF l[i]) = (l.take (i + 1)).map toF ++ List.replicate (l.length - (i + 1)) z67 := by
    have h1 : ((l.take i).map toF).length = i := by simp; omega
    rw [List.set_append_right _ _ (by omega), h1, Nat.sub_self, show l.length - i = (l.length - (i + 1)) + 1 by omega, List.replicate_succ, List.set_cons_zero, List.take_succ_eq_append_getElem hlt, List.map_append, List.append_assoc]
    rfl
   have := ih (i + 1) (by omega) (by omega)
   rw [← hset] at this
   refine Ev.step (fun k => ?_) this
   simp only [laws_toFileS.l0, laws_toFile.f, Option.bind_some, hlen, rdLF_nat hlt, hwr]
   rw [if_pos (by omega), if_pos (by omega), if_pos (by omega)]
   rfl
 have h0 := key l.length 0 (by omega) (by omega)
 rw [List.take_zero, List.map_nil, List.nil_append, Nat.sub_zero] at h0
 unfold laws_toDisk.f laws_toFileS.f
 simp only [Int.toNat_natCast, if_pos (show 0 ≤ (l.length : Int) by omega), if_pos (show l.length ≤ 7036874417766 by omega)]
 exact Ev.bind h0 (Ev.now _)
theorem eqDisk_ev (l : List S67) (hl : l.length ≤ 4611686018427387904) : Ev (fun k => laws_eqDisk.f k l l) true := by
 have key : ∀ d (i : Nat), i ≤ l.length → l.length - i = d → Ev (fun k => laws_eqFileS.l0 k l l (i : Int)) true := by
  intro d
  induction d with
  | zero =>
   intro i hi hd
   exact Ev.step (f := fun _ => some true) (fun k => by simp only [laws_eqFileS.l0]; rw [if_neg (by omega)]) (Ev.now _)
  | succ d ih =>
   intro i hi hd
   have hwr := wsucc (n := i) (by omega)
   refine Ev.step (fun k => ?_) (ih (i + 1) (by omega) (by omega))
   simp only [laws_eqFileS.l0, laws_eqFile.f, if_true, Option.bind_some, hwr]
   rw [if_pos (by omega), if_pos (by omega), if_pos (by omega)]
 unfold laws_eqDisk.f laws_eqFileS.f
 simp only [if_true]
 exact Ev.bind (key l.length 0 (by omega) (by omega)) (Ev.pos rfl (Ev.now _))

/-! ### lists of whole numbers alone: copied, compared, marked -/
theorem rdI_mid (A : List Int) (x : Int) (B : List Int) : rd (A ++ x :: B) (A.length : Int) = x := by simp [rd]
theorem set_midI {α : Type} (A : List α) (x v : α) (B : List α) : (A ++ x :: B).set A.length v = A ++ v :: B := by simp
theorem toIntS_ev (l : List Int) (hl : l.length ≤ 35184372088832) : Ev (fun k => laws_toIntS.f k l) l := by
 have key : ∀ (B A : List Int), l = A ++ B → Ev (fun k => laws_toIntS.l0 k l (A ++ List.replicate B.length 0) (A.length : Int)) l := by
  intro B
  induction B with
  | nil =>
   intro A h
   refine Ev.step (f := fun _ => some l) (fun k => ?_) (Ev.now _)
   simp only [laws_toIntS.l0]
   rw [if_neg (by rw [h]; simp)]
   simp [h]
  | cons x B ih =>
   intro A h
   refine Ev.step (fun k => ?_) (ih (A ++ [x]) (by simp [h]))
   have e : l.length = A.length + (B.length + 1) := by rw [h]; simp
   simp only [laws_toIntS.l0]
   rw [if_pos (by omega), if_pos (by omega), if_pos (by simp; omega), wsucc (by omega), Int.toNat_natCast]
   have r : rd l (A.length : Int) = x := by rw [h]; exact rdI_mid A x B
   rw [r, List.length_cons, List.replicate_succ, set_midI]
   simp
 unfold laws_toIntS.f
 refine Ev.pos (by omega) (Ev.pos (by omega) ?_)
 have z := key l [] rfl
 simpa using z
theorem eqIntS_ev (l : List Int) (hl : l.length ≤ 4611686018427387904) : Ev (fun k => laws_eqIntS.f k l l) true := by
 have key : ∀ d (i : Nat), i ≤ l.length → l.length - i = d → Ev (fun k => laws_eqIntS.l0 k l l (i : Int)) true := by
  intro d
  induction d with
  | zero =>
   intro i hi hd
   exact Ev.step (f := fun _ => some true) (fun k => by simp only [laws_eqIntS.l0]; rw [if_neg (by omega)]) (Ev.now _)
  | succ d ih =>
   intro i hi hd
   refine Ev.step (fun k => ?_) (ih (i + 1) (by omega) (by omega))
   simp only [laws_eqIntS.l0]
   rw [if_pos (by omega), if_pos (by omega), if_pos (by omega), wsucc (by omega)]
   simp only [if_true]
 unfold laws_eqIntS.f
 simp only [if_true]
 exact key l.length 0 (by omega) (by omega)
theorem markIntS_ex (l : List Int) (m : Nat) (hl : l.length + m ≤ 1000000000000) : ∃ r, Ev (fun k => laws_markIntS.f k l (m : Int)) (((m + l.length : Nat) : Int), r) := by
 have key : ∀ d (i : Nat) (x : List Int), x.length = l.length → i ≤ l.length → l.length - i = d → ∃ r, Ev (fun k => laws_markIntS.l0 k x ((m + i : Nat) : Int) (i : Int)) (((m + l.length : Nat) : Int), r) := by
  intro d
  induction d with
  | zero =>
   intro i x hx hi hd
   obtain rfl : i = l.length := by omega
   exact ⟨x, Ev.step (f := fun _ => some (((m + l.length : Nat) : Int), x)) (fun k => by simp only [laws_markIntS.l0]; rw [if_neg (by omega)]) (Ev.now _)⟩
  | succ d ih =>
   intro i x hx hi hd
   obtain ⟨r, hr⟩ := ih (i + 1) (x.set i ((m + i : Nat) : Int)) (by simp [hx]) (by omega) (by omega)
   refine ⟨r, Ev.step (fun k => ?_) hr⟩
   simp only [laws_markIntS.l0]
   rw [if_pos (by omega), if_pos (by omega), wsucc (n := m + i) (by omega), wsucc (n := i) (by omega), Int.toNat_natCast]
   rfl
 exact key l.length 0 l rfl (by omega) (by omega)

/-! ### marks -/
theorem markText_ex (m : Nat) (hm : m ≤ 1000000000000) : ∃ t, Ev (fun k => laws_markText.f k (m : Int)) t := by
 have key : ∀ (f : Nat) (x : Nat) (acc : ByteArray), x < 10 ^ f → x ≤ 1000000000000 → acc.size + f ≤ 1000 → ∃ t, Ev (fun k => laws_markText.l0 k (x : Int) acc) t := by
  intro f
  induction f with
  | zero =>
   intro x acc hx hf ha
   refine ⟨_, Ev.step (fun k => ?_) (Ev.now ((⟨#[109]⟩ : ByteArray) ++ acc))⟩
   simp only [laws_markText.l0]
   rw [if_neg (by omega), if_pos (by omega)]
  | succ f ih =>
   intro x acc hx hf ha
   by_cases h : x = 0
   ·refine ⟨_, Ev.step (fun k => ?_) (Ev.now ((⟨#[109]⟩ : ByteArray) ++ acc))⟩
    simp only [laws_markText.l0]
    rw [if_neg (by omega), if_pos (by omega)]
   ·have hp : 10 ^ (f + 1) = 10 * 10 ^ f := by rw [Nat.pow_succ]; omega
    have hs : ∀ c : Int, (strOfNums [c]).size = 1 := fun c => by rw [strOfNums_size]; rfl
    obtain ⟨t, ht⟩ := ih (x / 10) (strOfNums [(wrap64 (48 + (Int.tmod (x : Int) 10))) % 256] ++ acc) (by omega) (by omega) (by rw [ByteArray.size_append, hs]; omega)
    refine ⟨t, Ev.step (fun k => ?_) ht⟩
    simp only [laws_markText.l0, Option.bind_some]
    rw [if_pos (by omega), if_pos (by rw [hs]; omega), Int.tdiv_eq_ediv_of_nonneg (by omega), w64 (x := (x : Int) / 10) (by omega) (by omega)]
    rfl
 unfold laws_markText.f
 by_cases h : (m : Int) ≤ 0
 ·simp only [if_pos h]
  exact ⟨_, Ev.now _⟩
 ·simp only [if_neg h]
  exact key 13 m _ (by omega) hm (by decide)
theorem markText_fun : ∃ T : Nat → ByteArray, ∀ m : Nat, m ≤ 1000000000000 → Ev (fun k => laws_markText.f k (m : Int)) (T m) := by
 refine ⟨fun m => if h : m ≤ 1000000000000 then Classical.choose (markText_ex m h) else ByteArray.empty, fun m h => ?_⟩
 simp only [dif_pos h]
 exact Classical.choose_spec (markText_ex m h)

/-! ### disks, marked -/
theorem rdF_set {l : List S67} {i : Nat} (h : i < l.length) (v : S67) : rd_T67 (l.set i v) (i : Int) = v := by
 rw [rdF_nat (by rw [List.length_set]; exact h)]
 simp
def markF (T : Nat → ByteArray) (m i : Nat) : S67 := ⟨T (m + 3 * i), T (m + 3 * i + 1), ((m + 3 * i + 2 : Nat) : Int)⟩
def markedF (T : Nat → ByteArray) (m n : Nat) : List S67 := (List.range n).map (markF T m)
theorem markedF_length (T : Nat → ByteArray) (m n : Nat) : (markedF T m n).length = n := by simp [markedF]
theorem markDisk_ev (T : Nat → ByteArray) (hT : ∀ m : Nat, m ≤ 1000000000000 → Ev (fun k => laws_markText.f k (m : Int)) (T m)) (l : List S67) (m : Nat) (hl : 3 * l.length + m ≤ 1000000000000) :
  Ev (fun k => laws_markDisk.f k l (m : Int)) (((m + 3 * l.length : Nat) : Int), markedF T m l.length) := by
 have key : ∀ d (i : Nat), i ≤ l.length → l.length - i = d → Ev (fun k => laws_markFileS.l0 k (markedF T m i ++ l.drop i) ((m + 3 * i : Nat) : Int) (i : Int)) (((m + 3 * l.length : Nat) : Int), markedF T m l.length) := by
  intro d
  induction d with
  | zero =>
   intro i hi hd
   obtain rfl : i = l.length := by omega
   rw [List.drop_length, List.append_nil]
   exact Ev.step (f := fun _ => some (((m + 3 * l.length : Nat) : Int), markedF T m l.length)) (fun k => by simp only [laws_markFileS.l0]; rw [markedF_length, if_neg (by omega)]) (Ev.now _)
  | succ d ih =>
   intro i hi hd
   have hlen : (markedF T m i ++ l.drop i).length = l.length := by rw [List.length_append, markedF_length, List.length_drop]; omega
   have hset : (markedF T m i ++ l.drop i).set i (markF T m i) = markedF T m (i + 1) ++ l.drop (i + 1) := by
    rw [List.set_append_right _ _ (by rw [markedF_length]; omega), markedF_length, Nat.sub_self, List.drop_eq_getElem_cons (by omega), List.set_cons_zero]
    simp [markedF, List.range_succ]
   have z := ih (i + 1) (by omega) (by omega)
   rw [← hset] at z
   generalize hx : markedF T m i ++ l.drop i = x at z hlen ⊢
   have r1 : ∀ v, rd_T67 (x.set i v) (i : Int) = v := fun v => rdF_set (by omega) v
   refine Ev.step (f := fun k => (laws_markText.f k ((m + 3 * i : Nat) : Int)).bind fun t => (laws_markText.f k ((m + 3 * i + 1 : Nat) : Int)).bind fun u => laws_markFileS.l0 k (x.set i ⟨t, u, ((m + 3 * i + 2 : Nat) : Int)⟩) ((m + 3 * (i + 1) : Nat) : Int) ((i + 1 : Nat) : Int)) (fun k => ?_) (Ev.bind (hT (m + 3 * i) (by omega)) (Ev.bind (hT (m + 3 * i + 1) (by omega)) z))
   simp only [laws_markFileS.l0]
   rw [hlen, if_pos (by omega), wsucc (n := m + 3 * i) (by omega), wsucc (n := m + 3 * i + 1) (by omega), wsucc (n := m + 3 * i + 1 + 1) (by omega), wsucc (n := i) (by omega)]
   simp only [if_pos (show 0 ≤ (i : Int) by omega), Int.toNat_natCast, Option.bind_some, r1, List.set_set]
   rfl
 unfold laws_markDisk.f laws_markFileS.f
 refine Ev.bind (key l.length 0 (by omega) (by omega)) (Ev.now _)
theorem heldDisk_ev (T : Nat → ByteArray) (hT : ∀ m : Nat, m ≤ 1000000000000 → Ev (fun k => laws_markText.f k (m : Int)) (T m)) (n m : Nat) (hl : 3 * n + m ≤ 1000000000000) :
  Ev (fun k => laws_heldDisk.f k (markedF T m n) (m : Int)) ((m + 3 * n : Nat) : Int) := by
 have key : ∀ d (i : Nat), i ≤ n → n - i = d → Ev (fun k => laws_heldFileS.l0 k (markedF T m n) ((m + 3 * i : Nat) : Int) (i : Int)) ((m + 3 * n : Nat) : Int) := by
  intro d
  induction d with
  | zero =>
   intro i hi hd
   obtain rfl : i = n := by omega
   exact Ev.step (f := fun _ => some ((m + 3 * i : Nat) : Int)) (fun k => by simp only [laws_heldFileS.l0]; rw [markedF_length, if_neg (by omega)]) (Ev.now _)
  | succ d ih =>
   intro i hi hd
   have hg : rd_T67 (markedF T m n) (i : Int) = markF T m i := by
    rw [rdF_nat (by rw [markedF_length]; omega)]
    simp [markedF]
   have z := ih (i + 1) (by omega) (by omega)
   refine Ev.step (f := fun k => (laws_markText.f k ((m + 3 * i : Nat) : Int)).bind fun t => if (T (m + 3 * i)).toList = t.toList then (laws_markText.f k ((m + 3 * i + 1 : Nat) : Int)).bind fun u => if (T (m + 3 * i + 1)).toList = u.toList then laws_heldFileS.l0 k (markedF T m n) ((m + 3 * (i + 1) : Nat) : Int) ((i + 1 : Nat) : Int) else some (-1) else some (-1)) (fun k => ?_) (Ev.bind (hT (m + 3 * i) (by omega)) (Ev.pos rfl (Ev.bind (hT (m + 3 * i + 1) (by omega)) (Ev.pos rfl z))))
   simp only [laws_heldFileS.l0]
   rw [markedF_length, if_pos (by omega), if_pos (by omega), hg, wsucc (n := m + 3 * i) (by omega), wsucc (n := m + 3 * i + 1) (by omega), wsucc (n := m + 3 * i + 1 + 1) (by omega), wsucc (n := i) (by omega)]
   simp only [markF, if_pos (show ((m + 3 * i + 2 : Nat) : Int) = ((m + 3 * i + 1 + 1 : Nat) : Int) from rfl)]
   rfl
 unfold laws_heldDisk.f laws_heldFileS.f
 refine Ev.bind (key n 0 (by omega) (by omega)) (Ev.neg (by omega) (Ev.now _))

/-! ### a disk behind a loss -/
def lostN (l1 : List Int) (x : S67) (i : Nat) : Int := mx x.f2 (mn (if (i : Int) < (l1.length : Int) then rd l1 (i : Int) else 0) (x.f1.size : Int))
def lostF (l1 : List Int) (x : S67) (i : Nat) : S67 := ⟨x.f0, x.f1.extract 0 (lostN l1 x i).toNat, lostN l1 x i⟩
def lostP (l1 : List Int) (l : List S67) (n : Nat) : List S67 := (List.range n).map fun (i : Nat) => lostF l1 (rd_T67 l (i : Int)) i
def lostV (l : List S67) (l1 : List Int) : List S67 × Bool := if diskOkV l = true then (lostP l1 l l.length, true) else ([], false)
theorem lostP_length (l1 : List Int) (l : List S67) (n : Nat) : (lostP l1 l n).length = n := by simp [lostP]
theorem lostP_succ (l1 : List Int) (l : List S67) (n : Nat) : lostP l1 l (n + 1) = lostP l1 l n ++ [lostF l1 (rd_T67 l (n : Int)) n] := by simp [lostP, List.range_succ]
theorem placed_at {l : List S67} : ∀ {d i : Nat}, allFrom l d i = true → ∀ j, i ≤ j → j < i + d → placeOk l j = true
 | 0, _, _, j, h1, h2 => by omega
 | d + 1, i, h, j, h1, h2 => by
  unfold allFrom at h
  rw [Bool.and_eq_true] at h
  by_cases e : j = i
  ·subst e
   exact h.1
  ·exact placed_at h.2 j (by omega) (by omega)
theorem diskOk_at {l : List S67} (h : diskOkV l = true) : l.length ≤ 30 ∧ ∀ i : Nat, i < l.length → placeOk l i = true := by
 unfold diskOkV at h
 rw [Bool.and_eq_true] at h
 have := of_decide_eq_true h.1
 exact ⟨by omega, fun i hi => placed_at h.2 i (by omega) (by omega)⟩
theorem file_at {l : List S67} (h : diskOkV l = true) {i : Nat} (hi : i < l.length) : 0 ≤ (rd_T67 l (i : Int)).f2 ∧ (rd_T67 l (i : Int)).f2 ≤ ((rd_T67 l (i : Int)).f1.size : Int) := by
 have p := (diskOk_at h).2 i hi
 unfold placeOk fileOk at p
 rw [Bool.and_eq_true, Bool.and_eq_true] at p
 exact of_decide_eq_true p.1.2
theorem lostN_range (l1 : List Int) {x : S67} (h : 0 ≤ x.f2 ∧ x.f2 ≤ (x.f1.size : Int)) (i : Nat) : 0 ≤ lostN l1 x i ∧ lostN l1 x i ≤ (x.f1.size : Int) := by
 unfold lostN
 generalize (if (i : Int) < (l1.length : Int) then rd l1 (i : Int) else 0) = z
 unfold mx mn
 constructor <;> (split <;> split) <;> omega

theorem spec_DiskOk_ev (l : List S67) (hl : l.length ≤ 4611686018427387904) : Ev (fun k => spec_DiskOk.f k l) (diskOkV l) := Ev.now _
theorem impl_DiskOk_ev (l : List S67) (hl : l.length ≤ 4611686018427387904) : Ev (fun k => impl_DiskOk.f k l) (diskOkV l) := Ev.now _

theorem impl_LoseDisk_ev (l : List S67) (l1 : List Int) (hl : l.length ≤ 1048576) : Ev (fun k => impl_LoseDisk.f k l l1) (lostV l l1) := by
 unfold impl_LoseDisk.f lostV
 refine Ev.bind (impl_DiskOk_ev l (by omega)) ?_
 cases hd : diskOkV l with
 | false => exact Ev.neg (by simp) (by simpa using Ev.now _)
 | true =>
  refine Ev.pos rfl ?_
  rw [if_pos rfl]
  refine Ev.some_bind (x := l) (by unfold impl_copyDisk.f; rw [if_pos (by omega)]) ?_
  have key : ∀ d i : Nat, i ≤ l.length → l.length - i = d → Ev (fun k => impl_LoseDisk.l0 k l1 l.length (lostP l1 l i ++ l.drop i) (i : Int)) (lostP l1 l l.length, true) := by
   intro d
   induction d with
   | zero =>
    intro i hi he
    obtain rfl : i = l.length := by omega
    rw [List.drop_length, List.append_nil]
    refine Ev.step (f := fun _ => some (lostP l1 l l.length, true)) (fun k => ?_) (Ev.now _)
    simp only [impl_LoseDisk.l0]
    rw [if_neg (by omega)]
   | succ d ih =>
    intro i hi he
    have ci : i < l.length := by omega
    have z := ih (i + 1) (by omega) (by omega)
    have hr : rd_T67 (lostP l1 l i ++ l.drop i) (i : Int) = rd_T67 l (i : Int) := by
     rw [rdF_nat (by rw [List.length_append, lostP_length, List.length_drop]; omega), rdF_nat ci, List.getElem_append_right (by rw [lostP_length]; omega)]
     simp [lostP_length]
    have hs : (lostP l1 l i ++ l.drop i).set i (lostF l1 (rd_T67 l (i : Int)) i) = lostP l1 l (i + 1) ++ l.drop (i + 1) := by
     rw [List.set_append_right _ _ (by rw [lostP_length]; omega), lostP_length, Nat.sub_self, List.drop_eq_getElem_cons ci, List.set_cons_zero, lostP_succ]
     simp
    have hn := lostN_range l1 (file_at hd ci) i
    rw [← hs] at z
    refine Ev.step (fun k => ?_) z
    simp only [impl_LoseDisk.l0]
    rw [hr, if_pos (by omega), wsucc (by omega), Int.toNat_natCast]
    exact if_pos ⟨by omega, hn.1, hn.2⟩
  have z := key l.length 0 (by omega) (by omega)
  rw [show lostP l1 l 0 = [] from rfl, List.nil_append, List.drop_zero] at z
  exact z

theorem spec_LoseDisk_ev (l : List S67) (l1 : List Int) (hl : l.length ≤ 1048576) : Ev (fun k => spec_LoseDisk.f k l l1) (lostV l l1) := by
 unfold spec_LoseDisk.f lostV
 refine Ev.bind (spec_DiskOk_ev l (by omega)) ?_
 cases hd : diskOkV l with
 | false => exact Ev.neg (by simp) (by simpa using Ev.now _)
 | true =>
  refine Ev.pos rfl ?_
  rw [if_pos rfl]
  have key : ∀ d i : Nat, i ≤ l.length → l.length - i = d → Ev (fun k => spec_LoseDisk.l0 k l1 (i : Int) l (lostP l1 l i)) (lostP l1 l l.length, true) := by
   intro d
   induction d with
   | zero =>
    intro i hi he
    obtain rfl : i = l.length := by omega
    refine Ev.step (f := fun _ => some (lostP l1 l l.length, true)) (fun k => ?_) (Ev.now _)
    simp only [spec_LoseDisk.l0]
    rw [if_neg (by omega)]
   | succ d ih =>
    intro i hi he
    have ci : i < l.length := by omega
    have z := ih (i + 1) (by omega) (by omega)
    obtain ⟨f1, f2⟩ := file_at hd ci
    rw [lostP_succ] at z
    have hj : ∀ v : Int, v = (if (i : Int) < (l1.length : Int) then rd l1 (i : Int) else 0) → Ev (fun k => spec_LoseDisk.j1 k l1 (i : Int) v l (lostP l1 l i) (rd_T67 l (i : Int)).f0 (rd_T67 l (i : Int)).f1 (rd_T67 l (i : Int)).f2) (lostP l1 l l.length, true) := by
     intro v hv
     refine Ev.step (fun k => ?_) z
     simp only [spec_LoseDisk.j1]
     have hlen := lostP_length l1 l i
     have hL : lostN l1 (rd_T67 l (i : Int)) i = mx (rd_T67 l (i : Int)).f2 (mn v ((rd_T67 l (i : Int)).f1.size : Int)) := by rw [hv]; rfl
     unfold lostF
     rw [hL]
     by_cases h1 : v > ((rd_T67 l (i : Int)).f1.size : Int)
     ·have e : mx (rd_T67 l (i : Int)).f2 (mn v ((rd_T67 l (i : Int)).f1.size : Int)) = ((rd_T67 l (i : Int)).f1.size : Int) := by rw [show mn v ((rd_T67 l (i : Int)).f1.size : Int) = ((rd_T67 l (i : Int)).f1.size : Int) from if_pos (by omega)]; unfold mx; split <;> omega
      rw [if_pos h1, if_neg (by omega), if_pos (by omega), if_pos (by omega), if_pos (by omega), e, wsucc (by omega)]
     ·by_cases h2 : v < (rd_T67 l (i : Int)).f2
      ·have e : mx (rd_T67 l (i : Int)).f2 (mn v ((rd_T67 l (i : Int)).f1.size : Int)) = (rd_T67 l (i : Int)).f2 := by rw [show mn v ((rd_T67 l (i : Int)).f1.size : Int) = v from if_neg (by omega)]; unfold mx; rw [if_neg (by omega)]
       rw [if_neg h1, if_pos h2, if_pos (by omega), if_pos (by omega), if_pos (by omega), e, wsucc (by omega)]
      ·have e : mx (rd_T67 l (i : Int)).f2 (mn v ((rd_T67 l (i : Int)).f1.size : Int)) = v := by rw [show mn v ((rd_T67 l (i : Int)).f1.size : Int) = v from if_neg (by omega)]; unfold mx; split <;> omega
       rw [if_neg h1, if_neg h2, if_pos (by omega), if_pos (by omega), if_pos (by omega), e, wsucc (by omega)]
    by_cases h : (i : Int) < (l1.length : Int)
    ·refine Ev.step (fun k => ?_) (hj (rd l1 (i : Int)) (by rw [if_pos h]))
     simp only [spec_LoseDisk.l0]
     rw [if_pos (by omega), if_pos (by omega), if_pos h]
    ·refine Ev.step (fun k => ?_) (hj 0 (by rw [if_neg h]))
     simp only [spec_LoseDisk.l0]
     rw [if_pos (by omega), if_pos (by omega), if_neg h]
  exact key l.length 0 (by omega) (by omega)

/-! ### the order of names; disks in order -/
theorem less_irrefl : ∀ x : List UInt8, Op.bytesLess x x = false
 | [] => rfl
 | a :: x => by
  unfold Op.bytesLess
  rw [less_irrefl x]
  simp
theorem less_trans : ∀ x y z : List UInt8, Op.bytesLess x y = true → Op.bytesLess y z = true → Op.bytesLess x z = true
 | _, [], _, h, _ => by simp [Op.bytesLess] at h
 | _, _ :: _, [], _, h => by simp [Op.bytesLess] at h
 | [], _ :: _, _ :: _, _, _ => by simp [Op.bytesLess]
 | a :: x, b :: y, c :: z, h1, h2 => by
  have ih := less_trans x y z
  simp only [Op.bytesLess, Bool.or_eq_true, Bool.and_eq_true, decide_eq_true_eq, beq_iff_eq, UInt8.lt_iff_toNat_lt] at h1 h2 ⊢
  rcases h1 with h1 | ⟨rfl, h1⟩
  ·rcases h2 with h2 | ⟨rfl, h2⟩
   ·exact .inl (by omega)
   ·exact .inl h1
  ·rcases h2 with h2 | ⟨rfl, h2⟩
   ·exact .inl h2
   ·exact .inr ⟨rfl, ih h1 h2⟩
theorem less_tri : ∀ x y : List UInt8, Op.bytesLess x y = false → Op.bytesLess y x = false → x = y
 | [], [], _, _ => rfl
 | [], _ :: _, h, _ => by simp [Op.bytesLess] at h
 | _ :: _, [], _, h => by simp [Op.bytesLess] at h
 | a :: x, b :: y, h1, h2 => by
  have ih := less_tri x y
  simp only [Op.bytesLess, Bool.or_eq_false_iff, decide_eq_false_iff_not, UInt8.lt_iff_toNat_lt] at h1 h2
  obtain rfl : a = b := UInt8.toNat_inj.1 (by omega)
  simp only [beq_self_eq_true, Bool.true_and] at h1 h2
  rw [ih h1.2 h2.2]
theorem less_asymm {x y : List UInt8} (h : Op.bytesLess x y = true) : Op.bytesLess y x = false := by
 cases h2 : Op.bytesLess y x with
 | false => rfl
 | true =>
  have := less_trans x y x h h2
  rw [less_irrefl] at this
  cases this
/-- a stands ahead of b -/
def ahead (a b : S67) : Bool := Op.bytesLess a.f0.toList b.f0.toList
theorem ahead_trans {a b c : S67} (h : ahead a b = true) (k : ahead b c = true) : ahead a c = true := less_trans _ _ _ h k
def InOrder (l : List S67) : Prop := l.Pairwise fun a b => ahead a b = true
theorem inOrder_of : ∀ (l : List S67), (∀ i, (h : i + 1 < l.length) → ahead l[i] l[i + 1] = true) → InOrder l
 | [], _ => List.Pairwise.nil
 | [x], _ => List.pairwise_singleton _ _
 | x :: y :: l, h => by
  have ih := inOrder_of (y :: l) (fun i hi => h (i + 1) (by simpa using hi))
  have h0 : ahead x y = true := h 0 (by simp)
  refine List.pairwise_cons.2 ⟨fun z hz => ?_, ih⟩
  rcases List.mem_cons.1 hz with rfl | hz
  ·exact h0
  ·exact ahead_trans h0 ((List.pairwise_cons.1 ih).1 z hz)
theorem inOrder_at {l : List S67} (h : InOrder l) {i : Nat} (hi : i + 1 < l.length) : ahead l[i] l[i + 1] = true := List.pairwise_iff_getElem.1 h i (i + 1) (by omega) hi (by omega)
theorem placed_all {l : List S67} : ∀ {d i : Nat}, (∀ j, i ≤ j → j < i + d → placeOk l j = true) → allFrom l d i = true
 | 0, _, _ => rfl
 | d + 1, i, h => by
  unfold allFrom
  rw [h i (Nat.le_refl _) (by omega), Bool.true_and]
  exact placed_all (fun j h1 h2 => h j (by omega) (by omega))
theorem diskOk_iff {l : List S67} : diskOkV l = true ↔ l.length ≤ 30 ∧ (∀ x ∈ l, fileOk x = true) ∧ InOrder l := by
 constructor
 ·intro h
  obtain ⟨h1, h2⟩ := diskOk_at h
  refine ⟨h1, fun x hx => ?_, inOrder_of l fun i hi => ?_⟩
  ·obtain ⟨i, hi, rfl⟩ := List.mem_iff_getElem.1 hx
   have p := h2 i hi
   unfold placeOk at p
   rw [Bool.and_eq_true, rdF_nat hi] at p
   exact p.1
  ·have p := h2 (i + 1) hi
   unfold placeOk at p
   rw [Bool.and_eq_true] at p
   have q := p.2
   rw [decide_eq_false (show ¬ (i + 1 = 0) by omega), Bool.false_or, Nat.add_sub_cancel, rdF_nat (show i < l.length by omega), rdF_nat hi] at q
   exact q
 ·rintro ⟨h1, h2, h3⟩
  unfold diskOkV
  rw [decide_eq_true (show (l.length : Int) ≤ 30 by omega), Bool.true_and]
  refine placed_all (fun j _ hj => ?_)
  have hj' : j < l.length := by omega
  unfold placeOk
  rw [rdF_nat hj', h2 _ (List.getElem_mem hj'), Bool.true_and]
  by_cases c : j = 0
  ·rw [decide_eq_true c, Bool.true_or]
  ·obtain ⟨i, rfl⟩ : ∃ i, j = i + 1 := ⟨j - 1, by omega⟩
   rw [decide_eq_false c, Bool.false_or, Nat.add_sub_cancel, rdF_nat (show i < l.length by omega)]
   exact inOrder_at h3 hj'
/-! ### a file put in its place -/
def putS (l : List S67) (f : S67) : List S67 := l.filter (fun x => ahead x f) ++ f :: l.filter (fun x => ahead f x)
theorem filter_take_succ (p : S67 → Bool) {l : List S67} {i : Nat} (h : i < l.length) : (l.take (i + 1)).filter p = (l.take i).filter p ++ (if p l[i] = true then [l[i]] else []) := by
 rw [List.take_succ_eq_append_getElem h, List.filter_append, List.filter_cons, List.filter_nil]
theorem spec_l03Put_ev (l : List S67) (f0 f1 : ByteArray) (f2 : Int) (hl : l.length ≤ 1048576) : Ev (fun k => spec_l03Put.f k l f0 f1 f2) (putS l ⟨f0, f1, f2⟩) := by
 have key1 : ∀ d i : Nat, i ≤ l.length → l.length - i = d → Ev (fun k => spec_l03Put.l1 k (i : Int) l f0 f1 f2 (l.filter (fun x => ahead x ⟨f0, f1, f2⟩) ++ (⟨f0, f1, f2⟩ : S67) :: (l.take i).filter (fun x => ahead ⟨f0, f1, f2⟩ x))) (putS l ⟨f0, f1, f2⟩) := by
  intro d
  induction d with
  | zero =>
   intro i hi hd
   obtain rfl : i = l.length := by omega
   refine Ev.step (f := fun _ => some (putS l ⟨f0, f1, f2⟩)) (fun k => ?_) (Ev.now _)
   simp only [spec_l03Put.l1]
   rw [if_neg (by omega), List.take_length]
   rfl
  | succ d ih =>
   intro i hi hd
   have ci : i < l.length := by omega
   have z := ih (i + 1) (by omega) (by omega)
   rw [filter_take_succ _ ci] at z
   have b1 : (l.filter (fun x => ahead x ⟨f0, f1, f2⟩)).length ≤ l.length := List.length_filter_le _ _
   have b2 : ((l.take i).filter (fun x => ahead ⟨f0, f1, f2⟩ x)).length ≤ i := Nat.le_trans (List.length_filter_le _ _) (List.length_take_le _ _)
   by_cases c : ahead ⟨f0, f1, f2⟩ l[i] = true
   ·rw [if_pos c] at z
    refine Ev.step (fun k => ?_) z
    simp only [spec_l03Put.l1]
    rw [if_pos (by omega), if_pos (by omega), rdF_nat ci, if_pos (show Op.bytesLess f0.toList l[i].f0.toList = true from c), if_pos (by simp only [List.length_append, List.length_cons]; omega), wsucc (by omega)]
    simp only [List.append_assoc, List.cons_append]
   ·rw [if_neg c, List.append_nil] at z
    refine Ev.step (fun k => ?_) z
    simp only [spec_l03Put.l1]
    rw [if_pos (by omega), if_pos (by omega), rdF_nat ci, if_neg (show ¬ Op.bytesLess f0.toList l[i].f0.toList = true from c), wsucc (by omega)]
 have key0 : ∀ d i : Nat, i ≤ l.length → l.length - i = d → Ev (fun k => spec_l03Put.l0 k (i : Int) l f0 f1 f2 ((l.take i).filter (fun x => ahead x ⟨f0, f1, f2⟩))) (putS l ⟨f0, f1, f2⟩) := by
  intro d
  induction d with
  | zero =>
   intro i hi hd
   obtain rfl : i = l.length := by omega
   have b1 : (l.filter (fun x => ahead x ⟨f0, f1, f2⟩)).length ≤ l.length := List.length_filter_le _ _
   have z := key1 l.length 0 (by omega) (by omega)
   rw [List.take_zero, List.filter_nil] at z
   refine Ev.step (fun k => ?_) z
   simp only [spec_l03Put.l0]
   rw [if_neg (by omega), List.take_length, if_pos (by omega)]
   rfl
  | succ d ih =>
   intro i hi hd
   have ci : i < l.length := by omega
   have z := ih (i + 1) (by omega) (by omega)
   rw [filter_take_succ _ ci] at z
   have b2 : ((l.take i).filter (fun x => ahead x ⟨f0, f1, f2⟩)).length ≤ i := Nat.le_trans (List.length_filter_le _ _) (List.length_take_le _ _)
   by_cases c : ahead l[i] ⟨f0, f1, f2⟩ = true
   ·rw [if_pos c] at z
    refine Ev.step (fun k => ?_) z
    simp only [spec_l03Put.l0]
    rw [if_pos (by omega), if_pos (by omega), rdF_nat ci, if_pos (show Op.bytesLess l[i].f0.toList f0.toList = true from c), if_pos (by omega), wsucc (by omega)]
   ·rw [if_neg c, List.append_nil] at z
    refine Ev.step (fun k => ?_) z
    simp only [spec_l03Put.l0]
    rw [if_pos (by omega), if_pos (by omega), rdF_nat ci, if_neg (show ¬ Op.bytesLess l[i].f0.toList f0.toList = true from c), wsucc (by omega)]
 exact key0 l.length 0 (by omega) (by omega)

/-! ### where a file stands -/
theorem spec_at_ev (l : List S67) (nm : ByteArray) (hl : l.length ≤ 4611686018427387904) : Ev (fun k => spec_l03At.f k l nm) (atN l nm 0) := by
 have key : ∀ d i : Nat, i ≤ l.length → l.length - i = d → Ev (fun k => spec_l03At.l0 k nm (i : Int) l) (atN (l.drop i) nm i) := by
  intro d
  induction d with
  | zero =>
   intro i hi he
   rw [List.drop_eq_nil_of_le (by omega)]
   refine Ev.step (f := fun _ => some (-1)) (fun k => ?_) (Ev.now _)
   simp only [spec_l03At.l0]
   rw [if_neg (by omega)]
  | succ d ih =>
   intro i hi he
   have ci : i < l.length := by omega
   have hrd : rd_T67 l (i : Int) = l[i] := by
    unfold rd_T67
    rw [Int.toNat_natCast, List.getD_eq_getElem?_getD, List.getElem?_eq_getElem ci]
    rfl
   rw [List.drop_eq_getElem_cons ci, atN]
   by_cases h : l[i].f0.toList = nm.toList
   ·rw [if_pos h]
    refine Ev.step (f := fun _ => some (i : Int)) (fun k => ?_) (Ev.now _)
    simp only [spec_l03At.l0]
    rw [hrd, if_pos (by omega), if_pos (by omega), if_pos h]
   ·rw [if_neg h]
    refine Ev.step (fun k => ?_) (ih (i + 1) (by omega) (by omega))
    simp only [spec_l03At.l0]
    rw [hrd, if_pos (by omega), if_pos (by omega), if_neg h, wsucc (by omega)]
 exact key l.length 0 (by omega) (by omega)

/-! ### a file found, taken out, put in -/
theorem at_split : ∀ (l : List S67) (nm : ByteArray) (i : Nat), (atN l nm i = -1 ∧ ∀ x ∈ l, ¬ x.f0.toList = nm.toList) ∨ ∃ (a : List S67) (x : S67) (b : List S67), l = a ++ x :: b ∧ x.f0.toList = nm.toList ∧ atN l nm i = ((i + a.length : Nat) : Int)
 | [], _, _ => .inl ⟨rfl, fun x hx => by simp at hx⟩
 | x :: l, nm, i => by
  unfold atN
  by_cases h : x.f0.toList = nm.toList
  ·rw [if_pos h]
   exact .inr ⟨[], x, l, rfl, h, rfl⟩
  ·rw [if_neg h]
   rcases at_split l nm (i + 1) with ⟨e, f⟩ | ⟨a, y, b, rfl, h2, e⟩
   ·refine .inl ⟨e, fun y hy => ?_⟩
    rcases List.mem_cons.1 hy with rfl | hy
    ·exact h
    ·exact f y hy
   ·refine .inr ⟨x :: a, y, b, rfl, h2, ?_⟩
    rw [e, List.length_cons, show i + 1 + a.length = i + (a.length + 1) by omega]
theorem gt_split : ∀ (l : List S67) (nm : ByteArray) (i : Nat), (gtN l nm i = -1 ∧ ∀ x ∈ l, ¬ Op.bytesLess nm.toList x.f0.toList = true) ∨ ∃ (a : List S67) (x : S67) (b : List S67), l = a ++ x :: b ∧ Op.bytesLess nm.toList x.f0.toList = true ∧ (∀ y ∈ a, ¬ Op.bytesLess nm.toList y.f0.toList = true) ∧ gtN l nm i = ((i + a.length : Nat) : Int)
 | [], _, _ => .inl ⟨rfl, fun x hx => by simp at hx⟩
 | x :: l, nm, i => by
  unfold gtN
  by_cases h : Op.bytesLess nm.toList x.f0.toList = true
  ·rw [if_pos h]
   exact .inr ⟨[], x, l, rfl, h, fun y hy => by simp at hy, rfl⟩
  ·rw [if_neg h]
   rcases gt_split l nm (i + 1) with ⟨e, f⟩ | ⟨a, y, b, rfl, h2, h3, e⟩
   ·refine .inl ⟨e, fun y hy => ?_⟩
    rcases List.mem_cons.1 hy with rfl | hy
    ·exact h
    ·exact f y hy
   ·refine .inr ⟨x :: a, y, b, rfl, h2, fun z hz => ?_, ?_⟩
    ·rcases List.mem_cons.1 hz with rfl | hz
     ·exact h
     ·exact h3 z hz
    ·rw [e, List.length_cons, show i + 1 + a.length = i + (a.length + 1) by omega]
theorem rd_mid (a : List S67) (x : S67) (b : List S67) : rd_T67 (a ++ x :: b) (a.length : Int) = x := by
 rw [rdF_nat (by simp)]
 simp
theorem set_mid (a : List S67) (x f : S67) (b : List S67) : (a ++ x :: b).set a.length f = a ++ f :: b := by simp
theorem out_mid (a : List S67) (x : S67) (b : List S67) : (a ++ x :: b).take a.length ++ (a ++ x :: b).drop (a.length + 1) = a ++ b := by simp [List.drop_append]
theorem split_order {a : List S67} {x : S67} {b : List S67} (h : InOrder (a ++ x :: b)) : (∀ y ∈ a, ahead y x = true) ∧ (∀ y ∈ b, ahead x y = true) ∧ InOrder (a ++ b) := by
 obtain ⟨h1, h2, h3⟩ := List.pairwise_append.1 h
 obtain ⟨h4, h5⟩ := List.pairwise_cons.1 h2
 exact ⟨fun y hy => h3 y hy x (List.mem_cons_self ..), h4, List.pairwise_append.2 ⟨h1, h5, fun y hy z hz => h3 y hy z (List.mem_cons_of_mem _ hz)⟩⟩
theorem filt (p : S67 → Bool) (a b : List S67) (ha : ∀ y ∈ a, p y = true) (hb : ∀ y ∈ b, p y = false) : (a ++ b).filter p = a := by
 rw [List.filter_append, List.filter_eq_self.2 ha, List.filter_eq_nil_iff.2 (fun y hy => by rw [hb y hy]; simp), List.append_nil]
theorem filt2 (p : S67 → Bool) (a b : List S67) (ha : ∀ y ∈ a, p y = false) (hb : ∀ y ∈ b, p y = true) : (a ++ b).filter p = b := by
 rw [List.filter_append, List.filter_eq_self.2 hb, List.filter_eq_nil_iff.2 (fun y hy => by rw [ha y hy]; simp), List.nil_append]
theorem putS_mid {a : List S67} {x f : S67} {b : List S67} (h : InOrder (a ++ x :: b)) (e : x.f0.toList = f.f0.toList) : putS (a ++ x :: b) f = a ++ f :: b := by
 obtain ⟨h1, h2, _⟩ := split_order h
 have e1 : ∀ y, ahead y f = ahead y x := fun y => by unfold ahead; rw [e]
 have e2 : ∀ y, ahead f y = ahead x y := fun y => by unfold ahead; rw [e]
 have hx : ahead x x = false := less_irrefl _
 unfold putS
 rw [filt (fun y => ahead y f) a (x :: b) (fun y hy => by rw [e1]; exact h1 y hy) (fun y hy => by
  rw [e1]
  rcases List.mem_cons.1 hy with rfl | hy
  ·exact hx
  ·exact less_asymm (h2 y hy))]
 rw [show a ++ x :: b = (a ++ [x]) ++ b by simp, filt2 (fun y => ahead f y) (a ++ [x]) b (fun y hy => by
  rw [e2]
  rcases List.mem_append.1 hy with hy | hy
  ·exact less_asymm (h1 y hy)
  ·rw [List.mem_singleton.1 hy]; exact hx) (fun y hy => by rw [e2]; exact h2 y hy)]
theorem putS_gap {a b : List S67} {f : S67} (ha : ∀ y ∈ a, ahead y f = true) (hb : ∀ y ∈ b, ahead f y = true) : putS (a ++ b) f = a ++ f :: b := by
 unfold putS
 rw [filt (fun y => ahead y f) a b ha (fun y hy => less_asymm (hb y hy)), filt2 (fun y => ahead f y) a b (fun y hy => less_asymm (ha y hy)) hb]
theorem putL_eq {l : List S67} (h : InOrder l) (f : S67) : putL l f = putS l f := by
 unfold putL
 rcases at_split l f.f0 0 with ⟨e, hn⟩ | ⟨a, x, b, rfl, hx, e⟩
 ·rw [e, if_neg (by omega)]
  have lt : ∀ y ∈ l, ¬ Op.bytesLess f.f0.toList y.f0.toList = true → ahead y f = true := fun y hy hg => by
   unfold ahead
   cases c : Op.bytesLess y.f0.toList f.f0.toList with
   | true => rfl
   | false => exact absurd (less_tri _ _ c (by simpa using hg)) (hn y hy)
  rcases gt_split l f.f0 0 with ⟨e2, h2⟩ | ⟨a, x, b, rfl, h2, h3, e2⟩
  ·rw [e2, if_pos (by omega)]
   have := putS_gap (a := l) (b := []) (f := f) (fun y hy => lt y hy (h2 y hy)) (fun y hy => by simp at hy)
   rw [List.append_nil] at this
   exact this.symm
  ·obtain ⟨_, p2, _⟩ := split_order h
   rw [e2, if_neg (by omega), Nat.zero_add, Int.toNat_natCast, List.take_left, List.drop_left]
   refine (putS_gap (fun y hy => lt y (List.mem_append_left _ hy) (h3 y hy)) (fun y hy => ?_)).symm
   rcases List.mem_cons.1 hy with rfl | hy
   ·exact h2
   ·exact ahead_trans (b := x) h2 (p2 y hy)
 ·rw [e, if_pos (by omega), Nat.zero_add, Int.toNat_natCast, set_mid, putS_mid h hx]
/-- the files but the one of a name -/
def without (l : List S67) (nm : ByteArray) : List S67 := l.filter (fun x => decide (¬ x.f0.toList = nm.toList))
theorem without_mid {a : List S67} {x : S67} {b : List S67} {nm : ByteArray} (h : InOrder (a ++ x :: b)) (e : x.f0.toList = nm.toList) : without (a ++ x :: b) nm = a ++ b := by
 obtain ⟨h1, h2, _⟩ := split_order h
 unfold without
 rw [List.filter_append, List.filter_cons, if_neg (by simp [e]), List.filter_eq_self.2, List.filter_eq_self.2]
 ·intro y hy
  have := h2 y hy
  refine decide_eq_true (fun c => ?_)
  unfold ahead at this
  rw [c, e, less_irrefl] at this
  cases this
 ·intro y hy
  have := h1 y hy
  refine decide_eq_true (fun c => ?_)
  unfold ahead at this
  rw [c, e, less_irrefl] at this
  cases this
theorem spec_l03Without_ev (l : List S67) (nm : ByteArray) (hl : l.length ≤ 1048576) : Ev (fun k => spec_l03Without.f k l nm) (without l nm) := by
 have key0 : ∀ d i : Nat, i ≤ l.length → l.length - i = d → Ev (fun k => spec_l03Without.l0 k nm (i : Int) l ((l.take i).filter (fun x => decide (¬ x.f0.toList = nm.toList)))) (without l nm) := by
  intro d
  induction d with
  | zero =>
   intro i hi hd
   obtain rfl : i = l.length := by omega
   refine Ev.step (f := fun _ => some (without l nm)) (fun k => ?_) (Ev.now _)
   simp only [spec_l03Without.l0]
   rw [if_neg (by omega), List.take_length]
   rfl
  | succ d ih =>
   intro i hi hd
   have ci : i < l.length := by omega
   have z := ih (i + 1) (by omega) (by omega)
   rw [filter_take_succ _ ci] at z
   have b2 : ((l.take i).filter (fun x => decide (¬ x.f0.toList = nm.toList))).length ≤ i := Nat.le_trans (List.length_filter_le _ _) (List.length_take_le _ _)
   by_cases c : l[i].f0.toList = nm.toList
   ·rw [if_neg (by simp [c]), List.append_nil] at z
    refine Ev.step (fun k => ?_) z
    simp only [spec_l03Without.l0]
    rw [if_pos (by omega), if_pos (by omega), rdF_nat ci, if_pos c, wsucc (by omega)]
   ·rw [if_pos (by simp [c])] at z
    refine Ev.step (fun k => ?_) z
    simp only [spec_l03Without.l0]
    rw [if_pos (by omega), if_pos (by omega), rdF_nat ci, if_neg c, if_pos (by omega), wsucc (by omega)]
 exact key0 l.length 0 (by omega) (by omega)

/-! ### what an act does -/
def endV : Option (List S67) → List S67 × Bool
 | none => ([], false)
 | some y => if diskOkV y = true then (y, true) else ([], false)
def actO (l : List S67) (kd : Int) (nm tx nw : ByteArray) : Option (List S67) :=
 if kd = 1 then (if 0 ≤ atN l nm 0 then some (putS l ⟨(rd_T67 l (atN l nm 0)).f0, (rd_T67 l (atN l nm 0)).f1 ++ tx, (rd_T67 l (atN l nm 0)).f2⟩) else some (putS l ⟨nm, (⟨#[]⟩ : ByteArray) ++ tx, 0⟩))
 else if kd = 2 then some (putS l ⟨(rd_T67 l (atN l nm 0)).f0, (rd_T67 l (atN l nm 0)).f1, ((rd_T67 l (atN l nm 0)).f1.size : Int)⟩)
 else if kd = 3 then (if nw.toList = nm.toList then none else if (rd_T67 l (atN l nm 0)).f2 = ((rd_T67 l (atN l nm 0)).f1.size : Int) then some (putS (without l nm) ⟨nw, (rd_T67 l (atN l nm 0)).f1, (rd_T67 l (atN l nm 0)).f2⟩) else none)
 else if kd = 4 then some (without l nm)
 else none
def actV (l : List S67) (kd : Int) (nm tx nw : ByteArray) : List S67 × Bool :=
 if diskOkV l = true ∧ (kd = 3 ∨ nw.toList = []) ∧ (kd = 1 ∨ (tx.toList = [] ∧ 0 ≤ atN l nm 0)) then endV (actO l kd nm tx nw) else ([], false)
theorem endV_some (y : List S67) : endV (some y) = if diskOkV y = true then (y, true) else ([], false) := rfl
theorem endV_le (o : Option (List S67)) : (endV o).1.length ≤ 30 := by
 cases o with
 | none => exact Nat.zero_le _
 | some y =>
  rw [endV_some]
  by_cases h : diskOkV y = true
  ·rw [if_pos h]; exact (diskOk_iff.1 h).1
  ·rw [if_neg h]; exact Nat.zero_le _
theorem actV_le (l : List S67) (kd : Int) (nm tx nw : ByteArray) : (actV l kd nm tx nw).1.length ≤ 30 := by
 unfold actV
 split
 ·exact endV_le _
 ·exact Nat.zero_le _
theorem impl_DiskOk_some (l : List S67) (k : Nat) : impl_DiskOk.f k l = some (diskOkV l) := rfl
theorem impl_end (k : Nat) (o : Option (List S67)) : impl_DoAct.end_ k o = some (endV o) := by
 cases o with
 | none => rfl
 | some y =>
  rw [endV_some]
  simp only [impl_DoAct.end_, impl_DiskOk_some, Option.bind_some]
  by_cases h : diskOkV y = true
  ·rw [if_pos h, if_pos h, h]
  ·rw [if_neg h, if_neg h, (by simpa using h : diskOkV y = false)]
theorem impl_DoAct_eq (k : Nat) (l : List S67) (kd : Int) (nm tx nw : ByteArray) (ht : tx.size ≤ 4611686018427387904) : impl_DoAct.f k l kd nm tx nw = some (actV l kd nm tx nw) := by
 unfold impl_DoAct.f actV
 rw [impl_DiskOk_some, Option.bind_some]
 by_cases c : diskOkV l = true ∧ (kd = 3 ∨ nw.toList = []) ∧ (kd = 1 ∨ (tx.toList = [] ∧ 0 ≤ atN l nm 0))
 ·obtain ⟨hl, hf, ho⟩ := diskOk_iff.1 c.1
  rw [if_pos c, if_pos c, if_pos (by omega)]
  have hz : ∀ x ∈ l, x.f1.size ≤ 20000 := fun x hx => by
   have := hf x hx
   unfold fileOk at this
   simp only [Bool.and_eq_true, decide_eq_true_eq] at this
   omega
  have key : impl_DoAct.out l kd nm tx nw = some (actO l kd nm tx nw) := by
   unfold impl_DoAct.out actO
   rcases at_split l nm 0 with ⟨e, hn⟩ | ⟨a, x, b, rfl, hx, e⟩
   ·have h1 : kd = 1 := c.2.2.resolve_right (fun z => by rw [e] at z; omega)
    rw [if_pos h1, if_pos h1, e, if_neg (show ¬ (0 : Int) ≤ -1 by omega), if_neg (show ¬ (0 : Int) ≤ -1 by omega), if_pos (by rw [show (⟨#[]⟩ : ByteArray).size = 0 from rfl]; omega), putL_eq ho]
   ·have hx2 := hz x (by simp)
    rw [Nat.zero_add] at e
    have hpos : (0 : Int) ≤ (a.length : Int) := by omega
    rw [e, rd_mid, if_pos hpos, if_pos hpos, Int.toNat_natCast, if_pos (show x.f1.size + tx.size ≤ 9223372036854775807 by omega), putL_eq ho, set_mid, out_mid, putS_mid ho (f := ⟨x.f0, x.f1, (x.f1.size : Int)⟩) rfl, without_mid ho hx, putL_eq (split_order ho).2.2]
    by_cases c1 : kd = 1
    ·rw [if_pos c1, if_pos c1]
    rw [if_neg c1, if_neg c1]
    by_cases c2 : kd = 2
    ·rw [if_pos c2, if_pos c2]
    rw [if_neg c2, if_neg c2]
    by_cases c3 : kd = 3
    ·rw [if_pos c3, if_pos c3]
     by_cases c4 : nw.toList = nm.toList
     ·rw [if_pos c4, if_pos c4]
     rw [if_neg c4, if_neg c4]
     by_cases c5 : x.f2 = (x.f1.size : Int)
     ·rw [if_pos c5, if_pos c5]
     ·rw [if_neg c5, if_neg c5]
    rw [if_neg c3, if_neg c3]
    by_cases c4 : kd = 4
    ·rw [if_pos c4, if_pos c4]
    ·rw [if_neg c4, if_neg c4]
  rw [key, Option.bind_some, impl_end]
 ·rw [if_neg c, if_neg c]

theorem l03Name_eq (nm : ByteArray) : spec_l03Name.f nm = some (decide (1 ≤ (nm.size : Int) ∧ (nm.size : Int) ≤ 8)) := by
 unfold spec_l03Name.f
 rw [spec_l01In_eq]
 rfl
theorem spec_DiskOk_now (l : List S67) : Ev (fun k => spec_DiskOk.f k l) (diskOkV l) := Ev.now _
theorem end_ev (y : List S67) : Ev (fun k => (spec_DiskOk.f k y).bind fun t => if t = true then some (y, true) else some (([] : List S67), false)) (endV (some y)) := by
 refine Ev.bind (spec_DiskOk_now y) ?_
 rw [endV_some]
 by_cases h : diskOkV y = true
 ·simp only [if_pos h]; exact Ev.now _
 ·simp only [if_neg h]; exact Ev.now _
theorem bad_put {l : List S67} {f : S67} (h : ¬ (1 ≤ (f.f0.size : Int) ∧ (f.f0.size : Int) ≤ 8)) : endV (some (putS l f)) = ([], false) := by
 rw [endV_some, if_neg]
 intro e
 have := (diskOk_iff.1 e).2.1 f (by unfold putS; simp)
 unfold fileOk at this
 simp only [Bool.and_eq_true, decide_eq_true_eq] at this
 exact h this.1.1
theorem size_of_list {a b : ByteArray} (h : a.toList = b.toList) : a.size = b.size := by rw [str_toList.1 h]
theorem actV_name {l : List S67} {kd : Int} {nm tx nw : ByteArray} (hd : diskOkV l = true) (hn : ¬ (1 ≤ (nm.size : Int) ∧ (nm.size : Int) ≤ 8)) : actV l kd nm tx nw = ([], false) := by
 unfold actV
 split
 ·rename_i c
  rcases at_split l nm 0 with ⟨e, _⟩ | ⟨a, x, b, rfl, hx, e⟩
  ·have h1 : kd = 1 := c.2.2.resolve_right (fun z => by rw [e] at z; omega)
   unfold actO
   rw [if_pos h1, e, if_neg (by omega)]
   exact bad_put hn
  ·have := (diskOk_iff.1 hd).2.1 x (by simp)
   unfold fileOk at this
   simp only [Bool.and_eq_true, decide_eq_true_eq, size_of_list hx] at this
   exact absurd this.1.1 hn
 ·rfl
theorem spec_DoAct_ev (l : List S67) (kd : Int) (nm tx nw : ByteArray) (ht : tx.size ≤ 4611686018427387904) (hlen : l.length ≤ 1048576) : Ev (fun k => spec_DoAct.f k l kd nm tx nw) (actV l kd nm tx nw) := by
 have bad : ∀ V, V = ([], false) → Ev (fun k => spec_DoAct.j0 k true l kd nm tx nw) V := fun V e => by
  rw [e]
  exact Ev.step (fun k => by simp only [spec_DoAct.j0]; rfl) (Ev.pos (rfl : true = true) (Ev.now _))
 have no : ¬ (diskOkV l = true ∧ (kd = 3 ∨ nw.toList = []) ∧ (kd = 1 ∨ (tx.toList = [] ∧ 0 ≤ atN l nm 0))) → actV l kd nm tx nw = ([], false) := fun h => by
  unfold actV
  rw [if_neg h]
 unfold spec_DoAct.f
 refine Ev.bind (spec_DiskOk_now l) ?_
 by_cases hd : diskOkV l = true
 case neg => exact Ev.neg hd (bad _ (no fun z => hd z.1))
 refine Ev.pos hd (Ev.some_bind (l03Name_eq nm) ?_)
 by_cases hn : 1 ≤ (nm.size : Int) ∧ (nm.size : Int) ≤ 8
 case neg => exact Ev.neg (by rw [decide_eq_false hn]; simp) (bad _ (actV_name hd hn))
 refine Ev.pos (by rw [decide_eq_true hn]) ?_
 obtain ⟨h30, hf, ho⟩ := diskOk_iff.1 hd
 have j2bad : ∀ (f0 f1 : ByteArray) (f2 : Int), Ev (fun k => spec_DoAct.j2 k true l kd nm tx nw f0 f1 f2) ([], false) := fun f0 f1 f2 => Ev.step (f := fun _ => some ([], false)) (fun k => by unfold spec_DoAct.j2; exact if_pos rfl) (Ev.now _)
 have good : (kd = 3 ∨ nw.toList = []) → (kd = 1 ∨ tx.toList = []) → Ev (fun k => spec_DoAct.j0 k false l kd nm tx nw) (actV l kd nm tx nw) := by
  intro g1 g2
  refine Ev.step (fun k => by simp only [spec_DoAct.j0]; rfl) ?_
  refine Ev.neg (by simp) (Ev.bind (spec_at_ev l nm (by omega)) ?_)
  rcases at_split l nm 0 with ⟨e, hno⟩ | ⟨a, x, b, hl, hx, e⟩
  ·rw [e]
   refine Ev.neg (by omega) (Ev.step (fun k => by simp only [spec_DoAct.j1]; rfl) ?_)
   by_cases c1 : kd = 1
   ·have hv : actV l kd nm tx nw = endV (some (putS l ⟨nm, (⟨#[]⟩ : ByteArray) ++ tx, 0⟩)) := by
     unfold actV actO
     rw [if_pos ⟨hd, g1, .inl c1⟩, if_pos c1, e, if_neg (by omega)]
    rw [hv]
    exact Ev.pos c1 (Ev.pos (by rw [show (⟨#[]⟩ : ByteArray).size = 0 from rfl]; omega) (Ev.bind (spec_l03Put_ev l _ _ _ hlen) (end_ev _)))
   ·rw [no (fun z => c1 (z.2.2.resolve_right (fun y => by rw [e] at y; omega)))]
    exact Ev.neg c1 (Ev.pos (by omega) (Ev.now _))
  ·have hm : x ∈ l := by rw [hl]; simp
   have hxf := hf x hm
   unfold fileOk at hxf
   simp only [Bool.and_eq_true, decide_eq_true_eq] at hxf
   have hrd : rd_T67 l (a.length : Int) = x := by rw [hl]; exact rd_mid a x b
   have hal : a.length < l.length := by rw [hl]; simp
   rw [Nat.zero_add] at e
   have hv : actV l kd nm tx nw = endV (actO l kd nm tx nw) := by
    unfold actV
    rw [if_pos ⟨hd, g1, g2.imp id (fun z => ⟨z, by rw [e]; omega⟩)⟩]
   have hw : (without l nm).length ≤ 1048576 := Nat.le_trans (List.length_filter_le _ _) hlen
   rw [hv, e]
   unfold actO
   rw [e, hrd, if_pos (show (0 : Int) ≤ (a.length : Int) by omega)]
   refine Ev.pos (by omega) (Ev.pos (by omega) (Ev.pos (by omega) (Ev.step (fun k => by simp only [spec_DoAct.j1]; rfl) ?_)))
   by_cases c1 : kd = 1
   ·rw [if_pos c1]
    exact Ev.pos c1 (Ev.pos (by omega) (Ev.bind (spec_l03Put_ev l _ _ _ hlen) (end_ev _)))
   rw [if_neg c1]
   refine Ev.neg c1 (Ev.neg (by omega) ?_)
   by_cases c2 : kd = 2
   ·rw [if_pos c2]
    exact Ev.pos c2 (Ev.bind (spec_l03Put_ev l _ _ _ hlen) (end_ev _))
   rw [if_neg c2]
   refine Ev.neg c2 ?_
   by_cases c3 : kd = 3
   ·rw [if_pos c3]
    refine Ev.pos c3 ?_
    by_cases c5 : x.f2 < (x.f1.size : Int)
    ·have : (if nw.toList = nm.toList then none else if x.f2 = (x.f1.size : Int) then some (putS (without l nm) ⟨nw, x.f1, x.f2⟩) else none) = (none : Option (List S67)) := by
      by_cases c4 : nw.toList = nm.toList
      ·rw [if_pos c4]
      ·rw [if_neg c4, if_neg (by omega)]
     rw [this]
     exact Ev.pos c5 (j2bad _ _ _)
    refine Ev.neg c5 ?_
    by_cases c4 : nw.toList = nm.toList
    ·rw [if_pos c4]
     exact Ev.pos c4 (j2bad _ _ _)
    rw [if_neg c4, if_pos (by omega)]
    refine Ev.neg c4 (Ev.some_bind (l03Name_eq nw) ?_)
    by_cases c6 : 1 ≤ (nw.size : Int) ∧ (nw.size : Int) ≤ 8
    ·rw [decide_eq_true c6]
     exact Ev.step (fun k => by simp only [spec_DoAct.j2]; rfl) (Ev.neg (by simp) (Ev.bind (spec_l03Without_ev l nm hlen) (Ev.bind (spec_l03Put_ev (without l nm) _ _ _ hw) (end_ev _))))
    ·rw [decide_eq_false c6, bad_put (f := ⟨nw, x.f1, x.f2⟩) c6]
     exact j2bad _ _ _
   rw [if_neg c3]
   refine Ev.neg c3 ?_
   by_cases c4 : kd = 4
   ·rw [if_pos c4]
    exact Ev.pos c4 (Ev.bind (spec_l03Without_ev l nm hlen) (end_ev _))
   ·rw [if_neg c4]
    exact Ev.neg c4 (Ev.now _)
 have txt : kd ≠ 1 → (kd = 3 ∨ nw.toList = []) → Ev (fun k => spec_DoAct.j0 k (tx.toList != ([] : List UInt8)) l kd nm tx nw) (actV l kd nm tx nw) := fun c1 g => by
  by_cases ct : tx.toList = []
  ·rw [show (tx.toList != ([] : List UInt8)) = false by rw [ct]; rfl]
   exact good g (.inr ct)
  ·rw [show (tx.toList != ([] : List UInt8)) = true by simpa using ct]
   exact bad _ (no fun z => ct (z.2.2.resolve_left c1).1)
 by_cases c3 : kd = 3
 ·exact Ev.pos c3 (Ev.neg (by omega) (txt (by omega) (.inl c3)))
 refine Ev.neg c3 ?_
 by_cases cn : nw.toList = []
 ·refine Ev.pos cn ?_
  by_cases c1 : kd = 1
  ·exact Ev.pos c1 (good (.inr cn) (.inl c1))
  ·exact Ev.neg c1 (txt c1 (.inr cn))
 ·exact Ev.neg cn (bad _ (no fun z => z.2.1.elim c3 cn))

theorem szAct_ex (kd : Int) (nm tx nw : ByteArray) (h1 : nm.size ≤ 9223372036854775807) (h2 : tx.size ≤ 9223372036854775807) (h3 : nw.size ≤ 9223372036854775807) (left : Int) (hl0 : 0 ≤ left) (hl1 : left ≤ 1048576) :
  ∃ r, laws_szAct.f kd nm tx nw left = some r ∧ (¬ r < 0 → 0 ≤ r ∧ r ≤ left ∧ tx.size ≤ 1048576) := by
 unfold laws_szAct.f
 rw [w64 (x := left - (nm.size : Int)) (by omega) (by omega)]
 by_cases c1 : left - (nm.size : Int) < 0
 ·rw [if_pos c1]
  exact ⟨_, rfl, fun h => absurd (by omega) h⟩
 rw [if_neg c1, w64 (x := left - (nm.size : Int) - (tx.size : Int)) (by omega) (by omega)]
 by_cases c2 : left - (nm.size : Int) - (tx.size : Int) < 0
 ·rw [if_pos c2]
  exact ⟨_, rfl, fun h => absurd (by omega) h⟩
 rw [if_neg c2, w64 (by omega) (by omega)]
 by_cases c3 : left - (nm.size : Int) - (tx.size : Int) - (nw.size : Int) < 0
 ·rw [if_pos c3]
  exact ⟨_, rfl, fun h => absurd (by omega) h⟩
 ·rw [if_neg c3]
  exact ⟨_, rfl, fun h => ⟨by omega, by omega, by omega⟩⟩

/-! ### a list of acts as an argument of a law -/
def toA (y : S37) : S41 := ⟨y.f0, y.f1, y.f2, y.f3⟩
theorem rdLA_nat {l : List S37} {i : Nat} (h : i < l.length) : rd_T37 l (i : Int) = l[i] := by
 unfold rd_T37
 rw [Int.toNat_natCast, List.getD_eq_getElem?_getD, List.getElem?_eq_getElem h]
 rfl
theorem rdA_nat {l : List S41} {i : Nat} (h : i < l.length) : rd_T41 l (i : Int) = l[i] := by
 unfold rd_T41
 rw [Int.toNat_natCast, List.getD_eq_getElem?_getD, List.getElem?_eq_getElem h]
 rfl
theorem rdA_set {l : List S41} {i : Nat} (h : i < l.length) (v : S41) : rd_T41 (l.set i v) (i : Int) = v := by
 rw [rdA_nat (by rw [List.length_set]; exact h)]
 simp
theorem szActS_ex (l : List S37) (hl : l.length ≤ 9223372036854775807) (hw : ∀ y ∈ l, y.f1.size ≤ 9223372036854775807 ∧ y.f2.size ≤ 9223372036854775807 ∧ y.f3.size ≤ 9223372036854775807) (a : Int) (ha0 : 0 ≤ a) (ha1 : a ≤ 1048576) :
  ∃ r, Ev (fun k => laws_szActS.f k l a) r ∧ (¬ r < 0 → l.length ≤ 1048576 ∧ ∀ y ∈ l, y.f2.size ≤ 1048576) := by
 have key : ∀ d (i : Nat) (left : Int), i ≤ l.length → l.length - i = d → l.length ≤ 1048576 → 0 ≤ left → left ≤ 1048576 → ∃ r, Ev (fun k => laws_szActS.l0 k l left (i : Int)) r ∧ (¬ r < 0 → ∀ y ∈ l.drop i, y.f2.size ≤ 1048576) := by
  intro d
  induction d with
  | zero =>
   intro i left hi hd hlen h0 h1
   refine ⟨left, Ev.step (f := fun _ => some left) (fun k => by simp only [laws_szActS.l0]; rw [if_neg (by omega)]) (Ev.now _), fun _ y hy => ?_⟩
   rw [List.drop_of_length_le (by omega)] at hy
   simp at hy
  | succ d ih =>
   intro i left hi hd hlen h0 h1
   have hlt : i < l.length := by omega
   have hy := hw (l[i]) (List.getElem_mem hlt)
   obtain ⟨r, hr, hr2⟩ := szAct_ex (l[i].f0) (l[i].f1) (l[i].f2) (l[i].f3) hy.1 hy.2.1 hy.2.2 left h0 h1
   have hwr := wsucc (n := i) (by omega)
   by_cases c : r < 0
   ·refine ⟨-1, Ev.step (f := fun _ => some (-1)) (fun k => ?_) (Ev.now _), fun h => absurd (show (-1 : Int) < 0 by omega) h⟩
    simp only [laws_szActS.l0, rdLA_nat hlt, hr, Option.bind_some]
    rw [if_pos (by omega), if_pos (by omega), if_pos c]
   ·obtain ⟨s, hs, hs2⟩ := ih (i + 1) r (by omega) (by omega) hlen (by omega) (by have := (hr2 c).2.1; omega)
    refine ⟨s, Ev.step (fun k => ?_) hs, fun h y hy2 => ?_⟩
    ·simp only [laws_szActS.l0, rdLA_nat hlt, hr, Option.bind_some, hwr]
     rw [if_pos (by omega), if_pos (by omega), if_neg c]
    ·rw [List.drop_eq_getElem_cons hlt] at hy2
     rcases List.mem_cons.1 hy2 with h2 | h2
     ·rw [h2]; exact (hr2 c).2.2
     ·exact hs2 h y h2
 unfold laws_szActS.f
 by_cases c : wrap64 (a - (l.length : Int)) < 0
 ·refine ⟨-1, ?_, fun h => absurd (show (-1 : Int) < 0 by omega) h⟩
  simp only [if_pos c]
  exact Ev.now _
 ·rw [w64 (by omega) (by omega)] at c ⊢
  obtain ⟨r, hr, hr2⟩ := key l.length 0 (a - (l.length : Int)) (by omega) (by omega) (by omega) (by omega) (by omega)
  refine ⟨r, ?_, fun h => ⟨by omega, hr2 h⟩⟩
  simp only [if_neg c]
  exact hr
theorem toActS_ev (l : List S37) (hl : l.length ≤ 1048576) : Ev (fun k => laws_toActS.f k l) (l.map toA) := by
 have key : ∀ d (i : Nat), i ≤ l.length → l.length - i = d → Ev (fun k => laws_toActS.l0 k l ((l.take i).map toA ++ List.replicate (l.length - i) z41) (i : Int)) (l.map toA) := by
  intro d
  induction d with
  | zero =>
   intro i hi hd
   obtain rfl : i = l.length := by omega
   rw [List.take_length, Nat.sub_self, List.replicate_zero, List.append_nil]
   exact Ev.step (f := fun _ => some (l.map toA)) (fun k => by simp only [laws_toActS.l0]; rw [if_neg (by omega)]) (Ev.now _)
  | succ d ih =>
   intro i hi hd
   have hlt : i < l.length := by omega
   have hwr := wsucc (n := i) (by omega)
   have hlen : ((l.take i).map toA ++ List.replicate (l.length - i) z41).length = l.length := by simp; omega
   have hset : ((l.take i).map toA ++ List.replicate (l.length - i) z41).set i (toA l[i]) = (l.take (i + 1)).map toA ++ List.replicate (l.length - (i + 1)) z41 := by
    have h1 : ((l.take i).map toA).length = i := by simp; omega
    rw [List.set_append_right _ _ (by omega), h1, Nat.sub_self, show l.length - i = (l.length - (i + 1)) + 1 by omega, List.replicate_succ, List.set_cons_zero, List.take_succ_eq_append_getElem hlt, List.map_append, List.append_assoc]
    rfl
   have := ih (i + 1) (by omega) (by omega)
   rw [← hset] at this
   refine Ev.step (fun k => ?_) this
   simp only [laws_toActS.l0, laws_toAct.f, Option.bind_some, hlen, rdLA_nat hlt, hwr]
   rw [if_pos (by omega), if_pos (by omega), if_pos (by omega)]
   rfl
 have h0 := key l.length 0 (by omega) (by omega)
 rw [List.take_zero, List.map_nil, List.nil_append, Nat.sub_zero] at h0
 unfold laws_toActS.f
 simp only [Int.toNat_natCast, if_pos (show 0 ≤ (l.length : Int) by omega), if_pos (show l.length ≤ 5026338869833 by omega)]
 exact h0
theorem eqActS_ev (l : List S41) (hl : l.length ≤ 4611686018427387904) : Ev (fun k => laws_eqActS.f k l l) true := by
 have key : ∀ d (i : Nat), i ≤ l.length → l.length - i = d → Ev (fun k => laws_eqActS.l0 k l l (i : Int)) true := by
  intro d
  induction d with
  | zero =>
   intro i hi hd
   exact Ev.step (f := fun _ => some true) (fun k => by simp only [laws_eqActS.l0]; rw [if_neg (by omega)]) (Ev.now _)
  | succ d ih =>
   intro i hi hd
   have hwr := wsucc (n := i) (by omega)
   refine Ev.step (fun k => ?_) (ih (i + 1) (by omega) (by omega))
   simp only [laws_eqActS.l0, laws_eqAct.f, if_true, Option.bind_some, hwr]
   rw [if_pos (by omega), if_pos (by omega), if_pos (by omega)]
 unfold laws_eqActS.f
 simp only [if_true]
 exact key l.length 0 (by omega) (by omega)
theorem markActS_ex (T : Nat → ByteArray) (hT : ∀ m : Nat, m ≤ 1000000000000 → Ev (fun k => laws_markText.f k (m : Int)) (T m)) (l : List S41) (m : Nat) (hl : 4 * l.length + m ≤ 1000000000000) :
  ∃ r, Ev (fun k => laws_markActS.f k l (m : Int)) (((m + 4 * l.length : Nat) : Int), r) := by
 have key : ∀ d (i : Nat) (x : List S41), x.length = l.length → i ≤ l.length → l.length - i = d → ∃ r, Ev (fun k => laws_markActS.l0 k x ((m + 4 * i : Nat) : Int) (i : Int)) (((m + 4 * l.length : Nat) : Int), r) := by
  intro d
  induction d with
  | zero =>
   intro i x hx hi hd
   obtain rfl : i = l.length := by omega
   exact ⟨x, Ev.step (f := fun _ => some (((m + 4 * l.length : Nat) : Int), x)) (fun k => by simp only [laws_markActS.l0]; rw [if_neg (by omega)]) (Ev.now _)⟩
  | succ d ih =>
   intro i x hx hi hd
   obtain ⟨r, hr⟩ := ih (i + 1) (x.set i ⟨((m + 4 * i : Nat) : Int), T (m + 4 * i + 1), T (m + 4 * i + 1 + 1), T (m + 4 * i + 1 + 1 + 1)⟩) (by simp [hx]) (by omega) (by omega)
   have r1 : ∀ v, rd_T41 (x.set i v) (i : Int) = v := fun v => rdA_set (by omega) v
   refine ⟨r, Ev.step (f := fun k => (laws_markText.f k ((m + 4 * i + 1 : Nat) : Int)).bind fun t => (laws_markText.f k ((m + 4 * i + 1 + 1 : Nat) : Int)).bind fun u => (laws_markText.f k ((m + 4 * i + 1 + 1 + 1 : Nat) : Int)).bind fun v => laws_markActS.l0 k (x.set i ⟨((m + 4 * i : Nat) : Int), t, u, v⟩) ((m + 4 * (i + 1) : Nat) : Int) ((i + 1 : Nat) : Int)) (fun k => ?_) (Ev.bind (hT (m + 4 * i + 1) (by omega)) (Ev.bind (hT (m + 4 * i + 1 + 1) (by omega)) (Ev.bind (hT (m + 4 * i + 1 + 1 + 1) (by omega)) hr)))⟩
   simp only [laws_markActS.l0]
   rw [hx, if_pos (by omega), wsucc (n := m + 4 * i) (by omega), wsucc (n := m + 4 * i + 1) (by omega), wsucc (n := m + 4 * i + 1 + 1) (by omega), wsucc (n := m + 4 * i + 1 + 1 + 1) (by omega), wsucc (n := i) (by omega)]
   simp only [if_pos (show 0 ≤ (i : Int) by omega), Int.toNat_natCast, Option.bind_some, r1, List.set_set]
   rfl
 exact key l.length 0 l rfl (by omega) (by omega)

/-! ### acts, one behind another -/
def runA : List S67 → List S41 → Nat → List S67 × Int
 | d, [], i => (d, (i : Int))
 | d, x :: l, i => if (actV d x.f0 x.f1 x.f2 x.f3).2 = true then runA (actV d x.f0 x.f1 x.f2 x.f3).1 l (i + 1) else (d, (i : Int))
theorem runA_le : ∀ (l : List S41) (d : List S67) (i : Nat), d.length ≤ 1048576 → (runA d l i).1.length ≤ 1048576
 | [], d, i, h => h
 | x :: l, d, i, h => by
  unfold runA
  split
  ·exact runA_le l _ _ (Nat.le_trans (actV_le ..) (by omega))
  ·exact h
theorem spec_DoActs_ev (d : List S67) (L : List S41) (hd : d.length ≤ 1048576) (hL : L.length ≤ 1048576) (ht : ∀ x ∈ L, x.f2.size ≤ 1048576) : Ev (fun k => spec_DoActs.f k d L) (runA d L 0) := by
 have key : ∀ n i : Nat, ∀ d : List S67, d.length ≤ 1048576 → i ≤ L.length → L.length - i = n → Ev (fun k => spec_DoActs.l0 k L (i : Int) d) (runA d (L.drop i) i) := by
  intro n
  induction n with
  | zero =>
   intro i d hd hi hn
   obtain rfl : i = L.length := by omega
   rw [List.drop_length]
   exact Ev.step (f := fun _ => some (d, (L.length : Int))) (fun k => by simp only [spec_DoActs.l0]; rw [if_neg (by omega)]) (Ev.now _)
  | succ n ih =>
   intro i d hd hi hn
   have ci : i < L.length := by omega
   have sp := spec_DoAct_ev d L[i].f0 L[i].f1 L[i].f2 L[i].f3 (by have := ht _ (List.getElem_mem ci); omega) hd
   have le := actV_le d L[i].f0 L[i].f1 L[i].f2 L[i].f3
   rw [List.drop_eq_getElem_cons ci]
   unfold runA
   refine Ev.step (f := fun k => (spec_DoAct.f k d L[i].f0 L[i].f1 L[i].f2 L[i].f3).bind fun b => if b.2 = true then spec_DoActs.l0 k L ((i + 1 : Nat) : Int) b.1 else some (d, (i : Int))) (fun k => ?_) (Ev.bind sp ?_)
   ·simp only [spec_DoActs.l0]
    rw [if_pos (by omega), if_pos (by omega), rdA_nat ci, wsucc (by omega)]
   ·by_cases c : (actV d L[i].f0 L[i].f1 L[i].f2 L[i].f3).2 = true
    ·simp only [if_pos c]
     exact ih (i + 1) _ (by omega) (by omega) (by omega)
    ·simp only [if_neg c]
     exact Ev.now _
 unfold spec_DoActs.f
 refine Ev.some_bind (x := []) rfl (Ev.pos (show ([] : List S67).length + d.length < 3518437208883 by rw [List.length_nil]; omega) ?_)
 exact key L.length 0 d hd (by omega) (by omega)
theorem impl_DoActs_ev (d : List S67) (L : List S41) (hd : d.length ≤ 1048576) (hL : L.length ≤ 1048576) (ht : ∀ x ∈ L, x.f2.size ≤ 1048576) : Ev (fun k => impl_DoActs.f k d L) (runA d L 0) := by
 have key : ∀ n i : Nat, ∀ d : List S67, d.length ≤ 1048576 → i ≤ L.length → L.length - i = n → Ev (fun k => impl_DoActs.l0 k L L (L.length : Int) (i : Int) d) (runA d (L.drop i) i) := by
  intro n
  induction n with
  | zero =>
   intro i d hd hi hn
   obtain rfl : i = L.length := by omega
   rw [List.drop_length]
   exact Ev.step (f := fun _ => some (d, (L.length : Int))) (fun k => by simp only [impl_DoActs.l0]; rw [if_neg (by omega)]) (Ev.now _)
  | succ n ih =>
   intro i d hd hi hn
   have ci : i < L.length := by omega
   have sp : Ev (fun k => impl_DoAct.f k d L[i].f0 L[i].f1 L[i].f2 L[i].f3) (actV d L[i].f0 L[i].f1 L[i].f2 L[i].f3) := ⟨0, fun k _ => impl_DoAct_eq k _ _ _ _ _ (by have := ht _ (List.getElem_mem ci); omega)⟩
   have le := actV_le d L[i].f0 L[i].f1 L[i].f2 L[i].f3
   rw [List.drop_eq_getElem_cons ci]
   unfold runA
   refine Ev.step (f := fun k => (impl_DoAct.f k d L[i].f0 L[i].f1 L[i].f2 L[i].f3).bind fun b => if b.2 = true then impl_DoActs.l0 k L L (L.length : Int) ((i + 1 : Nat) : Int) b.1 else some (d, (i : Int))) (fun k => ?_) (Ev.bind sp ?_)
   ·simp only [impl_DoActs.l0]
    rw [if_pos (by omega), if_pos (by omega), if_pos (by omega), rdA_nat ci, wsucc (by omega)]
   ·by_cases c : (actV d L[i].f0 L[i].f1 L[i].f2 L[i].f3).2 = true
    ·simp only [if_pos c]
     exact ih (i + 1) _ (by omega) (by omega) (by omega)
    ·simp only [if_neg c]
     exact Ev.now _
 unfold impl_DoActs.f
 refine Ev.some_bind (x := d) (by unfold impl_copyDisk.f; rw [if_pos (by omega)]) ?_
 exact key L.length 0 d hd (by omega) (by omega)

/-! ### acts cut off -/
def cutV (d : List S67) (L : List S41) (a : Int) (left : List Int) : List S67 × Bool :=
 if 0 ≤ a ∧ a ≤ (L.length : Int) then (if (runA d (L.take a.toNat) 0).2 < a then ([], false) else lostV (runA d (L.take a.toNat) 0).1 left) else ([], false)
theorem lostV_le (l : List S67) (l1 : List Int) (h : l.length ≤ 1048576) : (lostV l l1).1.length ≤ 1048576 := by
 unfold lostV
 split
 ·rw [lostP_length]; exact h
 ·exact Nat.zero_le _
theorem cutV_le (d : List S67) (L : List S41) (a : Int) (left : List Int) (hd : d.length ≤ 1048576) : (cutV d L a left).1.length ≤ 1048576 := by
 unfold cutV
 split
 ·split
  ·exact Nat.zero_le _
  ·exact lostV_le _ _ (runA_le _ _ _ hd)
 ·exact Nat.zero_le _
theorem spec_CutActs_ev (d : List S67) (L : List S41) (a : Int) (left : List Int) (hd : d.length ≤ 1048576) (hL : L.length ≤ 1048576) (ht : ∀ x ∈ L, x.f2.size ≤ 1048576) : Ev (fun k => spec_CutActs.f k d L a left) (cutV d L a left) := by
 unfold spec_CutActs.f cutV
 refine Ev.some_bind (spec_l01In_eq _ _ _) ?_
 by_cases c : 0 ≤ a ∧ a ≤ (L.length : Int)
 ·rw [if_pos c, decide_eq_true c]
  refine Ev.pos (rfl : true = true) (Ev.pos c.1 (Ev.pos c.2 (Ev.bind (spec_DoActs_ev d (L.take a.toNat) hd (Nat.le_trans (List.length_take_le _ _) (by omega)) (fun x hx => ht x (List.mem_of_mem_take hx))) ?_)))
  by_cases c2 : (runA d (L.take a.toNat) 0).2 < a
  ·rw [if_pos c2]
   exact Ev.pos c2 (Ev.now _)
  ·rw [if_neg c2]
   exact Ev.neg c2 (Ev.bind (spec_LoseDisk_ev _ left (runA_le _ _ _ hd)) (Ev.now _))
 ·rw [if_neg c, decide_eq_false c]
  exact Ev.neg (by simp) (Ev.now _)
theorem impl_CutActs_ev (d : List S67) (L : List S41) (a : Int) (left : List Int) (hd : d.length ≤ 1048576) (hL : L.length ≤ 1048576) (ht : ∀ x ∈ L, x.f2.size ≤ 1048576) : Ev (fun k => impl_CutActs.f k d L a left) (cutV d L a left) := by
 unfold impl_CutActs.f cutV
 refine Ev.some_bind (impl_within_eq _ _ _) ?_
 by_cases c : 0 ≤ a ∧ a ≤ (L.length : Int)
 ·rw [if_pos c, decide_eq_true c]
  refine Ev.pos (rfl : true = true) (Ev.pos c.1 (Ev.pos c.2 (Ev.bind (impl_DoActs_ev d (L.take a.toNat) hd (Nat.le_trans (List.length_take_le _ _) (by omega)) (fun x hx => ht x (List.mem_of_mem_take hx))) ?_)))
  by_cases c2 : (runA d (L.take a.toNat) 0).2 < a
  ·rw [if_pos c2]
   exact Ev.pos c2 (Ev.now _)
  ·rw [if_neg c2]
   exact Ev.neg c2 (Ev.bind (impl_LoseDisk_ev _ left (runA_le _ _ _ hd)) (Ev.now _))
 ·rw [if_neg c, decide_eq_false c]
  exact Ev.neg (by simp) (Ev.now _)

theorem FnExactCutActs : laws_FnExactCutActs.Pure := by
 intro l l1 a l3 hl hl1 ha hl3
 obtain ⟨h1, h2⟩ := hl
 obtain ⟨h3, h4⟩ := hl1
 have hml : l.length ≤ 9223372036854775807 := h1
 have hml1 : l1.length ≤ 9223372036854775807 := h3
 obtain ⟨r, hr, hr2⟩ := szDisk_ex l hml (fun y hy => ⟨(h2 y hy).1, (h2 y hy).2.1⟩)
 refine Ev.rounds ?_
 unfold laws_FnExactCutActs.f
 by_cases c0 : (l3.length : Int) > 1048576
 ·exact Ev.pos c0 (Ev.now _)
 refine Ev.neg c0 (Ev.bind hr ?_)
 by_cases c : r < 0
 ·exact Ev.pos c (Ev.now _)
 refine Ev.neg c ?_
 have hb := (hr2 c).1
 obtain ⟨s, hs, hs2⟩ := szActS_ex l1 hml1 (fun y hy => ⟨(h4 y hy).2.1, (h4 y hy).2.2.1, (h4 y hy).2.2.2⟩) r (by omega) (hr2 c).2.1
 refine Ev.bind hs ?_
 by_cases c2 : s < 0
 ·exact Ev.pos c2 (Ev.now _)
 refine Ev.neg c2 ?_
 obtain ⟨hb1, ht⟩ := hs2 c2
 have hb2 : (l.map toF).length ≤ 1048576 := by rw [List.length_map]; omega
 have hb3 : (l1.map toA).length ≤ 1048576 := by rw [List.length_map]; omega
 have ht2 : ∀ x ∈ l1.map toA, x.f2.size ≤ 1048576 := fun x hx => by
  obtain ⟨y, hy, rfl⟩ := List.mem_map.1 hx
  exact ht y hy
 have td := toDisk_ev l hb
 have ta := toActS_ev l1 hb1
 have ti := toIntS_ev l3 (by omega)
 have sp := spec_CutActs_ev (l.map toF) (l1.map toA) a l3 hb2 hb3 ht2
 have im := impl_CutActs_ev (l.map toF) (l1.map toA) a l3 hb2 hb3 ht2
 have hv := cutV_le (l.map toF) (l1.map toA) a l3 hb2
 have e1 := eqDisk_ev (cutV (l.map toF) (l1.map toA) a l3).1 (by omega)
 have e2 := eqDisk_ev (l.map toF) (by omega)
 have e3 := eqActS_ev (l1.map toA) (by omega)
 have e4 := eqIntS_ev l3 (by omega)
 obtain ⟨T, hT⟩ := markText_fun
 have m1 := markDisk_ev T hT (l.map toF) 1 (by omega)
 obtain ⟨q, m2⟩ := markActS_ex T hT (l1.map toA) (1 + 3 * (l.map toF).length) (by omega)
 obtain ⟨q2, m5⟩ := markIntS_ex l3 (1 + 3 * (l.map toF).length + 4 * (l1.map toA).length) (by omega)
 have m3 := markDisk_ev T hT (cutV (l.map toF) (l1.map toA) a l3).1 1 (by omega)
 have m4 := heldDisk_ev T hT (cutV (l.map toF) (l1.map toA) a l3).1.length 1 (by omega)
 generalize cutV (l.map toF) (l1.map toA) a l3 = v at *
 refine Ev.bind td (Ev.bind ta (Ev.bind ti (Ev.bind sp (Ev.bind td (Ev.bind ta (Ev.bind ti (Ev.bind im (Ev.bind e1 (Ev.pos rfl ?_)))))))))
 simp only [bne_self_eq_false]
 have j2 : Ev (fun k => laws_FnExactCutActs.j2 k ((1 + 3 * v.1.length : Nat) : Int) false (markedF T 1 v.1.length)) true := by
  refine Ev.step (fun k => by simp only [laws_FnExactCutActs.j2]; rfl) ?_
  exact Ev.neg (by simp) (Ev.bind m4 (Ev.neg (by omega) (Ev.pos rfl (Ev.now _))))
 have j1 : Ev (fun k => laws_FnExactCutActs.j1 k l1 a l3 v.2 false l v.1 v.1) true := by
  refine Ev.step (fun k => by simp only [laws_FnExactCutActs.j1]; rfl) ?_
  refine Ev.neg (by simp) (Ev.bind m3 (Ev.bind m4 (Ev.neg (by omega) (Ev.pos rfl (Ev.bind td (Ev.bind ta (Ev.bind ti (Ev.bind im (Ev.bind e1 (Ev.pos rfl ?_))))))))))
  simp only [bne_self_eq_false]
  exact j2
 refine Ev.step (fun k => by simp only [laws_FnExactCutActs.j0]; rfl) ?_
 refine Ev.neg (by simp) (Ev.bind td (Ev.bind e2 (Ev.pos rfl (Ev.bind ta (Ev.bind e3 (Ev.pos rfl (Ev.bind ti (Ev.bind e4 (Ev.pos rfl (Ev.bind m1 (Ev.bind m2 (Ev.bind m5 (Ev.neg (by omega) (Ev.bind e1 (Ev.pos rfl ?_)))))))))))))))
 simp only [bne_self_eq_false]
 exact j1


end Go.Proofs.Ytnkldnkolcighaa.Pure
