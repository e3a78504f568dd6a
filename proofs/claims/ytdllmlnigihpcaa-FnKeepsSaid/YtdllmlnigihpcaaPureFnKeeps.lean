/- Of a disk that is drawn and right what is kept is never lost, of what is not kept a beginning is left, and lost again nothing more is lost. -/
import Derived.Test.YtdllmlnigihpcaaXFnKeepsx7
set_option linter.unusedVariables false
set_option linter.unusedSimpArgs false
namespace Go.Proofs.Ytdllmlnigihpcaa.Pure
open Go.RowKit Go.Proofs.Ytdllmlnigihpcaa.XFnKeeps Go.Proofs.YtdllmlnigihpcaaW.PrintWords Go.Proofs.YtdllmlnigihpcaaW.PrintLast

/-! ### small words -/
theorem w64 {x : Int} (h0 : -9223372036854775808 ≤ x) (h1 : x ≤ 9223372036854775807) : wrap64 x = x := by
  unfold wrap64
  omega
theorem wf64 {x : Int} (h : (Lit.int .i64 x).wf = true) : -9223372036854775808 ≤ x ∧ x ≤ 9223372036854775807 := by
  simp [Lit.wf, IntKind.min, IntKind.max, IntKind.signed, IntKind.bits] at h
  omega
theorem wfu32 {x : Int} (h : (Lit.int .u32 x).wf = true) : 0 ≤ x ∧ x ≤ 4294967295 := by
  simp [Lit.wf, IntKind.min, IntKind.max, IntKind.signed, IntKind.bits] at h
  omega
theorem wfu8 {x : Int} (h : (Lit.int .u8 x).wf = true) : 0 ≤ x ∧ x ≤ 255 := by
  simp [Lit.wf, IntKind.min, IntKind.max, IntKind.signed, IntKind.bits] at h
  omega
theorem wsucc {n : Nat} (h : n ≤ 4611686018427387904) : wrap64 ((n : Int) + 1) = ((n + 1 : Nat) : Int) := by
  rw [w64 (by omega) (by omega)]
  rfl
theorem wadd {a b : Nat} (h : a + b ≤ 4611686018427387904) : wrap64 ((a : Int) + (b : Int)) = ((a + b : Nat) : Int) := by
  rw [w64 (by omega) (by omega)]
  rfl
theorem wnat {n : Nat} (h : n ≤ 4611686018427387904) : wrap64 (n : Int) = (n : Int) := w64 (by omega) (by omega)
theorem Ev.some_bind {α β : Type} {a : Option α} {x : α} (h : a = some x) {f : Nat → α → Option β} {r : β} (k : Ev (fun n => f n x) r) : Ev (fun n => a.bind (f n)) r := by
  subst h
  exact k
theorem Ev.pos {α : Type} {p : Prop} [Decidable p] (h : p) {f g : Nat → Option α} {r : α} (k : Ev f r) : Ev (fun n => if p then f n else g n) r :=
  Ev.congr (fun _ => if_pos h) k
theorem Ev.neg {α : Type} {p : Prop} [Decidable p] (h : ¬ p) {f g : Nat → Option α} {r : α} (k : Ev g r) : Ev (fun n => if p then f n else g n) r :=
  Ev.congr (fun _ => if_neg h) k
theorem tmod_nat {x : Int} (h0 : 0 ≤ x) (N : Nat) : ∃ c : Nat, Int.tmod x ((N + 1 : Nat) : Int) = (c : Int) ∧ c ≤ N := by
  obtain ⟨c, hc⟩ := Int.eq_ofNat_of_zero_le (Int.tmod_nonneg ((N + 1 : Nat) : Int) h0)
  have hlt := Int.tmod_lt_of_pos x (show (0 : Int) < ((N + 1 : Nat) : Int) by omega)
  rw [hc] at hlt
  exact ⟨c, hc, by omega⟩

theorem strOfNums_size (xs : List Int) : (strOfNums xs).size = xs.length := by simp [strOfNums, ByteArray.size]
theorem str_ext {a b : ByteArray} (h : a.data.toList = b.data.toList) : a = b := by
  apply ByteArray.ext
  exact Array.toList_inj.1 h
theorem str_app (a b : ByteArray) : (a ++ b).data.toList = a.data.toList ++ b.data.toList := by simp [ByteArray.data_append]
theorem str_cut (s : ByteArray) (a b : Nat) : (s.extract a b).data.toList = (s.data.toList.drop a).take (b - a) := by
  obtain ⟨⟨l⟩⟩ := s
  simp [ByteArray.data_extract, List.extract_eq_take_drop]
theorem str_len (s : ByteArray) : s.data.toList.length = s.size := rfl
theorem str_toList {a b : ByteArray} : a.toList = b.toList ↔ a = b := by
  rw [ByteArray.toList_eq, ByteArray.toList_eq]
  exact ⟨str_ext, fun h => by rw [h]⟩
theorem str_split (s : ByteArray) (n : Nat) (h : n ≤ s.size) : s.extract 0 n ++ s.extract n s.size = s := by
  apply str_ext
  rw [str_app, str_cut, str_cut, List.drop_zero, Nat.sub_zero, List.take_of_length_le (l := s.data.toList.drop n) (by simp [str_len]), List.take_append_drop]
theorem str_app_inj {a b c : ByteArray} (h : a ++ b = a ++ c) : b = c := by
  have := congrArg (fun s : ByteArray => s.data.toList) h
  simp only [str_app] at this
  exact str_ext (List.append_cancel_left this)
theorem cut_size (s : ByteArray) {n : Nat} (h : n ≤ s.size) : (s.extract 0 n).size = n := by
  rw [ByteArray.size_extract]
  omega

theorem impl_within_eq (a l h : Int) : impl_within.f a l h = some (decide (l ≤ a ∧ a ≤ h)) := by
  unfold impl_within.f
  by_cases h1 : l ≤ a
  · rw [if_pos h1]; simp [h1]
  · rw [if_neg h1]; simp [h1]

/-! ### files -/
theorem rdF_nat {l : List S57} {i : Nat} (h : i < l.length) : rd_T57 l (i : Int) = l[i] := by
  unfold rd_T57
  rw [Int.toNat_natCast, List.getD_eq_getElem?_getD, List.getElem?_eq_getElem h]
  rfl
def fileOk (f : S57) : Bool := decide (1 ≤ (f.f0.size : Int) ∧ (f.f0.size : Int) ≤ 8) && decide (¬ (f.f1.size : Int) > 20000) && decide (0 ≤ f.f2 ∧ f.f2 ≤ (f.f1.size : Int))
def placeOk (l : List S57) (i : Nat) : Bool := fileOk (rd_T57 l (i : Int)) && (decide (i = 0) || Op.bytesLess ((rd_T57 l ((i - 1 : Nat) : Int)).f0.toList) ((rd_T57 l (i : Int)).f0.toList))
def allFrom (l : List S57) : Nat → Nat → Bool
  | 0, _ => true
  | d + 1, i => placeOk l i && allFrom l d (i + 1)
def diskOkV (l : List S57) : Bool := decide ((l.length : Int) ≤ 30) && allFrom l l.length 0

theorem impl_DiskOk_l0 (l : List S57) (hl : l.length ≤ 4611686018427387904) (d : Nat) : ∀ i : Nat, i ≤ l.length → l.length - i = d → Ev (fun k => impl_DiskOk.l0 k l (l.length : Int) (i : Int) l) (allFrom l d i && decide ((l.length : Int) ≤ 30)) := by
  induction d with
  | zero =>
    intro i hi hd
    exact Ev.step (f := fun _ => some (decide ((l.length : Int) ≤ 30))) (fun k => by simp only [impl_DiskOk.l0]; rw [if_neg (by omega)]) (Ev.now _)
  | succ d ih =>
    intro i hi hd
    have g1 : (i : Int) < (l.length : Int) := by omega
    have g2 : 0 ≤ (i : Int) := by omega
    have hw := wsucc (n := i) (by omega)
    have hrec := ih (i + 1) (by omega) (by omega)
    unfold allFrom placeOk fileOk
    by_cases c1 : 1 ≤ ((rd_T57 l (i : Int)).f0.size : Int) ∧ ((rd_T57 l (i : Int)).f0.size : Int) ≤ 8
    · rw [decide_eq_true c1, Bool.true_and]
      by_cases c2 : ((rd_T57 l (i : Int)).f1.size : Int) > 20000
      · rw [decide_eq_false (fun h => h c2)]
        refine Ev.step (f := fun _ => some false) (fun k => ?_) (by simpa using Ev.now _)
        simp only [impl_DiskOk.l0, impl_within_eq, decide_eq_true c1, Option.bind_some]
        rw [if_pos g1, if_pos g2, if_pos g1, if_pos trivial, if_pos c2]
      · rw [decide_eq_true c2, Bool.true_and]
        by_cases c3 : 0 ≤ (rd_T57 l (i : Int)).f2 ∧ (rd_T57 l (i : Int)).f2 ≤ ((rd_T57 l (i : Int)).f1.size : Int)
        · rw [decide_eq_true c3, Bool.true_and]
          by_cases c4 : i = 0
          · rw [decide_eq_true c4, Bool.true_or, Bool.true_and]
            refine Ev.step (fun k => ?_) hrec
            simp only [impl_DiskOk.l0, impl_within_eq, decide_eq_true c1, decide_eq_true c3, Option.bind_some]
            rw [if_pos g1, if_pos g2, if_pos g1, if_pos trivial, if_neg c2, if_pos trivial, if_neg (by omega), hw]
          · rw [decide_eq_false c4, Bool.false_or]
            have hp : wrap64 ((i : Int) - 1) = ((i - 1 : Nat) : Int) := by rw [w64 (by omega) (by omega)]; omega
            have g3 : (i : Int) > 0 := by omega
            have g4 : 0 ≤ ((i - 1 : Nat) : Int) := by omega
            have g5 : ((i - 1 : Nat) : Int) < (l.length : Int) := by omega
            by_cases c5 : Op.bytesLess ((rd_T57 l ((i - 1 : Nat) : Int)).f0.toList) ((rd_T57 l (i : Int)).f0.toList) = true
            · rw [c5, Bool.true_and]
              refine Ev.step (fun k => ?_) hrec
              simp only [impl_DiskOk.l0, impl_within_eq, decide_eq_true c1, decide_eq_true c3, Option.bind_some, hp]
              rw [if_pos g1, if_pos g2, if_pos g1, if_pos trivial, if_neg c2, if_pos trivial, if_pos g3, if_pos g4, if_pos g5, if_pos c5, hw]
            · rw [Bool.eq_false_iff.2 c5]
              refine Ev.step (f := fun _ => some false) (fun k => ?_) (by simpa using Ev.now _)
              simp only [impl_DiskOk.l0, impl_within_eq, decide_eq_true c1, decide_eq_true c3, Option.bind_some, hp]
              rw [if_pos g1, if_pos g2, if_pos g1, if_pos trivial, if_neg c2, if_pos trivial, if_pos g3, if_pos g4, if_pos g5, if_neg c5]
        · rw [decide_eq_false c3]
          refine Ev.step (f := fun _ => some false) (fun k => ?_) (by simpa using Ev.now _)
          simp only [impl_DiskOk.l0, impl_within_eq, decide_eq_true c1, decide_eq_false c3, Option.bind_some]
          rw [if_pos g1, if_pos g2, if_pos g1, if_pos trivial, if_neg c2, if_neg (by simp)]
    · rw [decide_eq_false c1]
      refine Ev.step (f := fun _ => some false) (fun k => ?_) (by simpa using Ev.now _)
      simp only [impl_DiskOk.l0, impl_within_eq, decide_eq_false c1, Option.bind_some]
      rw [if_pos g1, if_pos g2, if_pos g1, if_neg (by simp)]
theorem impl_DiskOk_ev (l : List S57) (hl : l.length ≤ 4611686018427387904) : Ev (fun k => impl_DiskOk.f k l) (diskOkV l) := by
  unfold impl_DiskOk.f diskOkV
  rw [Bool.and_comm]
  exact impl_DiskOk_l0 l hl l.length 0 (by omega) (by omega)

/-! ### what is drawn -/
theorem and255_range (x : Int) : 0 ≤ Go.bits .and .i64 x 255 ∧ Go.bits .and .i64 x 255 ≤ 255 := by
  have e : ((BitVec.ofInt 64 x) &&& (BitVec.ofInt 64 255)).toNat = (x % 18446744073709551616).toNat % 256 := by
    rw [BitVec.toNat_and, BitVec.toNat_ofInt, show (BitVec.ofInt 64 255).toNat = 2 ^ 8 - 1 by decide, Nat.and_two_pow_sub_one_eq_mod]
    rfl
  have e2 : Go.bits .and .i64 x 255 = IntKind.i64.wrap (((BitVec.ofInt 64 x) &&& (BitVec.ofInt 64 255)).toNat : Int) := rfl
  rw [e2, e, IntKind.wrap_i64]
  omega
theorem byte_ex (l : List Int) (i h : Int) (hl : l.length ≤ 140737488351232) (hi : 0 ≤ i) : ∃ x i' h', spec_l01Byte.f l i h = some (x, i', h') ∧ 0 ≤ x ∧ x ≤ 255 ∧ 0 ≤ i' := by
  unfold spec_l01Byte.f
  by_cases c : i < (l.length : Int)
  · rw [if_pos c, if_pos hi]
    refine ⟨_, _, _, rfl, (and255_range _).1, (and255_range _).2, ?_⟩
    rw [w64 (by omega) (by omega)]
    omega
  · rw [if_neg c]
    exact ⟨_, _, _, rfl, (and255_range _).1, (and255_range _).2, hi⟩
theorem below_ex (l : List Int) (i h n : Int) (hl : l.length ≤ 140737488351232) (hi : 0 ≤ i) (hn : n ≤ 4294967296) : ∃ x i' h', spec_l01Below.f l i h n = some (x, i', h') ∧ 0 ≤ x ∧ (0 < n → x < n) ∧ (n ≤ 0 → x = 0) ∧ 0 ≤ i' := by
  unfold spec_l01Below.f
  by_cases c1 : n ≤ 0
  · rw [if_pos c1]
    exact ⟨_, _, _, rfl, by omega, by omega, fun _ => rfl, hi⟩
  · rw [if_neg c1]
    by_cases c2 : n ≤ 256
    · rw [if_pos c2]
      obtain ⟨x, i1, h1, e1, b0, b1, hi1⟩ := byte_ex l i h hl hi
      simp only [e1, Option.bind_some]
      rw [if_neg (by omega)]
      refine ⟨_, _, _, rfl, Int.tmod_nonneg _ b0, fun _ => ?_, by omega, hi1⟩
      exact Int.tmod_lt_of_pos _ (by omega)
    · rw [if_neg c2]
      obtain ⟨x, i1, h1, e1, x0, x1, hi1⟩ := byte_ex l i h hl hi
      obtain ⟨y, i2, h2, e2, y0, y1, hi2⟩ := byte_ex l i1 h1 hl hi1
      obtain ⟨z, i3, h3, e3, z0, z1, hi3⟩ := byte_ex l i2 h2 hl hi2
      obtain ⟨u, i4, h4, e4, u0, u1, hi4⟩ := byte_ex l i3 h3 hl hi3
      simp only [e1, e2, e3, e4, Option.bind_some]
      rw [if_neg (by omega)]
      refine ⟨_, _, _, rfl, Int.tmod_nonneg _ ?_, fun _ => Int.tmod_lt_of_pos _ (by omega), by omega, hi4⟩
      rw [w64 (x := x * 16777216) (by omega) (by omega), w64 (x := y * 65536) (by omega) (by omega), w64 (x := z * 256) (by omega) (by omega), w64 (x := x * 16777216 + y * 65536) (by omega) (by omega), w64 (x := x * 16777216 + y * 65536 + z * 256) (by omega) (by omega), w64 (by omega) (by omega)]
      omega
theorem new_ev (l : List Int) (hl : l.length ≤ 140737488351232) : ∃ h, Ev (fun k => spec_l01New.f k l) (l, 0, h) := by
  have key : ∀ d (i : Nat) (h : Int), l.length - i = d → ∃ h', Ev (fun k => spec_l01New.l0 k l h (i : Int)) (l, 0, h') := by
    intro d
    induction d with
    | zero =>
      intro i h hd
      exact ⟨h, Ev.step (f := fun _ => some (l, 0, h)) (fun k => by simp only [spec_l01New.l0]; rw [if_neg (by omega)]) (Ev.now _)⟩
    | succ d ih =>
      intro i h hd
      by_cases c : (i : Int) < 4000
      · obtain ⟨h', hh⟩ := ih (i + 1) _ (by omega)
        refine ⟨h', Ev.step (fun k => ?_) hh⟩
        simp only [spec_l01New.l0]
        rw [if_pos (by omega), if_pos c, if_pos (by omega), wsucc (by omega)]
      · exact ⟨h, Ev.step (f := fun _ => some (l, 0, h)) (fun k => by simp only [spec_l01New.l0]; rw [if_pos (by omega), if_neg c]) (Ev.now _)⟩
  obtain ⟨h', hh⟩ := key l.length 0 (wrap64 (36801 + (l.length : Int))) (by omega)
  exact ⟨h', hh⟩

theorem text_ev (l : List Int) (i h n : Int) (hl : l.length ≤ 140737488351232) (hi : 0 ≤ i) (hn : n ≤ 5000) : ∃ t i' h', Ev (fun k => spec_l01Text.f k l i h n) (t, i', h') ∧ t.size = n.toNat ∧ 0 ≤ i' := by
  have key : ∀ d (j : Nat) (acc : List Int) (i h : Int), j ≤ n.toNat → n.toNat - j = d → acc.length = j → 0 ≤ i → ∃ t i' h', Ev (fun k => spec_l01Text.l0 k n acc (j : Int) l i h) (t, i', h') ∧ t.size = n.toNat ∧ 0 ≤ i' := by
    intro d
    induction d with
    | zero =>
      intro j acc i h hj hd ha hi
      refine ⟨strOfNums acc, i, h, Ev.step (f := fun _ => some (strOfNums acc, i, h)) (fun k => by simp only [spec_l01Text.l0]; rw [if_neg (by omega)]) (Ev.now _), ?_, hi⟩
      rw [strOfNums_size]
      omega
    | succ d ih =>
      intro j acc i h hj hd ha hi
      obtain ⟨y, i2, h2, e2, _, _, hi2⟩ := byte_ex l i h hl hi
      obtain ⟨t, i3, h3, hp, hp1, hp2⟩ := ih (j + 1) (acc ++ [y % 256]) i2 h2 (by omega) (by omega) (by simp; omega) hi2
      refine ⟨t, i3, h3, Ev.step (fun k => ?_) hp, hp1, hp2⟩
      simp only [spec_l01Text.l0]
      rw [if_pos (by omega), e2]
      simp only [Option.bind_some]
      rw [if_pos (by omega), wsucc (by omega)]
  obtain ⟨t, i', h', ht, hs, hi'⟩ := key n.toNat 0 [] i h (by omega) (by omega) rfl hi
  refine ⟨t, i', h', ?_, hs, hi'⟩
  unfold spec_l01Text.f
  simp only [if_neg (show ¬ n > 5000 by omega)]
  exact Ev.step (fun k => by simp only [spec_l01Text.j0]; rfl) ht

theorem places_ev (l : List Int) (hl : l.length ≤ 140737488351232) : ∃ p : List Int, Ev (fun k => spec_DrawPlaces.f k l) p ∧ p.length = 12 ∧ ∀ x ∈ p, 0 ≤ x ∧ x < 10000 := by
  obtain ⟨h0, hn⟩ := new_ev l hl
  obtain ⟨x, i1, h1, e1, x0, x1, hi1⟩ := byte_ex l 0 h0 hl (by omega)
  have key : ∀ d (j : Nat) (acc : List Int) (i h : Int), j ≤ 12 → 12 - j = d → acc.length = j → (∀ x ∈ acc, 0 ≤ x ∧ x < 10000) → 0 ≤ i → ∃ p : List Int, Ev (fun k => spec_DrawPlaces.l0 k acc (j : Int) l i h) p ∧ p.length = 12 ∧ ∀ x ∈ p, 0 ≤ x ∧ x < 10000 := by
    intro d
    induction d with
    | zero =>
      intro j acc i h hj hd ha hb hi
      exact ⟨acc, Ev.step (f := fun _ => some acc) (fun k => by simp only [spec_DrawPlaces.l0]; rw [if_neg (by omega)]) (Ev.now _), by omega, hb⟩
    | succ d ih =>
      intro j acc i h hj hd ha hb hi
      obtain ⟨y, i2, h2, e2, y0, y1, _, hi2⟩ := below_ex l i h 10000 hl hi (by omega)
      obtain ⟨p, hp, hp1, hp2⟩ := ih (j + 1) (acc ++ [y]) i2 h2 (by omega) (by omega) (by simp; omega) (by
        intro z hz
        rcases List.mem_append.1 hz with hz | hz
        · exact hb z hz
        · rw [List.mem_singleton.1 hz]; exact ⟨y0, y1 (by omega)⟩) hi2
      refine ⟨p, Ev.step (fun k => ?_) hp, hp1, hp2⟩
      simp only [spec_DrawPlaces.l0]
      rw [if_pos (by omega), e2]
      simp only [Option.bind_some]
      rw [if_pos (by omega), wsucc (by omega)]
  obtain ⟨p, hp, hp1, hp2⟩ := key 12 0 [] i1 h1 (by omega) (by omega) rfl (by simp) hi1
  refine ⟨p, ?_, hp1, hp2⟩
  unfold spec_DrawPlaces.f
  refine Ev.bind hn ?_
  simp only [e1, Option.bind_some]
  exact hp
theorem rd_mem {p : List Int} {n : Nat} (h : n < p.length) : rd p (n : Int) ∈ p := by
  unfold rd
  rw [Int.toNat_natCast, List.getD_eq_getElem?_getD, List.getElem?_eq_getElem h]
  exact List.getElem_mem h

/-! ### disks all of which is kept -/
def keptFrom (l : List S57) : Nat → Nat → Bool
  | 0, _ => true
  | d + 1, i => decide ((rd_T57 l (i : Int)).f2 = ((rd_T57 l (i : Int)).f1.size : Int)) && keptFrom l d (i + 1)
def allKeptV (l : List S57) : Bool := diskOkV l && keptFrom l l.length 0
theorem allFrom_at {l : List S57} : ∀ {d i : Nat}, allFrom l d i = true → ∀ j, i ≤ j → j < i + d → placeOk l j = true
  | 0, _, _, j, h1, h2 => by omega
  | d + 1, i, h, j, h1, h2 => by
    unfold allFrom at h
    rw [Bool.and_eq_true] at h
    by_cases e : j = i
    · subst e
      exact h.1
    · exact allFrom_at h.2 j (by omega) (by omega)
theorem kept_le {l : List S57} (h : diskOkV l = true) {i : Nat} (hi : i < l.length) : (rd_T57 l (i : Int)).f2 ≤ ((rd_T57 l (i : Int)).f1.size : Int) := by
  unfold diskOkV at h
  rw [Bool.and_eq_true] at h
  have p := allFrom_at h.2 i (by omega) (by omega)
  unfold placeOk fileOk at p
  rw [Bool.and_eq_true, Bool.and_eq_true] at p
  exact (of_decide_eq_true p.1.2).2

theorem kept_index_ev (l : List S57) (hl : l.length ≤ 4611686018427387904) : ∃ r : Int, Ev (fun k => impl_File_70.f k l) r ∧ decide (r ≥ 0) = !(keptFrom l l.length 0) := by
  have key : ∀ d i : Nat, i ≤ l.length → l.length - i = d → ∃ r : Int, Ev (fun k => impl_File_70.l0 k l (l.length : Int) (i : Int)) r ∧ decide (r ≥ 0) = !(keptFrom l d i) := by
    intro d
    induction d with
    | zero =>
      intro i hi he
      refine ⟨-1, Ev.step (f := fun _ => some (-1)) (fun k => ?_) (Ev.now _), rfl⟩
      simp only [impl_File_70.l0]
      rw [if_neg (by omega)]
    | succ d ih =>
      intro i hi he
      by_cases c : (rd_T57 l (i : Int)).f2 = ((rd_T57 l (i : Int)).f1.size : Int)
      · obtain ⟨r, h1, h2⟩ := ih (i + 1) (by omega) (by omega)
        refine ⟨r, Ev.step (fun k => ?_) h1, by rw [keptFrom, decide_eq_true c, Bool.true_and]; exact h2⟩
        simp only [impl_File_70.l0, impl_AllKept_1.f]
        rw [if_pos (by omega), if_pos (by omega), if_pos (by omega), Option.bind_some, if_neg (by simp [c]), wsucc (by omega)]
      · refine ⟨(i : Int), Ev.step (f := fun _ => some (i : Int)) (fun k => ?_) (Ev.now _), by rw [keptFrom, decide_eq_false c, Bool.false_and, decide_eq_true (by omega)]; rfl⟩
        simp only [impl_File_70.l0, impl_AllKept_1.f]
        rw [if_pos (by omega), if_pos (by omega), if_pos (by omega), Option.bind_some, if_pos (bne_iff_ne.mpr c)]
  exact key l.length 0 (by omega) (by omega)
theorem impl_AllKept_ev (l : List S57) (hl : l.length ≤ 4611686018427387904) : Ev (fun k => impl_AllKept.f k l) (allKeptV l) := by
  unfold impl_AllKept.f allKeptV
  refine Ev.bind (impl_DiskOk_ev l hl) ?_
  cases hd : diskOkV l with
  | false => exact Ev.neg (by simp) (Ev.now _)
  | true =>
    refine Ev.pos rfl ?_
    obtain ⟨r, h1, h2⟩ := kept_index_ev l hl
    unfold impl_File_60.f
    refine Ev.bind (Ev.bind h1 (Ev.now _)) ?_
    rw [h2, Bool.not_not, Bool.true_and]
    exact Ev.now _

/-! ### a disk behind a loss -/
def lostN (l1 : List Int) (x : S57) (i : Nat) : Int := mx x.f2 (mn (if (i : Int) < (l1.length : Int) then rd l1 (i : Int) else 0) (x.f1.size : Int))
def lostF (l1 : List Int) (x : S57) (i : Nat) : S57 := ⟨x.f0, x.f1.extract 0 (lostN l1 x i).toNat, lostN l1 x i⟩
def lostP (l1 : List Int) (l : List S57) (n : Nat) : List S57 := (List.range n).map fun (i : Nat) => lostF l1 (rd_T57 l (i : Int)) i
def lostV (l : List S57) (l1 : List Int) : List S57 × Bool := if diskOkV l = true then (lostP l1 l l.length, true) else ([], false)
theorem lostP_length (l1 : List Int) (l : List S57) (n : Nat) : (lostP l1 l n).length = n := by simp [lostP]
theorem lostP_succ (l1 : List Int) (l : List S57) (n : Nat) : lostP l1 l (n + 1) = lostP l1 l n ++ [lostF l1 (rd_T57 l (n : Int)) n] := by simp [lostP, List.range_succ]
theorem placed_at {l : List S57} : ∀ {d i : Nat}, allFrom l d i = true → ∀ j, i ≤ j → j < i + d → placeOk l j = true
  | 0, _, _, j, h1, h2 => by omega
  | d + 1, i, h, j, h1, h2 => by
    unfold allFrom at h
    rw [Bool.and_eq_true] at h
    by_cases e : j = i
    · subst e
      exact h.1
    · exact placed_at h.2 j (by omega) (by omega)
theorem diskOk_at {l : List S57} (h : diskOkV l = true) : l.length ≤ 30 ∧ ∀ i : Nat, i < l.length → placeOk l i = true := by
  unfold diskOkV at h
  rw [Bool.and_eq_true] at h
  have := of_decide_eq_true h.1
  exact ⟨by omega, fun i hi => placed_at h.2 i (by omega) (by omega)⟩
theorem file_at {l : List S57} (h : diskOkV l = true) {i : Nat} (hi : i < l.length) : 0 ≤ (rd_T57 l (i : Int)).f2 ∧ (rd_T57 l (i : Int)).f2 ≤ ((rd_T57 l (i : Int)).f1.size : Int) := by
  have p := (diskOk_at h).2 i hi
  unfold placeOk fileOk at p
  rw [Bool.and_eq_true, Bool.and_eq_true] at p
  exact of_decide_eq_true p.1.2
theorem lostN_range (l1 : List Int) {x : S57} (h : 0 ≤ x.f2 ∧ x.f2 ≤ (x.f1.size : Int)) (i : Nat) : 0 ≤ lostN l1 x i ∧ lostN l1 x i ≤ (x.f1.size : Int) := by
  unfold lostN
  generalize (if (i : Int) < (l1.length : Int) then rd l1 (i : Int) else 0) = z
  unfold mx mn
  constructor <;> (split <;> split) <;> omega

theorem impl_LoseDisk_ev (l : List S57) (l1 : List Int) (hl : l.length ≤ 1048576) : Ev (fun k => impl_LoseDisk.f k l l1) (lostV l l1) := by
  unfold impl_LoseDisk.f lostV
  refine Ev.bind (impl_DiskOk_ev l (by omega)) ?_
  cases hd : diskOkV l with
  | false => exact Ev.neg (by simp) (by simpa using Ev.now _)
  | true =>
    refine Ev.pos rfl ?_
    rw [if_pos rfl]
    refine Ev.some_bind (x := l) (by unfold impl_copyDisk.f; rw [if_pos (by omega)]) ?_
    have key : ∀ d i : Nat, i ≤ l.length → l.length - i = d → Ev (fun k => impl_LoseDisk.l0 k l1 l.length (lostP l1 l i ++ l.drop i) (i : Int)) (lostP l1 l l.length, true) := by
      intro d
      induction d with
      | zero =>
        intro i hi he
        obtain rfl : i = l.length := by omega
        rw [List.drop_length, List.append_nil]
        refine Ev.step (f := fun _ => some (lostP l1 l l.length, true)) (fun k => ?_) (Ev.now _)
        simp only [impl_LoseDisk.l0]
        rw [if_neg (by omega)]
      | succ d ih =>
        intro i hi he
        have ci : i < l.length := by omega
        have z := ih (i + 1) (by omega) (by omega)
        have hr : rd_T57 (lostP l1 l i ++ l.drop i) (i : Int) = rd_T57 l (i : Int) := by
          rw [rdF_nat (by rw [List.length_append, lostP_length, List.length_drop]; omega), rdF_nat ci, List.getElem_append_right (by rw [lostP_length]; omega)]
          simp [lostP_length]
        have hs : (lostP l1 l i ++ l.drop i).set i (lostF l1 (rd_T57 l (i : Int)) i) = lostP l1 l (i + 1) ++ l.drop (i + 1) := by
          rw [List.set_append_right _ _ (by rw [lostP_length]; omega), lostP_length, Nat.sub_self, List.drop_eq_getElem_cons ci, List.set_cons_zero, lostP_succ]
          simp
        have hn := lostN_range l1 (file_at hd ci) i
        rw [← hs] at z
        refine Ev.step (fun k => ?_) z
        simp only [impl_LoseDisk.l0]
        rw [hr, if_pos (by omega), wsucc (by omega), Int.toNat_natCast]
        exact if_pos ⟨by omega, hn.1, hn.2⟩
    have z := key l.length 0 (by omega) (by omega)
    rw [show lostP l1 l 0 = [] from rfl, List.nil_append, List.drop_zero] at z
    exact z

/-! ### the order of names; disks in order -/
theorem less_irrefl : ∀ x : List UInt8, Op.bytesLess x x = false
  | [] => rfl
  | a :: x => by
    unfold Op.bytesLess
    rw [less_irrefl x]
    simp
theorem less_trans : ∀ x y z : List UInt8, Op.bytesLess x y = true → Op.bytesLess y z = true → Op.bytesLess x z = true
  | _, [], _, h, _ => by simp [Op.bytesLess] at h
  | _, _ :: _, [], _, h => by simp [Op.bytesLess] at h
  | [], _ :: _, _ :: _, _, _ => by simp [Op.bytesLess]
  | a :: x, b :: y, c :: z, h1, h2 => by
    have ih := less_trans x y z
    simp only [Op.bytesLess, Bool.or_eq_true, Bool.and_eq_true, decide_eq_true_eq, beq_iff_eq, UInt8.lt_iff_toNat_lt] at h1 h2 ⊢
    rcases h1 with h1 | ⟨rfl, h1⟩
    · rcases h2 with h2 | ⟨rfl, h2⟩
      · exact .inl (by omega)
      · exact .inl h1
    · rcases h2 with h2 | ⟨rfl, h2⟩
      · exact .inl h2
      · exact .inr ⟨rfl, ih h1 h2⟩
theorem less_tri : ∀ x y : List UInt8, Op.bytesLess x y = false → Op.bytesLess y x = false → x = y
  | [], [], _, _ => rfl
  | [], _ :: _, h, _ => by simp [Op.bytesLess] at h
  | _ :: _, [], _, h => by simp [Op.bytesLess] at h
  | a :: x, b :: y, h1, h2 => by
    have ih := less_tri x y
    simp only [Op.bytesLess, Bool.or_eq_false_iff, decide_eq_false_iff_not, UInt8.lt_iff_toNat_lt] at h1 h2
    obtain rfl : a = b := UInt8.toNat_inj.1 (by omega)
    simp only [beq_self_eq_true, Bool.true_and] at h1 h2
    rw [ih h1.2 h2.2]
theorem less_asymm {x y : List UInt8} (h : Op.bytesLess x y = true) : Op.bytesLess y x = false := by
  cases h2 : Op.bytesLess y x with
  | false => rfl
  | true =>
    have := less_trans x y x h h2
    rw [less_irrefl] at this
    cases this
/-- a stands ahead of b -/
def ahead (a b : S57) : Bool := Op.bytesLess a.f0.toList b.f0.toList
theorem ahead_trans {a b c : S57} (h : ahead a b = true) (k : ahead b c = true) : ahead a c = true := less_trans _ _ _ h k
def InOrder (l : List S57) : Prop := l.Pairwise fun a b => ahead a b = true
theorem inOrder_of : ∀ (l : List S57), (∀ i, (h : i + 1 < l.length) → ahead l[i] l[i + 1] = true) → InOrder l
  | [], _ => List.Pairwise.nil
  | [x], _ => List.pairwise_singleton _ _
  | x :: y :: l, h => by
    have ih := inOrder_of (y :: l) (fun i hi => h (i + 1) (by simpa using hi))
    have h0 : ahead x y = true := h 0 (by simp)
    refine List.pairwise_cons.2 ⟨fun z hz => ?_, ih⟩
    rcases List.mem_cons.1 hz with rfl | hz
    · exact h0
    · exact ahead_trans h0 ((List.pairwise_cons.1 ih).1 z hz)
theorem inOrder_at {l : List S57} (h : InOrder l) {i : Nat} (hi : i + 1 < l.length) : ahead l[i] l[i + 1] = true := List.pairwise_iff_getElem.1 h i (i + 1) (by omega) hi (by omega)
theorem placed_all {l : List S57} : ∀ {d i : Nat}, (∀ j, i ≤ j → j < i + d → placeOk l j = true) → allFrom l d i = true
  | 0, _, _ => rfl
  | d + 1, i, h => by
    unfold allFrom
    rw [h i (Nat.le_refl _) (by omega), Bool.true_and]
    exact placed_all (fun j h1 h2 => h j (by omega) (by omega))
theorem diskOk_iff {l : List S57} : diskOkV l = true ↔ l.length ≤ 30 ∧ (∀ x ∈ l, fileOk x = true) ∧ InOrder l := by
  constructor
  · intro h
    obtain ⟨h1, h2⟩ := diskOk_at h
    refine ⟨h1, fun x hx => ?_, inOrder_of l fun i hi => ?_⟩
    · obtain ⟨i, hi, rfl⟩ := List.mem_iff_getElem.1 hx
      have p := h2 i hi
      unfold placeOk at p
      rw [Bool.and_eq_true, rdF_nat hi] at p
      exact p.1
    · have p := h2 (i + 1) hi
      unfold placeOk at p
      rw [Bool.and_eq_true] at p
      have q := p.2
      rw [decide_eq_false (show ¬ (i + 1 = 0) by omega), Bool.false_or, Nat.add_sub_cancel, rdF_nat (show i < l.length by omega), rdF_nat hi] at q
      exact q
  · rintro ⟨h1, h2, h3⟩
    unfold diskOkV
    rw [decide_eq_true (show (l.length : Int) ≤ 30 by omega), Bool.true_and]
    refine placed_all (fun j _ hj => ?_)
    have hj' : j < l.length := by omega
    unfold placeOk
    rw [rdF_nat hj', h2 _ (List.getElem_mem hj'), Bool.true_and]
    by_cases c : j = 0
    · rw [decide_eq_true c, Bool.true_or]
    · obtain ⟨i, rfl⟩ : ∃ i, j = i + 1 := ⟨j - 1, by omega⟩
      rw [decide_eq_false c, Bool.false_or, Nat.add_sub_cancel, rdF_nat (show i < l.length by omega)]
      exact inOrder_at h3 hj'
/-! ### a file put in its place -/
def putS (l : List S57) (f : S57) : List S57 := l.filter (fun x => ahead x f) ++ f :: l.filter (fun x => ahead f x)
theorem putS_length (l : List S57) (f : S57) : (putS l f).length ≤ l.length + 1 := by
  have : (l.filter (fun x => ahead x f)).length + (l.filter (fun x => ahead f x)).length ≤ l.length := by
    induction l with
    | nil => simp
    | cons x l ih =>
      rw [List.filter_cons, List.filter_cons]
      by_cases h : ahead x f = true
      · have h2 : ahead f x = false := less_asymm h
        rw [if_pos h, h2, if_neg (by simp), List.length_cons, List.length_cons]
        omega
      · rw [if_neg h]
        split <;> (simp only [List.length_cons]; omega)
  unfold putS
  simp only [List.length_append, List.length_cons]
  omega
theorem putS_order {l : List S57} (h : InOrder l) (f : S57) : InOrder (putS l f) := by
  unfold putS InOrder
  refine List.pairwise_append.2 ⟨List.Pairwise.filter _ h, List.pairwise_cons.2 ⟨fun x hx => (List.mem_filter.1 hx).2, List.Pairwise.filter _ h⟩, fun x hx y hy => ?_⟩
  have hx := (List.mem_filter.1 hx).2
  rcases List.mem_cons.1 hy with rfl | hy
  · exact hx
  · exact ahead_trans hx (List.mem_filter.1 hy).2
theorem putS_ok {l : List S57} (h : ∀ x ∈ l, fileOk x = true) {f : S57} (hf : fileOk f = true) : ∀ x ∈ putS l f, fileOk x = true := by
  intro x hx
  rcases List.mem_append.1 hx with hx | hx
  · exact h x (List.mem_filter.1 hx).1
  · rcases List.mem_cons.1 hx with rfl | hx
    · exact hf
    · exact h x (List.mem_filter.1 hx).1
theorem filter_take_succ (p : S57 → Bool) {l : List S57} {i : Nat} (h : i < l.length) : (l.take (i + 1)).filter p = (l.take i).filter p ++ (if p l[i] = true then [l[i]] else []) := by
  rw [List.take_succ_eq_append_getElem h, List.filter_append, List.filter_cons, List.filter_nil]
theorem spec_l03Put_ev (l : List S57) (f0 f1 : ByteArray) (f2 : Int) (hl : l.length ≤ 1048576) : Ev (fun k => spec_l03Put.f k l f0 f1 f2) (putS l ⟨f0, f1, f2⟩) := by
  have key1 : ∀ d i : Nat, i ≤ l.length → l.length - i = d → Ev (fun k => spec_l03Put.l1 k (i : Int) l f0 f1 f2 (l.filter (fun x => ahead x ⟨f0, f1, f2⟩) ++ (⟨f0, f1, f2⟩ : S57) :: (l.take i).filter (fun x => ahead ⟨f0, f1, f2⟩ x))) (putS l ⟨f0, f1, f2⟩) := by
    intro d
    induction d with
    | zero =>
      intro i hi hd
      obtain rfl : i = l.length := by omega
      refine Ev.step (f := fun _ => some (putS l ⟨f0, f1, f2⟩)) (fun k => ?_) (Ev.now _)
      simp only [spec_l03Put.l1]
      rw [if_neg (by omega), List.take_length]
      rfl
    | succ d ih =>
      intro i hi hd
      have ci : i < l.length := by omega
      have z := ih (i + 1) (by omega) (by omega)
      rw [filter_take_succ _ ci] at z
      have b1 : (l.filter (fun x => ahead x ⟨f0, f1, f2⟩)).length ≤ l.length := List.length_filter_le _ _
      have b2 : ((l.take i).filter (fun x => ahead ⟨f0, f1, f2⟩ x)).length ≤ i := Nat.le_trans (List.length_filter_le _ _) (List.length_take_le _ _)
      by_cases c : ahead ⟨f0, f1, f2⟩ l[i] = true
      · rw [if_pos c] at z
        refine Ev.step (fun k => ?_) z
        simp only [spec_l03Put.l1]
        rw [if_pos (by omega), if_pos (by omega), rdF_nat ci, if_pos (show Op.bytesLess f0.toList l[i].f0.toList = true from c), if_pos (by simp only [List.length_append, List.length_cons]; omega), wsucc (by omega)]
        simp only [List.append_assoc, List.cons_append]
      · rw [if_neg c, List.append_nil] at z
        refine Ev.step (fun k => ?_) z
        simp only [spec_l03Put.l1]
        rw [if_pos (by omega), if_pos (by omega), rdF_nat ci, if_neg (show ¬ Op.bytesLess f0.toList l[i].f0.toList = true from c), wsucc (by omega)]
  have key0 : ∀ d i : Nat, i ≤ l.length → l.length - i = d → Ev (fun k => spec_l03Put.l0 k (i : Int) l f0 f1 f2 ((l.take i).filter (fun x => ahead x ⟨f0, f1, f2⟩))) (putS l ⟨f0, f1, f2⟩) := by
    intro d
    induction d with
    | zero =>
      intro i hi hd
      obtain rfl : i = l.length := by omega
      have b1 : (l.filter (fun x => ahead x ⟨f0, f1, f2⟩)).length ≤ l.length := List.length_filter_le _ _
      have z := key1 l.length 0 (by omega) (by omega)
      rw [List.take_zero, List.filter_nil] at z
      refine Ev.step (fun k => ?_) z
      simp only [spec_l03Put.l0]
      rw [if_neg (by omega), List.take_length, if_pos (by omega)]
      rfl
    | succ d ih =>
      intro i hi hd
      have ci : i < l.length := by omega
      have z := ih (i + 1) (by omega) (by omega)
      rw [filter_take_succ _ ci] at z
      have b2 : ((l.take i).filter (fun x => ahead x ⟨f0, f1, f2⟩)).length ≤ i := Nat.le_trans (List.length_filter_le _ _) (List.length_take_le _ _)
      by_cases c : ahead l[i] ⟨f0, f1, f2⟩ = true
      · rw [if_pos c] at z
        refine Ev.step (fun k => ?_) z
        simp only [spec_l03Put.l0]
        rw [if_pos (by omega), if_pos (by omega), rdF_nat ci, if_pos (show Op.bytesLess l[i].f0.toList f0.toList = true from c), if_pos (by omega), wsucc (by omega)]
      · rw [if_neg c, List.append_nil] at z
        refine Ev.step (fun k => ?_) z
        simp only [spec_l03Put.l0]
        rw [if_pos (by omega), if_pos (by omega), rdF_nat ci, if_neg (show ¬ Op.bytesLess l[i].f0.toList f0.toList = true from c), wsucc (by omega)]
  exact key0 l.length 0 (by omega) (by omega)

/-! ### a disk that is drawn and right -/
theorem names8 : ∀ s ∈ ([(⟨#[97]⟩ : ByteArray), (⟨#[98]⟩ : ByteArray), (⟨#[99]⟩ : ByteArray), (⟨#[108, 111, 103]⟩ : ByteArray), (⟨#[108, 111, 103, 43]⟩ : ByteArray), (⟨#[120]⟩ : ByteArray), (⟨#[121]⟩ : ByteArray), (⟨#[122]⟩ : ByteArray)] : List ByteArray), 1 ≤ s.size ∧ s.size ≤ 8 := by
  intro s hs
  simp only [List.mem_cons, List.not_mem_nil, or_false] at hs
  rcases hs with rfl | rfl | rfl | rfl | rfl | rfl | rfl | rfl <;> decide
theorem named_ex (l : List Int) (i h : Int) (hl : l.length ≤ 140737488351232) (hi : 0 ≤ i) : ∃ s i' h', spec_l03Named.f l i h = some (s, i', h') ∧ 1 ≤ s.size ∧ s.size ≤ 8 ∧ 0 ≤ i' := by
  unfold spec_l03Named.f spec_l01Pick.f
  obtain ⟨x, i1, h1, e1, x0, x1, _, hi1⟩ := below_ex l i h ((([(⟨#[97]⟩ : ByteArray), (⟨#[98]⟩ : ByteArray), (⟨#[99]⟩ : ByteArray), (⟨#[108, 111, 103]⟩ : ByteArray), (⟨#[108, 111, 103, 43]⟩ : ByteArray), (⟨#[120]⟩ : ByteArray), (⟨#[121]⟩ : ByteArray), (⟨#[122]⟩ : ByteArray)] : List ByteArray)).length : Int) hl hi (by simp)
  have x1 := x1 (by simp)
  have hm : rdOf ByteArray.empty ([(⟨#[97]⟩ : ByteArray), (⟨#[98]⟩ : ByteArray), (⟨#[99]⟩ : ByteArray), (⟨#[108, 111, 103]⟩ : ByteArray), (⟨#[108, 111, 103, 43]⟩ : ByteArray), (⟨#[120]⟩ : ByteArray), (⟨#[121]⟩ : ByteArray), (⟨#[122]⟩ : ByteArray)] : List ByteArray) x ∈ ([(⟨#[97]⟩ : ByteArray), (⟨#[98]⟩ : ByteArray), (⟨#[99]⟩ : ByteArray), (⟨#[108, 111, 103]⟩ : ByteArray), (⟨#[108, 111, 103, 43]⟩ : ByteArray), (⟨#[120]⟩ : ByteArray), (⟨#[121]⟩ : ByteArray), (⟨#[122]⟩ : ByteArray)] : List ByteArray) := by
    unfold rdOf
    rw [List.getD_eq_getElem?_getD, List.getElem?_eq_getElem (by omega)]
    exact List.getElem_mem _
  obtain ⟨s1, s2⟩ := names8 _ hm
  refine ⟨_, i1, h1, ?_, s1, s2, hi1⟩
  rw [e1]
  simp only [Option.bind_some]
  rw [if_pos x0, if_pos x1]
  rfl
theorem fileOk_mk {s t : ByteArray} {q : Int} (h1 : 1 ≤ s.size) (h2 : s.size ≤ 8) (h3 : t.size ≤ 20000) (h4 : 0 ≤ q) (h5 : q ≤ (t.size : Int)) : fileOk (⟨s, t, q⟩ : S57) = true := by
  unfold fileOk
  simp only [Bool.and_eq_true, decide_eq_true_eq]
  exact ⟨⟨⟨by omega, by omega⟩, by omega⟩, h4, h5⟩
theorem rightDisk_ev (l : List Int) (hl : l.length ≤ 140737488351232) : ∃ d, Ev (fun k => spec_DrawRightDisk.f k l) d ∧ diskOkV d = true := by
  obtain ⟨h0, hn⟩ := new_ev l hl
  have key : ∀ m (j : Nat) (acc : List S57) (i h : Int), j ≤ 6 → 6 - j = m → acc.length ≤ j → 0 ≤ i → (∀ x ∈ acc, fileOk x = true) → InOrder acc →
      ∃ d, Ev (fun k => spec_DrawRightDisk.l0 k (j : Int) l i h acc) d ∧ diskOkV d = true := by
    intro m
    induction m with
    | zero =>
      intro j acc i h hj hm ha hi h1 h2
      obtain ⟨x, i1, g1, e1, x0, x1, _, hi1⟩ := below_ex l i h 6 hl hi (by omega)
      have x1 := x1 (by omega)
      refine ⟨acc, ?_, diskOk_iff.2 ⟨by omega, h1, h2⟩⟩
      refine Ev.step (fun k => by simp only [spec_DrawRightDisk.l0]; rfl) ?_
      exact Ev.some_bind e1 (Ev.neg (by omega) (Ev.now _))
    | succ m ih =>
      intro j acc i h hj hm ha hi h1 h2
      obtain ⟨x, i1, g1, e1, x0, x1, _, hi1⟩ := below_ex l i h 6 hl hi (by omega)
      by_cases c : (j : Int) < x
      · obtain ⟨y, i2, g2, e2, y0, y1, _, hi2⟩ := below_ex l i1 g1 30 hl hi1 (by omega)
        have y1 := y1 (by omega)
        obtain ⟨t, i3, g3, e3, t1, hi3⟩ := text_ev l i2 g2 y hl hi2 (by omega)
        obtain ⟨s, i4, g4, e4, s1, s2, hi4⟩ := named_ex l i3 g3 hl hi3
        have hts : t.size ≤ 100 := by omega
        obtain ⟨q, i5, g5, e5, q0, q1, _, hi5⟩ := below_ex l i4 g4 ((t.size + 1 : Nat) : Int) hl hi4 (by omega)
        have q1 := q1 (by omega)
        have hf : fileOk (⟨s, t, q⟩ : S57) = true := fileOk_mk s1 s2 (by omega) q0 (by omega)
        obtain ⟨d, hd, hk⟩ := ih (j + 1) (putS acc ⟨s, t, q⟩) i5 g5 (by omega) (by omega) (by have := putS_length acc ⟨s, t, q⟩; omega) hi5 (putS_ok h1 hf) (putS_order h2 _)
        have hpl := spec_l03Put_ev acc s t q (by omega)
        have hj2 := wsucc (n := j) (by omega)
        have hw : wrap64 ((t.size : Int) + 1) = ((t.size + 1 : Nat) : Int) := wsucc (by omega)
        refine ⟨d, ?_, hk⟩
        refine Ev.step (fun k => by simp only [spec_DrawRightDisk.l0]; rfl) ?_
        refine Ev.some_bind e1 (Ev.pos c (Ev.some_bind e2 (Ev.bind e3 (Ev.some_bind e4 ?_))))
        simp only [hw, hj2]
        exact Ev.some_bind e5 (Ev.bind hpl hd)
      · refine ⟨acc, ?_, diskOk_iff.2 ⟨by omega, h1, h2⟩⟩
        refine Ev.step (fun k => by simp only [spec_DrawRightDisk.l0]; rfl) ?_
        exact Ev.some_bind e1 (Ev.neg c (Ev.now _))
  obtain ⟨d, hd, hk⟩ := key 6 0 [] 0 h0 (by omega) (by omega) (by simp) (by omega) (by simp) List.Pairwise.nil
  refine ⟨d, ?_, hk⟩
  unfold spec_DrawRightDisk.f
  exact Ev.bind hn hd

theorem lostP_at {l1 : List Int} {l : List S57} {n i : Nat} (hi : i < n) : (lostP l1 l n)[i]'(by rw [lostP_length]; exact hi) = lostF l1 (rd_T57 l (i : Int)) i := by simp [lostP]
theorem lostF_size (l1 : List Int) {x : S57} (h : 0 ≤ x.f2 ∧ x.f2 ≤ (x.f1.size : Int)) (i : Nat) : ((lostF l1 x i).f1.size : Int) = (lostF l1 x i).f2 := by
  obtain ⟨h1, h2⟩ := lostN_range l1 h i
  unfold lostF
  rw [cut_size _ (by omega)]
  show ((lostN l1 x i).toNat : Int) = lostN l1 x i
  omega
theorem lost_ok {l1 : List Int} {l : List S57} (h : diskOkV l = true) : diskOkV (lostP l1 l l.length) = true := by
  obtain ⟨h1, h2, h3⟩ := diskOk_iff.1 h
  refine diskOk_iff.2 ⟨by rw [lostP_length]; exact h1, fun x hx => ?_, inOrder_of _ fun i hi => ?_⟩
  · obtain ⟨i, hi, rfl⟩ := List.mem_iff_getElem.1 hx
    rw [lostP_length] at hi
    rw [lostP_at hi]
    have f1 := file_at h hi
    have f2 := h2 _ (List.getElem_mem hi)
    rw [← rdF_nat hi] at f2
    have z := lostF_size l1 f1 i
    have r := lostN_range l1 f1 i
    unfold fileOk at f2 ⊢
    rw [Bool.and_eq_true, Bool.and_eq_true] at f2
    have g1 := of_decide_eq_true f2.1.1
    have g2 := of_decide_eq_true f2.1.2
    have e : (lostF l1 (rd_T57 l (i : Int)) i).f2 = lostN l1 (rd_T57 l (i : Int)) i := rfl
    have e0 : (lostF l1 (rd_T57 l (i : Int)) i).f0 = (rd_T57 l (i : Int)).f0 := rfl
    rw [e0, decide_eq_true g1, decide_eq_true (show ¬ ((lostF l1 (rd_T57 l (i : Int)) i).f1.size : Int) > 20000 by omega), decide_eq_true (show 0 ≤ (lostF l1 (rd_T57 l (i : Int)) i).f2 ∧ (lostF l1 (rd_T57 l (i : Int)) i).f2 ≤ ((lostF l1 (rd_T57 l (i : Int)) i).f1.size : Int) by omega)]
    rfl
  · rw [lostP_length] at hi
    rw [lostP_at hi, lostP_at (show i < l.length by omega)]
    have a := inOrder_at h3 hi
    rw [← rdF_nat hi, ← rdF_nat (show i < l.length by omega)] at a
    exact a
theorem lost_again {l1 : List Int} {l : List S57} (h : diskOkV l = true) : lostP [] (lostP l1 l l.length) l.length = lostP l1 l l.length := by
  apply List.ext_getElem
  · rw [lostP_length, lostP_length]
  · intro i h1 h2
    rw [lostP_length] at h1 h2
    have f1 := file_at h h1
    have z := lostF_size l1 f1 i
    have r := lostN_range l1 f1 i
    rw [lostP_at h1, rdF_nat (by rw [lostP_length]; exact h1), lostP_at h1]
    have e : (lostF l1 (rd_T57 l (i : Int)) i).f2 = lostN l1 (rd_T57 l (i : Int)) i := rfl
    generalize lostF l1 (rd_T57 l (i : Int)) i = y at z e ⊢
    have n1 : lostN [] y i = y.f2 := by
      unfold lostN
      rw [if_neg (by simp), show mn 0 (y.f1.size : Int) = 0 from if_neg (by omega)]
      unfold mx
      rw [if_neg (by omega)]
    unfold lostF
    rw [n1, ← z, Int.toNat_natCast]
    have e2 : y.f1.extract 0 y.f1.size = y.f1 := by simp
    rw [e2, z]
theorem sameDisk_ev (l : List S57) (hl : l.length ≤ 4611686018427387904) : Ev (fun k => laws_sameDisk.f k l l) true := by
  have key : ∀ d i : Nat, i ≤ l.length → l.length - i = d → Ev (fun k => laws_sameDisk.l0 k (i : Int) l l) true := by
    intro d
    induction d with
    | zero =>
      intro i hi hd
      exact Ev.step (f := fun _ => some true) (fun k => by simp only [laws_sameDisk.l0]; rw [if_neg (by omega)]) (Ev.now _)
    | succ d ih =>
      intro i hi hd
      refine Ev.step (fun k => ?_) (ih (i + 1) (by omega) (by omega))
      simp only [laws_sameDisk.l0]
      rw [if_pos (by omega), if_pos (by omega), if_pos (by omega), if_neg (by simp), wsucc (by omega)]
  unfold laws_sameDisk.f
  exact Ev.pos rfl (key l.length 0 (by omega) (by omega))
theorem lefts_ex (p : List Int) (hp : p.length = 12) : ∃ q, Ev (fun k => laws_lefts.f k p) q := by
  have key : ∀ d (i : Nat) (acc : List Int), i ≤ 6 → 6 - i = d → acc.length = i → ∃ q, Ev (fun k => laws_lefts.l0 k p acc (i : Int)) q := by
    intro d
    induction d with
    | zero =>
      intro i acc hi hd ha
      exact ⟨acc, Ev.step (f := fun _ => some acc) (fun k => by simp only [laws_lefts.l0]; rw [if_neg (by omega)]) (Ev.now _)⟩
    | succ d ih =>
      intro i acc hi hd ha
      obtain ⟨q, hq⟩ := ih (i + 1) (acc ++ [Int.tmod (rd p (i : Int)) 300]) (by omega) (by omega) (by simp [ha])
      refine ⟨q, Ev.step (fun k => ?_) hq⟩
      simp only [laws_lefts.l0]
      rw [if_pos (by omega), if_pos (by omega), if_pos (by omega), if_pos (by omega), wsucc (by omega)]
  exact key 6 0 [] (by omega) (by omega) rfl
theorem begins_eq {a b : ByteArray} (h1 : a.size ≤ b.size) (h2 : b.extract 0 a.size = a) : laws_begins.f a b = some true := by
  unfold laws_begins.f
  rw [if_pos (by omega), if_pos (by omega), Int.toNat_natCast, h2]
  simp
theorem cut_cut (s : ByteArray) {a b : Nat} (h : a ≤ b) : (s.extract 0 b).extract 0 a = s.extract 0 a := by
  apply str_ext
  rw [str_cut, str_cut, str_cut]
  simp only [List.drop_zero, Nat.sub_zero, List.take_take, Nat.min_eq_left h]
theorem FnKeeps : laws_FnKeeps.Pure := by
  intro l _ hl _
  have hl : l.length ≤ 140737488351232 := by omega
  refine Ev.rounds ?_
  unfold laws_FnKeeps.f
  by_cases c0 : (l.length : Int) > 1048576
  · exact Ev.some_bind (x := true) (by unfold laws_big.f; rw [decide_eq_true c0]) (Ev.pos rfl (Ev.now _))
  refine Ev.some_bind (x := false) (by unfold laws_big.f; rw [decide_eq_false c0]) (Ev.neg (by simp) ?_)
  obtain ⟨d, hd, hk⟩ := rightDisk_ev l hl
  obtain ⟨p, hp, hp1, hp2⟩ := places_ev l hl
  obtain ⟨q, hq⟩ := lefts_ex p hp1
  have hd30 := (diskOk_iff.1 hk).1
  have im1 := impl_LoseDisk_ev d q (by omega)
  rw [show lostV d q = (lostP q d d.length, true) from if_pos hk] at im1
  have hk2 := lost_ok (l1 := q) hk
  have hlen := lostP_length q d d.length
  have im2 := impl_LoseDisk_ev (lostP q d d.length) [] (by omega)
  rw [show lostV (lostP q d d.length) [] = (lostP [] (lostP q d d.length) (lostP q d d.length).length, true) from if_pos hk2, hlen, lost_again hk] at im2
  have sd := sameDisk_ev (lostP q d d.length) (by omega)
  have ak := impl_AllKept_ev (lostP q d d.length) (by omega)
  have hak : allKeptV (lostP q d d.length) = true := by
    unfold allKeptV
    rw [hk2, Bool.true_and, hlen]
    have key : ∀ m i : Nat, i + m ≤ d.length → keptFrom (lostP q d d.length) m i = true := by
      intro m
      induction m with
      | zero => intro i _; rfl
      | succ m ih =>
        intro i hi
        have z := lostF_size q (file_at hk (show i < d.length by omega)) i
        unfold keptFrom
        rw [ih (i + 1) (by omega), Bool.and_true, rdF_nat (by omega), lostP_at (by omega), decide_eq_true z.symm]
    exact key d.length 0 (by omega)
  rw [hak] at ak
  have dk := impl_DiskOk_ev d (by omega)
  rw [hk] at dk
  refine Ev.bind hd (Ev.bind hp (Ev.bind hq (Ev.bind im1 (Ev.bind im2 (Ev.pos rfl (Ev.pos rfl (Ev.pos (by simp only [hlen]) (Ev.bind sd (Ev.pos rfl (Ev.bind ak (Ev.pos rfl (Ev.bind dk ?_))))))))))))
  have key : ∀ m i : Nat, i ≤ d.length → d.length - i = m → Ev (fun k => laws_FnKeeps.l0 k (i : Int) d (lostP q d d.length)) true := by
    intro m
    induction m with
    | zero =>
      intro i hi hm
      exact Ev.step (f := fun _ => some true) (fun k => by simp only [laws_FnKeeps.l0]; rw [if_neg (by omega)]) (Ev.now _)
    | succ m ih =>
      intro i hi hm
      have ci : i < d.length := by omega
      have f1 := file_at hk ci
      have r := lostN_range q f1 i
      have e : rd_T57 (lostP q d d.length) (i : Int) = lostF q (rd_T57 d (i : Int)) i := by rw [rdF_nat (by omega), lostP_at ci]
      have kn : (rd_T57 d (i : Int)).f2 ≤ lostN q (rd_T57 d (i : Int)) i := by
        unfold lostN
        generalize mn (if (i : Int) < (q.length : Int) then rd q (i : Int) else 0) ((rd_T57 d (i : Int)).f1.size : Int) = u
        unfold mx
        split <;> omega
      have b1 : laws_begins.f (lostF q (rd_T57 d (i : Int)) i).f1 (rd_T57 d (i : Int)).f1 = some true := by
        have hs : (lostF q (rd_T57 d (i : Int)) i).f1.size = (lostN q (rd_T57 d (i : Int)) i).toNat := cut_size _ (by omega)
        refine begins_eq (by omega) ?_
        rw [hs]
        rfl
      have b2 : laws_begins.f ((rd_T57 d (i : Int)).f1.extract 0 (rd_T57 d (i : Int)).f2.toNat) (lostF q (rd_T57 d (i : Int)) i).f1 = some true := by
        have hs : (lostF q (rd_T57 d (i : Int)) i).f1.size = (lostN q (rd_T57 d (i : Int)) i).toNat := cut_size _ (by omega)
        have hs2 : ((rd_T57 d (i : Int)).f1.extract 0 (rd_T57 d (i : Int)).f2.toNat).size = (rd_T57 d (i : Int)).f2.toNat := cut_size _ (by omega)
        refine begins_eq (by omega) ?_
        rw [hs2]
        exact cut_cut _ (by omega)
      refine Ev.step (fun k => ?_) (ih (i + 1) (by omega) (by omega))
      simp only [laws_FnKeeps.l0]
      rw [if_pos (by omega), if_pos (by omega), if_pos (by omega), e, if_pos (by rfl), b1]
      simp only [Option.bind_some, if_true]
      rw [if_pos (by omega), if_pos (by omega), b2]
      simp only [Option.bind_some, if_true]
      rw [wsucc (by omega)]
  refine Ev.step (fun k => by simp only [laws_FnKeeps.j0]; rfl) ?_
  exact Ev.neg (by simp) (key d.length 0 (by omega) (by omega))


end Go.Proofs.Ytdllmlnigihpcaa.Pure
