/- The program's FileAt and the reference's FileAt return the same, for every disk and name, and leave the disk alone. -/
import Derived.Test.YtnkldnkolcighaaXFnExactFileAtx3
import Derived.Test.YtnkldnkolcighaaWf
set_option linter.unusedVariables false
set_option linter.unusedSimpArgs false
namespace Go.Proofs.Ytnkldnkolcighaa.Pure
open Go.RowKit Go.Proofs.Ytnkldnkolcighaa.XFnExactFileAt Go.Proofs.YtnkldnkolcighaaW.PrintWords Go.Proofs.YtnkldnkolcighaaW.PrintLast

/-! ### small words -/
theorem w64 {x : Int} (h0 : -9223372036854775808 ≤ x) (h1 : x ≤ 9223372036854775807) : wrap64 x = x := by
  unfold wrap64
  omega
theorem wf64 {x : Int} (h : (Lit.int .i64 x).wf = true) : -9223372036854775808 ≤ x ∧ x ≤ 9223372036854775807 := by
  simp [Lit.wf, IntKind.min, IntKind.max, IntKind.signed, IntKind.bits] at h
  omega
theorem wfu32 {x : Int} (h : (Lit.int .u32 x).wf = true) : 0 ≤ x ∧ x ≤ 4294967295 := by
  simp [Lit.wf, IntKind.min, IntKind.max, IntKind.signed, IntKind.bits] at h
  omega
theorem wfu8 {x : Int} (h : (Lit.int .u8 x).wf = true) : 0 ≤ x ∧ x ≤ 255 := by
  simp [Lit.wf, IntKind.min, IntKind.max, IntKind.signed, IntKind.bits] at h
  omega
theorem wsucc {n : Nat} (h : n ≤ 4611686018427387904) : wrap64 ((n : Int) + 1) = ((n + 1 : Nat) : Int) := by
  rw [w64 (by omega) (by omega)]
  rfl
theorem wadd {a b : Nat} (h : a + b ≤ 4611686018427387904) : wrap64 ((a : Int) + (b : Int)) = ((a + b : Nat) : Int) := by
  rw [w64 (by omega) (by omega)]
  rfl
theorem wnat {n : Nat} (h : n ≤ 4611686018427387904) : wrap64 (n : Int) = (n : Int) := w64 (by omega) (by omega)
theorem Ev.some_bind {α β : Type} {a : Option α} {x : α} (h : a = some x) {f : Nat → α → Option β} {r : β} (k : Ev (fun n => f n x) r) : Ev (fun n => a.bind (f n)) r := by
  subst h
  exact k
theorem Ev.pos {α : Type} {p : Prop} [Decidable p] (h : p) {f g : Nat → Option α} {r : α} (k : Ev f r) : Ev (fun n => if p then f n else g n) r :=
  Ev.congr (fun _ => if_pos h) k
theorem Ev.neg {α : Type} {p : Prop} [Decidable p] (h : ¬ p) {f g : Nat → Option α} {r : α} (k : Ev g r) : Ev (fun n => if p then f n else g n) r :=
  Ev.congr (fun _ => if_neg h) k
theorem tmod_nat {x : Int} (h0 : 0 ≤ x) (N : Nat) : ∃ c : Nat, Int.tmod x ((N + 1 : Nat) : Int) = (c : Int) ∧ c ≤ N := by
  obtain ⟨c, hc⟩ := Int.eq_ofNat_of_zero_le (Int.tmod_nonneg ((N + 1 : Nat) : Int) h0)
  have hlt := Int.tmod_lt_of_pos x (show (0 : Int) < ((N + 1 : Nat) : Int) by omega)
  rw [hc] at hlt
  exact ⟨c, hc, by omega⟩

/-! ### files -/
theorem rdF_nat {l : List S67} {i : Nat} (h : i < l.length) : rd_T67 l (i : Int) = l[i] := by
  unfold rd_T67
  rw [Int.toNat_natCast, List.getD_eq_getElem?_getD, List.getElem?_eq_getElem h]
  rfl
def fileOk (f : S67) : Bool := decide (1 ≤ (f.f0.size : Int) ∧ (f.f0.size : Int) ≤ 8) && decide (¬ (f.f1.size : Int) > 20000) && decide (0 ≤ f.f2 ∧ f.f2 ≤ (f.f1.size : Int))
def placeOk (l : List S67) (i : Nat) : Bool := fileOk (rd_T67 l (i : Int)) && (decide (i = 0) || Op.bytesLess ((rd_T67 l ((i - 1 : Nat) : Int)).f0.toList) ((rd_T67 l (i : Int)).f0.toList))
def allFrom (l : List S67) : Nat → Nat → Bool
  | 0, _ => true
  | d + 1, i => placeOk l i && allFrom l d (i + 1)
def diskOkV (l : List S67) : Bool := decide ((l.length : Int) ≤ 30) && allFrom l l.length 0

/-! ### a disk as an argument of a law -/
def toF (y : S91) : S67 := ⟨y.f0, y.f1, y.f2⟩
theorem rdLF_nat {l : List S91} {i : Nat} (h : i < l.length) : rd_T91 l (i : Int) = l[i] := by
  unfold rd_T91
  rw [Int.toNat_natCast, List.getD_eq_getElem?_getD, List.getElem?_eq_getElem h]
  rfl
theorem szFile_ex (y : S91) (h0 : y.f0.size ≤ 9223372036854775807) (h1 : y.f1.size ≤ 9223372036854775807) (c : Int) (left : Int) (hl0 : 0 ≤ left) (hl1 : left ≤ 1048576) :
    ∃ r, laws_szFile.f y.f0 y.f1 c left = some r ∧ (r < 0 ∨ (0 ≤ r ∧ r ≤ left ∧ (y.f0.size : Int) ≤ left ∧ (y.f1.size : Int) ≤ left)) := by
  unfold laws_szFile.f
  rw [w64 (x := left - (y.f0.size : Int)) (by omega) (by omega)]
  by_cases c1 : left - (y.f0.size : Int) < 0
  · rw [if_pos c1]
    exact ⟨_, rfl, .inl (by omega)⟩
  · rw [if_neg c1, w64 (by omega) (by omega)]
    by_cases c2 : left - (y.f0.size : Int) - (y.f1.size : Int) < 0
    · rw [if_pos c2]
      exact ⟨_, rfl, .inl (by omega)⟩
    · rw [if_neg c2]
      exact ⟨_, rfl, .inr ⟨by omega, by omega, by omega, by omega⟩⟩
theorem szDisk_ex (l : List S91) (hl : l.length ≤ 9223372036854775807) (hw : ∀ y ∈ l, y.f0.size ≤ 9223372036854775807 ∧ y.f1.size ≤ 9223372036854775807) :
    ∃ r, Ev (fun k => laws_szDisk.f k l 1048576) r ∧ (¬ r < 0 → l.length ≤ 1048576 ∧ r ≤ 1048576 ∧ ∀ y ∈ l, (y.f0.size : Int) ≤ 1048576 ∧ (y.f1.size : Int) ≤ 1048576) := by
  have key : ∀ d (i : Nat) (left : Int), i ≤ l.length → l.length - i = d → l.length ≤ 1048576 → 0 ≤ left → left ≤ 1048576 → ∃ r, Ev (fun k => laws_szFileS.l0 k l left (i : Int)) r ∧ (¬ r < 0 → r ≤ 1048576 ∧ ∀ y ∈ l.drop i, (y.f0.size : Int) ≤ 1048576 ∧ (y.f1.size : Int) ≤ 1048576) := by
    intro d
    induction d with
    | zero =>
      intro i left hi hd hlen h0 h1
      refine ⟨left, Ev.step (f := fun _ => some left) (fun k => by simp only [laws_szFileS.l0]; rw [if_neg (by omega)]) (Ev.now _), fun _ => ⟨h1, fun y hy => ?_⟩⟩
      rw [List.drop_of_length_le (by omega)] at hy
      simp at hy
    | succ d ih =>
      intro i left hi hd hlen h0 h1
      have hlt : i < l.length := by omega
      have hy := hw (l[i]) (List.getElem_mem hlt)
      obtain ⟨r, hr, hr2⟩ := szFile_ex (l[i]) hy.1 hy.2 (l[i].f2) left h0 h1
      have hwr := wsucc (n := i) (by omega)
      rcases hr2 with hr2 | ⟨r0, r1, r2, r3⟩
      · refine ⟨-1, Ev.step (f := fun _ => some (-1)) (fun k => ?_) (Ev.now _), fun h => absurd (show (-1 : Int) < 0 by omega) h⟩
        simp only [laws_szFileS.l0, rdLF_nat hlt, hr, Option.bind_some]
        rw [if_pos (by omega), if_pos (by omega), if_pos hr2]
      · obtain ⟨s, hs, hs2⟩ := ih (i + 1) r (by omega) (by omega) hlen r0 (by omega)
        refine ⟨s, Ev.step (fun k => ?_) hs, fun h => ⟨(hs2 h).1, fun y hy2 => ?_⟩⟩
        · simp only [laws_szFileS.l0, rdLF_nat hlt, hr, Option.bind_some, hwr]
          rw [if_pos (by omega), if_pos (by omega), if_neg (by omega)]
        · rw [List.drop_eq_getElem_cons hlt] at hy2
          rcases List.mem_cons.1 hy2 with h2 | h2
          · rw [h2]; exact ⟨by omega, by omega⟩
          · exact (hs2 h).2 y h2
  unfold laws_szDisk.f laws_szFileS.f
  by_cases c : wrap64 (1048576 - (l.length : Int)) < 0
  · refine ⟨-1, ?_, fun h => absurd (show (-1 : Int) < 0 by omega) h⟩
    simp only [if_pos c, Option.bind_some, if_pos (show (-1 : Int) < 0 by omega)]
    exact Ev.now _
  · rw [w64 (by omega) (by omega)] at c ⊢
    obtain ⟨r, hr, hr2⟩ := key l.length 0 (1048576 - (l.length : Int)) (by omega) (by omega) (by omega) (by omega) (by omega)
    refine ⟨if r < 0 then -1 else r, ?_, ?_⟩
    · simp only [if_neg c]
      refine Ev.bind hr ?_
      by_cases h : r < 0
      · simp only [if_pos h]; exact Ev.now _
      · simp only [if_neg h]; exact Ev.now _
    · intro h
      by_cases h2 : r < 0
      · rw [if_pos h2] at h; omega
      · rw [if_neg h2] at h ⊢
        have := hr2 h2
        rw [List.drop_zero] at this
        exact ⟨by omega, this.1, this.2⟩
theorem toDisk_ev (l : List S91) (hl : l.length ≤ 1048576) : Ev (fun k => laws_toDisk.f k l) (l.map toF) := by
  have key : ∀ d (i : Nat), i ≤ l.length → l.length - i = d → Ev (fun k => laws_toFileS.l0 k l ((l.take i).map toF ++ List.replicate (l.length - i) z67) (i : Int)) (l.map toF) := by
    intro d
    induction d with
    | zero =>
      intro i hi hd
      obtain rfl : i = l.length := by omega
      rw [List.take_length, Nat.sub_self, List.replicate_zero, List.append_nil]
      exact Ev.step (f := fun _ => some (l.map toF)) (fun k => by simp only [laws_toFileS.l0]; rw [if_neg (by omega)]) (Ev.now _)
    | succ d ih =>
      intro i hi hd
      have hlt : i < l.length := by omega
      have hwr := wsucc (n := i) (by omega)
      have hlen : ((l.take i).map toF ++ List.replicate (l.length - i) z67).length = l.length := by simp; omega
      have hset : ((l.take i).map toF ++ List.replicate (l.length - i) z67).set i (toF l[i]) = (l.take (i + 1)).map toF ++ List.replicate (l.length - (i + 1)) z67 := by
        have h1 : ((l.take i).map toF).length = i := by simp; omega
        rw [List.set_append_right _ _ (by omega), h1, Nat.sub_self, show l.length - i = (l.length - (i + 1)) + 1 by omega, List.replicate_succ, List.set_cons_zero, List.take_succ_eq_append_getElem hlt, List.map_append, List.append_assoc]
        rfl
      have := ih (i + 1) (by omega) (by omega)
      rw [← hset] at this
      refine Ev.step (fun k => ?_) this
      simp only [laws_toFileS.l0, laws_toFile.f, Option.bind_some, hlen, rdLF_nat hlt, hwr]
      rw [if_pos (by omega), if_pos (by omega), if_pos (by omega)]
      rfl
  have h0 := key l.length 0 (by omega) (by omega)
  rw [List.take_zero, List.map_nil, List.nil_append, Nat.sub_zero] at h0
  unfold laws_toDisk.f laws_toFileS.f
  simp only [Int.toNat_natCast, if_pos (show 0 ≤ (l.length : Int) by omega), if_pos (show l.length ≤ 7036874417766 by omega)]
  exact Ev.bind h0 (Ev.now _)
theorem eqDisk_ev (l : List S67) (hl : l.length ≤ 4611686018427387904) : Ev (fun k => laws_eqDisk.f k l l) true := by
  have key : ∀ d (i : Nat), i ≤ l.length → l.length - i = d → Ev (fun k => laws_eqFileS.l0 k l l (i : Int)) true := by
    intro d
    induction d with
    | zero =>
      intro i hi hd
      exact Ev.step (f := fun _ => some true) (fun k => by simp only [laws_eqFileS.l0]; rw [if_neg (by omega)]) (Ev.now _)
    | succ d ih =>
      intro i hi hd
      have hwr := wsucc (n := i) (by omega)
      refine Ev.step (fun k => ?_) (ih (i + 1) (by omega) (by omega))
      simp only [laws_eqFileS.l0, laws_eqFile.f, if_true, Option.bind_some, hwr]
      rw [if_pos (by omega), if_pos (by omega), if_pos (by omega)]
  unfold laws_eqDisk.f laws_eqFileS.f
  simp only [if_true]
  exact Ev.bind (key l.length 0 (by omega) (by omega)) (Ev.pos rfl (Ev.now _))

/-! ### where a file stands -/
theorem atN_range : ∀ (l : List S67) (nm : ByteArray) (i : Nat), atN l nm i = -1 ∨ ∃ j, i ≤ j ∧ j < i + l.length ∧ atN l nm i = (j : Int)
  | [], _, _ => .inl rfl
  | x :: l, nm, i => by
    unfold atN
    by_cases h : x.f0.toList = nm.toList
    · rw [if_pos h]
      exact .inr ⟨i, Nat.le_refl _, by simp, rfl⟩
    · rw [if_neg h]
      rcases atN_range l nm (i + 1) with e | ⟨j, h1, h2, e⟩
      · exact .inl e
      · exact .inr ⟨j, by omega, by simp; omega, e⟩
theorem spec_at_ev (l : List S67) (nm : ByteArray) (hl : l.length ≤ 4611686018427387904) : Ev (fun k => spec_l03At.f k l nm) (atN l nm 0) := by
  have key : ∀ d i : Nat, i ≤ l.length → l.length - i = d → Ev (fun k => spec_l03At.l0 k nm (i : Int) l) (atN (l.drop i) nm i) := by
    intro d
    induction d with
    | zero =>
      intro i hi he
      rw [List.drop_eq_nil_of_le (by omega)]
      refine Ev.step (f := fun _ => some (-1)) (fun k => ?_) (Ev.now _)
      simp only [spec_l03At.l0]
      rw [if_neg (by omega)]
    | succ d ih =>
      intro i hi he
      have ci : i < l.length := by omega
      have hrd : rd_T67 l (i : Int) = l[i] := by
        unfold rd_T67
        rw [Int.toNat_natCast, List.getD_eq_getElem?_getD, List.getElem?_eq_getElem ci]
        rfl
      rw [List.drop_eq_getElem_cons ci, atN]
      by_cases h : l[i].f0.toList = nm.toList
      · rw [if_pos h]
        refine Ev.step (f := fun _ => some (i : Int)) (fun k => ?_) (Ev.now _)
        simp only [spec_l03At.l0]
        rw [hrd, if_pos (by omega), if_pos (by omega), if_pos h]
      · rw [if_neg h]
        refine Ev.step (fun k => ?_) (ih (i + 1) (by omega) (by omega))
        simp only [spec_l03At.l0]
        rw [hrd, if_pos (by omega), if_pos (by omega), if_neg h, wsucc (by omega)]
  exact key l.length 0 (by omega) (by omega)
def fileAtV (l : List S67) (nm : ByteArray) : ByteArray × Bool := if atN l nm 0 < 0 then ((⟨#[]⟩ : ByteArray), false) else ((rd_T67 l (atN l nm 0)).f1, true)
theorem impl_FileAt_eq (l : List S67) (nm : ByteArray) : impl_FileAt.f l nm = some (fileAtV l nm) := by
  unfold impl_FileAt.f fileAtV impl_fileAt.f
  rw [Option.bind_some]
  rcases atN_range l nm 0 with e | ⟨j, h1, h2, e⟩
  · rw [e]
    rfl
  · rw [e, if_neg (show ¬ (j : Int) < 0 by omega), if_neg (show ¬ (j : Int) < 0 by omega), if_pos (show 0 ≤ (j : Int) by omega), if_pos (show (j : Int) < (l.length : Int) by omega)]

theorem spec_FileAt_ev (l : List S67) (nm : ByteArray) (hl : l.length ≤ 4611686018427387904) : Ev (fun k => spec_FileAt.f k l nm) (fileAtV l nm) := by
  unfold spec_FileAt.f fileAtV
  refine Ev.bind (spec_at_ev l nm hl) ?_
  rcases atN_range l nm 0 with e | ⟨j, h1, h2, e⟩
  · rw [e]
    exact Ev.now _
  · rw [e, if_neg (show ¬ (j : Int) < 0 by omega), if_neg (show ¬ (j : Int) < 0 by omega)]
    exact Ev.pos (show 0 ≤ (j : Int) by omega) (Ev.pos (show (j : Int) < (l.length : Int) by omega) (Ev.now _))

theorem FnExactFileAt : laws_FnExactFileAt.Pure := by
  intro l nm hl hn
  obtain ⟨h1, h2⟩ := hl
  have hml : l.length ≤ 9223372036854775807 := h1
  obtain ⟨r, hr, hr2⟩ := szDisk_ex l hml (fun y hy => ⟨(h2 y hy).1, (h2 y hy).2.1⟩)
  refine Ev.rounds ?_
  unfold laws_FnExactFileAt.f
  by_cases c0 : (nm.size : Int) > 1048576
  · exact Ev.pos c0 (Ev.now _)
  refine Ev.neg c0 (Ev.bind hr ?_)
  by_cases c : r < 0
  · exact Ev.pos c (Ev.now _)
  · refine Ev.neg c ?_
    have hb := (hr2 c).1
    have hb2 : (l.map toF).length ≤ 4611686018427387904 := by rw [List.length_map]; omega
    refine Ev.bind (toDisk_ev l hb) (Ev.bind (spec_FileAt_ev _ nm hb2) (Ev.bind (toDisk_ev l hb) (Ev.some_bind (impl_FileAt_eq _ nm) (Ev.pos rfl ?_))))
    refine Ev.step (f := fun k => (laws_toDisk.f k l).bind fun t155 => (laws_eqDisk.f k (l.map toF) t155).bind fun t158 => if t158 = true then some true else some false) (fun k => by simp only [laws_FnExactFileAt.j0, bne_self_eq_false, Bool.false_eq_true, if_false]) ?_
    exact Ev.bind (toDisk_ev l hb) (Ev.bind (eqDisk_ev _ hb2) (Ev.pos rfl (Ev.now _)))


end Go.Proofs.Ytnkldnkolcighaa.Pure
