/- The program's ReadShort and the reference's ReadShort return the same, for every text and every place. -/
import Derived.Test.YtilhajijfbpcjaaPFnExactReadShortx2
set_option linter.unusedVariables false
set_option linter.unusedSimpArgs false
namespace Go.Proofs.Ytilhajijfbpcjaa.Pure
open Go.RowKit Go.Proofs.Ytilhajijfbpcjaa.PFnExactReadShort Go.Proofs.YtilhajijfbpcjaaW.PrintWords Go.Proofs.YtilhajijfbpcjaaW.PrintLast

/-! ### small words -/
theorem w64 {x : Int} (h0 : -9223372036854775808 ≤ x) (h1 : x ≤ 9223372036854775807) : wrap64 x = x := by
  unfold wrap64
  omega
theorem wf64 {x : Int} (h : (Lit.int .i64 x).wf = true) : -9223372036854775808 ≤ x ∧ x ≤ 9223372036854775807 := by
  simp [Lit.wf, IntKind.min, IntKind.max, IntKind.signed, IntKind.bits] at h
  omega
theorem wfu32 {x : Int} (h : (Lit.int .u32 x).wf = true) : 0 ≤ x ∧ x ≤ 4294967295 := by
  simp [Lit.wf, IntKind.min, IntKind.max, IntKind.signed, IntKind.bits] at h
  omega
theorem wfu8 {x : Int} (h : (Lit.int .u8 x).wf = true) : 0 ≤ x ∧ x ≤ 255 := by
  simp [Lit.wf, IntKind.min, IntKind.max, IntKind.signed, IntKind.bits] at h
  omega
theorem wsucc {n : Nat} (h : n ≤ 4611686018427387904) : wrap64 ((n : Int) + 1) = ((n + 1 : Nat) : Int) := by
  rw [w64 (by omega) (by omega)]
  rfl
theorem wadd {a b : Nat} (h : a + b ≤ 4611686018427387904) : wrap64 ((a : Int) + (b : Int)) = ((a + b : Nat) : Int) := by
  rw [w64 (by omega) (by omega)]
  rfl
theorem wnat {n : Nat} (h : n ≤ 4611686018427387904) : wrap64 (n : Int) = (n : Int) := w64 (by omega) (by omega)

theorem strOfNums_size (xs : List Int) : (strOfNums xs).size = xs.length := by simp [strOfNums, ByteArray.size]
theorem str_ext {a b : ByteArray} (h : a.data.toList = b.data.toList) : a = b := by
  apply ByteArray.ext
  exact Array.toList_inj.1 h
theorem str_app (a b : ByteArray) : (a ++ b).data.toList = a.data.toList ++ b.data.toList := by simp [ByteArray.data_append]
theorem str_cut (s : ByteArray) (a b : Nat) : (s.extract a b).data.toList = (s.data.toList.drop a).take (b - a) := by
  obtain ⟨⟨l⟩⟩ := s
  simp [ByteArray.data_extract, List.extract_eq_take_drop]
theorem str_len (s : ByteArray) : s.data.toList.length = s.size := rfl
theorem str_toList {a b : ByteArray} : a.toList = b.toList ↔ a = b := by
  rw [ByteArray.toList_eq, ByteArray.toList_eq]
  exact ⟨str_ext, fun h => by rw [h]⟩
theorem str_split (s : ByteArray) (n : Nat) (h : n ≤ s.size) : s.extract 0 n ++ s.extract n s.size = s := by
  apply str_ext
  rw [str_app, str_cut, str_cut, List.drop_zero, Nat.sub_zero, List.take_of_length_le (l := s.data.toList.drop n) (by simp [str_len]), List.take_append_drop]
theorem str_app_inj {a b c : ByteArray} (h : a ++ b = a ++ c) : b = c := by
  have := congrArg (fun s : ByteArray => s.data.toList) h
  simp only [str_app] at this
  exact str_ext (List.append_cancel_left this)
theorem cut_size (s : ByteArray) {n : Nat} (h : n ≤ s.size) : (s.extract 0 n).size = n := by
  rw [ByteArray.size_extract]
  omega

theorem spec_l01In_eq (a l h : Int) : spec_l01In.f a l h = some (decide (l ≤ a ∧ a ≤ h)) := by
  unfold spec_l01In.f
  by_cases h1 : l ≤ a
  · rw [if_pos h1]; simp [h1]
  · rw [if_neg h1]; simp [h1]

theorem impl_within_eq (a l h : Int) : impl_within.f a l h = some (decide (l ≤ a ∧ a ≤ h)) := by
  unfold impl_within.f
  by_cases h1 : l ≤ a
  · rw [if_pos h1]; simp [h1]
  · rw [if_neg h1]; simp [h1]

/-! ### numbers in bytes -/
/-- The bytes of a number below 128 ^ (f + 1). -/
def varF : Nat → Nat → List Int
  | 0, n => [(n : Int)]
  | f + 1, n => if 127 < n then ((n % 128 + 128 : Nat) : Int) :: varF f (n / 128) else [(n : Int)]
theorem varF_length (f : Nat) : ∀ n, 1 ≤ (varF f n).length ∧ (varF f n).length ≤ f + 1 := by
  induction f with
  | zero => intro n; simp [varF]
  | succ f ih =>
    intro n
    unfold varF
    have := ih (n / 128)
    split
    · simp; omega
    · simp
/-- The text of a number. -/
def varS (n : Nat) : ByteArray := strOfNums (varF 4 n)
theorem varS_size (n : Nat) : 1 ≤ (varS n).size ∧ (varS n).size ≤ 5 := by
  unfold varS
  rw [strOfNums_size]
  exact varF_length 4 n
theorem var_byte {n : Nat} (h : 127 < n) (hn : n < 1000000000000) : (wrap64 ((Int.tmod (n : Int) 128) + 128)) % 256 = ((n % 128 + 128 : Nat) : Int) := by
  rw [Int.tmod_eq_emod_of_nonneg (by omega), w64 (by omega) (by omega)]
  omega
theorem var_next {n : Nat} (hn : n < 1000000000000) : wrap64 (Int.tdiv (n : Int) 128) = ((n / 128 : Nat) : Int) := by
  rw [Int.tdiv_eq_ediv_of_nonneg (by omega), w64 (by omega) (by omega)]
  rfl
def varTextV (n : Int) : ByteArray × Bool := if 0 ≤ n ∧ n ≤ 1000000000 then (varS n.toNat, true) else ((⟨#[]⟩ : ByteArray), false)
theorem varTextV_pos {n : Nat} (h : n ≤ 1000000000) : varTextV (n : Int) = (varS n, true) := by
  unfold varTextV
  rw [if_pos (by omega), Int.toNat_natCast]
theorem varTextV_neg {n : Nat} (h : ¬ n ≤ 1000000000) : varTextV (n : Int) = ((⟨#[]⟩ : ByteArray), false) := by
  unfold varTextV
  rw [if_neg (by omega)]
theorem varS_len (n : Nat) : (varS n).size = (varF 4 n).length := strOfNums_size _

theorem spec_l01Var_l0 (f : Nat) : ∀ (n : Nat) (acc : List Int), n < 128 ^ (f + 1) → f ≤ 4 → acc.length + f < 1000 → Ev (fun k => spec_l01Var.l0 k (n : Int) acc) (strOfNums (acc ++ varF f n)) := by
  induction f with
  | zero =>
    intro n acc hn hf ha
    refine Ev.step (f := fun _ => some (strOfNums (acc ++ [(n : Int)]))) (fun k => ?_) (Ev.now _)
    simp only [spec_l01Var.l0]
    rw [if_neg (by omega), if_pos (by omega), Int.emod_eq_of_lt (by omega) (by omega)]
  | succ f ih =>
    intro n acc hn hf ha
    have h5 : 128 ^ (f + 1 + 1) ≤ 128 ^ 5 := Nat.pow_le_pow_right (by omega) (by omega)
    have hp : 128 ^ (f + 1 + 1) = 128 * 128 ^ (f + 1) := by rw [Nat.pow_succ]; omega
    unfold varF
    by_cases h : 127 < n
    · rw [if_pos h]
      refine Ev.step (f := fun k => spec_l01Var.l0 k ((n / 128 : Nat) : Int) (acc ++ [((n % 128 + 128 : Nat) : Int)])) (fun k => ?_) ?_
      · simp only [spec_l01Var.l0]
        rw [if_pos (by omega), if_pos (by omega), var_byte h (by omega), var_next (by omega)]
      · have := ih (n / 128) (acc ++ [((n % 128 + 128 : Nat) : Int)]) (by omega) (by omega) (by simp; omega)
        rw [List.append_assoc, List.singleton_append] at this
        exact this
    · rw [if_neg h]
      refine Ev.step (f := fun _ => some (strOfNums (acc ++ [(n : Int)]))) (fun k => ?_) (Ev.now _)
      simp only [spec_l01Var.l0]
      rw [if_neg (by omega), if_pos (by omega), Int.emod_eq_of_lt (by omega) (by omega)]
theorem spec_l01Var_ev {n : Nat} (h : n < 128 ^ 5) : Ev (fun k => spec_l01Var.f k (n : Int)) (varS n) := spec_l01Var_l0 4 n [] h (by omega) (by simp)

theorem impl_VarText_l0 (f : Nat) : ∀ (n : Nat) (acc : List Int), n < 128 ^ (f + 1) → f ≤ 4 → acc.length + f < 1000 → Ev (fun k => impl_VarText.l0 k (n : Int) acc) (strOfNums (acc ++ varF f n), true) := by
  induction f with
  | zero =>
    intro n acc hn hf ha
    refine Ev.step (f := fun _ => some (strOfNums (acc ++ [(n : Int)]), true)) (fun k => ?_) (Ev.now _)
    simp only [impl_VarText.l0]
    rw [if_neg (by omega), if_pos (by omega), Int.emod_eq_of_lt (by omega) (by omega)]
  | succ f ih =>
    intro n acc hn hf ha
    have h5 : 128 ^ (f + 1 + 1) ≤ 128 ^ 5 := Nat.pow_le_pow_right (by omega) (by omega)
    have hp : 128 ^ (f + 1 + 1) = 128 * 128 ^ (f + 1) := by rw [Nat.pow_succ]; omega
    unfold varF
    by_cases h : 127 < n
    · rw [if_pos h]
      refine Ev.step (f := fun k => impl_VarText.l0 k ((n / 128 : Nat) : Int) (acc ++ [((n % 128 + 128 : Nat) : Int)])) (fun k => ?_) ?_
      · simp only [impl_VarText.l0]
        rw [if_pos (by omega), if_pos (by omega), var_byte h (by omega), var_next (by omega)]
      · have := ih (n / 128) (acc ++ [((n % 128 + 128 : Nat) : Int)]) (by omega) (by omega) (by simp; omega)
        rw [List.append_assoc, List.singleton_append] at this
        exact this
    · rw [if_neg h]
      refine Ev.step (f := fun _ => some (strOfNums (acc ++ [(n : Int)]), true)) (fun k => ?_) (Ev.now _)
      simp only [impl_VarText.l0]
      rw [if_neg (by omega), if_pos (by omega), Int.emod_eq_of_lt (by omega) (by omega)]
theorem impl_VarText_ev (n : Int) : Ev (fun k => impl_VarText.f k n) (varTextV n) := by
  unfold varTextV impl_VarText.f
  simp only [impl_within_eq, Option.bind_some, decide_eq_true_eq]
  by_cases h : 0 ≤ n ∧ n ≤ 1000000000
  · simp only [if_pos h]
    obtain ⟨m, rfl⟩ := Int.eq_ofNat_of_zero_le h.1
    exact impl_VarText_l0 4 m [] (by omega) (by omega) (by simp)
  · simp only [if_neg h]
    exact Ev.now _

/-! ### a number read out of bytes -/
theorem rv_bt (s : ByteArray) {i : Nat} (h : i < s.size) : bt s (i : Int) = ((s.data.toList[i]'h).toNat : Int) := by
  unfold bt
  rw [dif_pos (by simpa using h)]
  rfl
theorem rv_drop (s : ByteArray) {i : Nat} (h : i < s.size) : s.data.toList.drop i = (s.data.toList[i]'h) :: s.data.toList.drop (i + 1) := List.drop_eq_getElem_cons h
/-- At most f bytes from here on: the number, and how many bytes it took. -/
def scan : Nat → List UInt8 → Nat → Nat → Nat → Option (Nat × Nat)
  | 0, _, _, _, _ => none
  | _ + 1, [], _, _, _ => none
  | f + 1, c :: cs, n, sc, m => if c.toNat < 128 then some (n + c.toNat % 128 * sc, m + 1) else scan f cs (n + c.toNat % 128 * sc) (sc * 128) (m + 1)
def outV (p : Nat) : Option (Nat × Nat) → Int × Int × Bool
  | none => (0, 0, false)
  | some (n, m) => if n ≤ 1000000000 ∧ (varF 4 n).length = m then ((n : Int), ((p + m : Nat) : Int), true) else (0, 0, false)
def readVarV (s : ByteArray) (p : Int) : Int × Int × Bool := if 0 ≤ p ∧ p ≤ (s.size : Int) then outV p.toNat (scan 5 (s.data.toList.drop p.toNat) 0 1 0) else (0, 0, false)
def dec : List UInt8 → Nat
  | [] => 0
  | c :: cs => c.toNat % 128 + 128 * dec cs
theorem dec_snoc (ds : List UInt8) (c : UInt8) : dec (ds ++ [c]) = dec ds + c.toNat % 128 * 128 ^ ds.length := by
  induction ds with
  | nil => simp [dec]
  | cons d ds ih =>
    simp only [List.cons_append, dec, ih, List.length_cons, Nat.pow_succ, Nat.mul_add]
    rw [← Nat.add_assoc, Nat.mul_left_comm, Nat.mul_comm 128 (128 ^ ds.length)]
theorem dec_lt (ds : List UInt8) : dec ds < 128 ^ ds.length := by
  induction ds with
  | nil => simp [dec]
  | cons d ds ih =>
    simp only [dec, List.length_cons, Nat.pow_succ]
    omega
def numsU (l : List UInt8) : List Int := l.map fun b => (b.toNat : Int)
theorem varF_dec (c : UInt8) (hc : c.toNat < 128) (ds : List UInt8) : ∀ f, (∀ b ∈ ds, 128 ≤ b.toNat) → ds.length ≤ f → (varF f (dec (ds ++ [c]))).length = ds.length + 1 → varF f (dec (ds ++ [c])) = numsU (ds ++ [c]) := by
  induction ds with
  | nil =>
    intro f _ _ _
    have e : dec ([] ++ [c]) = c.toNat := by simp [dec]; omega
    rw [e]
    cases f with
    | zero => rfl
    | succ f => unfold varF; rw [if_neg (by omega)]; rfl
  | cons d ds ih =>
    intro f hb hf hl
    obtain ⟨f, rfl⟩ : ∃ g, f = g + 1 := ⟨f - 1, by simp at hf; omega⟩
    have hd : 128 ≤ d.toNat := hb d (by simp)
    have hd2 := d.toNat_lt
    simp only [List.cons_append, dec] at hl ⊢
    unfold varF at hl ⊢
    have hN : (d.toNat % 128 + 128 * dec (ds ++ [c])) % 128 = d.toNat % 128 := by omega
    have hD : (d.toNat % 128 + 128 * dec (ds ++ [c])) / 128 = dec (ds ++ [c]) := by omega
    by_cases h : 127 < d.toNat % 128 + 128 * dec (ds ++ [c])
    · rw [if_pos h, hN, hD] at hl ⊢
      rw [ih f (fun b hb' => hb b (by simp [hb'])) (by simpa using hf) (by simpa using hl)]
      show ((d.toNat % 128 + 128 : Nat) : Int) :: _ = ((d.toNat : Nat) : Int) :: _
      rw [show d.toNat % 128 + 128 = d.toNat by omega]
      rfl
    · rw [if_neg h] at hl
      simp at hl
theorem strOfNums_numsU (l : List UInt8) : (strOfNums (numsU l)).data.toList = l := by
  simp only [strOfNums, numsU, List.map_map]
  induction l with
  | nil => rfl
  | cons b l ih =>
    simp
    exact ih
theorem rv_text (s : ByteArray) {p m : Nat} (h : p + m ≤ s.size) (l : List UInt8) (hl : (s.data.toList.drop p).take m = l) (n : Nat) (hv : varF 4 n = numsU l) : varS n = s.extract p (p + m) := by
  apply str_ext
  unfold varS
  rw [hv, strOfNums_numsU, str_cut, Nat.add_sub_cancel_left, hl]
/-- One figure's share. -/
theorem rv_share {c i n : Nat} (hi : i ≤ 4) (hn : n < 128 ^ i) : n + c % 128 * 128 ^ i < 128 ^ (i + 1) ∧ n + c % 128 * 128 ^ i < 128 ^ 5 ∧ c % 128 * 128 ^ i < 128 ^ 5 ∧ 128 ^ i ≤ 128 ^ 4 := by
  have h1 : c % 128 ≤ 127 := by omega
  have h2 : c % 128 * 128 ^ i ≤ 127 * 128 ^ i := Nat.mul_le_mul_right _ h1
  have h3 : 128 ^ (i + 1) = 128 ^ i * 128 := Nat.pow_succ _ _
  have h4 : 128 ^ (i + 1) ≤ 128 ^ 5 := Nat.pow_le_pow_right (by omega) (by omega)
  have h5 : 128 ^ i ≤ 128 ^ 4 := Nat.pow_le_pow_right (by omega) (by omega)
  generalize c % 128 * 128 ^ i = q at h2 ⊢
  generalize 128 ^ i = e at h2 h3 h5 hn ⊢
  rw [h3] at h4 ⊢
  omega
theorem rv_w7 {i : Nat} (hi : i ≤ 4) : wrap64 (7 * (i : Int)) = ((7 * i : Nat) : Int) := by
  rw [w64 (by omega) (by omega)]
  rfl
theorem rv_nn (n : Nat) : 0 ≤ (n : Int) := Int.natCast_nonneg n
theorem rv_shl {c i : Nat} (hi : i ≤ 4) (hc : c < 256) : shl .i64 (Int.tmod (wrap64 (c : Int)) 128) (wrap64 (7 * (i : Int))) = ((c % 128 * 128 ^ i : Nat) : Int) := by
  have h7 : wrap64 (7 * (i : Int)) = ((7 * i : Nat) : Int) := by rw [w64 (by omega) (by omega)]; rfl
  have hm : min (7 * i) 64 = 7 * i := by omega
  have hq := (rv_share (c := c) (n := 0) hi (Nat.pow_pos (by omega))).2.2.1
  unfold shl
  rw [h7, Int.toNat_natCast, show IntKind.i64.bits = 64 from rfl, hm, wnat (by omega), Int.tmod_eq_emod_of_nonneg (by omega), IntKind.wrap_i64]
  have e2 : (2 : Int) ^ (7 * i) = ((128 ^ i : Nat) : Int) := by rw [Int.natCast_pow, Int.pow_mul]; rfl
  have e3 : (c : Int) % 128 * ((128 ^ i : Nat) : Int) = ((c % 128 * 128 ^ i : Nat) : Int) := by rw [Int.natCast_mul]; rfl
  rw [e2, e3]
  generalize c % 128 * 128 ^ i = q at hq ⊢
  omega
theorem rv_mul {c i : Nat} (hi : i ≤ 4) (hc : c < 256) : wrap64 ((Int.tmod (wrap64 (c : Int)) 128) * ((128 ^ i : Nat) : Int)) = ((c % 128 * 128 ^ i : Nat) : Int) := by
  have hq := (rv_share (c := c) (n := 0) hi (Nat.pow_pos (by omega))).2.2.1
  have e3 : (c : Int) % 128 * ((128 ^ i : Nat) : Int) = ((c % 128 * 128 ^ i : Nat) : Int) := by rw [Int.natCast_mul]; rfl
  rw [wnat (by omega), Int.tmod_eq_emod_of_nonneg (by omega), e3]
  exact wnat (by omega)
theorem rv_scale {i : Nat} (hi : i ≤ 4) : wrap64 (((128 ^ i : Nat) : Int) * 128) = ((128 ^ i * 128 : Nat) : Int) := by
  have h5 : 128 ^ i ≤ 128 ^ 4 := Nat.pow_le_pow_right (by omega) (by omega)
  generalize 128 ^ i = e at h5 ⊢
  rw [w64 (by omega) (by omega)]
  rfl

theorem impl_ReadVar_stop (s : ByteArray) (p n i : Int) : Ev (fun k => impl_ReadVar.j1 k s p n i false) (0, 0, false) :=
  Ev.step (f := fun _ => some (0, 0, false)) (fun k => by simp only [impl_ReadVar.j1, Bool.false_eq_true, if_false]) (Ev.now _)
theorem impl_ReadVar_last (s : ByteArray) (hs : s.size ≤ 140737488351232) (p i n : Nat) (hlt : p + i < s.size) (hi : i ≤ 4) (hn : n < 128 ^ i) (hc : (s.data.toList[p + i]'hlt).toNat < 128) :
    Ev (fun k => impl_ReadVar.j1 k s (p : Int) (n : Int) (i : Int) true) (outV p (some (n + (s.data.toList[p + i]'hlt).toNat % 128 * 128 ^ i, i + 1))) := by
  have h7 : 0 ≤ wrap64 (7 * (i : Int)) := by rw [rv_w7 hi]; exact rv_nn _
  have hw := wadd (a := p) (b := i) (by omega)
  have hw1 := wsucc (n := i) (by omega)
  have hw2 := wsucc (n := p + i) (by omega)
  have g1 : 0 ≤ ((p + i : Nat) : Int) := rv_nn _
  have g2 : ((p + i : Nat) : Int) < (s.size : Int) := by omega
  have hb := (s.data.toList[p + i]'hlt).toNat_lt
  have g3 : ((s.data.toList[p + i]'hlt).toNat : Int) < 128 := by omega
  have hwc := wnat (n := (s.data.toList[p + i]'hlt).toNat) (by omega)
  have hN := (rv_share (c := (s.data.toList[p + i]'hlt).toNat) hi hn).2.1
  have hnn := wadd (a := n) (b := (s.data.toList[p + i]'hlt).toNat % 128 * 128 ^ i) (Nat.le_trans (Nat.le_of_lt hN) (by decide))
  have hbt := rv_bt s hlt
  have hsh := rv_shl hi hb
  generalize (s.data.toList[p + i]'hlt).toNat = c at hb hN hnn hbt hsh hc hwc g3 ⊢
  generalize hq : c % 128 * 128 ^ i = q at hN hnn hsh ⊢
  generalize hNN : n + q = N at hN hnn ⊢
  refine Ev.step (f := fun k => (impl_VarText.f k (N : Int)).bind fun b => if b.2 = true then (if (b.1.size : Int) = ((i + 1 : Nat) : Int) then some ((N : Int), ((p + i + 1 : Nat) : Int), true) else some (0, 0, false)) else some (0, 0, false)) (fun k => ?_) ?_
  · simp only [impl_ReadVar.j1, if_true]
    rw [hw, if_pos g1, if_pos g2, if_pos h7, hbt, hsh, hnn, hwc, if_pos g3, hw1, hw2]
  · refine Ev.bind (impl_VarText_ev (N : Int)) ?_
    by_cases hM : N ≤ 1000000000
    · rw [varTextV_pos hM]
      simp only [if_true, varS_len N, outV]
      by_cases hL : (varF 4 N).length = i + 1
      · simp only [if_pos (And.intro hM hL), if_pos (show ((varF 4 N).length : Int) = ((i + 1 : Nat) : Int) from congrArg Nat.cast hL)]
        exact Ev.now _
      · simp only [if_neg (show ¬ (N ≤ 1000000000 ∧ (varF 4 N).length = i + 1) from fun h => hL h.2), if_neg (show ¬ ((varF 4 N).length : Int) = ((i + 1 : Nat) : Int) from fun h => hL (Int.ofNat.inj h))]
        exact Ev.now _
    · rw [varTextV_neg hM]
      simp only [Bool.false_eq_true, if_false, outV, if_neg (show ¬ (N ≤ 1000000000 ∧ (varF 4 N).length = i + 1) from fun h => hM h.1)]
      exact Ev.now _
theorem impl_ReadVar_more (s : ByteArray) (hs : s.size ≤ 140737488351232) (p i n : Nat) (hlt : p + i < s.size) (hi : i ≤ 4) (hn : n < 128 ^ i) (hc : ¬ (s.data.toList[p + i]'hlt).toNat < 128) (k : Nat) :
    impl_ReadVar.j1 (k + 1) s (p : Int) (n : Int) (i : Int) true = impl_ReadVar.l0 k s (p : Int) ((n + (s.data.toList[p + i]'hlt).toNat % 128 * 128 ^ i : Nat) : Int) ((i + 1 : Nat) : Int) := by
  have h7 : 0 ≤ wrap64 (7 * (i : Int)) := by rw [rv_w7 hi]; exact rv_nn _
  have hw := wadd (a := p) (b := i) (by omega)
  have hw1 := wsucc (n := i) (by omega)
  have g1 : 0 ≤ ((p + i : Nat) : Int) := rv_nn _
  have g2 : ((p + i : Nat) : Int) < (s.size : Int) := by omega
  have hb := (s.data.toList[p + i]'hlt).toNat_lt
  have g3 : ¬ ((s.data.toList[p + i]'hlt).toNat : Int) < 128 := by omega
  have hwc := wnat (n := (s.data.toList[p + i]'hlt).toNat) (by omega)
  have hN := (rv_share (c := (s.data.toList[p + i]'hlt).toNat) hi hn).2.1
  have hnn := wadd (a := n) (b := (s.data.toList[p + i]'hlt).toNat % 128 * 128 ^ i) (Nat.le_trans (Nat.le_of_lt hN) (by decide))
  have hbt := rv_bt s hlt
  have hsh := rv_shl hi hb
  simp only [impl_ReadVar.j1, if_true]
  rw [hw, if_pos g1, if_pos g2, if_pos h7, hbt, hsh, hnn, hwc, if_neg g3, hw1]
theorem impl_ReadVar_l0 (s : ByteArray) (hs : s.size ≤ 140737488351232) (p : Nat) (hp : p ≤ s.size) (f : Nat) : ∀ (i n : Nat), i + f = 5 → n < 128 ^ i →
    Ev (fun k => impl_ReadVar.l0 k s (p : Int) (n : Int) (i : Int)) (outV p (scan f (s.data.toList.drop (p + i)) n (128 ^ i) i)) := by
  induction f with
  | zero =>
    intro i n hi hn
    refine Ev.step (f := fun k => impl_ReadVar.j1 k s (p : Int) (n : Int) (i : Int) false) (fun k => ?_) (impl_ReadVar_stop _ _ _ _)
    simp only [impl_ReadVar.l0]
    rw [if_neg (by omega)]
  | succ f ih =>
    intro i n hi hn
    have hw := wadd (a := p) (b := i) (by omega)
    by_cases hlt : p + i < s.size
    · refine Ev.step (f := fun k => impl_ReadVar.j1 k s (p : Int) (n : Int) (i : Int) true) (fun k => ?_) ?_
      · simp only [impl_ReadVar.l0]
        rw [if_pos (by omega), hw, decide_eq_true (show ((p + i : Nat) : Int) < (s.size : Int) by omega)]
      · rw [rv_drop s hlt]
        unfold scan
        by_cases hc : (s.data.toList[p + i]'hlt).toNat < 128
        · rw [if_pos hc]
          exact impl_ReadVar_last s hs p i n hlt (by omega) hn hc
        · rw [if_neg hc]
          have := ih (i + 1) (n + (s.data.toList[p + i]'hlt).toNat % 128 * 128 ^ i) (by omega) (rv_share (by omega) hn).1
          rw [Nat.pow_succ, show p + (i + 1) = p + i + 1 by omega] at this
          exact Ev.step (fun k => impl_ReadVar_more s hs p i n hlt (by omega) hn hc k) this
    · have hz : s.data.toList.drop (p + i) = [] := List.drop_eq_nil_of_le (by rw [str_len]; omega)
      rw [hz]
      refine Ev.step (f := fun k => impl_ReadVar.j1 k s (p : Int) (n : Int) (i : Int) false) (fun k => ?_) (impl_ReadVar_stop _ _ _ _)
      simp only [impl_ReadVar.l0]
      rw [if_pos (by omega), hw, decide_eq_false (show ¬ ((p + i : Nat) : Int) < (s.size : Int) by omega)]
theorem impl_ReadVar_ev (s : ByteArray) (hs : s.size ≤ 140737488351232) (p : Int) : Ev (fun k => impl_ReadVar.f k s p) (readVarV s p) := by
  unfold impl_ReadVar.f
  simp only [impl_within_eq, Option.bind_some, decide_eq_true_eq]
  by_cases h : 0 ≤ p ∧ p ≤ (s.size : Int)
  · simp only [if_pos h, readVarV]
    obtain ⟨q, rfl⟩ := Int.eq_ofNat_of_zero_le h.1
    have := impl_ReadVar_l0 s hs q (by omega) 5 0 0 (by omega) (by omega)
    rw [Nat.pow_zero, Nat.add_zero] at this
    exact this
  · simp only [if_neg h, readVarV]
    exact Ev.now _

theorem spec_ReadVar_stop (s : ByteArray) (p n sc i : Int) : Ev (fun k => spec_ReadVar.j1 k s p n sc i false) (0, 0, false) :=
  Ev.step (f := fun _ => some (0, 0, false)) (fun k => by simp only [spec_ReadVar.j1, Bool.false_eq_true, if_false]) (Ev.now _)
theorem spec_ReadVar_last (s : ByteArray) (hs : s.size ≤ 140737488351232) (p i n : Nat) (hlt : p + i < s.size) (hi : i ≤ 4) (hn : n < 128 ^ i) (hc : (s.data.toList[p + i]'hlt).toNat < 128)
    (hvt : (varF 4 (n + (s.data.toList[p + i]'hlt).toNat % 128 * 128 ^ i)).length = i + 1 → varS (n + (s.data.toList[p + i]'hlt).toNat % 128 * 128 ^ i) = s.extract p (p + (i + 1))) :
    Ev (fun k => spec_ReadVar.j1 k s (p : Int) (n : Int) ((128 ^ i : Nat) : Int) ((p + i : Nat) : Int) true) (outV p (some (n + (s.data.toList[p + i]'hlt).toNat % 128 * 128 ^ i, i + 1))) := by
  have hb := (s.data.toList[p + i]'hlt).toNat_lt
  have hN := (rv_share (c := (s.data.toList[p + i]'hlt).toNat) hi hn).2.1
  have hnn := wadd (a := n) (b := (s.data.toList[p + i]'hlt).toNat % 128 * 128 ^ i) (by omega)
  have hbt := rv_bt s hlt
  have hm := rv_mul hi hb
  generalize (s.data.toList[p + i]'hlt).toNat = c at hb hN hnn hbt hm hc hvt ⊢
  generalize hq : c % 128 * 128 ^ i = q at hN hnn hm hvt ⊢
  generalize hNN : n + q = N at hN hnn hvt ⊢
  clear hq hNN hn
  have hw1 := wsucc (n := p + i) (by omega)
  refine Ev.step (f := fun k => if (N : Int) > 1000000000 then some (0, 0, false) else (spec_l01Var.f k (N : Int)).bind fun t => if t.toList = (s.extract p (p + i + 1)).toList then some ((N : Int), ((p + i + 1 : Nat) : Int), true) else some (0, 0, false)) (fun k => ?_) ?_
  · simp only [spec_ReadVar.j1, if_true]
    rw [if_pos (by omega), if_pos (by omega), hbt, hm, hnn, if_pos (by omega), hw1]
    simp only [if_pos (show 0 ≤ (p : Int) by omega), if_pos (show (p : Int) ≤ ((p + i + 1 : Nat) : Int) by omega), if_pos (show ((p + i + 1 : Nat) : Int) ≤ (s.size : Int) by omega), Int.toNat_natCast]
  · by_cases hM : N ≤ 1000000000
    · simp only [if_neg (show ¬ (N : Int) > 1000000000 by omega)]
      refine Ev.bind (spec_l01Var_ev hN) ?_
      clear hm hbt hnn hw1
      simp only [str_toList, outV]
      by_cases hL : (varF 4 N).length = i + 1
      · simp only [if_pos (And.intro hM hL), if_pos (show varS N = s.extract p (p + i + 1) from hvt hL)]
        exact Ev.now _
      · have hne : ¬ varS N = s.extract p (p + i + 1) := by
          intro h
          apply hL
          rw [← varS_len, h, ByteArray.size_extract]
          omega
        simp only [if_neg (show ¬ (N ≤ 1000000000 ∧ (varF 4 N).length = i + 1) from fun h => hL h.2), if_neg hne]
        exact Ev.now _
    · simp only [if_pos (show (N : Int) > 1000000000 by omega), outV, if_neg (show ¬ (N ≤ 1000000000 ∧ (varF 4 N).length = i + 1) from fun h => hM h.1)]
      exact Ev.now _
theorem spec_ReadVar_more (s : ByteArray) (hs : s.size ≤ 140737488351232) (p i n : Nat) (hlt : p + i < s.size) (hi : i ≤ 4) (hn : n < 128 ^ i) (hc : ¬ (s.data.toList[p + i]'hlt).toNat < 128) (k : Nat) :
    spec_ReadVar.j1 (k + 1) s (p : Int) (n : Int) ((128 ^ i : Nat) : Int) ((p + i : Nat) : Int) true = spec_ReadVar.l0 k s (p : Int) ((n + (s.data.toList[p + i]'hlt).toNat % 128 * 128 ^ i : Nat) : Int) ((128 ^ i * 128 : Nat) : Int) ((p + i + 1 : Nat) : Int) := by
  have hb := (s.data.toList[p + i]'hlt).toNat_lt
  have hN := (rv_share (c := (s.data.toList[p + i]'hlt).toNat) hi hn).2.1
  have hnn := wadd (a := n) (b := (s.data.toList[p + i]'hlt).toNat % 128 * 128 ^ i) (by omega)
  have hbt := rv_bt s hlt
  have hm := rv_mul hi hb
  have hsc := rv_scale hi
  generalize (s.data.toList[p + i]'hlt).toNat = c at hb hN hnn hbt hm hc ⊢
  generalize hq : c % 128 * 128 ^ i = q at hN hnn hm ⊢
  clear hq hn
  simp only [spec_ReadVar.j1, if_true]
  rw [if_pos (by omega), if_pos (by omega), hbt, hm, hnn, if_neg (by omega), wsucc (n := p + i) (by omega), hsc]
theorem spec_ReadVar_l0 (s : ByteArray) (hs : s.size ≤ 140737488351232) (p : Nat) (hp : p ≤ s.size) (f : Nat) : ∀ (i n : Nat), i + f = 5 → p + i ≤ s.size → n = dec ((s.data.toList.drop p).take i) → (∀ b ∈ (s.data.toList.drop p).take i, 128 ≤ b.toNat) →
    Ev (fun k => spec_ReadVar.l0 k s (p : Int) (n : Int) ((128 ^ i : Nat) : Int) ((p + i : Nat) : Int)) (outV p (scan f (s.data.toList.drop (p + i)) n (128 ^ i) i)) := by
  induction f with
  | zero =>
    intro i n hi hpi hn hge
    have hw := wadd (a := p) (b := 5) (by omega)
    refine Ev.step (f := fun k => spec_ReadVar.j1 k s (p : Int) (n : Int) ((128 ^ i : Nat) : Int) ((p + i : Nat) : Int) false) (fun k => ?_) (spec_ReadVar_stop _ _ _ _ _)
    simp only [spec_ReadVar.l0]
    rw [show wrap64 ((p : Int) + 5) = ((p + 5 : Nat) : Int) from hw, decide_eq_false (show ¬ ((p + i : Nat) : Int) < ((p + 5 : Nat) : Int) by omega)]
    split <;> rfl
  | succ f ih =>
    intro i n hi hpi hn hge
    have hw := wadd (a := p) (b := 5) (by omega)
    by_cases hlt : p + i < s.size
    · have hlen : ((s.data.toList.drop p).take i).length = i := by rw [List.length_take, List.length_drop, str_len]; omega
      have hnl : n < 128 ^ i := by have := dec_lt ((s.data.toList.drop p).take i); rwa [← hn, hlen] at this
      have htk : (s.data.toList.drop p).take (i + 1) = (s.data.toList.drop p).take i ++ [s.data.toList[p + i]'hlt] := by
        rw [List.take_succ_eq_append_getElem (by rw [List.length_drop, str_len]; omega)]
        simp
      have hd2 : n + (s.data.toList[p + i]'hlt).toNat % 128 * 128 ^ i = dec ((s.data.toList.drop p).take (i + 1)) := by rw [htk, dec_snoc, hlen, hn]
      refine Ev.step (f := fun k => spec_ReadVar.j1 k s (p : Int) (n : Int) ((128 ^ i : Nat) : Int) ((p + i : Nat) : Int) true) (fun k => ?_) ?_
      · simp only [spec_ReadVar.l0]
        rw [if_pos (show ((p + i : Nat) : Int) < (s.size : Int) by omega), show wrap64 ((p : Int) + 5) = ((p + 5 : Nat) : Int) from hw, decide_eq_true (show ((p + i : Nat) : Int) < ((p + 5 : Nat) : Int) by omega)]
      · rw [rv_drop s hlt]
        unfold scan
        by_cases hc : (s.data.toList[p + i]'hlt).toNat < 128
        · rw [if_pos hc]
          refine spec_ReadVar_last s hs p i n hlt (by omega) hnl hc (fun h => ?_)
          rw [hd2, htk] at h ⊢
          exact rv_text s (by omega) _ htk _ (varF_dec _ hc _ 4 hge (by rw [hlen]; omega) (by rw [h, hlen]))
        · rw [if_neg hc]
          have := ih (i + 1) (n + (s.data.toList[p + i]'hlt).toNat % 128 * 128 ^ i) (by omega) (by omega) hd2 (by
            intro b hb'
            rw [htk] at hb'
            rcases List.mem_append.1 hb' with h | h
            · exact hge b h
            · rw [List.mem_singleton.1 h]; omega)
          rw [Nat.pow_succ, show p + (i + 1) = p + i + 1 by omega] at this
          exact Ev.step (fun k => spec_ReadVar_more s hs p i n hlt (by omega) hnl hc k) this
    · have hz : s.data.toList.drop (p + i) = [] := List.drop_eq_nil_of_le (by rw [str_len]; omega)
      rw [hz]
      refine Ev.step (f := fun k => spec_ReadVar.j1 k s (p : Int) (n : Int) ((128 ^ i : Nat) : Int) ((p + i : Nat) : Int) false) (fun k => ?_) (spec_ReadVar_stop _ _ _ _ _)
      simp only [spec_ReadVar.l0]
      rw [if_neg (show ¬ ((p + i : Nat) : Int) < (s.size : Int) by omega)]
theorem spec_ReadVar_ev (s : ByteArray) (hs : s.size ≤ 140737488351232) (p : Int) : Ev (fun k => spec_ReadVar.f k s p) (readVarV s p) := by
  unfold spec_ReadVar.f
  simp only [spec_l01In_eq, Option.bind_some, decide_eq_true_eq]
  by_cases h : 0 ≤ p ∧ p ≤ (s.size : Int)
  · simp only [if_pos h, readVarV]
    obtain ⟨q, rfl⟩ := Int.eq_ofNat_of_zero_le h.1
    have := spec_ReadVar_l0 s hs q (by omega) 5 0 0 (by omega) (by omega) (by simp [dec]) (by simp)
    rw [Nat.pow_zero, Nat.add_zero] at this
    exact this
  · simp only [if_neg h, readVarV]
    exact Ev.now _

theorem scan_le (f : Nat) : ∀ (l : List UInt8) (n sc m : Nat) (r : Nat × Nat), scan f l n sc m = some r → m < r.2 ∧ r.2 ≤ m + l.length := by
  induction f with
  | zero => intro l n sc m r h; simp [scan] at h
  | succ f ih =>
    intro l n sc m r h
    cases l with
    | nil => simp [scan] at h
    | cons c cs =>
      unfold scan at h
      split at h
      · injection h with h
        rw [← h]
        simp
      · have := ih _ _ _ _ _ h
        simp
        omega
/-- What ReadVar answers: no, or a number and the place behind it. -/
theorem readVar_cases (s : ByteArray) (p : Int) : readVarV s p = (0, 0, false) ∨ ∃ n q : Nat, readVarV s p = ((n : Int), (q : Int), true) ∧ n ≤ 1000000000 ∧ p < (q : Int) ∧ q ≤ s.size ∧ 0 ≤ p := by
  unfold readVarV
  by_cases h : 0 ≤ p ∧ p ≤ (s.size : Int)
  · rw [if_pos h]
    cases e : scan 5 (s.data.toList.drop p.toNat) 0 1 0 with
    | none => exact .inl rfl
    | some r =>
      obtain ⟨n, m⟩ := r
      have hle := scan_le _ _ _ _ _ _ e
      rw [List.length_drop, str_len] at hle
      unfold outV
      simp only
      split
      · rename_i h2
        refine .inr ⟨n, p.toNat + m, rfl, h2.1, ?_, ?_, h.1⟩
        · simp at hle; omega
        · simp at hle; omega
      · exact .inl rfl
  · rw [if_neg h]
    exact .inl rfl
def readShortV (s : ByteArray) (p : Int) : ByteArray × Int × Bool :=
  let r := readVarV s p
  if r.2.2 = true ∧ r.1 ≤ 20000 ∧ r.1 ≤ (s.size : Int) - r.2.1 then (s.extract r.2.1.toNat (r.2.1 + r.1).toNat, r.2.1 + r.1, true) else ((⟨#[]⟩ : ByteArray), 0, false)

theorem spec_ReadShort_ev (s : ByteArray) (hs : s.size ≤ 140737488351232) (p : Int) : Ev (fun k => spec_ReadShort.f k s p) (readShortV s p) := by
  unfold spec_ReadShort.f readShortV
  refine Ev.bind (spec_ReadVar_ev s hs p) ?_
  rcases readVar_cases s p with h | ⟨n, q, h, hn, hq, hqs, hp⟩
  · simp only [h, Bool.false_eq_true, if_false, false_and]
    exact Ev.now _
  · simp only [h, if_true, true_and]
    rw [w64 (x := (s.size : Int) - (q : Int)) (by omega) (by omega), wadd (a := q) (b := n) (by omega)]
    by_cases h1 : (n : Int) ≤ 20000
    · by_cases h2 : (n : Int) ≤ (s.size : Int) - (q : Int)
      · simp only [if_neg (show ¬ (n : Int) > 20000 by omega), if_neg (show ¬ (n : Int) > (s.size : Int) - (q : Int) by omega), if_pos (show 0 ≤ (q : Int) by omega), if_pos (show (q : Int) ≤ ((q + n : Nat) : Int) by omega), if_pos (show ((q + n : Nat) : Int) ≤ (s.size : Int) by omega), if_pos (And.intro h1 h2)]
        exact Ev.now _
      · simp only [if_neg (show ¬ (n : Int) > 20000 by omega), if_pos (show (n : Int) > (s.size : Int) - (q : Int) by omega), if_neg (show ¬ ((n : Int) ≤ 20000 ∧ (n : Int) ≤ (s.size : Int) - (q : Int)) by omega)]
        exact Ev.now _
    · simp only [if_pos (show (n : Int) > 20000 by omega), if_neg (show ¬ ((n : Int) ≤ 20000 ∧ (n : Int) ≤ (s.size : Int) - (q : Int)) by omega)]
      exact Ev.now _

theorem impl_ReadShort_ev (s : ByteArray) (hs : s.size ≤ 140737488351232) (p : Int) : Ev (fun k => impl_ReadShort.f k s p) (readShortV s p) := by
  unfold impl_ReadShort.f readShortV
  refine Ev.bind (impl_ReadVar_ev s hs p) ?_
  rcases readVar_cases s p with h | ⟨n, q, h, hn, hq, hqs, hp⟩
  · simp only [h, Bool.false_eq_true, if_false, false_and]
    exact Ev.now _
  · simp only [h, if_true, true_and]
    rw [w64 (x := (s.size : Int) - (q : Int)) (by omega) (by omega), wadd (a := q) (b := n) (by omega)]
    by_cases h1 : (n : Int) ≤ 20000
    · by_cases h2 : (n : Int) ≤ (s.size : Int) - (q : Int)
      · simp only [if_neg (show ¬ (n : Int) > 20000 by omega), if_neg (show ¬ (n : Int) > (s.size : Int) - (q : Int) by omega), if_pos (show 0 ≤ (q : Int) by omega), if_pos (show (q : Int) ≤ ((q + n : Nat) : Int) by omega), if_pos (show ((q + n : Nat) : Int) ≤ (s.size : Int) by omega), if_pos (And.intro h1 h2)]
        exact Ev.now _
      · simp only [if_neg (show ¬ (n : Int) > 20000 by omega), if_pos (show (n : Int) > (s.size : Int) - (q : Int) by omega), if_neg (show ¬ ((n : Int) ≤ 20000 ∧ (n : Int) ≤ (s.size : Int) - (q : Int)) by omega)]
        exact Ev.now _
    · simp only [if_pos (show (n : Int) > 20000 by omega), if_neg (show ¬ ((n : Int) ≤ 20000 ∧ (n : Int) ≤ (s.size : Int) - (q : Int)) by omega)]
      exact Ev.now _

theorem FnExactReadShort : laws_FnExactReadShort.Pure := by
  intro s p hs hp
  refine Ev.rounds ?_
  unfold laws_FnExactReadShort.f
  by_cases h : (s.size : Int) > 1048576
  · simp only [if_pos h]
    exact Ev.now _
  · simp only [if_neg h]
    refine Ev.bind (spec_ReadShort_ev s hs p) (Ev.bind (impl_ReadShort_ev s hs p) ?_)
    simp only [if_true, bne_self_eq_false, Bool.false_eq_true, if_false]
    exact Ev.now _


end Go.Proofs.Ytilhajijfbpcjaa.Pure
