/- A drawn number goes through VarText and ReadVar, and through Decimal and ReadDecimal; a drawn text goes through ShortText and ReadShort, and through Hex and Unhex. -/
import Derived.Test.YtfagleffamhimaaDoorXFnNumbersx4
set_option linter.unusedVariables false
set_option linter.unusedSimpArgs false
namespace Go.Proofs.YtfagleffamhimaaDoor.Pure
open Go.RowKit Go.Proofs.YtfagleffamhimaaDoor.XFnNumbers Go.Proofs.YtfagleffamhimaaDoorW.PrintWords Go.Proofs.YtfagleffamhimaaDoorW.PrintLast

/-! ### small words -/
theorem w64 {x : Int} (h0 : -9223372036854775808 ≤ x) (h1 : x ≤ 9223372036854775807) : wrap64 x = x := by
  unfold wrap64
  omega
theorem wf64 {x : Int} (h : (Lit.int .i64 x).wf = true) : -9223372036854775808 ≤ x ∧ x ≤ 9223372036854775807 := by
  simp [Lit.wf, IntKind.min, IntKind.max, IntKind.signed, IntKind.bits] at h
  omega
theorem wfu32 {x : Int} (h : (Lit.int .u32 x).wf = true) : 0 ≤ x ∧ x ≤ 4294967295 := by
  simp [Lit.wf, IntKind.min, IntKind.max, IntKind.signed, IntKind.bits] at h
  omega
theorem wfu8 {x : Int} (h : (Lit.int .u8 x).wf = true) : 0 ≤ x ∧ x ≤ 255 := by
  simp [Lit.wf, IntKind.min, IntKind.max, IntKind.signed, IntKind.bits] at h
  omega
theorem wsucc {n : Nat} (h : n ≤ 4611686018427387904) : wrap64 ((n : Int) + 1) = ((n + 1 : Nat) : Int) := by
  rw [w64 (by omega) (by omega)]
  rfl
theorem wadd {a b : Nat} (h : a + b ≤ 4611686018427387904) : wrap64 ((a : Int) + (b : Int)) = ((a + b : Nat) : Int) := by
  rw [w64 (by omega) (by omega)]
  rfl
theorem wnat {n : Nat} (h : n ≤ 4611686018427387904) : wrap64 (n : Int) = (n : Int) := w64 (by omega) (by omega)
theorem Ev.some_bind {α β : Type} {a : Option α} {x : α} (h : a = some x) {f : Nat → α → Option β} {r : β} (k : Ev (fun n => f n x) r) : Ev (fun n => a.bind (f n)) r := by
  subst h
  exact k
theorem Ev.pos {α : Type} {p : Prop} [Decidable p] (h : p) {f g : Nat → Option α} {r : α} (k : Ev f r) : Ev (fun n => if p then f n else g n) r :=
  Ev.congr (fun _ => if_pos h) k
theorem Ev.neg {α : Type} {p : Prop} [Decidable p] (h : ¬ p) {f g : Nat → Option α} {r : α} (k : Ev g r) : Ev (fun n => if p then f n else g n) r :=
  Ev.congr (fun _ => if_neg h) k
theorem tmod_nat {x : Int} (h0 : 0 ≤ x) (N : Nat) : ∃ c : Nat, Int.tmod x ((N + 1 : Nat) : Int) = (c : Int) ∧ c ≤ N := by
  obtain ⟨c, hc⟩ := Int.eq_ofNat_of_zero_le (Int.tmod_nonneg ((N + 1 : Nat) : Int) h0)
  have hlt := Int.tmod_lt_of_pos x (show (0 : Int) < ((N + 1 : Nat) : Int) by omega)
  rw [hc] at hlt
  exact ⟨c, hc, by omega⟩

theorem strOfNums_size (xs : List Int) : (strOfNums xs).size = xs.length := by simp [strOfNums, ByteArray.size]
theorem str_ext {a b : ByteArray} (h : a.data.toList = b.data.toList) : a = b := by
  apply ByteArray.ext
  exact Array.toList_inj.1 h
theorem str_app (a b : ByteArray) : (a ++ b).data.toList = a.data.toList ++ b.data.toList := by simp [ByteArray.data_append]
theorem str_cut (s : ByteArray) (a b : Nat) : (s.extract a b).data.toList = (s.data.toList.drop a).take (b - a) := by
  obtain ⟨⟨l⟩⟩ := s
  simp [ByteArray.data_extract, List.extract_eq_take_drop]
theorem str_len (s : ByteArray) : s.data.toList.length = s.size := rfl
theorem str_toList {a b : ByteArray} : a.toList = b.toList ↔ a = b := by
  rw [ByteArray.toList_eq, ByteArray.toList_eq]
  exact ⟨str_ext, fun h => by rw [h]⟩
theorem str_split (s : ByteArray) (n : Nat) (h : n ≤ s.size) : s.extract 0 n ++ s.extract n s.size = s := by
  apply str_ext
  rw [str_app, str_cut, str_cut, List.drop_zero, Nat.sub_zero, List.take_of_length_le (l := s.data.toList.drop n) (by simp [str_len]), List.take_append_drop]
theorem str_app_inj {a b c : ByteArray} (h : a ++ b = a ++ c) : b = c := by
  have := congrArg (fun s : ByteArray => s.data.toList) h
  simp only [str_app] at this
  exact str_ext (List.append_cancel_left this)
theorem cut_size (s : ByteArray) {n : Nat} (h : n ≤ s.size) : (s.extract 0 n).size = n := by
  rw [ByteArray.size_extract]
  omega

theorem impl_within_eq (a l h : Int) : impl_within.f a l h = some (decide (l ≤ a ∧ a ≤ h)) := by
  unfold impl_within.f
  by_cases h1 : l ≤ a
  · rw [if_pos h1]; simp [h1]
  · rw [if_neg h1]; simp [h1]

/-! ### lists of bytes as numbers -/
def ints (l : List UInt8) : List Int := l.map fun b => (b.toNat : Int)
theorem ints_length (l : List UInt8) : (ints l).length = l.length := by simp [ints]
theorem ints_app (l m : List UInt8) : ints (l ++ m) = ints l ++ ints m := by simp [ints]
theorem bytesOf_ints (s : ByteArray) : bytesOf s = ints s.data.toList := rfl
theorem str_ints (l : List UInt8) : strOfNums (ints l) = ⟨l.toArray⟩ := by
  unfold strOfNums ints
  congr 1
  rw [List.map_map]
  congr 1
  conv => rhs; rw [← List.map_id l]
  refine List.map_congr_left (fun b _ => ?_)
  simp
theorem set_mid {α : Type} (A : List α) (x v : α) (B : List α) : (A ++ x :: B).set A.length v = A ++ v :: B := by simp
theorem rd_mid (A : List Int) (x : Int) (B : List Int) : rd (A ++ x :: B) (A.length : Int) = x := by simp [rd]
theorem bt_mid (s : ByteArray) {A : List UInt8} {x : UInt8} {B : List UInt8} (h : s.data.toList = A ++ x :: B) : bt s (A.length : Int) = (x.toNat : Int) := by
  have hl : A.length < s.size := by
    have h1 : s.data.toList.length = s.size := rfl
    rw [h] at h1
    simp at h1
    omega
  unfold bt
  rw [dif_pos (by simpa using hl)]
  have e : s.data.toList[A.length]'(by simpa using hl) = x := by simp [h]
  show (((s.data[A.length]'hl).toNat : Nat) : Int) = _
  rw [← e]
  simp
theorem size_of_list (s : ByteArray) {l : List UInt8} (h : s.data.toList = l) : s.size = l.length := by
  have h1 : s.data.toList.length = s.size := rfl
  rw [h] at h1
  omega

/-! ### numbers in bytes -/
/-- The bytes of a number below 128 ^ (f + 1). -/
def varF : Nat → Nat → List Int
  | 0, n => [(n : Int)]
  | f + 1, n => if 127 < n then ((n % 128 + 128 : Nat) : Int) :: varF f (n / 128) else [(n : Int)]
theorem varF_length (f : Nat) : ∀ n, 1 ≤ (varF f n).length ∧ (varF f n).length ≤ f + 1 := by
  induction f with
  | zero => intro n; simp [varF]
  | succ f ih =>
    intro n
    unfold varF
    have := ih (n / 128)
    split
    · simp; omega
    · simp
/-- The text of a number. -/
def varS (n : Nat) : ByteArray := strOfNums (varF 4 n)
theorem varS_size (n : Nat) : 1 ≤ (varS n).size ∧ (varS n).size ≤ 5 := by
  unfold varS
  rw [strOfNums_size]
  exact varF_length 4 n
theorem var_byte {n : Nat} (h : 127 < n) (hn : n < 1000000000000) : (wrap64 ((Int.tmod (n : Int) 128) + 128)) % 256 = ((n % 128 + 128 : Nat) : Int) := by
  rw [Int.tmod_eq_emod_of_nonneg (by omega), w64 (by omega) (by omega)]
  omega
theorem var_next {n : Nat} (hn : n < 1000000000000) : wrap64 (Int.tdiv (n : Int) 128) = ((n / 128 : Nat) : Int) := by
  rw [Int.tdiv_eq_ediv_of_nonneg (by omega), w64 (by omega) (by omega)]
  rfl
def varTextV (n : Int) : ByteArray × Bool := if 0 ≤ n ∧ n ≤ 1000000000 then (varS n.toNat, true) else ((⟨#[]⟩ : ByteArray), false)
theorem varTextV_pos {n : Nat} (h : n ≤ 1000000000) : varTextV (n : Int) = (varS n, true) := by
  unfold varTextV
  rw [if_pos (by omega), Int.toNat_natCast]
theorem varTextV_neg {n : Nat} (h : ¬ n ≤ 1000000000) : varTextV (n : Int) = ((⟨#[]⟩ : ByteArray), false) := by
  unfold varTextV
  rw [if_neg (by omega)]
theorem varS_len (n : Nat) : (varS n).size = (varF 4 n).length := strOfNums_size _

theorem impl_VarText_l0 (f : Nat) : ∀ (n : Nat) (acc : List Int), n < 128 ^ (f + 1) → f ≤ 4 → acc.length + f < 1000 → Ev (fun k => impl_VarText.l0 k (n : Int) acc) (strOfNums (acc ++ varF f n), true) := by
  induction f with
  | zero =>
    intro n acc hn hf ha
    refine Ev.step (f := fun _ => some (strOfNums (acc ++ [(n : Int)]), true)) (fun k => ?_) (Ev.now _)
    simp only [impl_VarText.l0]
    rw [if_neg (by omega), if_pos (by omega), Int.emod_eq_of_lt (by omega) (by omega)]
  | succ f ih =>
    intro n acc hn hf ha
    have h5 : 128 ^ (f + 1 + 1) ≤ 128 ^ 5 := Nat.pow_le_pow_right (by omega) (by omega)
    have hp : 128 ^ (f + 1 + 1) = 128 * 128 ^ (f + 1) := by rw [Nat.pow_succ]; omega
    unfold varF
    by_cases h : 127 < n
    · rw [if_pos h]
      refine Ev.step (f := fun k => impl_VarText.l0 k ((n / 128 : Nat) : Int) (acc ++ [((n % 128 + 128 : Nat) : Int)])) (fun k => ?_) ?_
      · simp only [impl_VarText.l0]
        rw [if_pos (by omega), if_pos (by omega), var_byte h (by omega), var_next (by omega)]
      · have := ih (n / 128) (acc ++ [((n % 128 + 128 : Nat) : Int)]) (by omega) (by omega) (by simp; omega)
        rw [List.append_assoc, List.singleton_append] at this
        exact this
    · rw [if_neg h]
      refine Ev.step (f := fun _ => some (strOfNums (acc ++ [(n : Int)]), true)) (fun k => ?_) (Ev.now _)
      simp only [impl_VarText.l0]
      rw [if_neg (by omega), if_pos (by omega), Int.emod_eq_of_lt (by omega) (by omega)]
theorem impl_VarText_ev (n : Int) : Ev (fun k => impl_VarText.f k n) (varTextV n) := by
  unfold varTextV impl_VarText.f
  simp only [impl_within_eq, Option.bind_some, decide_eq_true_eq]
  by_cases h : 0 ≤ n ∧ n ≤ 1000000000
  · simp only [if_pos h]
    obtain ⟨m, rfl⟩ := Int.eq_ofNat_of_zero_le h.1
    exact impl_VarText_l0 4 m [] (by omega) (by omega) (by simp)
  · simp only [if_neg h]
    exact Ev.now _

/-! ### a number read out of bytes -/
theorem rv_bt (s : ByteArray) {i : Nat} (h : i < s.size) : bt s (i : Int) = ((s.data.toList[i]'h).toNat : Int) := by
  unfold bt
  rw [dif_pos (by simpa using h)]
  rfl
theorem rv_drop (s : ByteArray) {i : Nat} (h : i < s.size) : s.data.toList.drop i = (s.data.toList[i]'h) :: s.data.toList.drop (i + 1) := List.drop_eq_getElem_cons h
/-- At most f bytes from here on: the number, and how many bytes it took. -/
def scan : Nat → List UInt8 → Nat → Nat → Nat → Option (Nat × Nat)
  | 0, _, _, _, _ => none
  | _ + 1, [], _, _, _ => none
  | f + 1, c :: cs, n, sc, m => if c.toNat < 128 then some (n + c.toNat % 128 * sc, m + 1) else scan f cs (n + c.toNat % 128 * sc) (sc * 128) (m + 1)
def outV (p : Nat) : Option (Nat × Nat) → Int × Int × Bool
  | none => (0, 0, false)
  | some (n, m) => if n ≤ 1000000000 ∧ (varF 4 n).length = m then ((n : Int), ((p + m : Nat) : Int), true) else (0, 0, false)
def readVarV (s : ByteArray) (p : Int) : Int × Int × Bool := if 0 ≤ p ∧ p ≤ (s.size : Int) then outV p.toNat (scan 5 (s.data.toList.drop p.toNat) 0 1 0) else (0, 0, false)
def dec : List UInt8 → Nat
  | [] => 0
  | c :: cs => c.toNat % 128 + 128 * dec cs
theorem dec_snoc (ds : List UInt8) (c : UInt8) : dec (ds ++ [c]) = dec ds + c.toNat % 128 * 128 ^ ds.length := by
  induction ds with
  | nil => simp [dec]
  | cons d ds ih =>
    simp only [List.cons_append, dec, ih, List.length_cons, Nat.pow_succ, Nat.mul_add]
    rw [← Nat.add_assoc, Nat.mul_left_comm, Nat.mul_comm 128 (128 ^ ds.length)]
theorem dec_lt (ds : List UInt8) : dec ds < 128 ^ ds.length := by
  induction ds with
  | nil => simp [dec]
  | cons d ds ih =>
    simp only [dec, List.length_cons, Nat.pow_succ]
    omega
def numsU (l : List UInt8) : List Int := l.map fun b => (b.toNat : Int)
theorem varF_dec (c : UInt8) (hc : c.toNat < 128) (ds : List UInt8) : ∀ f, (∀ b ∈ ds, 128 ≤ b.toNat) → ds.length ≤ f → (varF f (dec (ds ++ [c]))).length = ds.length + 1 → varF f (dec (ds ++ [c])) = numsU (ds ++ [c]) := by
  induction ds with
  | nil =>
    intro f _ _ _
    have e : dec ([] ++ [c]) = c.toNat := by simp [dec]; omega
    rw [e]
    cases f with
    | zero => rfl
    | succ f => unfold varF; rw [if_neg (by omega)]; rfl
  | cons d ds ih =>
    intro f hb hf hl
    obtain ⟨f, rfl⟩ : ∃ g, f = g + 1 := ⟨f - 1, by simp at hf; omega⟩
    have hd : 128 ≤ d.toNat := hb d (by simp)
    have hd2 := d.toNat_lt
    simp only [List.cons_append, dec] at hl ⊢
    unfold varF at hl ⊢
    have hN : (d.toNat % 128 + 128 * dec (ds ++ [c])) % 128 = d.toNat % 128 := by omega
    have hD : (d.toNat % 128 + 128 * dec (ds ++ [c])) / 128 = dec (ds ++ [c]) := by omega
    by_cases h : 127 < d.toNat % 128 + 128 * dec (ds ++ [c])
    · rw [if_pos h, hN, hD] at hl ⊢
      rw [ih f (fun b hb' => hb b (by simp [hb'])) (by simpa using hf) (by simpa using hl)]
      show ((d.toNat % 128 + 128 : Nat) : Int) :: _ = ((d.toNat : Nat) : Int) :: _
      rw [show d.toNat % 128 + 128 = d.toNat by omega]
      rfl
    · rw [if_neg h] at hl
      simp at hl
theorem strOfNums_numsU (l : List UInt8) : (strOfNums (numsU l)).data.toList = l := by
  simp only [strOfNums, numsU, List.map_map]
  induction l with
  | nil => rfl
  | cons b l ih =>
    simp
    exact ih
theorem rv_text (s : ByteArray) {p m : Nat} (h : p + m ≤ s.size) (l : List UInt8) (hl : (s.data.toList.drop p).take m = l) (n : Nat) (hv : varF 4 n = numsU l) : varS n = s.extract p (p + m) := by
  apply str_ext
  unfold varS
  rw [hv, strOfNums_numsU, str_cut, Nat.add_sub_cancel_left, hl]
/-- One figure's share. -/
theorem rv_share {c i n : Nat} (hi : i ≤ 4) (hn : n < 128 ^ i) : n + c % 128 * 128 ^ i < 128 ^ (i + 1) ∧ n + c % 128 * 128 ^ i < 128 ^ 5 ∧ c % 128 * 128 ^ i < 128 ^ 5 ∧ 128 ^ i ≤ 128 ^ 4 := by
  have h1 : c % 128 ≤ 127 := by omega
  have h2 : c % 128 * 128 ^ i ≤ 127 * 128 ^ i := Nat.mul_le_mul_right _ h1
  have h3 : 128 ^ (i + 1) = 128 ^ i * 128 := Nat.pow_succ _ _
  have h4 : 128 ^ (i + 1) ≤ 128 ^ 5 := Nat.pow_le_pow_right (by omega) (by omega)
  have h5 : 128 ^ i ≤ 128 ^ 4 := Nat.pow_le_pow_right (by omega) (by omega)
  generalize c % 128 * 128 ^ i = q at h2 ⊢
  generalize 128 ^ i = e at h2 h3 h5 hn ⊢
  rw [h3] at h4 ⊢
  omega
theorem rv_w7 {i : Nat} (hi : i ≤ 4) : wrap64 (7 * (i : Int)) = ((7 * i : Nat) : Int) := by
  rw [w64 (by omega) (by omega)]
  rfl
theorem rv_nn (n : Nat) : 0 ≤ (n : Int) := Int.natCast_nonneg n
theorem rv_shl {c i : Nat} (hi : i ≤ 4) (hc : c < 256) : shl .i64 (Int.tmod (wrap64 (c : Int)) 128) (wrap64 (7 * (i : Int))) = ((c % 128 * 128 ^ i : Nat) : Int) := by
  have h7 : wrap64 (7 * (i : Int)) = ((7 * i : Nat) : Int) := by rw [w64 (by omega) (by omega)]; rfl
  have hm : min (7 * i) 64 = 7 * i := by omega
  have hq := (rv_share (c := c) (n := 0) hi (Nat.pow_pos (by omega))).2.2.1
  unfold shl
  rw [h7, Int.toNat_natCast, show IntKind.i64.bits = 64 from rfl, hm, wnat (by omega), Int.tmod_eq_emod_of_nonneg (by omega), IntKind.wrap_i64]
  have e2 : (2 : Int) ^ (7 * i) = ((128 ^ i : Nat) : Int) := by rw [Int.natCast_pow, Int.pow_mul]; rfl
  have e3 : (c : Int) % 128 * ((128 ^ i : Nat) : Int) = ((c % 128 * 128 ^ i : Nat) : Int) := by rw [Int.natCast_mul]; rfl
  rw [e2, e3]
  generalize c % 128 * 128 ^ i = q at hq ⊢
  omega
theorem rv_mul {c i : Nat} (hi : i ≤ 4) (hc : c < 256) : wrap64 ((Int.tmod (wrap64 (c : Int)) 128) * ((128 ^ i : Nat) : Int)) = ((c % 128 * 128 ^ i : Nat) : Int) := by
  have hq := (rv_share (c := c) (n := 0) hi (Nat.pow_pos (by omega))).2.2.1
  have e3 : (c : Int) % 128 * ((128 ^ i : Nat) : Int) = ((c % 128 * 128 ^ i : Nat) : Int) := by rw [Int.natCast_mul]; rfl
  rw [wnat (by omega), Int.tmod_eq_emod_of_nonneg (by omega), e3]
  exact wnat (by omega)
theorem rv_scale {i : Nat} (hi : i ≤ 4) : wrap64 (((128 ^ i : Nat) : Int) * 128) = ((128 ^ i * 128 : Nat) : Int) := by
  have h5 : 128 ^ i ≤ 128 ^ 4 := Nat.pow_le_pow_right (by omega) (by omega)
  generalize 128 ^ i = e at h5 ⊢
  rw [w64 (by omega) (by omega)]
  rfl

theorem impl_ReadVar_stop (s : ByteArray) (p n i : Int) : Ev (fun k => impl_ReadVar.j1 k s p n i false) (0, 0, false) :=
  Ev.step (f := fun _ => some (0, 0, false)) (fun k => by simp only [impl_ReadVar.j1, Bool.false_eq_true, if_false]) (Ev.now _)
theorem impl_ReadVar_last (s : ByteArray) (hs : s.size ≤ 140737488351232) (p i n : Nat) (hlt : p + i < s.size) (hi : i ≤ 4) (hn : n < 128 ^ i) (hc : (s.data.toList[p + i]'hlt).toNat < 128) :
    Ev (fun k => impl_ReadVar.j1 k s (p : Int) (n : Int) (i : Int) true) (outV p (some (n + (s.data.toList[p + i]'hlt).toNat % 128 * 128 ^ i, i + 1))) := by
  have h7 : 0 ≤ wrap64 (7 * (i : Int)) := by rw [rv_w7 hi]; exact rv_nn _
  have hw := wadd (a := p) (b := i) (by omega)
  have hw1 := wsucc (n := i) (by omega)
  have hw2 := wsucc (n := p + i) (by omega)
  have g1 : 0 ≤ ((p + i : Nat) : Int) := rv_nn _
  have g2 : ((p + i : Nat) : Int) < (s.size : Int) := by omega
  have hb := (s.data.toList[p + i]'hlt).toNat_lt
  have g3 : ((s.data.toList[p + i]'hlt).toNat : Int) < 128 := by omega
  have hwc := wnat (n := (s.data.toList[p + i]'hlt).toNat) (by omega)
  have hN := (rv_share (c := (s.data.toList[p + i]'hlt).toNat) hi hn).2.1
  have hnn := wadd (a := n) (b := (s.data.toList[p + i]'hlt).toNat % 128 * 128 ^ i) (Nat.le_trans (Nat.le_of_lt hN) (by decide))
  have hbt := rv_bt s hlt
  have hsh := rv_shl hi hb
  generalize (s.data.toList[p + i]'hlt).toNat = c at hb hN hnn hbt hsh hc hwc g3 ⊢
  generalize hq : c % 128 * 128 ^ i = q at hN hnn hsh ⊢
  generalize hNN : n + q = N at hN hnn ⊢
  refine Ev.step (f := fun k => (impl_VarText.f k (N : Int)).bind fun b => if b.2 = true then (if (b.1.size : Int) = ((i + 1 : Nat) : Int) then some ((N : Int), ((p + i + 1 : Nat) : Int), true) else some (0, 0, false)) else some (0, 0, false)) (fun k => ?_) ?_
  · simp only [impl_ReadVar.j1, if_true]
    rw [hw, if_pos g1, if_pos g2, if_pos h7, hbt, hsh, hnn, hwc, if_pos g3, hw1, hw2]
  · refine Ev.bind (impl_VarText_ev (N : Int)) ?_
    by_cases hM : N ≤ 1000000000
    · rw [varTextV_pos hM]
      simp only [if_true, varS_len N, outV]
      by_cases hL : (varF 4 N).length = i + 1
      · simp only [if_pos (And.intro hM hL), if_pos (show ((varF 4 N).length : Int) = ((i + 1 : Nat) : Int) from congrArg Nat.cast hL)]
        exact Ev.now _
      · simp only [if_neg (show ¬ (N ≤ 1000000000 ∧ (varF 4 N).length = i + 1) from fun h => hL h.2), if_neg (show ¬ ((varF 4 N).length : Int) = ((i + 1 : Nat) : Int) from fun h => hL (Int.ofNat.inj h))]
        exact Ev.now _
    · rw [varTextV_neg hM]
      simp only [Bool.false_eq_true, if_false, outV, if_neg (show ¬ (N ≤ 1000000000 ∧ (varF 4 N).length = i + 1) from fun h => hM h.1)]
      exact Ev.now _
theorem impl_ReadVar_more (s : ByteArray) (hs : s.size ≤ 140737488351232) (p i n : Nat) (hlt : p + i < s.size) (hi : i ≤ 4) (hn : n < 128 ^ i) (hc : ¬ (s.data.toList[p + i]'hlt).toNat < 128) (k : Nat) :
    impl_ReadVar.j1 (k + 1) s (p : Int) (n : Int) (i : Int) true = impl_ReadVar.l0 k s (p : Int) ((n + (s.data.toList[p + i]'hlt).toNat % 128 * 128 ^ i : Nat) : Int) ((i + 1 : Nat) : Int) := by
  have h7 : 0 ≤ wrap64 (7 * (i : Int)) := by rw [rv_w7 hi]; exact rv_nn _
  have hw := wadd (a := p) (b := i) (by omega)
  have hw1 := wsucc (n := i) (by omega)
  have g1 : 0 ≤ ((p + i : Nat) : Int) := rv_nn _
  have g2 : ((p + i : Nat) : Int) < (s.size : Int) := by omega
  have hb := (s.data.toList[p + i]'hlt).toNat_lt
  have g3 : ¬ ((s.data.toList[p + i]'hlt).toNat : Int) < 128 := by omega
  have hwc := wnat (n := (s.data.toList[p + i]'hlt).toNat) (by omega)
  have hN := (rv_share (c := (s.data.toList[p + i]'hlt).toNat) hi hn).2.1
  have hnn := wadd (a := n) (b := (s.data.toList[p + i]'hlt).toNat % 128 * 128 ^ i) (Nat.le_trans (Nat.le_of_lt hN) (by decide))
  have hbt := rv_bt s hlt
  have hsh := rv_shl hi hb
  simp only [impl_ReadVar.j1, if_true]
  rw [hw, if_pos g1, if_pos g2, if_pos h7, hbt, hsh, hnn, hwc, if_neg g3, hw1]
theorem impl_ReadVar_l0 (s : ByteArray) (hs : s.size ≤ 140737488351232) (p : Nat) (hp : p ≤ s.size) (f : Nat) : ∀ (i n : Nat), i + f = 5 → n < 128 ^ i →
    Ev (fun k => impl_ReadVar.l0 k s (p : Int) (n : Int) (i : Int)) (outV p (scan f (s.data.toList.drop (p + i)) n (128 ^ i) i)) := by
  induction f with
  | zero =>
    intro i n hi hn
    refine Ev.step (f := fun k => impl_ReadVar.j1 k s (p : Int) (n : Int) (i : Int) false) (fun k => ?_) (impl_ReadVar_stop _ _ _ _)
    simp only [impl_ReadVar.l0]
    rw [if_neg (by omega)]
  | succ f ih =>
    intro i n hi hn
    have hw := wadd (a := p) (b := i) (by omega)
    by_cases hlt : p + i < s.size
    · refine Ev.step (f := fun k => impl_ReadVar.j1 k s (p : Int) (n : Int) (i : Int) true) (fun k => ?_) ?_
      · simp only [impl_ReadVar.l0]
        rw [if_pos (by omega), hw, decide_eq_true (show ((p + i : Nat) : Int) < (s.size : Int) by omega)]
      · rw [rv_drop s hlt]
        unfold scan
        by_cases hc : (s.data.toList[p + i]'hlt).toNat < 128
        · rw [if_pos hc]
          exact impl_ReadVar_last s hs p i n hlt (by omega) hn hc
        · rw [if_neg hc]
          have := ih (i + 1) (n + (s.data.toList[p + i]'hlt).toNat % 128 * 128 ^ i) (by omega) (rv_share (by omega) hn).1
          rw [Nat.pow_succ, show p + (i + 1) = p + i + 1 by omega] at this
          exact Ev.step (fun k => impl_ReadVar_more s hs p i n hlt (by omega) hn hc k) this
    · have hz : s.data.toList.drop (p + i) = [] := List.drop_eq_nil_of_le (by rw [str_len]; omega)
      rw [hz]
      refine Ev.step (f := fun k => impl_ReadVar.j1 k s (p : Int) (n : Int) (i : Int) false) (fun k => ?_) (impl_ReadVar_stop _ _ _ _)
      simp only [impl_ReadVar.l0]
      rw [if_pos (by omega), hw, decide_eq_false (show ¬ ((p + i : Nat) : Int) < (s.size : Int) by omega)]
theorem impl_ReadVar_ev (s : ByteArray) (hs : s.size ≤ 140737488351232) (p : Int) : Ev (fun k => impl_ReadVar.f k s p) (readVarV s p) := by
  unfold impl_ReadVar.f
  simp only [impl_within_eq, Option.bind_some, decide_eq_true_eq]
  by_cases h : 0 ≤ p ∧ p ≤ (s.size : Int)
  · simp only [if_pos h, readVarV]
    obtain ⟨q, rfl⟩ := Int.eq_ofNat_of_zero_le h.1
    have := impl_ReadVar_l0 s hs q (by omega) 5 0 0 (by omega) (by omega)
    rw [Nat.pow_zero, Nat.add_zero] at this
    exact this
  · simp only [if_neg h, readVarV]
    exact Ev.now _

/-! ### numbers in bytes, read back -/
def bs (f n : Nat) : List UInt8 := (varF f n).map fun x => UInt8.ofNat x.toNat
theorem bs_length (f n : Nat) : (bs f n).length = (varF f n).length := by simp [bs]
theorem varS_list (n : Nat) : (varS n).data.toList = bs 4 n := by simp [varS, strOfNums, bs]
theorem u8_nat {x : Nat} (h : x < 256) : (UInt8.ofNat x).toNat = x := by
  rw [UInt8.toNat_ofNat']
  omega
theorem bs_more {f n : Nat} (h : 127 < n) : bs (f + 1) n = UInt8.ofNat (n % 128 + 128) :: bs f (n / 128) := by
  unfold bs
  rw [varF, if_pos h]
  rfl
theorem bs_one {f n : Nat} (h : ¬ 127 < n) : bs f n = [UInt8.ofNat n] := by
  unfold bs
  cases f with
  | zero => rfl
  | succ f => rw [varF, if_neg h]; rfl
theorem scan_one {f n : Nat} (h : n < 128) (rest : List UInt8) (acc sc m : Nat) : scan (f + 1) (UInt8.ofNat n :: rest) acc sc m = some (acc + n * sc, m + 1) := by
  unfold scan
  rw [u8_nat (by omega), if_pos h, Nat.mod_eq_of_lt h]
theorem scan_var (f : Nat) : ∀ (n : Nat) (rest : List UInt8) (acc sc m : Nat), n < 128 ^ (f + 1) → scan (f + 1) (bs f n ++ rest) acc sc m = some (acc + n * sc, m + (varF f n).length) := by
  induction f with
  | zero =>
    intro n rest acc sc m hn
    rw [bs_one (by omega)]
    exact scan_one (by omega) rest acc sc m
  | succ f ih =>
    intro n rest acc sc m hn
    have hp : 128 ^ (f + 1 + 1) = 128 * 128 ^ (f + 1) := by rw [Nat.pow_succ]; omega
    by_cases h : 127 < n
    · have e : (varF (f + 1) n).length = (varF f (n / 128)).length + 1 := by rw [varF, if_pos h]; rfl
      rw [bs_more h, List.cons_append]
      unfold scan
      rw [u8_nat (by omega), if_neg (by omega), ih _ _ _ _ _ (by omega), e]
      congr 2
      · have h1 : (n % 128 + 128) % 128 = n % 128 := by omega
        rw [h1, Nat.add_assoc]
        congr 1
        have h2 : n / 128 * (sc * 128) = 128 * (n / 128) * sc := by rw [Nat.mul_comm sc 128, ← Nat.mul_assoc, Nat.mul_comm (n / 128) 128]
        rw [h2, ← Nat.add_mul]
        congr 1
        omega
      · omega
    · have e : (varF (f + 1) n).length = 1 := by rw [varF, if_neg h]; rfl
      rw [bs_one h, e]
      exact scan_one (by omega) rest acc sc m
theorem readVar_at {s : ByteArray} {p n : Nat} {rest : List UInt8} (h : s.data.toList.drop p = bs 4 n ++ rest) (hn : n ≤ 1000000000) : readVarV s (p : Int) = ((n : Int), ((p + (varF 4 n).length : Nat) : Int), true) := by
  have hp : p ≤ s.size := by
    have h1 := congrArg List.length h
    have := (varF_length 4 n).1
    rw [List.length_drop, str_len, List.length_append, bs_length] at h1
    omega
  have h5 : n < 128 ^ (4 + 1) := by omega
  unfold readVarV
  rw [if_pos (by omega), Int.toNat_natCast, h, scan_var 4 n rest 0 1 0 h5]
  unfold outV
  simp only [Nat.zero_add, Nat.mul_one]
  rw [if_pos (And.intro hn True.intro)]

theorem scan_le (f : Nat) : ∀ (l : List UInt8) (n sc m : Nat) (r : Nat × Nat), scan f l n sc m = some r → m < r.2 ∧ r.2 ≤ m + l.length := by
  induction f with
  | zero => intro l n sc m r h; simp [scan] at h
  | succ f ih =>
    intro l n sc m r h
    cases l with
    | nil => simp [scan] at h
    | cons c cs =>
      unfold scan at h
      split at h
      · injection h with h
        rw [← h]
        simp
      · have := ih _ _ _ _ _ h
        simp
        omega
/-- What ReadVar answers: no, or a number and the place behind it. -/
theorem readVar_cases (s : ByteArray) (p : Int) : readVarV s p = (0, 0, false) ∨ ∃ n q : Nat, readVarV s p = ((n : Int), (q : Int), true) ∧ n ≤ 1000000000 ∧ p < (q : Int) ∧ q ≤ s.size ∧ 0 ≤ p := by
  unfold readVarV
  by_cases h : 0 ≤ p ∧ p ≤ (s.size : Int)
  · rw [if_pos h]
    cases e : scan 5 (s.data.toList.drop p.toNat) 0 1 0 with
    | none => exact .inl rfl
    | some r =>
      obtain ⟨n, m⟩ := r
      have hle := scan_le _ _ _ _ _ _ e
      rw [List.length_drop, str_len] at hle
      unfold outV
      simp only
      split
      · rename_i h2
        refine .inr ⟨n, p.toNat + m, rfl, h2.1, ?_, ?_, h.1⟩
        · simp at hle; omega
        · simp at hle; omega
      · exact .inl rfl
  · rw [if_neg h]
    exact .inl rfl
def readShortV (s : ByteArray) (p : Int) : ByteArray × Int × Bool :=
  let r := readVarV s p
  if r.2.2 = true ∧ r.1 ≤ 20000 ∧ r.1 ≤ (s.size : Int) - r.2.1 then (s.extract r.2.1.toNat (r.2.1 + r.1).toNat, r.2.1 + r.1, true) else ((⟨#[]⟩ : ByteArray), 0, false)

def shortV (s : ByteArray) : ByteArray × Bool := if (s.size : Int) > 20000 then ((⟨#[]⟩ : ByteArray), false) else (varS s.size ++ s, true)

theorem impl_ShortText_ev (s : ByteArray) : Ev (fun k => impl_ShortText.f k s) (shortV s) := by
  unfold shortV impl_ShortText.f
  by_cases h : (s.size : Int) > 20000
  · simp only [if_pos h]
    exact Ev.now _
  · simp only [if_neg h]
    refine Ev.bind (impl_VarText_ev (s.size : Int)) ?_
    have := varS_size s.size
    have e : varTextV (s.size : Int) = (varS s.size, true) := by unfold varTextV; rw [if_pos (by omega)]; rfl
    simp only [e, if_pos (show (varS s.size).size + s.size ≤ 9223372036854775807 by omega)]
    exact Ev.now _

theorem impl_ReadShort_ev (s : ByteArray) (hs : s.size ≤ 140737488351232) (p : Int) : Ev (fun k => impl_ReadShort.f k s p) (readShortV s p) := by
  unfold impl_ReadShort.f readShortV
  refine Ev.bind (impl_ReadVar_ev s hs p) ?_
  rcases readVar_cases s p with h | ⟨n, q, h, hn, hq, hqs, hp⟩
  · simp only [h, Bool.false_eq_true, if_false, false_and]
    exact Ev.now _
  · simp only [h, if_true, true_and]
    rw [w64 (x := (s.size : Int) - (q : Int)) (by omega) (by omega), wadd (a := q) (b := n) (by omega)]
    by_cases h1 : (n : Int) ≤ 20000
    · by_cases h2 : (n : Int) ≤ (s.size : Int) - (q : Int)
      · simp only [if_neg (show ¬ (n : Int) > 20000 by omega), if_neg (show ¬ (n : Int) > (s.size : Int) - (q : Int) by omega), if_pos (show 0 ≤ (q : Int) by omega), if_pos (show (q : Int) ≤ ((q + n : Nat) : Int) by omega), if_pos (show ((q + n : Nat) : Int) ≤ (s.size : Int) by omega), if_pos (And.intro h1 h2)]
        exact Ev.now _
      · simp only [if_neg (show ¬ (n : Int) > 20000 by omega), if_pos (show (n : Int) > (s.size : Int) - (q : Int) by omega), if_neg (show ¬ ((n : Int) ≤ 20000 ∧ (n : Int) ≤ (s.size : Int) - (q : Int)) by omega)]
        exact Ev.now _
    · simp only [if_pos (show (n : Int) > 20000 by omega), if_neg (show ¬ ((n : Int) ≤ 20000 ∧ (n : Int) ≤ (s.size : Int) - (q : Int)) by omega)]
      exact Ev.now _

/-! ### figures -/
def fig (d : Nat) : Int := if d < 10 then ((48 + d : Nat) : Int) else ((87 + d : Nat) : Int)
def figs (b : UInt8) : List Int := [fig (b.toNat / 16), fig (b.toNat % 16)]
def hexL (l : List UInt8) : List Int := l.flatMap figs
def hexV (s : ByteArray) : ByteArray × Bool := if (s.size : Int) > 20000 then ((⟨#[]⟩ : ByteArray), false) else (strOfNums (hexL s.data.toList), true)
theorem hexL_length (l : List UInt8) : (hexL l).length = 2 * l.length := by
  induction l with
  | nil => rfl
  | cons b l ih => simp only [hexL, List.flatMap_cons, List.length_append] at ih ⊢; rw [ih]; simp [figs]; omega
theorem hexL_snoc (l : List UInt8) (b : UInt8) : hexL (l ++ [b]) = hexL l ++ figs b := by simp [hexL, List.flatMap_append]
theorem bt_nat (s : ByteArray) {i : Nat} (h : i < s.size) : bt s (i : Int) = ((s.data.toList[i]'h).toNat : Int) := by
  unfold bt
  rw [dif_pos (by simpa using h)]
  rfl
theorem take_snoc (s : ByteArray) {i : Nat} (h : i < s.size) : s.data.toList.take (i + 1) = s.data.toList.take i ++ [s.data.toList[i]'h] := by
  rw [List.take_succ_eq_append_getElem h]

theorem fig_bt {d : Nat} (h : d < 16) : bt (⟨#[48, 49, 50, 51, 52, 53, 54, 55, 56, 57, 97, 98, 99, 100, 101, 102]⟩ : ByteArray) (d : Int) = fig d := by
  have : ∀ d : Fin 16, bt (⟨#[48, 49, 50, 51, 52, 53, 54, 55, 56, 57, 97, 98, 99, 100, 101, 102]⟩ : ByteArray) (d.val : Int) = fig d.val := by decide +kernel
  exact this ⟨d, h⟩
theorem impl_Hex_l0 (s : ByteArray) (hs : s.size ≤ 20000) (d : Nat) : ∀ i, i ≤ s.size → s.size - i = d → Ev (fun k => impl_Hex.l0 k s (hexL (s.data.toList.take i)) (i : Int)) (strOfNums (hexL s.data.toList), true) := by
  induction d with
  | zero =>
    intro i hi hd
    refine Ev.step (f := fun _ => some (strOfNums (hexL s.data.toList), true)) (fun k => ?_) (Ev.now _)
    simp only [impl_Hex.l0]
    rw [if_neg (by omega), List.take_of_length_le (by rw [str_len]; omega)]
  | succ d ih =>
    intro i hi hd
    have hlt : i < s.size := by omega
    have hb := (s.data.toList[i]'hlt).toNat_lt
    refine Ev.step (f := fun k => impl_Hex.l0 k s (hexL (s.data.toList.take (i + 1))) ((i + 1 : Nat) : Int)) (fun k => ?_) (ih _ (by omega) (by omega))
    have e1 := fig_bt (d := (s.data.toList[i]'hlt).toNat / 16) (by omega)
    have e2 := fig_bt (d := (s.data.toList[i]'hlt).toNat % 16) (by omega)
    have d1 : Int.tdiv ((s.data.toList[i]'hlt).toNat : Int) 16 % 256 = (((s.data.toList[i]'hlt).toNat / 16 : Nat) : Int) := by
      rw [Int.tdiv_eq_ediv_of_nonneg (by omega)]
      omega
    have d2 : Int.tmod ((s.data.toList[i]'hlt).toNat : Int) 16 = (((s.data.toList[i]'hlt).toNat % 16 : Nat) : Int) := by
      rw [Int.tmod_eq_emod_of_nonneg (by omega)]
      rfl
    have hl := hexL_length (s.data.toList.take i)
    rw [List.length_take] at hl
    simp only [impl_Hex.l0]
    rw [if_pos (by omega), if_pos (by omega), bt_nat s hlt, d1, d2, e1, e2, if_pos (by omega), if_pos (by omega), if_pos (by omega), if_pos (by omega)]
    simp only [Option.bind_some]
    rw [if_pos (by simp; omega), w64 (by omega) (by omega), take_snoc s hlt, hexL_snoc]
    rfl
theorem impl_Hex_ev (s : ByteArray) : Ev (fun k => impl_Hex.f k s) (hexV s) := by
  unfold hexV impl_Hex.f
  by_cases h : (s.size : Int) > 20000
  · simp only [if_pos h]
    exact Ev.now _
  · simp only [if_neg h]
    have := impl_Hex_l0 s (by omega) s.size 0 (by omega) (by omega)
    exact this

/-! ### hex figures read -/
def hv (b : UInt8) : Int := if 48 ≤ b.toNat ∧ b.toNat ≤ 57 then (b.toNat : Int) - 48 else if 97 ≤ b.toNat ∧ b.toNat ≤ 102 then (b.toNat : Int) - 87 else -1
theorem hv_range (b : UInt8) : -1 ≤ hv b ∧ hv b ≤ 15 := by
  unfold hv
  split
  · omega
  · split <;> omega
def uhL : List UInt8 → List Int → ByteArray × Bool
  | x :: y :: rest, out => if hv x < 0 ∨ hv y < 0 then (⟨#[]⟩, false) else uhL rest (out ++ [(16 * hv x + hv y) % 256])
  | _, out => (strOfNums out, true)
def uhR (s : ByteArray) : ByteArray × Bool := if s.size ≤ 40000 ∧ s.size % 2 = 0 then uhL s.data.toList [] else (⟨#[]⟩, false)
theorem size_list (s : ByteArray) : s.size = s.data.toList.length := rfl

theorem index_hv (b : UInt8) : Lib.indexByte [48, 49, 50, 51, 52, 53, 54, 55, 56, 57, 97, 98, 99, 100, 101, 102] b = hv b := by
  have key : ∀ n : Fin 256, Lib.indexByte [48, 49, 50, 51, 52, 53, 54, 55, 56, 57, 97, 98, 99, 100, 101, 102] (UInt8.ofNat n.val) = hv (UInt8.ofNat n.val) := by decide +kernel
  have h := key ⟨b.toNat, UInt8.toNat_lt b⟩
  rwa [UInt8.ofNat_toNat] at h
theorem impl_index (b : UInt8) : strings_IndexByte.f (⟨#[48, 49, 50, 51, 52, 53, 54, 55, 56, 57, 97, 98, 99, 100, 101, 102]⟩ : ByteArray) (b.toNat : Int) = some (hv b) := by
  unfold strings_IndexByte.f stringslite_IndexByte.f
  rw [Option.bind_some, Int.toNat_natCast]
  have e : b.toNat.toUInt8 = b := UInt8.ofNat_toNat
  rw [e]
  exact congrArg some (index_hv b)
theorem impl_Unhex_ev (s : ByteArray) (hs : s.size ≤ 4611686018427387904) : Ev (fun k => impl_Unhex.f k s) (uhR s) := by
  have bad : Ev (fun k => impl_Unhex.j0 k s true) ((⟨#[]⟩ : ByteArray), false) := Ev.step (f := fun _ => some (⟨#[]⟩, false)) (fun k => by simp only [impl_Unhex.j0, if_true]) (Ev.now _)
  unfold impl_Unhex.f uhR
  by_cases h2 : s.size % 2 = 0
  · refine Ev.neg (by omega) ?_
    by_cases h1 : (s.size : Int) > 40000
    · rw [if_neg (by omega), decide_eq_true h1]
      exact bad
    · rw [if_pos ⟨by omega, h2⟩, decide_eq_false h1]
      have key : ∀ (n : Nat) (L A : List UInt8) (out : List Int) (half : Int), L.length = 2 * n → A.length % 2 = 0 → s.data.toList = A ++ L → out.length ≤ A.length → Ev (fun k => impl_Unhex.l0 k s out half (A.length : Int)) (uhL L out) := by
        intro n
        induction n with
        | zero =>
          intro L A out half hn he hL ho
          obtain rfl : L = [] := List.length_eq_zero_iff.mp (by omega)
          have e : s.size = A.length := by rw [size_list, hL]; simp
          refine Ev.step (f := fun _ => some (strOfNums out, true)) (fun k => ?_) (Ev.now _)
          simp only [impl_Unhex.l0]
          rw [if_neg (by omega)]
        | succ n ih =>
          intro L A out half hn he hL ho
          match L, hn with
          | x :: y :: rest, hn =>
            simp only [List.length_cons] at hn
            have e : s.size = A.length + (rest.length + 2) := by rw [size_list, hL]; simp
            have b1 := bt_mid s hL
            have b2 := bt_mid s (A := A ++ [x]) (x := y) (B := rest) (by simp [hL])
            rw [List.length_append, List.length_singleton] at b2
            obtain ⟨x0, x1⟩ := hv_range x
            obtain ⟨y0, y1⟩ := hv_range y
            have t1 : Int.tmod (A.length : Int) 2 = ((A.length % 2 : Nat) : Int) := rfl
            have t2 : Int.tmod ((A.length + 1 : Nat) : Int) 2 = (((A.length + 1) % 2 : Nat) : Int) := rfl
            by_cases hx : hv x < 0
            · rw [uhL, if_pos (Or.inl hx)]
              refine Ev.step (f := fun _ => some (⟨#[]⟩, false)) (fun k => ?_) (Ev.now _)
              simp only [impl_Unhex.l0]
              rw [if_pos (by omega), if_pos (by omega), b1, impl_index, Option.bind_some, if_pos hx]
            · refine Ev.step (f := fun k => impl_Unhex.l0 k s out (hv x) ((A.length + 1 : Nat) : Int)) (fun k => ?_) ?_
              · simp only [impl_Unhex.l0]
                rw [if_pos (by omega), if_pos (by omega), b1, impl_index, Option.bind_some, if_neg hx, t1, if_neg (by omega), wsucc (by omega)]
              · by_cases hy : hv y < 0
                · rw [uhL, if_pos (Or.inr hy)]
                  refine Ev.step (f := fun _ => some (⟨#[]⟩, false)) (fun k => ?_) (Ev.now _)
                  simp only [impl_Unhex.l0]
                  rw [if_pos (by omega), if_pos (by omega), b2, impl_index, Option.bind_some, if_pos hy]
                · rw [uhL, if_neg (by omega)]
                  have z := ih rest (A ++ [x, y]) (out ++ [(16 * hv x + hv y) % 256]) (hv y) (by omega) (by simp; omega) (by simp [hL]) (by simp; omega)
                  refine Ev.step (fun k => ?_) z
                  simp only [impl_Unhex.l0]
                  rw [if_pos (by omega), if_pos (by omega), b2, impl_index, Option.bind_some, if_neg hy, t2, if_pos (by omega), if_pos (by omega), w64 (x := 16 * hv x) (by omega) (by omega), w64 (x := 16 * hv x + hv y) (by omega) (by omega), wsucc (n := A.length + 1) (by omega), List.length_append]
                  rfl
      refine Ev.step (fun k => ?_) (key (s.size / 2) s.data.toList [] [] 0 (by rw [← size_list]; omega) rfl rfl (by simp))
      simp only [impl_Unhex.j0, Bool.false_eq_true, if_false]
      rfl
  · rw [if_neg (fun h => h2 h.2)]
    exact Ev.pos (by omega) bad

/-! ### decimal numerals, read back -/
def valF (acc : Nat) (l : List UInt8) : Nat := l.foldl (fun n b => n * 10 + (b.toNat - 48)) acc
theorem valF_ge : ∀ (l : List UInt8) (acc : Nat), acc ≤ valF acc l
  | [], _ => Nat.le_refl _
  | b :: l, acc => by
    have := valF_ge l (acc * 10 + (b.toNat - 48))
    show acc ≤ valF (acc * 10 + (b.toNat - 48)) l
    omega
theorem valF_snoc (l : List UInt8) (b : UInt8) : valF 0 (l ++ [b]) = valF 0 l * 10 + (b.toNat - 48) := by
  unfold valF
  rw [List.foldl_append]
  rfl
theorem fig_nat {u : Nat} (h : u < 10) : (UInt8.ofNat (48 + u)).toNat = 48 + u := by
  rw [UInt8.toNat_ofNat']
  omega
theorem decDigits_all (u : Nat) : ∀ b ∈ Lib.decDigits u, 48 ≤ b.toNat ∧ b.toNat ≤ 57 := by
  induction u using Nat.strongRecOn with
  | _ u ih =>
    intro b hb
    rw [Lib.decDigits] at hb
    by_cases h : u < 10
    · rw [dif_pos h, List.mem_singleton] at hb
      rw [hb, fig_nat h]
      omega
    · rw [dif_neg h, List.mem_append, List.mem_singleton] at hb
      rcases hb with hb | hb
      · exact ih (u / 10) (by omega) b hb
      · rw [hb, fig_nat (by omega)]
        omega
theorem decDigits_val (u : Nat) : valF 0 (Lib.decDigits u) = u := by
  induction u using Nat.strongRecOn with
  | _ u ih =>
    rw [Lib.decDigits]
    by_cases h : u < 10
    · rw [dif_pos h]
      show 0 * 10 + ((UInt8.ofNat (48 + u)).toNat - 48) = u
      rw [fig_nat h]
      omega
    · rw [dif_neg h, valF_snoc, ih (u / 10) (by omega), fig_nat (by omega)]
      omega
theorem nDigits_le : ∀ (k u : Nat), u < 10 ^ (k + 1) → Lib.nDigits u ≤ k + 1
  | 0, u, h => by
    rw [Lib.nDigits_small (by omega)]
    exact Nat.le_refl _
  | k + 1, u, h => by
    by_cases c : u < 10
    · rw [Lib.nDigits_small c]
      omega
    · rw [Lib.nDigits_big c]
      have := nDigits_le k (u / 10) (by rw [Nat.pow_succ] at h; omega)
      omega
theorem decDigits_len {u : Nat} (h : u ≤ 1000000000) : (Lib.decDigits u).length ≤ 10 ∧ 1 ≤ (Lib.decDigits u).length := by
  rw [Lib.decDigits_length]
  exact ⟨nDigits_le 9 u (Nat.lt_of_le_of_lt h (by decide)), Lib.nDigits_pos u⟩
theorem parse_ok : ∀ (l : List UInt8) (acc : Nat), (∀ b ∈ l, 48 ≤ b.toNat ∧ b.toNat ≤ 57) → valF acc l < 1000000000000 → Lib.parseUint10 acc l = .ok (valF acc l)
  | [], _, _, _ => rfl
  | c :: r, acc, h, hv => by
    have hc := h c List.mem_cons_self
    have hv2 : valF (acc * 10 + (c.toNat - 48)) r < 1000000000000 := hv
    have g := valF_ge r (acc * 10 + (c.toNat - 48))
    simp only [Lib.parseUint10]
    rw [if_pos hc, if_neg (by omega), if_neg (by omega)]
    exact parse_ok r _ (fun b hb => h b (List.mem_cons_of_mem _ hb)) hv2
theorem atoi_dec {u : Nat} (h : u ≤ 1000000000) : Lib.atoiAll (Lib.decDigits u) = .ok (u : Int) := by
  have all := decDigits_all u
  have val := decDigits_val u
  have len := decDigits_len h
  generalize Lib.decDigits u = l at all val len
  cases l with
  | nil => exact absurd len.2 (by simp)
  | cons c r =>
    have hc := all c List.mem_cons_self
    have p := parse_ok (c :: r) 0 all (by omega)
    rw [Lib.atoiAll_plain c r (by omega) (by omega)]
    unfold Lib.parseMag
    rw [if_neg (by simp), p, val]
    show (if 9223372036854775808 ≤ u then Lib.NumEnd.range else Lib.NumEnd.ok (u : Int)) = _
    rw [if_neg (by omega)]
def okD (s : ByteArray) (n : Int) : Prop := (⟨(Lib.itoa n).toArray⟩ : ByteArray) = s ∧ 0 ≤ n ∧ n ≤ 1000000000
theorem okD_list {s : ByteArray} {n : Int} (h : okD s n) : s.data.toList = Lib.decDigits n.toNat := by
  rw [← h.1]
  show Lib.itoa n = _
  unfold Lib.itoa
  rw [if_neg (by have := h.2; omega)]
theorem readV_ok {s : ByteArray} {n : Int} (h : okD s n) : readV s = (n, true) := by
  have e : atoiV s = (n, true) := by
    unfold atoiV
    rw [okD_list h, atoi_dec (by have := h.2; omega)]
    show (((n.toNat : Nat) : Int), true) = (n, true)
    rw [Int.toNat_of_nonneg h.2.1]
  unfold readV
  rw [e]
  exact if_pos ⟨rfl, str_toList.mpr h.1, h.2.1, h.2.2⟩
theorem readV_no {s : ByteArray} (h : ∀ n, ¬ okD s n) : readV s = (0, false) := by
  unfold readV
  exact if_neg (fun e => h _ ⟨str_toList.mp e.2.1, e.2.2.1, e.2.2.2⟩)

/-! ### what is drawn -/
theorem and255_range (x : Int) : 0 ≤ Go.bits .and .i64 x 255 ∧ Go.bits .and .i64 x 255 ≤ 255 := by
  have e : ((BitVec.ofInt 64 x) &&& (BitVec.ofInt 64 255)).toNat = (x % 18446744073709551616).toNat % 256 := by
    rw [BitVec.toNat_and, BitVec.toNat_ofInt, show (BitVec.ofInt 64 255).toNat = 2 ^ 8 - 1 by decide, Nat.and_two_pow_sub_one_eq_mod]
    rfl
  have e2 : Go.bits .and .i64 x 255 = IntKind.i64.wrap (((BitVec.ofInt 64 x) &&& (BitVec.ofInt 64 255)).toNat : Int) := rfl
  rw [e2, e, IntKind.wrap_i64]
  omega
theorem byte_ex (l : List Int) (i h : Int) (hl : l.length ≤ 140737488351232) (hi : 0 ≤ i) : ∃ x i' h', spec_l01Byte.f l i h = some (x, i', h') ∧ 0 ≤ x ∧ x ≤ 255 ∧ 0 ≤ i' := by
  unfold spec_l01Byte.f
  by_cases c : i < (l.length : Int)
  · rw [if_pos c, if_pos hi]
    refine ⟨_, _, _, rfl, (and255_range _).1, (and255_range _).2, ?_⟩
    rw [w64 (by omega) (by omega)]
    omega
  · rw [if_neg c]
    exact ⟨_, _, _, rfl, (and255_range _).1, (and255_range _).2, hi⟩
theorem below_ex (l : List Int) (i h n : Int) (hl : l.length ≤ 140737488351232) (hi : 0 ≤ i) (hn : n ≤ 4294967296) : ∃ x i' h', spec_l01Below.f l i h n = some (x, i', h') ∧ 0 ≤ x ∧ (0 < n → x < n) ∧ (n ≤ 0 → x = 0) ∧ 0 ≤ i' := by
  unfold spec_l01Below.f
  by_cases c1 : n ≤ 0
  · rw [if_pos c1]
    exact ⟨_, _, _, rfl, by omega, by omega, fun _ => rfl, hi⟩
  · rw [if_neg c1]
    by_cases c2 : n ≤ 256
    · rw [if_pos c2]
      obtain ⟨x, i1, h1, e1, b0, b1, hi1⟩ := byte_ex l i h hl hi
      simp only [e1, Option.bind_some]
      rw [if_neg (by omega)]
      refine ⟨_, _, _, rfl, Int.tmod_nonneg _ b0, fun _ => ?_, by omega, hi1⟩
      exact Int.tmod_lt_of_pos _ (by omega)
    · rw [if_neg c2]
      obtain ⟨x, i1, h1, e1, x0, x1, hi1⟩ := byte_ex l i h hl hi
      obtain ⟨y, i2, h2, e2, y0, y1, hi2⟩ := byte_ex l i1 h1 hl hi1
      obtain ⟨z, i3, h3, e3, z0, z1, hi3⟩ := byte_ex l i2 h2 hl hi2
      obtain ⟨u, i4, h4, e4, u0, u1, hi4⟩ := byte_ex l i3 h3 hl hi3
      simp only [e1, e2, e3, e4, Option.bind_some]
      rw [if_neg (by omega)]
      refine ⟨_, _, _, rfl, Int.tmod_nonneg _ ?_, fun _ => Int.tmod_lt_of_pos _ (by omega), by omega, hi4⟩
      rw [w64 (x := x * 16777216) (by omega) (by omega), w64 (x := y * 65536) (by omega) (by omega), w64 (x := z * 256) (by omega) (by omega), w64 (x := x * 16777216 + y * 65536) (by omega) (by omega), w64 (x := x * 16777216 + y * 65536 + z * 256) (by omega) (by omega), w64 (by omega) (by omega)]
      omega
theorem new_ev (l : List Int) (hl : l.length ≤ 140737488351232) : ∃ h, Ev (fun k => spec_l01New.f k l) (l, 0, h) := by
  have key : ∀ d (i : Nat) (h : Int), l.length - i = d → ∃ h', Ev (fun k => spec_l01New.l0 k l h (i : Int)) (l, 0, h') := by
    intro d
    induction d with
    | zero =>
      intro i h hd
      exact ⟨h, Ev.step (f := fun _ => some (l, 0, h)) (fun k => by simp only [spec_l01New.l0]; rw [if_neg (by omega)]) (Ev.now _)⟩
    | succ d ih =>
      intro i h hd
      by_cases c : (i : Int) < 4000
      · obtain ⟨h', hh⟩ := ih (i + 1) _ (by omega)
        refine ⟨h', Ev.step (fun k => ?_) hh⟩
        simp only [spec_l01New.l0]
        rw [if_pos (by omega), if_pos c, if_pos (by omega), wsucc (by omega)]
      · exact ⟨h, Ev.step (f := fun _ => some (l, 0, h)) (fun k => by simp only [spec_l01New.l0]; rw [if_pos (by omega), if_neg c]) (Ev.now _)⟩
  obtain ⟨h', hh⟩ := key l.length 0 (wrap64 (36801 + (l.length : Int))) (by omega)
  exact ⟨h', hh⟩

theorem once_ex (l : List Int) (i h n : Int) (hl : l.length ≤ 140737488351232) (hi : 0 ≤ i) (hn : n ≤ 4294967296) : ∃ b i' h', spec_l01Once.f l i h n = some (b, i', h') ∧ 0 ≤ i' := by
  obtain ⟨x, i1, h1, e1, _, _, _, hi1⟩ := below_ex l i h n hl hi hn
  unfold spec_l01Once.f
  simp only [e1, Option.bind_some]
  exact ⟨_, _, _, rfl, hi1⟩

theorem text_ev (l : List Int) (i h n : Int) (hl : l.length ≤ 140737488351232) (hi : 0 ≤ i) (hn : n ≤ 5000) : ∃ t i' h', Ev (fun k => spec_l01Text.f k l i h n) (t, i', h') ∧ t.size = n.toNat ∧ 0 ≤ i' := by
  have key : ∀ d (j : Nat) (acc : List Int) (i h : Int), j ≤ n.toNat → n.toNat - j = d → acc.length = j → 0 ≤ i → ∃ t i' h', Ev (fun k => spec_l01Text.l0 k n acc (j : Int) l i h) (t, i', h') ∧ t.size = n.toNat ∧ 0 ≤ i' := by
    intro d
    induction d with
    | zero =>
      intro j acc i h hj hd ha hi
      refine ⟨strOfNums acc, i, h, Ev.step (f := fun _ => some (strOfNums acc, i, h)) (fun k => by simp only [spec_l01Text.l0]; rw [if_neg (by omega)]) (Ev.now _), ?_, hi⟩
      rw [strOfNums_size]
      omega
    | succ d ih =>
      intro j acc i h hj hd ha hi
      obtain ⟨y, i2, h2, e2, _, _, hi2⟩ := byte_ex l i h hl hi
      obtain ⟨t, i3, h3, hp, hp1, hp2⟩ := ih (j + 1) (acc ++ [y % 256]) i2 h2 (by omega) (by omega) (by simp; omega) hi2
      refine ⟨t, i3, h3, Ev.step (fun k => ?_) hp, hp1, hp2⟩
      simp only [spec_l01Text.l0]
      rw [if_pos (by omega), e2]
      simp only [Option.bind_some]
      rw [if_pos (by omega), wsucc (by omega)]
  obtain ⟨t, i', h', ht, hs, hi'⟩ := key n.toNat 0 [] i h (by omega) (by omega) rfl hi
  refine ⟨t, i', h', ?_, hs, hi'⟩
  unfold spec_l01Text.f
  simp only [if_neg (show ¬ n > 5000 by omega)]
  exact Ev.step (fun k => by simp only [spec_l01Text.j0]; rfl) ht

theorem long_ev (n : Nat) (x : Int) (hn : n ≤ 100000) : ∃ t, Ev (fun k => spec_l01Long.f k (n : Int) x) t ∧ t.size = n := by
  have key : ∀ d (j : Nat) (acc : List Int), j ≤ n → n - j = d → acc.length = n → ∃ t, Ev (fun k => spec_l01Long.l0 k (n : Int) x acc (j : Int)) t ∧ t.size = n := by
    intro d
    induction d with
    | zero =>
      intro j acc hj hd ha
      exact ⟨strOfNums acc, Ev.step (f := fun _ => some (strOfNums acc)) (fun k => by simp only [spec_l01Long.l0]; rw [if_neg (by omega)]) (Ev.now _), by rw [strOfNums_size]; exact ha⟩
    | succ d ih =>
      intro j acc hj hd ha
      obtain ⟨t, ht, hs⟩ := ih (j + 1) (acc.set j x) (by omega) (by omega) (by rw [List.length_set]; exact ha)
      refine ⟨t, Ev.step (fun k => ?_) ht, hs⟩
      simp only [spec_l01Long.l0]
      rw [if_pos (by omega), if_pos (by omega), if_pos (by omega), wsucc (by omega)]
      rfl
  obtain ⟨t, ht, hs⟩ := key n 0 (List.replicate n 0) (by omega) (by omega) (by simp)
  refine ⟨t, ?_, hs⟩
  unfold spec_l01Long.f
  simp only [if_pos (show 0 ≤ (n : Int) by omega), Int.toNat_natCast, if_pos (show n ≤ 281474976710656 by omega)]
  exact ht

theorem drawHex_ev (l : List Int) (hl : l.length ≤ 140737488351232) : ∃ t, Ev (fun k => spec_DrawHex.f k l) t := by
  obtain ⟨h0, hn⟩ := new_ev l hl
  obtain ⟨b, i1, h1, e1, hi1⟩ := once_ex l 0 h0 60 hl (by omega) (by omega)
  cases b with
  | true =>
    obtain ⟨x, i2, h2, e2, x0, x1, _, hi2⟩ := below_ex l i1 h1 2 hl hi1 (by omega)
    obtain ⟨n, hx⟩ := Int.eq_ofNat_of_zero_le x0
    subst hx
    have hx1 := x1 (by omega)
    obtain ⟨t, ht, hs⟩ := long_ev (20000 + n) 200 (by omega)
    have hw : wrap64 (20000 + (n : Int)) = ((20000 + n : Nat) : Int) := by rw [w64 (by omega) (by omega)]; omega
    rw [← hw] at ht
    exact ⟨t, Ev.bind hn (Ev.some_bind e1 (Ev.pos rfl (Ev.some_bind e2 (Ev.bind ht (Ev.now _)))))⟩
  | false =>
    obtain ⟨x, i2, h2, e2, x0, x1, _, hi2⟩ := below_ex l i1 h1 30 hl hi1 (by omega)
    have hx1 := x1 (by omega)
    obtain ⟨t, i3, h3, ht, hs, _⟩ := text_ev l i2 h2 x hl hi2 (by omega)
    exact ⟨t, Ev.bind hn (Ev.some_bind e1 (Ev.neg Bool.false_ne_true (Ev.some_bind e2 (Ev.bind ht (Ev.now _)))))⟩

theorem number_ex (l : List Int) (i h : Int) (hl : l.length ≤ 140737488351232) (hi : 0 ≤ i) : ∃ x i' h', spec_l01Number.f l i h = some (x, i', h') := by
  obtain ⟨x, i1, h1, e1, x0, x1, _, hi1⟩ := below_ex l i h 4 hl hi (by omega)
  have b1 := x1 (by omega)
  unfold spec_l01Number.f
  simp only [e1, Option.bind_some]
  by_cases c : x = 0
  · rw [if_pos c]
    unfold spec_l01PickInt.f
    obtain ⟨y, i2, h2, e2, y0, y1, _, hi2⟩ := below_ex l i1 h1 10 hl hi1 (by omega)
    have b2 := y1 (by omega)
    have e2' : spec_l01Below.f l i1 h1 ((([(-1), 0, 127, 128, 16383, 16384, 1000000000, 1000000001, 9223372036854775807, (-9223372036854775808)] : List Int).length : Nat) : Int) = some (y, i2, h2) := e2
    simp only [e2', Option.bind_some]
    have y2 : y < ((([(-1), 0, 127, 128, 16383, 16384, 1000000000, 1000000001, 9223372036854775807, (-9223372036854775808)] : List Int).length : Nat) : Int) := y1 (by omega)
    rw [if_pos y0, if_pos y2]
    exact ⟨_, _, _, rfl⟩
  · rw [if_neg c]
    by_cases c2 : x = 1
    · rw [if_pos c2]
      obtain ⟨y, i2, h2, e2, _⟩ := below_ex l i1 h1 1000000000 hl hi1 (by omega)
      simp only [e2, Option.bind_some]
      exact ⟨_, _, _, rfl⟩
    · rw [if_neg c2]
      obtain ⟨y, i2, h2, e2, _⟩ := below_ex l i1 h1 400 hl hi1 (by omega)
      simp only [e2, Option.bind_some]
      exact ⟨_, _, _, rfl⟩
theorem drawVar_ev (l : List Int) (hl : l.length ≤ 140737488351232) : ∃ x, Ev (fun k => spec_DrawVarText.f k l) x := by
  obtain ⟨h, hn⟩ := new_ev l hl
  obtain ⟨x, i1, h1, e1⟩ := number_ex l 0 h hl (by omega)
  exact ⟨x, Ev.bind hn (Ev.some_bind e1 (Ev.now _))⟩
theorem hv_fig {d : Nat} (h : d < 16) : hv (UInt8.ofNat (fig d).toNat) = (d : Int) := by
  have key : ∀ d : Fin 16, hv (UInt8.ofNat (fig d.val).toNat) = (d.val : Int) := by decide +kernel
  exact key ⟨d, h⟩
theorem uhL_hex : ∀ (l : List UInt8) (out : List Int), uhL ((hexL l).map fun x => UInt8.ofNat x.toNat) out = (strOfNums (out ++ numsU l), true)
  | [], out => by
    show uhL [] out = (strOfNums (out ++ []), true)
    rw [List.append_nil]
    rfl
  | b :: l, out => by
    have hb := b.toNat_lt
    show uhL (UInt8.ofNat (fig (b.toNat / 16)).toNat :: UInt8.ofNat (fig (b.toNat % 16)).toNat :: (hexL l).map fun x => UInt8.ofNat x.toNat) out = _
    unfold uhL
    rw [hv_fig (by omega), hv_fig (by omega), if_neg (by omega), uhL_hex l]
    have e : (16 * ((b.toNat / 16 : Nat) : Int) + ((b.toNat % 16 : Nat) : Int)) % 256 = (b.toNat : Int) := by omega
    rw [e, List.append_assoc]
    rfl
theorem unhex_hex {s : ByteArray} (h : s.size ≤ 300) : uhR (hexV s).1 = (s, true) := by
  have e : (hexV s).1 = strOfNums (hexL s.data.toList) := by
    unfold hexV
    rw [if_neg (by omega)]
  have hz : (strOfNums (hexL s.data.toList)).size = 2 * s.size := by
    rw [strOfNums_size, hexL_length, str_len]
  have hl : (strOfNums (hexL s.data.toList)).data.toList = (hexL s.data.toList).map fun x => UInt8.ofNat x.toNat := by simp [strOfNums]
  rw [e]
  unfold uhR
  rw [if_pos (by omega), hl, uhL_hex, List.nil_append]
  congr 1
  apply str_ext
  exact strOfNums_numsU _
theorem short_back {s : ByteArray} (h : s.size ≤ 300) : readShortV (varS s.size ++ s) 0 = (s, ((varS s.size ++ s).size : Int), true) := by
  have hl := varS_len s.size
  have hz : (varS s.size ++ s).size = (varS s.size).size + s.size := ByteArray.size_append
  have r := readVar_at (s := varS s.size ++ s) (p := 0) (n := s.size) (rest := s.data.toList) (by rw [List.drop_zero, str_app, varS_list]) (by omega)
  unfold readShortV
  have r' : readVarV (varS s.size ++ s) 0 = ((s.size : Int), ((0 + (varF 4 s.size).length : Nat) : Int), true) := r
  rw [r', ← hl]
  simp only
  rw [if_pos ⟨trivial, by omega, by omega⟩]
  have hx : (varS s.size ++ s).extract (((0 + (varS s.size).size : Nat) : Int)).toNat (((0 + (varS s.size).size : Nat) : Int) + (s.size : Int)).toNat = s := by
    rw [Int.toNat_natCast, show (((0 + (varS s.size).size : Nat) : Int) + (s.size : Int)).toNat = (varS s.size).size + s.size by omega]
    apply str_ext
    rw [str_cut, str_app, Nat.zero_add, List.drop_left' (by rw [str_len]), List.take_of_length_le (by rw [str_len]; omega)]
  rw [hx, hz]
  congr 2
  omega
theorem var_back (n : Nat) (h : n ≤ 1000000000) : readVarV (((⟨#[120]⟩ : ByteArray) ++ varS n) ++ (⟨#[121]⟩ : ByteArray)) 1 = ((n : Int), ((1 + (varS n).size : Nat) : Int), true) := by
  have r := readVar_at (s := ((⟨#[120]⟩ : ByteArray) ++ varS n) ++ (⟨#[121]⟩ : ByteArray)) (p := 1) (n := n) (rest := [121]) (by
    rw [str_app, str_app, varS_list]
    rfl) h
  rw [varS_len]
  exact r
theorem dec_back (n : Nat) (h : n ≤ 1000000000) : readV (⟨(Lib.itoa (n : Int)).toArray⟩ : ByteArray) = ((n : Int), true) := readV_ok ⟨rfl, by omega, by omega⟩
theorem numbers_last {n : Nat} {s : ByteArray} (hn : n ≤ 1000000000) (hs : s.size ≤ 300) : Ev (fun k => laws_FnNumbers.j2 k (n : Int) (varS n) true (n : Int) ((1 + (varS n).size : Nat) : Int) true (n : Int) true s) true := by
  have hl := varS_size n
  have hl2 := varS_size s.size
  have hz : (varS s.size ++ s).size = (varS s.size).size + s.size := ByteArray.size_append
  have st : Ev (fun k => impl_ShortText.f k s) (varS s.size ++ s, true) := by
    have := impl_ShortText_ev s
    unfold shortV at this
    rwa [if_neg (by omega)] at this
  have rs : Ev (fun k => impl_ReadShort.f k (varS s.size ++ s) 0) (s, ((varS s.size ++ s).size : Int), true) := by
    have := impl_ReadShort_ev (varS s.size ++ s) (by omega) 0
    rwa [short_back hs] at this
  have hx : Ev (fun k => impl_Hex.f k s) ((hexV s).1, true) := by
    have := impl_Hex_ev s
    unfold hexV at this ⊢
    rw [if_neg (by omega)] at this ⊢
    exact this
  have uh : Ev (fun k => impl_Unhex.f k (hexV s).1) (s, true) := by
    have hz2 : (hexV s).1.size = 2 * s.size := by
      unfold hexV
      rw [if_neg (by omega)]
      show (strOfNums (hexL s.data.toList)).size = _
      rw [strOfNums_size, hexL_length, str_len]
    have := impl_Unhex_ev (hexV s).1 (by omega)
    rwa [unhex_hex hs] at this
  refine Ev.step (f := fun k => (impl_ShortText.f k s).bind fun bt216 => (impl_ReadShort.f k bt216.1 0).bind fun bt218 => (impl_Hex.f k s).bind fun bt221 => (impl_Unhex.f k bt221.1).bind fun bt223 => if bt216.2 = true then (if bt218.2.2 = true then (if bt221.2 = true then (if bt223.2 = true then (if bt218.1.toList = s.toList then (if bt218.2.1 = (bt216.1.size : Int) then some (bt223.1.toList == s.toList) else some false) else some false) else some false) else some false) else some false) else some false) (fun k => ?_) ?_
  · simp only [laws_FnNumbers.j2, if_true]
    have e : ((1 + (varS n).size : Nat) : Int) = wrap64 (((varS n).size : Int) + 1) := by
      rw [wsucc (by omega)]
      omega
    rw [← e]
    simp only [if_true]
  · refine Ev.bind st (Ev.bind rs (Ev.bind hx (Ev.bind uh ?_)))
    refine Ev.pos rfl (Ev.pos rfl (Ev.pos rfl (Ev.pos rfl (Ev.pos rfl (Ev.pos rfl ?_)))))
    simp only [beq_self_eq_true]
    exact Ev.now _
theorem numbers_mid (l : List Int) (hl : l.length ≤ 140737488351232) {n : Nat} (hn : n ≤ 1000000000) : Ev (fun k => laws_FnNumbers.j1 k l (n : Int)) true := by
  obtain ⟨t, ht⟩ := drawHex_ev l hl
  have hv := varS_size n
  have hz : ((⟨#[120]⟩ : ByteArray) ++ varS n).size = 1 + (varS n).size := ByteArray.size_append
  have hz2 : (((⟨#[120]⟩ : ByteArray) ++ varS n) ++ (⟨#[121]⟩ : ByteArray)).size = 1 + (varS n).size + 1 := by
    rw [ByteArray.size_append, hz]
    rfl
  have vt : Ev (fun k => impl_VarText.f k (n : Int)) (varS n, true) := by
    have := impl_VarText_ev (n : Int)
    rwa [varTextV_pos hn] at this
  have rv : Ev (fun k => impl_ReadVar.f k (((⟨#[120]⟩ : ByteArray) ++ varS n) ++ (⟨#[121]⟩ : ByteArray)) 1) ((n : Int), ((1 + (varS n).size : Nat) : Int), true) := by
    have := impl_ReadVar_ev (((⟨#[120]⟩ : ByteArray) ++ varS n) ++ (⟨#[121]⟩ : ByteArray)) (by omega) 1
    rwa [var_back n hn] at this
  have de : impl_Decimal.f (n : Int) = some (⟨(Lib.itoa (n : Int)).toArray⟩ : ByteArray) := if_pos ⟨by omega, by omega⟩
  have hd : (⟨(Lib.itoa (n : Int)).toArray⟩ : ByteArray).size ≤ 281474976710656 := by
    have := decDigits_len hn
    show (Lib.itoa (n : Int)).length ≤ _
    unfold Lib.itoa
    rw [if_neg (by omega), Int.toNat_natCast]
    omega
  have rd : impl_ReadDecimal.f (⟨(Lib.itoa (n : Int)).toArray⟩ : ByteArray) = some ((n : Int), true) := by
    unfold impl_ReadDecimal.f
    rw [if_pos hd, dec_back n hn]
  refine Ev.step (f := fun k => (impl_VarText.f k (n : Int)).bind fun bt207 => if 1 + bt207.1.size ≤ 9223372036854775807 then (if ((⟨#[120]⟩ : ByteArray) ++ bt207.1).size + 1 ≤ 9223372036854775807 then ((impl_ReadVar.f k (((⟨#[120]⟩ : ByteArray) ++ bt207.1) ++ (⟨#[121]⟩ : ByteArray)) 1).bind fun bt209 => ((impl_Decimal.f (n : Int)).bind fun t212 => ((impl_ReadDecimal.f t212).bind fun bt213 => ((spec_DrawHex.f k l).bind fun t215 => if (t215.size : Int) > 300 then laws_FnNumbers.j2 k (n : Int) bt207.1 bt207.2 bt209.1 bt209.2.1 bt209.2.2 bt213.1 bt213.2 (⟨#[97, 98, 99]⟩ : ByteArray) else laws_FnNumbers.j2 k (n : Int) bt207.1 bt207.2 bt209.1 bt209.2.1 bt209.2.2 bt213.1 bt213.2 t215)))) else none) else none) (fun k => by simp only [laws_FnNumbers.j1]) ?_
  refine Ev.bind vt (Ev.pos (by show 1 + (varS n).size ≤ _; omega) (Ev.pos (by show ((⟨#[120]⟩ : ByteArray) ++ varS n).size + 1 ≤ _; omega) (Ev.bind rv (Ev.some_bind de (Ev.some_bind rd (Ev.bind ht ?_))))))
  by_cases c : (t.size : Int) > 300
  · exact Ev.pos c (numbers_last hn (by decide))
  · exact Ev.neg c (numbers_last hn (by omega))
theorem FnNumbers : laws_FnNumbers.Pure := by
  intro l _ hl _
  have hl' : l.length ≤ 140737488351232 := by omega
  refine Ev.rounds ?_
  unfold laws_FnNumbers.f laws_big.f
  simp only [Option.bind_some, decide_eq_true_eq]
  by_cases hb : (l.length : Int) > 1048576
  · simp only [if_pos hb]
    exact Ev.now _
  simp only [if_neg hb]
  obtain ⟨x, hx⟩ := drawVar_ev l hl'
  refine Ev.bind hx ?_
  have bad : Ev (fun k => laws_FnNumbers.j0 k l x true) true := by
    refine Ev.step (f := fun k => laws_FnNumbers.j1 k l ((12345 : Nat) : Int)) (fun k => ?_) (numbers_mid l hl' (by omega))
    simp only [laws_FnNumbers.j0, if_true]
    first | done | rfl
  by_cases c : x < 0
  · simp only [if_pos c]
    exact bad
  · simp only [if_neg c]
    by_cases c2 : x > 1000000000
    · rw [decide_eq_true c2]
      exact bad
    · rw [decide_eq_false c2]
      obtain ⟨n, rfl⟩ := Int.eq_ofNat_of_zero_le (show 0 ≤ x by omega)
      refine Ev.step (f := fun k => laws_FnNumbers.j1 k l ((n : Nat) : Int)) (fun k => ?_) (numbers_mid l hl' (by omega))
      simp only [laws_FnNumbers.j0, Bool.false_eq_true, if_false]
      first | done | rfl


end Go.Proofs.YtfagleffamhimaaDoor.Pure
