/- Drawn records come back from their frames; of frames cut anywhere just the whole ones do. -/
import Derived.Test.YtilhajijfbpcjaaXFnFramesx4
set_option linter.unusedVariables false
set_option linter.unusedSimpArgs false
namespace Go.Proofs.Ytilhajijfbpcjaa.Pure
open Go.RowKit Go.Proofs.Ytilhajijfbpcjaa.XFnFrames Go.Proofs.YtilhajijfbpcjaaW.PrintWords Go.Proofs.YtilhajijfbpcjaaW.PrintLast

/-! ### small words -/
theorem w64 {x : Int} (h0 : -9223372036854775808 ≤ x) (h1 : x ≤ 9223372036854775807) : wrap64 x = x := by
  unfold wrap64
  omega
theorem wf64 {x : Int} (h : (Lit.int .i64 x).wf = true) : -9223372036854775808 ≤ x ∧ x ≤ 9223372036854775807 := by
  simp [Lit.wf, IntKind.min, IntKind.max, IntKind.signed, IntKind.bits] at h
  omega
theorem wfu32 {x : Int} (h : (Lit.int .u32 x).wf = true) : 0 ≤ x ∧ x ≤ 4294967295 := by
  simp [Lit.wf, IntKind.min, IntKind.max, IntKind.signed, IntKind.bits] at h
  omega
theorem wfu8 {x : Int} (h : (Lit.int .u8 x).wf = true) : 0 ≤ x ∧ x ≤ 255 := by
  simp [Lit.wf, IntKind.min, IntKind.max, IntKind.signed, IntKind.bits] at h
  omega
theorem wsucc {n : Nat} (h : n ≤ 4611686018427387904) : wrap64 ((n : Int) + 1) = ((n + 1 : Nat) : Int) := by
  rw [w64 (by omega) (by omega)]
  rfl
theorem wadd {a b : Nat} (h : a + b ≤ 4611686018427387904) : wrap64 ((a : Int) + (b : Int)) = ((a + b : Nat) : Int) := by
  rw [w64 (by omega) (by omega)]
  rfl
theorem wnat {n : Nat} (h : n ≤ 4611686018427387904) : wrap64 (n : Int) = (n : Int) := w64 (by omega) (by omega)
theorem Ev.some_bind {α β : Type} {a : Option α} {x : α} (h : a = some x) {f : Nat → α → Option β} {r : β} (k : Ev (fun n => f n x) r) : Ev (fun n => a.bind (f n)) r := by
  subst h
  exact k
theorem Ev.pos {α : Type} {p : Prop} [Decidable p] (h : p) {f g : Nat → Option α} {r : α} (k : Ev f r) : Ev (fun n => if p then f n else g n) r :=
  Ev.congr (fun _ => if_pos h) k
theorem Ev.neg {α : Type} {p : Prop} [Decidable p] (h : ¬ p) {f g : Nat → Option α} {r : α} (k : Ev g r) : Ev (fun n => if p then f n else g n) r :=
  Ev.congr (fun _ => if_neg h) k
theorem tmod_nat {x : Int} (h0 : 0 ≤ x) (N : Nat) : ∃ c : Nat, Int.tmod x ((N + 1 : Nat) : Int) = (c : Int) ∧ c ≤ N := by
  obtain ⟨c, hc⟩ := Int.eq_ofNat_of_zero_le (Int.tmod_nonneg ((N + 1 : Nat) : Int) h0)
  have hlt := Int.tmod_lt_of_pos x (show (0 : Int) < ((N + 1 : Nat) : Int) by omega)
  rw [hc] at hlt
  exact ⟨c, hc, by omega⟩

theorem strOfNums_size (xs : List Int) : (strOfNums xs).size = xs.length := by simp [strOfNums, ByteArray.size]
theorem str_ext {a b : ByteArray} (h : a.data.toList = b.data.toList) : a = b := by
  apply ByteArray.ext
  exact Array.toList_inj.1 h
theorem str_app (a b : ByteArray) : (a ++ b).data.toList = a.data.toList ++ b.data.toList := by simp [ByteArray.data_append]
theorem str_cut (s : ByteArray) (a b : Nat) : (s.extract a b).data.toList = (s.data.toList.drop a).take (b - a) := by
  obtain ⟨⟨l⟩⟩ := s
  simp [ByteArray.data_extract, List.extract_eq_take_drop]
theorem str_len (s : ByteArray) : s.data.toList.length = s.size := rfl
theorem str_toList {a b : ByteArray} : a.toList = b.toList ↔ a = b := by
  rw [ByteArray.toList_eq, ByteArray.toList_eq]
  exact ⟨str_ext, fun h => by rw [h]⟩
theorem str_split (s : ByteArray) (n : Nat) (h : n ≤ s.size) : s.extract 0 n ++ s.extract n s.size = s := by
  apply str_ext
  rw [str_app, str_cut, str_cut, List.drop_zero, Nat.sub_zero, List.take_of_length_le (l := s.data.toList.drop n) (by simp [str_len]), List.take_append_drop]
theorem str_app_inj {a b c : ByteArray} (h : a ++ b = a ++ c) : b = c := by
  have := congrArg (fun s : ByteArray => s.data.toList) h
  simp only [str_app] at this
  exact str_ext (List.append_cancel_left this)
theorem cut_size (s : ByteArray) {n : Nat} (h : n ≤ s.size) : (s.extract 0 n).size = n := by
  rw [ByteArray.size_extract]
  omega

theorem impl_within_eq (a l h : Int) : impl_within.f a l h = some (decide (l ≤ a ∧ a ≤ h)) := by
  unfold impl_within.f
  by_cases h1 : l ≤ a
  · rw [if_pos h1]; simp [h1]
  · rw [if_neg h1]; simp [h1]

/-! ### sums of 32 bits, over natural numbers -/
def half (s : Nat) : Nat := if s % 2 = 1 then (s / 2) ^^^ 3558460437 else s / 2
def halves : Nat → Nat → Nat
  | 0, s => s
  | n + 1, s => halves n (half s)
def sumN (s : Nat) : List UInt8 → Nat
  | [] => s
  | b :: bs => sumN (halves 8 (s ^^^ b.toNat)) bs

theorem bits_xor32 {a b : Nat} (ha : a < 2 ^ 32) (hb : b < 2 ^ 32) : Go.bits .xor .u32 (a : Int) (b : Int) = ((a ^^^ b : Nat) : Int) := by
  have hx : a ^^^ b < 2 ^ 32 := Nat.xor_lt_two_pow ha hb
  have e : (BitVec.ofNat 32 a ^^^ BitVec.ofNat 32 b).toNat = a ^^^ b := by rw [BitVec.toNat_xor, BitVec.toNat_ofNat, BitVec.toNat_ofNat, Nat.mod_eq_of_lt ha, Nat.mod_eq_of_lt hb]
  show IntKind.u32.wrap (((BitVec.ofInt 32 (a : Int)) ^^^ (BitVec.ofInt 32 (b : Int))).toNat : Int) = _
  rw [BitVec.ofInt_natCast, BitVec.ofInt_natCast, e, IntKind.wrap_u32]
  omega
theorem half_lt {s : Nat} (h : s < 2 ^ 32) : half s < 2 ^ 32 := by
  unfold half
  split
  · exact Nat.xor_lt_two_pow (by omega) (by omega)
  · omega
theorem halves_lt (n : Nat) : ∀ {s : Nat}, s < 2 ^ 32 → halves n s < 2 ^ 32 := by
  induction n with
  | zero => intro s h; exact h
  | succ n ih => intro s h; exact ih (half_lt h)
theorem byte_lt (b : UInt8) : b.toNat < 2 ^ 32 := by have := b.toNat_lt; omega
theorem sumN_lt (l : List UInt8) : ∀ {s : Nat}, s < 2 ^ 32 → sumN s l < 2 ^ 32 := by
  induction l with
  | nil => intro s h; exact h
  | cons b l ih => intro s h; exact ih (halves_lt 8 (Nat.xor_lt_two_pow h (byte_lt b)))
theorem sumN_append (l m : List UInt8) : ∀ s, sumN s (l ++ m) = sumN (sumN s l) m := by
  induction l with
  | nil => intro s; rfl
  | cons b l ih => intro s; exact ih _
theorem bt_nat (s : ByteArray) {i : Nat} (h : i < s.size) : bt s (i : Int) = ((s.data.toList[i]'(by simpa using h)).toNat : Int) := by
  unfold bt
  rw [dif_pos (by simpa using h)]
  rfl
theorem drop_cons (s : ByteArray) {i : Nat} (h : i < s.size) : s.data.toList.drop i = (s.data.toList[i]'(by simpa using h)) :: s.data.toList.drop (i + 1) := List.drop_eq_getElem_cons (by simpa using h)

theorem half_int {s : Nat} (hs : s < 2 ^ 32) : (if Int.tmod (s : Int) 2 = 1 then Go.bits .xor .u32 ((Int.tdiv (s : Int) 2) % 4294967296) 3558460437 else (Int.tdiv (s : Int) 2) % 4294967296) = ((half s : Nat) : Int) := by
  have h1 : Int.tmod (s : Int) 2 = ((s % 2 : Nat) : Int) := by rw [Int.tmod_eq_emod_of_nonneg (by omega)]; rfl
  have h2 : (Int.tdiv (s : Int) 2) % 4294967296 = ((s / 2 : Nat) : Int) := by rw [Int.tdiv_eq_ediv_of_nonneg (by omega)]; omega
  rw [h1, h2]
  unfold half
  by_cases h : s % 2 = 1
  · rw [if_pos (by omega), if_pos h]
    exact bits_xor32 (by omega) (b := 3558460437) (by omega)
  · rw [if_neg (by omega), if_neg h]

theorem impl_SumMore_l1 (x : ByteArray) (i r : Int) (d : Nat) : ∀ (s : Nat), d ≤ 8 → s < 2 ^ 32 → Ev (fun k => impl_SumMore.l0 k ((halves d s : Nat) : Int) x (wrap64 (i + 1))) r →
    Ev (fun k => impl_SumMore.l1 k (s : Int) x i ((8 - d : Nat) : Int)) r := by
  induction d with
  | zero =>
    intro s hd hs h
    exact Ev.step (fun k => by simp only [impl_SumMore.l1]; rw [if_neg (by omega)]; rfl) h
  | succ d ih =>
    intro s hd hs h
    refine Ev.step (f := fun k => impl_SumMore.l1 k ((half s : Nat) : Int) x i ((8 - d : Nat) : Int)) (fun k => ?_) (ih _ (by omega) (half_lt hs) h)
    simp only [impl_SumMore.l1]
    rw [if_pos (by omega), w64 (by omega) (by omega), ← half_int hs, show ((8 - (d + 1) : Nat) : Int) + 1 = ((8 - d : Nat) : Int) by omega]
    split <;> rfl
theorem impl_SumMore_l0 (x : ByteArray) (hx : x.size ≤ 140737488351232) (d : Nat) : ∀ (s i : Nat), i ≤ x.size → x.size - i = d → s < 2 ^ 32 →
    Ev (fun k => impl_SumMore.l0 k (s : Int) x (i : Int)) ((sumN s (x.data.toList.drop i) : Nat) : Int) := by
  induction d with
  | zero =>
    intro s i hi hd hs
    have hn : x.data.toList.drop i = [] := List.drop_eq_nil_of_le (by simp; omega)
    rw [hn]
    exact Ev.step (f := fun _ => some (s : Int)) (fun k => by simp only [impl_SumMore.l0]; rw [if_neg (by omega)]) (Ev.now _)
  | succ d ih =>
    intro s i hi hd hs
    have hlt : i < x.size := by omega
    have hb := byte_lt (x.data.toList[i]'(by simpa using hlt))
    rw [drop_cons x hlt]
    refine Ev.step (f := fun k => impl_SumMore.l1 k ((s ^^^ (x.data.toList[i]'(by simpa using hlt)).toNat : Nat) : Int) x (i : Int) ((8 - 8 : Nat) : Int)) (fun k => ?_) (impl_SumMore_l1 x i _ 8 _ (Nat.le_refl _) (Nat.xor_lt_two_pow hs hb) ?_)
    · simp only [impl_SumMore.l0]
      rw [if_pos (by omega), if_pos (by omega), bt_nat x hlt, ← bits_xor32 hs hb, Int.emod_eq_of_lt (by omega) (by omega)]
      rfl
    · rw [w64 (by omega) (by omega)]
      exact ih _ (i + 1) (by omega) (by omega) (halves_lt 8 (Nat.xor_lt_two_pow hs hb))
theorem impl_SumMore_ev (x : ByteArray) (hx : x.size ≤ 140737488351232) {s : Nat} (hs : s < 2 ^ 32) : Ev (fun k => impl_SumMore.f k (s : Int) x) ((sumN s x.data.toList : Nat) : Int) := by
  have h := impl_SumMore_l0 x hx x.size s 0 (by omega) (by omega) hs
  rw [List.drop_zero] at h
  exact h

def sumT (x : ByteArray) : Nat := sumN 4294967295 x.data.toList
theorem sumT_lt (x : ByteArray) : sumT x < 2 ^ 32 := sumN_lt _ (by omega)
theorem impl_SumOf_ev (x : ByteArray) (hx : x.size ≤ 140737488351232) : Ev (fun k => impl_SumOf.f k x) ((sumT x : Nat) : Int) := by
  unfold impl_SumOf.f
  exact Ev.bind (impl_SumMore_ev x hx (s := 4294967295) (by omega)) (Ev.now _)

def four (n : Nat) : ByteArray := strOfNums [((n : Int) / 16777216) % 256, ((n : Int) / 65536) % 256, ((n : Int) / 256) % 256, (n : Int) % 256]
theorem four_size (n : Nat) : (four n).size = 4 := by simp [four, strOfNums_size]
def sealedV (s : ByteArray) : ByteArray × Bool := if (s.size : Int) > 20000 then ((⟨#[]⟩ : ByteArray), false) else (s ++ four (sumT s), true)

/-! ### numbers in bytes -/
/-- The bytes of a number below 128 ^ (f + 1). -/
def varF : Nat → Nat → List Int
  | 0, n => [(n : Int)]
  | f + 1, n => if 127 < n then ((n % 128 + 128 : Nat) : Int) :: varF f (n / 128) else [(n : Int)]
theorem varF_length (f : Nat) : ∀ n, 1 ≤ (varF f n).length ∧ (varF f n).length ≤ f + 1 := by
  induction f with
  | zero => intro n; simp [varF]
  | succ f ih =>
    intro n
    unfold varF
    have := ih (n / 128)
    split
    · simp; omega
    · simp
/-- The text of a number. -/
def varS (n : Nat) : ByteArray := strOfNums (varF 4 n)
theorem varS_size (n : Nat) : 1 ≤ (varS n).size ∧ (varS n).size ≤ 5 := by
  unfold varS
  rw [strOfNums_size]
  exact varF_length 4 n
theorem var_byte {n : Nat} (h : 127 < n) (hn : n < 1000000000000) : (wrap64 ((Int.tmod (n : Int) 128) + 128)) % 256 = ((n % 128 + 128 : Nat) : Int) := by
  rw [Int.tmod_eq_emod_of_nonneg (by omega), w64 (by omega) (by omega)]
  omega
theorem var_next {n : Nat} (hn : n < 1000000000000) : wrap64 (Int.tdiv (n : Int) 128) = ((n / 128 : Nat) : Int) := by
  rw [Int.tdiv_eq_ediv_of_nonneg (by omega), w64 (by omega) (by omega)]
  rfl
def varTextV (n : Int) : ByteArray × Bool := if 0 ≤ n ∧ n ≤ 1000000000 then (varS n.toNat, true) else ((⟨#[]⟩ : ByteArray), false)
theorem varTextV_pos {n : Nat} (h : n ≤ 1000000000) : varTextV (n : Int) = (varS n, true) := by
  unfold varTextV
  rw [if_pos (by omega), Int.toNat_natCast]
theorem varTextV_neg {n : Nat} (h : ¬ n ≤ 1000000000) : varTextV (n : Int) = ((⟨#[]⟩ : ByteArray), false) := by
  unfold varTextV
  rw [if_neg (by omega)]
theorem varS_len (n : Nat) : (varS n).size = (varF 4 n).length := strOfNums_size _

theorem impl_VarText_l0 (f : Nat) : ∀ (n : Nat) (acc : List Int), n < 128 ^ (f + 1) → f ≤ 4 → acc.length + f < 1000 → Ev (fun k => impl_VarText.l0 k (n : Int) acc) (strOfNums (acc ++ varF f n), true) := by
  induction f with
  | zero =>
    intro n acc hn hf ha
    refine Ev.step (f := fun _ => some (strOfNums (acc ++ [(n : Int)]), true)) (fun k => ?_) (Ev.now _)
    simp only [impl_VarText.l0]
    rw [if_neg (by omega), if_pos (by omega), Int.emod_eq_of_lt (by omega) (by omega)]
  | succ f ih =>
    intro n acc hn hf ha
    have h5 : 128 ^ (f + 1 + 1) ≤ 128 ^ 5 := Nat.pow_le_pow_right (by omega) (by omega)
    have hp : 128 ^ (f + 1 + 1) = 128 * 128 ^ (f + 1) := by rw [Nat.pow_succ]; omega
    unfold varF
    by_cases h : 127 < n
    · rw [if_pos h]
      refine Ev.step (f := fun k => impl_VarText.l0 k ((n / 128 : Nat) : Int) (acc ++ [((n % 128 + 128 : Nat) : Int)])) (fun k => ?_) ?_
      · simp only [impl_VarText.l0]
        rw [if_pos (by omega), if_pos (by omega), var_byte h (by omega), var_next (by omega)]
      · have := ih (n / 128) (acc ++ [((n % 128 + 128 : Nat) : Int)]) (by omega) (by omega) (by simp; omega)
        rw [List.append_assoc, List.singleton_append] at this
        exact this
    · rw [if_neg h]
      refine Ev.step (f := fun _ => some (strOfNums (acc ++ [(n : Int)]), true)) (fun k => ?_) (Ev.now _)
      simp only [impl_VarText.l0]
      rw [if_neg (by omega), if_pos (by omega), Int.emod_eq_of_lt (by omega) (by omega)]
theorem impl_VarText_ev (n : Int) : Ev (fun k => impl_VarText.f k n) (varTextV n) := by
  unfold varTextV impl_VarText.f
  simp only [impl_within_eq, Option.bind_some, decide_eq_true_eq]
  by_cases h : 0 ≤ n ∧ n ≤ 1000000000
  · simp only [if_pos h]
    obtain ⟨m, rfl⟩ := Int.eq_ofNat_of_zero_le h.1
    exact impl_VarText_l0 4 m [] (by omega) (by omega) (by simp)
  · simp only [if_neg h]
    exact Ev.now _

/-! ### a number read out of bytes -/
theorem rv_bt (s : ByteArray) {i : Nat} (h : i < s.size) : bt s (i : Int) = ((s.data.toList[i]'h).toNat : Int) := by
  unfold bt
  rw [dif_pos (by simpa using h)]
  rfl
theorem rv_drop (s : ByteArray) {i : Nat} (h : i < s.size) : s.data.toList.drop i = (s.data.toList[i]'h) :: s.data.toList.drop (i + 1) := List.drop_eq_getElem_cons h
/-- At most f bytes from here on: the number, and how many bytes it took. -/
def scan : Nat → List UInt8 → Nat → Nat → Nat → Option (Nat × Nat)
  | 0, _, _, _, _ => none
  | _ + 1, [], _, _, _ => none
  | f + 1, c :: cs, n, sc, m => if c.toNat < 128 then some (n + c.toNat % 128 * sc, m + 1) else scan f cs (n + c.toNat % 128 * sc) (sc * 128) (m + 1)
def outV (p : Nat) : Option (Nat × Nat) → Int × Int × Bool
  | none => (0, 0, false)
  | some (n, m) => if n ≤ 1000000000 ∧ (varF 4 n).length = m then ((n : Int), ((p + m : Nat) : Int), true) else (0, 0, false)
def readVarV (s : ByteArray) (p : Int) : Int × Int × Bool := if 0 ≤ p ∧ p ≤ (s.size : Int) then outV p.toNat (scan 5 (s.data.toList.drop p.toNat) 0 1 0) else (0, 0, false)
def dec : List UInt8 → Nat
  | [] => 0
  | c :: cs => c.toNat % 128 + 128 * dec cs
theorem dec_snoc (ds : List UInt8) (c : UInt8) : dec (ds ++ [c]) = dec ds + c.toNat % 128 * 128 ^ ds.length := by
  induction ds with
  | nil => simp [dec]
  | cons d ds ih =>
    simp only [List.cons_append, dec, ih, List.length_cons, Nat.pow_succ, Nat.mul_add]
    rw [← Nat.add_assoc, Nat.mul_left_comm, Nat.mul_comm 128 (128 ^ ds.length)]
theorem dec_lt (ds : List UInt8) : dec ds < 128 ^ ds.length := by
  induction ds with
  | nil => simp [dec]
  | cons d ds ih =>
    simp only [dec, List.length_cons, Nat.pow_succ]
    omega
def numsU (l : List UInt8) : List Int := l.map fun b => (b.toNat : Int)
theorem varF_dec (c : UInt8) (hc : c.toNat < 128) (ds : List UInt8) : ∀ f, (∀ b ∈ ds, 128 ≤ b.toNat) → ds.length ≤ f → (varF f (dec (ds ++ [c]))).length = ds.length + 1 → varF f (dec (ds ++ [c])) = numsU (ds ++ [c]) := by
  induction ds with
  | nil =>
    intro f _ _ _
    have e : dec ([] ++ [c]) = c.toNat := by simp [dec]; omega
    rw [e]
    cases f with
    | zero => rfl
    | succ f => unfold varF; rw [if_neg (by omega)]; rfl
  | cons d ds ih =>
    intro f hb hf hl
    obtain ⟨f, rfl⟩ : ∃ g, f = g + 1 := ⟨f - 1, by simp at hf; omega⟩
    have hd : 128 ≤ d.toNat := hb d (by simp)
    have hd2 := d.toNat_lt
    simp only [List.cons_append, dec] at hl ⊢
    unfold varF at hl ⊢
    have hN : (d.toNat % 128 + 128 * dec (ds ++ [c])) % 128 = d.toNat % 128 := by omega
    have hD : (d.toNat % 128 + 128 * dec (ds ++ [c])) / 128 = dec (ds ++ [c]) := by omega
    by_cases h : 127 < d.toNat % 128 + 128 * dec (ds ++ [c])
    · rw [if_pos h, hN, hD] at hl ⊢
      rw [ih f (fun b hb' => hb b (by simp [hb'])) (by simpa using hf) (by simpa using hl)]
      show ((d.toNat % 128 + 128 : Nat) : Int) :: _ = ((d.toNat : Nat) : Int) :: _
      rw [show d.toNat % 128 + 128 = d.toNat by omega]
      rfl
    · rw [if_neg h] at hl
      simp at hl
theorem strOfNums_numsU (l : List UInt8) : (strOfNums (numsU l)).data.toList = l := by
  simp only [strOfNums, numsU, List.map_map]
  induction l with
  | nil => rfl
  | cons b l ih =>
    simp
    exact ih
theorem rv_text (s : ByteArray) {p m : Nat} (h : p + m ≤ s.size) (l : List UInt8) (hl : (s.data.toList.drop p).take m = l) (n : Nat) (hv : varF 4 n = numsU l) : varS n = s.extract p (p + m) := by
  apply str_ext
  unfold varS
  rw [hv, strOfNums_numsU, str_cut, Nat.add_sub_cancel_left, hl]
/-- One figure's share. -/
theorem rv_share {c i n : Nat} (hi : i ≤ 4) (hn : n < 128 ^ i) : n + c % 128 * 128 ^ i < 128 ^ (i + 1) ∧ n + c % 128 * 128 ^ i < 128 ^ 5 ∧ c % 128 * 128 ^ i < 128 ^ 5 ∧ 128 ^ i ≤ 128 ^ 4 := by
  have h1 : c % 128 ≤ 127 := by omega
  have h2 : c % 128 * 128 ^ i ≤ 127 * 128 ^ i := Nat.mul_le_mul_right _ h1
  have h3 : 128 ^ (i + 1) = 128 ^ i * 128 := Nat.pow_succ _ _
  have h4 : 128 ^ (i + 1) ≤ 128 ^ 5 := Nat.pow_le_pow_right (by omega) (by omega)
  have h5 : 128 ^ i ≤ 128 ^ 4 := Nat.pow_le_pow_right (by omega) (by omega)
  generalize c % 128 * 128 ^ i = q at h2 ⊢
  generalize 128 ^ i = e at h2 h3 h5 hn ⊢
  rw [h3] at h4 ⊢
  omega
theorem rv_w7 {i : Nat} (hi : i ≤ 4) : wrap64 (7 * (i : Int)) = ((7 * i : Nat) : Int) := by
  rw [w64 (by omega) (by omega)]
  rfl
theorem rv_nn (n : Nat) : 0 ≤ (n : Int) := Int.natCast_nonneg n
theorem rv_shl {c i : Nat} (hi : i ≤ 4) (hc : c < 256) : shl .i64 (Int.tmod (wrap64 (c : Int)) 128) (wrap64 (7 * (i : Int))) = ((c % 128 * 128 ^ i : Nat) : Int) := by
  have h7 : wrap64 (7 * (i : Int)) = ((7 * i : Nat) : Int) := by rw [w64 (by omega) (by omega)]; rfl
  have hm : min (7 * i) 64 = 7 * i := by omega
  have hq := (rv_share (c := c) (n := 0) hi (Nat.pow_pos (by omega))).2.2.1
  unfold shl
  rw [h7, Int.toNat_natCast, show IntKind.i64.bits = 64 from rfl, hm, wnat (by omega), Int.tmod_eq_emod_of_nonneg (by omega), IntKind.wrap_i64]
  have e2 : (2 : Int) ^ (7 * i) = ((128 ^ i : Nat) : Int) := by rw [Int.natCast_pow, Int.pow_mul]; rfl
  have e3 : (c : Int) % 128 * ((128 ^ i : Nat) : Int) = ((c % 128 * 128 ^ i : Nat) : Int) := by rw [Int.natCast_mul]; rfl
  rw [e2, e3]
  generalize c % 128 * 128 ^ i = q at hq ⊢
  omega
theorem rv_mul {c i : Nat} (hi : i ≤ 4) (hc : c < 256) : wrap64 ((Int.tmod (wrap64 (c : Int)) 128) * ((128 ^ i : Nat) : Int)) = ((c % 128 * 128 ^ i : Nat) : Int) := by
  have hq := (rv_share (c := c) (n := 0) hi (Nat.pow_pos (by omega))).2.2.1
  have e3 : (c : Int) % 128 * ((128 ^ i : Nat) : Int) = ((c % 128 * 128 ^ i : Nat) : Int) := by rw [Int.natCast_mul]; rfl
  rw [wnat (by omega), Int.tmod_eq_emod_of_nonneg (by omega), e3]
  exact wnat (by omega)
theorem rv_scale {i : Nat} (hi : i ≤ 4) : wrap64 (((128 ^ i : Nat) : Int) * 128) = ((128 ^ i * 128 : Nat) : Int) := by
  have h5 : 128 ^ i ≤ 128 ^ 4 := Nat.pow_le_pow_right (by omega) (by omega)
  generalize 128 ^ i = e at h5 ⊢
  rw [w64 (by omega) (by omega)]
  rfl

theorem impl_ReadVar_stop (s : ByteArray) (p n i : Int) : Ev (fun k => impl_ReadVar.j1 k s p n i false) (0, 0, false) :=
  Ev.step (f := fun _ => some (0, 0, false)) (fun k => by simp only [impl_ReadVar.j1, Bool.false_eq_true, if_false]) (Ev.now _)
theorem impl_ReadVar_last (s : ByteArray) (hs : s.size ≤ 140737488351232) (p i n : Nat) (hlt : p + i < s.size) (hi : i ≤ 4) (hn : n < 128 ^ i) (hc : (s.data.toList[p + i]'hlt).toNat < 128) :
    Ev (fun k => impl_ReadVar.j1 k s (p : Int) (n : Int) (i : Int) true) (outV p (some (n + (s.data.toList[p + i]'hlt).toNat % 128 * 128 ^ i, i + 1))) := by
  have h7 : 0 ≤ wrap64 (7 * (i : Int)) := by rw [rv_w7 hi]; exact rv_nn _
  have hw := wadd (a := p) (b := i) (by omega)
  have hw1 := wsucc (n := i) (by omega)
  have hw2 := wsucc (n := p + i) (by omega)
  have g1 : 0 ≤ ((p + i : Nat) : Int) := rv_nn _
  have g2 : ((p + i : Nat) : Int) < (s.size : Int) := by omega
  have hb := (s.data.toList[p + i]'hlt).toNat_lt
  have g3 : ((s.data.toList[p + i]'hlt).toNat : Int) < 128 := by omega
  have hwc := wnat (n := (s.data.toList[p + i]'hlt).toNat) (by omega)
  have hN := (rv_share (c := (s.data.toList[p + i]'hlt).toNat) hi hn).2.1
  have hnn := wadd (a := n) (b := (s.data.toList[p + i]'hlt).toNat % 128 * 128 ^ i) (Nat.le_trans (Nat.le_of_lt hN) (by decide))
  have hbt := rv_bt s hlt
  have hsh := rv_shl hi hb
  generalize (s.data.toList[p + i]'hlt).toNat = c at hb hN hnn hbt hsh hc hwc g3 ⊢
  generalize hq : c % 128 * 128 ^ i = q at hN hnn hsh ⊢
  generalize hNN : n + q = N at hN hnn ⊢
  refine Ev.step (f := fun k => (impl_VarText.f k (N : Int)).bind fun b => if b.2 = true then (if (b.1.size : Int) = ((i + 1 : Nat) : Int) then some ((N : Int), ((p + i + 1 : Nat) : Int), true) else some (0, 0, false)) else some (0, 0, false)) (fun k => ?_) ?_
  · simp only [impl_ReadVar.j1, if_true]
    rw [hw, if_pos g1, if_pos g2, if_pos h7, hbt, hsh, hnn, hwc, if_pos g3, hw1, hw2]
  · refine Ev.bind (impl_VarText_ev (N : Int)) ?_
    by_cases hM : N ≤ 1000000000
    · rw [varTextV_pos hM]
      simp only [if_true, varS_len N, outV]
      by_cases hL : (varF 4 N).length = i + 1
      · simp only [if_pos (And.intro hM hL), if_pos (show ((varF 4 N).length : Int) = ((i + 1 : Nat) : Int) from congrArg Nat.cast hL)]
        exact Ev.now _
      · simp only [if_neg (show ¬ (N ≤ 1000000000 ∧ (varF 4 N).length = i + 1) from fun h => hL h.2), if_neg (show ¬ ((varF 4 N).length : Int) = ((i + 1 : Nat) : Int) from fun h => hL (Int.ofNat.inj h))]
        exact Ev.now _
    · rw [varTextV_neg hM]
      simp only [Bool.false_eq_true, if_false, outV, if_neg (show ¬ (N ≤ 1000000000 ∧ (varF 4 N).length = i + 1) from fun h => hM h.1)]
      exact Ev.now _
theorem impl_ReadVar_more (s : ByteArray) (hs : s.size ≤ 140737488351232) (p i n : Nat) (hlt : p + i < s.size) (hi : i ≤ 4) (hn : n < 128 ^ i) (hc : ¬ (s.data.toList[p + i]'hlt).toNat < 128) (k : Nat) :
    impl_ReadVar.j1 (k + 1) s (p : Int) (n : Int) (i : Int) true = impl_ReadVar.l0 k s (p : Int) ((n + (s.data.toList[p + i]'hlt).toNat % 128 * 128 ^ i : Nat) : Int) ((i + 1 : Nat) : Int) := by
  have h7 : 0 ≤ wrap64 (7 * (i : Int)) := by rw [rv_w7 hi]; exact rv_nn _
  have hw := wadd (a := p) (b := i) (by omega)
  have hw1 := wsucc (n := i) (by omega)
  have g1 : 0 ≤ ((p + i : Nat) : Int) := rv_nn _
  have g2 : ((p + i : Nat) : Int) < (s.size : Int) := by omega
  have hb := (s.data.toList[p + i]'hlt).toNat_lt
  have g3 : ¬ ((s.data.toList[p + i]'hlt).toNat : Int) < 128 := by omega
  have hwc := wnat (n := (s.data.toList[p + i]'hlt).toNat) (by omega)
  have hN := (rv_share (c := (s.data.toList[p + i]'hlt).toNat) hi hn).2.1
  have hnn := wadd (a := n) (b := (s.data.toList[p + i]'hlt).toNat % 128 * 128 ^ i) (Nat.le_trans (Nat.le_of_lt hN) (by decide))
  have hbt := rv_bt s hlt
  have hsh := rv_shl hi hb
  simp only [impl_ReadVar.j1, if_true]
  rw [hw, if_pos g1, if_pos g2, if_pos h7, hbt, hsh, hnn, hwc, if_neg g3, hw1]
theorem impl_ReadVar_l0 (s : ByteArray) (hs : s.size ≤ 140737488351232) (p : Nat) (hp : p ≤ s.size) (f : Nat) : ∀ (i n : Nat), i + f = 5 → n < 128 ^ i →
    Ev (fun k => impl_ReadVar.l0 k s (p : Int) (n : Int) (i : Int)) (outV p (scan f (s.data.toList.drop (p + i)) n (128 ^ i) i)) := by
  induction f with
  | zero =>
    intro i n hi hn
    refine Ev.step (f := fun k => impl_ReadVar.j1 k s (p : Int) (n : Int) (i : Int) false) (fun k => ?_) (impl_ReadVar_stop _ _ _ _)
    simp only [impl_ReadVar.l0]
    rw [if_neg (by omega)]
  | succ f ih =>
    intro i n hi hn
    have hw := wadd (a := p) (b := i) (by omega)
    by_cases hlt : p + i < s.size
    · refine Ev.step (f := fun k => impl_ReadVar.j1 k s (p : Int) (n : Int) (i : Int) true) (fun k => ?_) ?_
      · simp only [impl_ReadVar.l0]
        rw [if_pos (by omega), hw, decide_eq_true (show ((p + i : Nat) : Int) < (s.size : Int) by omega)]
      · rw [rv_drop s hlt]
        unfold scan
        by_cases hc : (s.data.toList[p + i]'hlt).toNat < 128
        · rw [if_pos hc]
          exact impl_ReadVar_last s hs p i n hlt (by omega) hn hc
        · rw [if_neg hc]
          have := ih (i + 1) (n + (s.data.toList[p + i]'hlt).toNat % 128 * 128 ^ i) (by omega) (rv_share (by omega) hn).1
          rw [Nat.pow_succ, show p + (i + 1) = p + i + 1 by omega] at this
          exact Ev.step (fun k => impl_ReadVar_more s hs p i n hlt (by omega) hn hc k) this
    · have hz : s.data.toList.drop (p + i) = [] := List.drop_eq_nil_of_le (by rw [str_len]; omega)
      rw [hz]
      refine Ev.step (f := fun k => impl_ReadVar.j1 k s (p : Int) (n : Int) (i : Int) false) (fun k => ?_) (impl_ReadVar_stop _ _ _ _)
      simp only [impl_ReadVar.l0]
      rw [if_pos (by omega), hw, decide_eq_false (show ¬ ((p + i : Nat) : Int) < (s.size : Int) by omega)]
theorem impl_ReadVar_ev (s : ByteArray) (hs : s.size ≤ 140737488351232) (p : Int) : Ev (fun k => impl_ReadVar.f k s p) (readVarV s p) := by
  unfold impl_ReadVar.f
  simp only [impl_within_eq, Option.bind_some, decide_eq_true_eq]
  by_cases h : 0 ≤ p ∧ p ≤ (s.size : Int)
  · simp only [if_pos h, readVarV]
    obtain ⟨q, rfl⟩ := Int.eq_ofNat_of_zero_le h.1
    have := impl_ReadVar_l0 s hs q (by omega) 5 0 0 (by omega) (by omega)
    rw [Nat.pow_zero, Nat.add_zero] at this
    exact this
  · simp only [if_neg h, readVarV]
    exact Ev.now _

theorem scan_le (f : Nat) : ∀ (l : List UInt8) (n sc m : Nat) (r : Nat × Nat), scan f l n sc m = some r → m < r.2 ∧ r.2 ≤ m + l.length := by
  induction f with
  | zero => intro l n sc m r h; simp [scan] at h
  | succ f ih =>
    intro l n sc m r h
    cases l with
    | nil => simp [scan] at h
    | cons c cs =>
      unfold scan at h
      split at h
      · injection h with h
        rw [← h]
        simp
      · have := ih _ _ _ _ _ h
        simp
        omega
/-- What ReadVar answers: no, or a number and the place behind it. -/
theorem readVar_cases (s : ByteArray) (p : Int) : readVarV s p = (0, 0, false) ∨ ∃ n q : Nat, readVarV s p = ((n : Int), (q : Int), true) ∧ n ≤ 1000000000 ∧ p < (q : Int) ∧ q ≤ s.size ∧ 0 ≤ p := by
  unfold readVarV
  by_cases h : 0 ≤ p ∧ p ≤ (s.size : Int)
  · rw [if_pos h]
    cases e : scan 5 (s.data.toList.drop p.toNat) 0 1 0 with
    | none => exact .inl rfl
    | some r =>
      obtain ⟨n, m⟩ := r
      have hle := scan_le _ _ _ _ _ _ e
      rw [List.length_drop, str_len] at hle
      unfold outV
      simp only
      split
      · rename_i h2
        refine .inr ⟨n, p.toNat + m, rfl, h2.1, ?_, ?_, h.1⟩
        · simp at hle; omega
        · simp at hle; omega
      · exact .inl rfl
  · rw [if_neg h]
    exact .inl rfl
def readShortV (s : ByteArray) (p : Int) : ByteArray × Int × Bool :=
  let r := readVarV s p
  if r.2.2 = true ∧ r.1 ≤ 20000 ∧ r.1 ≤ (s.size : Int) - r.2.1 then (s.extract r.2.1.toNat (r.2.1 + r.1).toNat, r.2.1 + r.1, true) else ((⟨#[]⟩ : ByteArray), 0, false)

def frameV (s : ByteArray) : ByteArray × Bool := if 1 ≤ (s.size : Int) ∧ (s.size : Int) ≤ 9000 then (varS s.size ++ four (sumT s) ++ s, true) else ((⟨#[]⟩ : ByteArray), false)

theorem impl_Frame_ev (s : ByteArray) : Ev (fun k => impl_Frame.f k s) (frameV s) := by
  unfold impl_Frame.f frameV
  simp only [impl_within_eq, Option.bind_some, decide_eq_true_eq]
  by_cases h : 1 ≤ (s.size : Int) ∧ (s.size : Int) ≤ 9000
  · simp only [if_pos h]
    refine Ev.bind (impl_VarText_ev (s.size : Int)) (Ev.bind (impl_SumOf_ev s (by omega)) ?_)
    rw [varTextV_pos (by omega)]
    have h4 := four_size (sumT s)
    have h5 := varS_size s.size
    have e1 : (varS s.size).size + (four (sumT s)).size ≤ 9223372036854775807 := by omega
    have e2 : (varS s.size ++ four (sumT s)).size + s.size ≤ 9223372036854775807 := by rw [ByteArray.size_append]; omega
    unfold four at e1 e2 ⊢
    simp only [if_pos e1, if_pos e2]
    exact Ev.now _
  · simp only [if_neg h]
    exact Ev.now _

/-! ### records out of frames -/
def stepOk (s : ByteArray) (p : Nat) : Bool :=
  let r := readVarV s (p : Int)
  r.2.2 && decide (r.1 ≤ (s.size : Int) - r.2.1 - 4) && (frameV (s.extract (r.2.1.toNat + 4) (r.2.1.toNat + 4 + r.1.toNat))).2 && decide ((frameV (s.extract (r.2.1.toNat + 4) (r.2.1.toNat + 4 + r.1.toNat))).1 = s.extract p (r.2.1.toNat + 4 + r.1.toNat))
def stepText (s : ByteArray) (p : Nat) : ByteArray := let r := readVarV s (p : Int); s.extract (r.2.1.toNat + 4) (r.2.1.toNat + 4 + r.1.toNat)
def stepEnd (s : ByteArray) (p : Nat) : Nat := let r := readVarV s (p : Int); r.2.1.toNat + 4 + r.1.toNat
def unfF : Nat → ByteArray → List ByteArray → Nat → List ByteArray × Int
  | 0, _, out, p => (out, (p : Int))
  | f + 1, s, out, p => if stepOk s p = true then unfF f s (out ++ [stepText s p]) (stepEnd s p) else (out, (p : Int))
def unframeV (s : ByteArray) : List ByteArray × Int := if (s.size : Int) > 20000 then ([], 0) else unfF (s.size + 1) s [] 0
theorem unfF_len (f : Nat) : ∀ (s : ByteArray) (out : List ByteArray) (p : Nat), (unfF f s out p).1.length ≤ out.length + f := by
  induction f with
  | zero => intro s out p; simp [unfF]
  | succ f ih =>
    intro s out p
    unfold unfF
    split
    · have := ih s (out ++ [stepText s p]) (stepEnd s p)
      rw [List.length_append, List.length_singleton] at this
      omega
    · simp

theorem impl_Unframe_l0 (s : ByteArray) (hs : s.size ≤ 20000) (f : Nat) : ∀ (out : List ByteArray) (p : Nat), p ≤ s.size → s.size < p + f → out.length ≤ p → Ev (fun k => impl_Unframe.l0 k s out (p : Int)) (unfF f s out p) := by
  induction f with
  | zero => intro out p hp hf; omega
  | succ f ih =>
    intro out p hp hf ho
    refine Ev.step (f := fun k => (impl_ReadVar.f k s (p : Int)).bind fun b => if b.2.2 = true then impl_Unframe.j1 k s out (p : Int) b.1 b.2.1 (decide (b.1 > wrap64 (wrap64 ((s.size : Int) - b.2.1) - 4))) else impl_Unframe.j1 k s out (p : Int) b.1 b.2.1 true) (fun k => by simp only [impl_Unframe.l0]) ?_
    refine Ev.bind (impl_ReadVar_ev s (by omega) (p : Int)) ?_
    have stop : ∀ x y : Int, Ev (fun k => impl_Unframe.j1 k s out (p : Int) x y true) (out, (p : Int)) := fun x y => Ev.step (f := fun _ => some (out, (p : Int))) (fun k => by simp only [impl_Unframe.j1, if_true]) (Ev.now _)
    unfold unfF
    rcases readVar_cases s (p : Int) with h | ⟨n, q, h, hn, hq, hqs, _⟩
    · rw [if_neg (by unfold stepOk; rw [h]; simp)]
      simp only [h, Bool.false_eq_true, if_false]
      exact stop _ _
    · have e1 : wrap64 (wrap64 ((s.size : Int) - (q : Int)) - 4) = (s.size : Int) - (q : Int) - 4 := by rw [w64 (x := (s.size : Int) - (q : Int)) (by omega) (by omega), w64 (by omega) (by omega)]
      simp only [h, if_true, e1]
      by_cases hc : (n : Int) > (s.size : Int) - (q : Int) - 4
      · rw [if_neg (by unfold stepOk; rw [h]; simp; intro h2; omega)]
        rw [decide_eq_true hc]
        exact stop _ _
      · rw [decide_eq_false hc]
        have e2 : wrap64 ((q : Int) + 4) = ((q + 4 : Nat) : Int) := by rw [w64 (by omega) (by omega)]; rfl
        have e3 : wrap64 (((q + 4 : Nat) : Int) + (n : Int)) = ((q + 4 + n : Nat) : Int) := by rw [w64 (by omega) (by omega)]; rfl
        have et : stepText s p = s.extract (q + 4) (q + 4 + n) := by unfold stepText; rw [h]; rfl
        have ee : stepEnd s p = q + 4 + n := by unfold stepEnd; rw [h]; rfl
        have eo : stepOk s p = ((frameV (s.extract (q + 4) (q + 4 + n))).2 && decide ((frameV (s.extract (q + 4) (q + 4 + n))).1 = s.extract p (q + 4 + n))) := by
          unfold stepOk
          rw [h]
          simp only [Int.toNat_natCast, Bool.true_and, decide_eq_true (show (n : Int) ≤ (s.size : Int) - (q : Int) - 4 by omega)]
        rw [et, ee, eo]
        refine Ev.step (f := fun k => (impl_Frame.f k (s.extract (q + 4) (q + 4 + n))).bind fun b => if b.2 = true then (if b.1.toList = (s.extract p (q + 4 + n)).toList then impl_Unframe.l0 k s (out ++ [s.extract (q + 4) (q + 4 + n)]) ((q + 4 + n : Nat) : Int) else some (out, (p : Int))) else some (out, (p : Int))) (fun k => ?_) (Ev.bind (impl_Frame_ev _) ?_)
        · simp only [impl_Unframe.j1, Bool.false_eq_true, if_false, e2, e3, Int.toNat_natCast]
          rw [if_pos (by omega), if_pos (by omega), if_pos (by omega)]
          simp only [if_pos (show 0 ≤ (p : Int) by omega), if_pos (show (p : Int) ≤ ((q + 4 + n : Nat) : Int) by omega), if_pos (show out.length < 8796093022208 by omega)]
        · cases hfr : (frameV (s.extract (q + 4) (q + 4 + n))).2 with
          | false =>
            simp only [Bool.false_and, Bool.false_eq_true, if_false]
            exact Ev.now _
          | true =>
            simp only [Bool.true_and, if_true, str_toList, decide_eq_true_eq]
            by_cases he : (frameV (s.extract (q + 4) (q + 4 + n))).1 = s.extract p (q + 4 + n)
            · simp only [if_pos he]
              exact ih _ _ (by omega) (by omega) (by simp; omega)
            · simp only [if_neg he]
              exact Ev.now _
theorem impl_Unframe_ev (s : ByteArray) : Ev (fun k => impl_Unframe.f k s) (unframeV s) := by
  unfold impl_Unframe.f unframeV
  by_cases h : (s.size : Int) > 20000
  · simp only [if_pos h, Option.bind_some]
    exact Ev.now _
  · simp only [if_neg h, Option.bind_some]
    exact impl_Unframe_l0 s (by omega) (s.size + 1) [] 0 (by omega) (by omega) (by simp)

/-! ### lists of texts, compared -/
theorem rdB_nat {l : List ByteArray} {i : Nat} (h : i < l.length) : rdOf ByteArray.empty l (i : Int) = l[i] := by
  unfold rdOf
  rw [Int.toNat_natCast, List.getD_eq_getElem?_getD, List.getElem?_eq_getElem h]
  rfl
theorem sameT_ev (l : List ByteArray) (hl : l.length ≤ 4611686018427387904) : Ev (fun k => laws_sameTexts.f k l l) true := by
  have key : ∀ d (i : Nat), i ≤ l.length → l.length - i = d → Ev (fun k => laws_sameTexts.l0 k l l (i : Int)) true := by
    intro d
    induction d with
    | zero =>
      intro i hi hd
      exact Ev.step (f := fun _ => some true) (fun k => by simp only [laws_sameTexts.l0]; rw [if_neg (by omega)]) (Ev.now _)
    | succ d ih =>
      intro i hi hd
      refine Ev.step (fun k => ?_) (ih (i + 1) (by omega) (by omega))
      simp only [laws_sameTexts.l0]
      rw [if_pos (by omega), if_pos (by omega), if_pos (by omega), wsucc (by omega)]
      simp only [if_true]
  unfold laws_sameTexts.f
  simp only [if_true]
  exact key l.length 0 (by omega) (by omega)

/-! ### what is drawn -/
theorem and255_range (x : Int) : 0 ≤ Go.bits .and .i64 x 255 ∧ Go.bits .and .i64 x 255 ≤ 255 := by
  have e : ((BitVec.ofInt 64 x) &&& (BitVec.ofInt 64 255)).toNat = (x % 18446744073709551616).toNat % 256 := by
    rw [BitVec.toNat_and, BitVec.toNat_ofInt, show (BitVec.ofInt 64 255).toNat = 2 ^ 8 - 1 by decide, Nat.and_two_pow_sub_one_eq_mod]
    rfl
  have e2 : Go.bits .and .i64 x 255 = IntKind.i64.wrap (((BitVec.ofInt 64 x) &&& (BitVec.ofInt 64 255)).toNat : Int) := rfl
  rw [e2, e, IntKind.wrap_i64]
  omega
theorem byte_ex (l : List Int) (i h : Int) (hl : l.length ≤ 140737488351232) (hi : 0 ≤ i) : ∃ x i' h', spec_l01Byte.f l i h = some (x, i', h') ∧ 0 ≤ x ∧ x ≤ 255 ∧ 0 ≤ i' := by
  unfold spec_l01Byte.f
  by_cases c : i < (l.length : Int)
  · rw [if_pos c, if_pos hi]
    refine ⟨_, _, _, rfl, (and255_range _).1, (and255_range _).2, ?_⟩
    rw [w64 (by omega) (by omega)]
    omega
  · rw [if_neg c]
    exact ⟨_, _, _, rfl, (and255_range _).1, (and255_range _).2, hi⟩
theorem below_ex (l : List Int) (i h n : Int) (hl : l.length ≤ 140737488351232) (hi : 0 ≤ i) (hn : n ≤ 4294967296) : ∃ x i' h', spec_l01Below.f l i h n = some (x, i', h') ∧ 0 ≤ x ∧ (0 < n → x < n) ∧ (n ≤ 0 → x = 0) ∧ 0 ≤ i' := by
  unfold spec_l01Below.f
  by_cases c1 : n ≤ 0
  · rw [if_pos c1]
    exact ⟨_, _, _, rfl, by omega, by omega, fun _ => rfl, hi⟩
  · rw [if_neg c1]
    by_cases c2 : n ≤ 256
    · rw [if_pos c2]
      obtain ⟨x, i1, h1, e1, b0, b1, hi1⟩ := byte_ex l i h hl hi
      simp only [e1, Option.bind_some]
      rw [if_neg (by omega)]
      refine ⟨_, _, _, rfl, Int.tmod_nonneg _ b0, fun _ => ?_, by omega, hi1⟩
      exact Int.tmod_lt_of_pos _ (by omega)
    · rw [if_neg c2]
      obtain ⟨x, i1, h1, e1, x0, x1, hi1⟩ := byte_ex l i h hl hi
      obtain ⟨y, i2, h2, e2, y0, y1, hi2⟩ := byte_ex l i1 h1 hl hi1
      obtain ⟨z, i3, h3, e3, z0, z1, hi3⟩ := byte_ex l i2 h2 hl hi2
      obtain ⟨u, i4, h4, e4, u0, u1, hi4⟩ := byte_ex l i3 h3 hl hi3
      simp only [e1, e2, e3, e4, Option.bind_some]
      rw [if_neg (by omega)]
      refine ⟨_, _, _, rfl, Int.tmod_nonneg _ ?_, fun _ => Int.tmod_lt_of_pos _ (by omega), by omega, hi4⟩
      rw [w64 (x := x * 16777216) (by omega) (by omega), w64 (x := y * 65536) (by omega) (by omega), w64 (x := z * 256) (by omega) (by omega), w64 (x := x * 16777216 + y * 65536) (by omega) (by omega), w64 (x := x * 16777216 + y * 65536 + z * 256) (by omega) (by omega), w64 (by omega) (by omega)]
      omega
theorem new_ev (l : List Int) (hl : l.length ≤ 140737488351232) : ∃ h, Ev (fun k => spec_l01New.f k l) (l, 0, h) := by
  have key : ∀ d (i : Nat) (h : Int), l.length - i = d → ∃ h', Ev (fun k => spec_l01New.l0 k l h (i : Int)) (l, 0, h') := by
    intro d
    induction d with
    | zero =>
      intro i h hd
      exact ⟨h, Ev.step (f := fun _ => some (l, 0, h)) (fun k => by simp only [spec_l01New.l0]; rw [if_neg (by omega)]) (Ev.now _)⟩
    | succ d ih =>
      intro i h hd
      by_cases c : (i : Int) < 4000
      · obtain ⟨h', hh⟩ := ih (i + 1) _ (by omega)
        refine ⟨h', Ev.step (fun k => ?_) hh⟩
        simp only [spec_l01New.l0]
        rw [if_pos (by omega), if_pos c, if_pos (by omega), wsucc (by omega)]
      · exact ⟨h, Ev.step (f := fun _ => some (l, 0, h)) (fun k => by simp only [spec_l01New.l0]; rw [if_pos (by omega), if_neg c]) (Ev.now _)⟩
  obtain ⟨h', hh⟩ := key l.length 0 (wrap64 (36801 + (l.length : Int))) (by omega)
  exact ⟨h', hh⟩

theorem places_ev (l : List Int) (hl : l.length ≤ 140737488351232) : ∃ p : List Int, Ev (fun k => spec_DrawPlaces.f k l) p ∧ p.length = 12 ∧ ∀ x ∈ p, 0 ≤ x ∧ x < 10000 := by
  obtain ⟨h0, hn⟩ := new_ev l hl
  obtain ⟨x, i1, h1, e1, x0, x1, hi1⟩ := byte_ex l 0 h0 hl (by omega)
  have key : ∀ d (j : Nat) (acc : List Int) (i h : Int), j ≤ 12 → 12 - j = d → acc.length = j → (∀ x ∈ acc, 0 ≤ x ∧ x < 10000) → 0 ≤ i → ∃ p : List Int, Ev (fun k => spec_DrawPlaces.l0 k acc (j : Int) l i h) p ∧ p.length = 12 ∧ ∀ x ∈ p, 0 ≤ x ∧ x < 10000 := by
    intro d
    induction d with
    | zero =>
      intro j acc i h hj hd ha hb hi
      exact ⟨acc, Ev.step (f := fun _ => some acc) (fun k => by simp only [spec_DrawPlaces.l0]; rw [if_neg (by omega)]) (Ev.now _), by omega, hb⟩
    | succ d ih =>
      intro j acc i h hj hd ha hb hi
      obtain ⟨y, i2, h2, e2, y0, y1, _, hi2⟩ := below_ex l i h 10000 hl hi (by omega)
      obtain ⟨p, hp, hp1, hp2⟩ := ih (j + 1) (acc ++ [y]) i2 h2 (by omega) (by omega) (by simp; omega) (by
        intro z hz
        rcases List.mem_append.1 hz with hz | hz
        · exact hb z hz
        · rw [List.mem_singleton.1 hz]; exact ⟨y0, y1 (by omega)⟩) hi2
      refine ⟨p, Ev.step (fun k => ?_) hp, hp1, hp2⟩
      simp only [spec_DrawPlaces.l0]
      rw [if_pos (by omega), e2]
      simp only [Option.bind_some]
      rw [if_pos (by omega), wsucc (by omega)]
  obtain ⟨p, hp, hp1, hp2⟩ := key 12 0 [] i1 h1 (by omega) (by omega) rfl (by simp) hi1
  refine ⟨p, ?_, hp1, hp2⟩
  unfold spec_DrawPlaces.f
  refine Ev.bind hn ?_
  simp only [e1, Option.bind_some]
  exact hp
theorem rd_mem {p : List Int} {n : Nat} (h : n < p.length) : rd p (n : Int) ∈ p := by
  unfold rd
  rw [Int.toNat_natCast, List.getD_eq_getElem?_getD, List.getElem?_eq_getElem h]
  exact List.getElem_mem h

theorem once_ex (l : List Int) (i h n : Int) (hl : l.length ≤ 140737488351232) (hi : 0 ≤ i) (hn : n ≤ 4294967296) : ∃ b i' h', spec_l01Once.f l i h n = some (b, i', h') ∧ 0 ≤ i' := by
  obtain ⟨x, i1, h1, e1, _, _, _, hi1⟩ := below_ex l i h n hl hi hn
  unfold spec_l01Once.f
  simp only [e1, Option.bind_some]
  exact ⟨_, _, _, rfl, hi1⟩
theorem text_ev (l : List Int) (i h n : Int) (hl : l.length ≤ 140737488351232) (hi : 0 ≤ i) (hn : n ≤ 5000) : ∃ t i' h', Ev (fun k => spec_l01Text.f k l i h n) (t, i', h') ∧ t.size = n.toNat ∧ 0 ≤ i' := by
  have key : ∀ d (j : Nat) (acc : List Int) (i h : Int), j ≤ n.toNat → n.toNat - j = d → acc.length = j → 0 ≤ i → ∃ t i' h', Ev (fun k => spec_l01Text.l0 k n acc (j : Int) l i h) (t, i', h') ∧ t.size = n.toNat ∧ 0 ≤ i' := by
    intro d
    induction d with
    | zero =>
      intro j acc i h hj hd ha hi
      refine ⟨strOfNums acc, i, h, Ev.step (f := fun _ => some (strOfNums acc, i, h)) (fun k => by simp only [spec_l01Text.l0]; rw [if_neg (by omega)]) (Ev.now _), ?_, hi⟩
      rw [strOfNums_size]
      omega
    | succ d ih =>
      intro j acc i h hj hd ha hi
      obtain ⟨y, i2, h2, e2, _, _, hi2⟩ := byte_ex l i h hl hi
      obtain ⟨t, i3, h3, hp, hp1, hp2⟩ := ih (j + 1) (acc ++ [y % 256]) i2 h2 (by omega) (by omega) (by simp; omega) hi2
      refine ⟨t, i3, h3, Ev.step (fun k => ?_) hp, hp1, hp2⟩
      simp only [spec_l01Text.l0]
      rw [if_pos (by omega), e2]
      simp only [Option.bind_some]
      rw [if_pos (by omega), wsucc (by omega)]
  obtain ⟨t, i', h', ht, hs, hi'⟩ := key n.toNat 0 [] i h (by omega) (by omega) rfl hi
  refine ⟨t, i', h', ?_, hs, hi'⟩
  unfold spec_l01Text.f
  simp only [if_neg (show ¬ n > 5000 by omega)]
  exact Ev.step (fun k => by simp only [spec_l01Text.j0]; rfl) ht
theorem long_ev (n : Nat) (x : Int) (hn : n ≤ 100000) : ∃ t, Ev (fun k => spec_l01Long.f k (n : Int) x) t ∧ t.size = n := by
  have key : ∀ d (j : Nat) (acc : List Int), j ≤ n → n - j = d → acc.length = n → ∃ t, Ev (fun k => spec_l01Long.l0 k (n : Int) x acc (j : Int)) t ∧ t.size = n := by
    intro d
    induction d with
    | zero =>
      intro j acc hj hd ha
      exact ⟨strOfNums acc, Ev.step (f := fun _ => some (strOfNums acc)) (fun k => by simp only [spec_l01Long.l0]; rw [if_neg (by omega)]) (Ev.now _), by rw [strOfNums_size]; exact ha⟩
    | succ d ih =>
      intro j acc hj hd ha
      obtain ⟨t, ht, hs⟩ := ih (j + 1) (acc.set j x) (by omega) (by omega) (by rw [List.length_set]; exact ha)
      refine ⟨t, Ev.step (fun k => ?_) ht, hs⟩
      simp only [spec_l01Long.l0]
      rw [if_pos (by omega), if_pos (by omega), if_pos (by omega), wsucc (by omega)]
      rfl
  obtain ⟨t, ht, hs⟩ := key n 0 (List.replicate n 0) (by omega) (by omega) (by simp)
  refine ⟨t, ?_, hs⟩
  unfold spec_l01Long.f
  simp only [if_pos (show 0 ≤ (n : Int) by omega), Int.toNat_natCast, if_pos (show n ≤ 281474976710656 by omega)]
  exact ht

theorem drawHex_ev (l : List Int) (hl : l.length ≤ 140737488351232) : ∃ t, Ev (fun k => spec_DrawHex.f k l) t := by
  obtain ⟨h0, hn⟩ := new_ev l hl
  obtain ⟨b, i1, h1, e1, hi1⟩ := once_ex l 0 h0 60 hl (by omega) (by omega)
  cases b with
  | true =>
    obtain ⟨x, i2, h2, e2, x0, x1, _, hi2⟩ := below_ex l i1 h1 2 hl hi1 (by omega)
    obtain ⟨n, hx⟩ := Int.eq_ofNat_of_zero_le x0
    subst hx
    have hx1 := x1 (by omega)
    obtain ⟨t, ht, hs⟩ := long_ev (20000 + n) 200 (by omega)
    have hw : wrap64 (20000 + (n : Int)) = ((20000 + n : Nat) : Int) := by rw [w64 (by omega) (by omega)]; omega
    rw [← hw] at ht
    exact ⟨t, Ev.bind hn (Ev.some_bind e1 (Ev.pos rfl (Ev.some_bind e2 (Ev.bind ht (Ev.now _)))))⟩
  | false =>
    obtain ⟨x, i2, h2, e2, x0, x1, _, hi2⟩ := below_ex l i1 h1 30 hl hi1 (by omega)
    have hx1 := x1 (by omega)
    obtain ⟨t, i3, h3, ht, hs, _⟩ := text_ev l i2 h2 x hl hi2 (by omega)
    exact ⟨t, Ev.bind hn (Ev.some_bind e1 (Ev.neg Bool.false_ne_true (Ev.some_bind e2 (Ev.bind ht (Ev.now _)))))⟩

/-! ### frames, read back -/
def bs (f n : Nat) : List UInt8 := (varF f n).map fun x => UInt8.ofNat x.toNat
theorem bs_length (f n : Nat) : (bs f n).length = (varF f n).length := by simp [bs]
theorem varS_list (n : Nat) : (varS n).data.toList = bs 4 n := by simp [varS, strOfNums, bs]
theorem u8_nat {x : Nat} (h : x < 256) : (UInt8.ofNat x).toNat = x := by
  rw [UInt8.toNat_ofNat']
  omega
theorem bs_more {f n : Nat} (h : 127 < n) : bs (f + 1) n = UInt8.ofNat (n % 128 + 128) :: bs f (n / 128) := by
  unfold bs
  rw [varF, if_pos h]
  rfl
theorem bs_one {f n : Nat} (h : ¬ 127 < n) : bs f n = [UInt8.ofNat n] := by
  unfold bs
  cases f with
  | zero => rfl
  | succ f => rw [varF, if_neg h]; rfl
theorem scan_one {f n : Nat} (h : n < 128) (rest : List UInt8) (acc sc m : Nat) : scan (f + 1) (UInt8.ofNat n :: rest) acc sc m = some (acc + n * sc, m + 1) := by
  unfold scan
  rw [u8_nat (by omega), if_pos h, Nat.mod_eq_of_lt h]
theorem scan_var (f : Nat) : ∀ (n : Nat) (rest : List UInt8) (acc sc m : Nat), n < 128 ^ (f + 1) → scan (f + 1) (bs f n ++ rest) acc sc m = some (acc + n * sc, m + (varF f n).length) := by
  induction f with
  | zero =>
    intro n rest acc sc m hn
    rw [bs_one (by omega)]
    exact scan_one (by omega) rest acc sc m
  | succ f ih =>
    intro n rest acc sc m hn
    have hp : 128 ^ (f + 1 + 1) = 128 * 128 ^ (f + 1) := by rw [Nat.pow_succ]; omega
    by_cases h : 127 < n
    · have e : (varF (f + 1) n).length = (varF f (n / 128)).length + 1 := by rw [varF, if_pos h]; rfl
      rw [bs_more h, List.cons_append]
      unfold scan
      rw [u8_nat (by omega), if_neg (by omega), ih _ _ _ _ _ (by omega), e]
      congr 2
      · have h1 : (n % 128 + 128) % 128 = n % 128 := by omega
        rw [h1, Nat.add_assoc]
        congr 1
        have h2 : n / 128 * (sc * 128) = 128 * (n / 128) * sc := by rw [Nat.mul_comm sc 128, ← Nat.mul_assoc, Nat.mul_comm (n / 128) 128]
        rw [h2, ← Nat.add_mul]
        congr 1
        omega
      · omega
    · have e : (varF (f + 1) n).length = 1 := by rw [varF, if_neg h]; rfl
      rw [bs_one h, e]
      exact scan_one (by omega) rest acc sc m
theorem scan_cut (f : Nat) : ∀ (n j acc sc m : Nat), j < (varF f n).length → scan (f + 1) ((bs f n).take j) acc sc m = none := by
  induction f with
  | zero =>
    intro n j acc sc m hj
    obtain rfl : j = 0 := by simp [varF] at hj; omega
    simp [scan]
  | succ f ih =>
    intro n j acc sc m hj
    cases j with
    | zero => simp [scan]
    | succ j =>
      by_cases h : 127 < n
      · have e : (varF (f + 1) n).length = (varF f (n / 128)).length + 1 := by rw [varF, if_pos h]; rfl
        rw [bs_more h, List.take_succ_cons]
        unfold scan
        rw [u8_nat (by omega), if_neg (by omega)]
        exact ih _ _ _ _ _ (by omega)
      · have e : (varF (f + 1) n).length = 1 := by rw [varF, if_neg h]; rfl
        omega
theorem readVar_at {s : ByteArray} {p n : Nat} {rest : List UInt8} (h : s.data.toList.drop p = bs 4 n ++ rest) (hn : n ≤ 1000000000) : readVarV s (p : Int) = ((n : Int), ((p + (varF 4 n).length : Nat) : Int), true) := by
  have hp : p ≤ s.size := by
    have h1 := congrArg List.length h
    have := (varF_length 4 n).1
    rw [List.length_drop, str_len, List.length_append, bs_length] at h1
    omega
  have h5 : n < 128 ^ (4 + 1) := by omega
  unfold readVarV
  rw [if_pos (by omega), Int.toNat_natCast, h, scan_var 4 n rest 0 1 0 h5]
  unfold outV
  simp only [Nat.zero_add, Nat.mul_one]
  rw [if_pos (And.intro hn True.intro)]
theorem readVar_cut {s : ByteArray} {p n j : Nat} (h : s.data.toList.drop p = (bs 4 n).take j) (hj : j < (varF 4 n).length) : readVarV s (p : Int) = (0, 0, false) := by
  unfold readVarV
  by_cases hp : 0 ≤ (p : Int) ∧ (p : Int) ≤ (s.size : Int)
  · rw [if_pos hp, Int.toNat_natCast, h, scan_cut 4 n j 0 1 0 hj]
    rfl
  · rw [if_neg hp]
def fr (t : ByteArray) : ByteArray := varS t.size ++ four (sumT t) ++ t
theorem fr_list (t : ByteArray) : (fr t).data.toList = bs 4 t.size ++ ((four (sumT t)).data.toList ++ t.data.toList) := by
  unfold fr
  rw [str_app, str_app, varS_list, List.append_assoc]
theorem fr_size (t : ByteArray) : (fr t).size = (varF 4 t.size).length + 4 + t.size := by
  unfold fr
  rw [ByteArray.size_append, ByteArray.size_append, varS_len, four_size]
theorem frameV_fr {t : ByteArray} (h1 : 1 ≤ t.size) (h2 : t.size ≤ 9000) : frameV t = (fr t, true) := by
  unfold frameV fr
  rw [if_pos (by omega)]
theorem step_yes {s t : ByteArray} {p : Nat} {rest : List UInt8} (h1 : 1 ≤ t.size) (h2 : t.size ≤ 9000) (h : s.data.toList.drop p = (fr t).data.toList ++ rest) : stepOk s p = true ∧ stepText s p = t ∧ stepEnd s p = p + (fr t).size := by
  have hr := readVar_at (s := s) (p := p) (n := t.size) (rest := (four (sumT t)).data.toList ++ t.data.toList ++ rest) (by rw [h, fr_list]; simp only [List.append_assoc]) (by omega)
  have hlen := congrArg List.length h
  rw [List.length_drop, str_len, List.length_append, str_len, fr_size] at hlen
  have hf4 : (four (sumT t)).data.toList.length = 4 := four_size (sumT t)
  have ht : s.extract (p + (varF 4 t.size).length + 4) (p + (varF 4 t.size).length + 4 + t.size) = t := by
    apply str_ext
    rw [str_cut, Nat.add_sub_cancel_left, show p + (varF 4 t.size).length + 4 = p + ((varF 4 t.size).length + 4) by omega, ← List.drop_drop, h, fr_list, List.append_assoc, List.append_assoc, ← List.drop_drop, List.drop_append_of_le_length (by rw [bs_length]; omega), List.drop_of_length_le (l := bs 4 t.size) (by rw [bs_length]; omega), List.nil_append, List.drop_append_of_le_length (by rw [hf4]; omega), List.drop_of_length_le (l := (four (sumT t)).data.toList) (by rw [hf4]; omega), List.nil_append, List.take_append_of_le_length (by rw [str_len]; omega), List.take_of_length_le (by rw [str_len]; omega)]
  have ha : s.extract p (p + (varF 4 t.size).length + 4 + t.size) = fr t := by
    apply str_ext
    rw [str_cut, h, show p + (varF 4 t.size).length + 4 + t.size - p = (fr t).data.toList.length by rw [str_len, fr_size]; omega, List.take_left]
  refine ⟨?_, ?_, ?_⟩
  · unfold stepOk
    rw [hr]
    simp only [Int.toNat_natCast, Bool.true_and, ht, frameV_fr h1 h2, ha]
    rw [decide_eq_true (show (t.size : Int) ≤ (s.size : Int) - ((p + (varF 4 t.size).length : Nat) : Int) - 4 by omega)]
    simp
  · unfold stepText
    rw [hr]
    exact ht
  · unfold stepEnd
    rw [hr, fr_size]
    simp only [Int.toNat_natCast]
    omega
theorem step_no {s t : ByteArray} {p j : Nat} (h2 : t.size ≤ 9000) (h : s.data.toList.drop p = (fr t).data.toList.take j) (hj : j < (fr t).size) (hp : p ≤ s.size) : stepOk s p = false := by
  rw [fr_list] at h
  by_cases hc : j < (varF 4 t.size).length
  · rw [List.take_append_of_le_length (by rw [bs_length]; omega)] at h
    unfold stepOk
    rw [readVar_cut h hc]
    rfl
  · have hlen := congrArg List.length h
    rw [List.length_drop, str_len, List.length_take, ← fr_list, str_len] at hlen
    rw [List.take_append, List.take_of_length_le (l := bs 4 t.size) (by rw [bs_length]; omega)] at h
    unfold stepOk
    rw [readVar_at h (by omega)]
    rw [fr_size] at hj hlen
    simp only [Int.toNat_natCast, Bool.true_and]
    rw [decide_eq_false (show ¬ (t.size : Int) ≤ (s.size : Int) - ((p + (varF 4 t.size).length : Nat) : Int) - 4 by omega)]
    simp
def frs (ts : List ByteArray) : List UInt8 := ts.flatMap fun t => (fr t).data.toList
theorem unf_back (s t' : ByteArray) (ht' : t'.size ≤ 9000) (j : Nat) (hj : j < (fr t').size) (ts : List ByteArray) : ∀ (out : List ByteArray) (p f : Nat), (∀ t ∈ ts, 1 ≤ t.size ∧ t.size ≤ 9000) → s.data.toList.drop p = frs ts ++ (fr t').data.toList.take j → p ≤ s.size → ts.length < f →
    unfF f s out p = (out ++ ts, ((p + (frs ts).length : Nat) : Int)) := by
  induction ts with
  | nil =>
    intro out p f _ h hp hf
    obtain ⟨f, rfl⟩ : ∃ g, f = g + 1 := ⟨f - 1, by simp at hf; omega⟩
    unfold unfF
    rw [step_no ht' (by simpa [frs] using h) hj hp]
    simp [frs]
  | cons t ts ih =>
    intro out p f hts h hp hf
    obtain ⟨f, rfl⟩ : ∃ g, f = g + 1 := ⟨f - 1, by simp at hf; omega⟩
    have h1 := hts t (by simp)
    have hfr : frs (t :: ts) = (fr t).data.toList ++ frs ts := rfl
    obtain ⟨a, b, c⟩ := step_yes h1.1 h1.2 (rest := frs ts ++ (fr t').data.toList.take j) (by rw [h, hfr, List.append_assoc])
    unfold unfF
    rw [if_pos a, b, c, ih (out ++ [t]) (p + (fr t).size) f (fun x hx => hts x (by simp [hx])) ?_ ?_ (by simpa using hf)]
    · rw [hfr, List.length_append, str_len, List.append_assoc, Nat.add_assoc]
      rfl
    · rw [← List.drop_drop, h, hfr, List.append_assoc]
      exact List.drop_left' (by rw [str_len])
    · have := congrArg List.length h
      rw [List.length_drop, str_len, hfr, List.length_append, List.length_append, str_len] at this
      omega

/-- What Unframe tells of the first k bytes of three frames. -/
theorem three_back (t1 t2 t3 : ByteArray) (h1 : 1 ≤ t1.size ∧ t1.size ≤ 900) (h2 : 1 ≤ t2.size ∧ t2.size ≤ 900) (h3 : 1 ≤ t3.size ∧ t3.size ≤ 900) (k : Nat) (hk : k ≤ (fr t1 ++ fr t2 ++ fr t3).size) :
    unframeV ((fr t1 ++ fr t2 ++ fr t3).extract 0 k) = if k < (fr t1).size then ([], 0) else if k < (fr t1).size + (fr t2).size then ([t1], (((fr t1).size : Nat) : Int)) else if k < (fr t1).size + (fr t2).size + (fr t3).size then ([t1, t2], (((fr t1).size + (fr t2).size : Nat) : Int)) else ([t1, t2, t3], (((fr t1).size + (fr t2).size + (fr t3).size : Nat) : Int)) := by
  have s1 := fr_size t1
  have s2 := fr_size t2
  have s3 := fr_size t3
  have v1 := varF_length 4 t1.size
  have v2 := varF_length 4 t2.size
  have v3 := varF_length 4 t3.size
  have hF : (fr t1 ++ fr t2 ++ fr t3).size = (fr t1).size + (fr t2).size + (fr t3).size := by rw [ByteArray.size_append, ByteArray.size_append]
  have hsz : ((fr t1 ++ fr t2 ++ fr t3).extract 0 k).size = k := cut_size _ hk
  have hL : ((fr t1 ++ fr t2 ++ fr t3).extract 0 k).data.toList.drop 0 = ((fr t1).data.toList ++ ((fr t2).data.toList ++ (fr t3).data.toList)).take k := by
    rw [List.drop_zero, str_cut, List.drop_zero, Nat.sub_zero, str_app, str_app, List.append_assoc]
  have hall : ∀ t ∈ [t1, t2, t3], 1 ≤ t.size ∧ t.size ≤ 9000 := by
    intro t ht
    simp at ht
    rcases ht with rfl | rfl | rfl <;> omega
  unfold unframeV
  rw [hsz, if_neg (by omega)]
  by_cases c1 : k < (fr t1).size
  · rw [if_pos c1, unf_back _ t1 (by omega) k c1 [] [] 0 (k + 1) (by simp) (by rw [hL, List.take_append_of_le_length (by rw [str_len]; omega)]; rfl) (by omega) (by simp)]
    rfl
  · rw [if_neg c1]
    by_cases c2 : k < (fr t1).size + (fr t2).size
    · rw [if_pos c2, unf_back _ t2 (by omega) (k - (fr t1).size) (by omega) [t1] [] 0 (k + 1) (fun t ht => hall t (by simp at ht; simp [ht])) ?_ (by omega) (by simp; omega)]
      · simp [frs, str_len]
      · rw [hL, List.take_append, List.take_of_length_le (l := (fr t1).data.toList) (by rw [str_len]; omega), str_len, List.take_append_of_le_length (by rw [str_len]; omega)]
        simp [frs]
    · rw [if_neg c2]
      by_cases c3 : k < (fr t1).size + (fr t2).size + (fr t3).size
      · rw [if_pos c3, unf_back _ t3 (by omega) (k - (fr t1).size - (fr t2).size) (by omega) [t1, t2] [] 0 (k + 1) (fun t ht => hall t (by simp at ht; rcases ht with h | h <;> simp [h])) ?_ (by omega) (by simp; omega)]
        · simp [frs, str_len]
        · rw [hL, List.take_append, List.take_of_length_le (l := (fr t1).data.toList) (by rw [str_len]; omega), str_len, List.take_append, List.take_of_length_le (l := (fr t2).data.toList) (by rw [str_len]; omega), str_len]
          simp [frs]
      · rw [if_neg c3, unf_back _ t1 (by omega) 0 (by omega) [t1, t2, t3] [] 0 (k + 1) hall ?_ (by omega) (by simp; omega)]
        · simp [frs, str_len]; omega
        · rw [hL, List.take_of_length_le (by simp only [List.length_append, str_len]; omega)]
          simp [frs]
theorem set0 (t a b c : ByteArray) : ([a, b, c] : List ByteArray).set (0 : Int).toNat t = [t, b, c] := rfl
theorem rdB3 (a b c : ByteArray) : rdOf ByteArray.empty [a, b, c] ((0 : Nat) : Int) = a ∧ rdOf ByteArray.empty [a, b, c] ((1 : Nat) : Int) = b ∧ rdOf ByteArray.empty [a, b, c] ((2 : Nat) : Int) = c := ⟨rfl, rfl, rfl⟩
theorem l0_step (p : List Int) (t : ByteArray) (ts : List ByteArray) (x5 : ByteArray) (x6 : List Int) (i : Nat) (hi : i < ts.length) (hi2 : i ≤ 100) (hg : rdOf ByteArray.empty ts (i : Int) = t) (hl : x6.length < 1000) (k : Nat) :
    laws_FnFrames.l0 (k + 1) p ts x5 x6 (i : Int) = (impl_Frame.f k t).bind fun b => if b.2 = true then (if x5.size + b.1.size ≤ 9223372036854775807 then laws_FnFrames.l0 k p ts (x5 ++ b.1) (x6 ++ [((x5.size : Int) + (b.1.size : Int))]) ((i + 1 : Nat) : Int) else none) else some false := by
  simp only [laws_FnFrames.l0]
  rw [if_pos (by omega), if_pos (by omega), hg, wsucc (by omega)]
  simp only [if_pos (show x6.length < 17592186044416 by omega)]
theorem l0_end (p : List Int) (ts : List ByteArray) (x5 : ByteArray) (x6 : List Int) (i : Nat) (hi : i = ts.length) (k : Nat) :
    laws_FnFrames.l0 (k + 1) p ts x5 x6 (i : Int) = (impl_Unframe.f k x5).bind fun b => if b.2 = (x5.size : Int) then ((laws_sameTexts.f k b.1 ts).bind fun t => laws_FnFrames.j3 k p ts x5 x6 (!t)) else laws_FnFrames.j3 k p ts x5 x6 true := by
  simp only [laws_FnFrames.l0]
  rw [if_neg (by omega)]
theorem j3_ev (p : List Int) (hp1 : p.length = 12) (hp2 : ∀ x ∈ p, 0 ≤ x ∧ x < 10000) (t1 t2 t3 F : ByteArray) (e1 e2 e3 : Nat) (h01 : 0 < e1) (h12 : e1 < e2) (h23 : e2 < e3) (h3 : e3 ≤ 20000) (hF : F.size = e3)
    (hb : ∀ c, c ≤ e3 → unframeV (F.extract 0 c) = if c < e1 then ([], 0) else if c < e2 then ([t1], (e1 : Int)) else if c < e3 then ([t1, t2], (e2 : Int)) else ([t1, t2, t3], (e3 : Int))) :
    Ev (fun k => laws_FnFrames.j3 k p [t1, t2, t3] F [0, (e1 : Int), (e2 : Int), (e3 : Int)] false) true := by
  have hp0 := hp2 _ (rd_mem (p := p) (n := 0) (by omega))
  have hw := wsucc (n := e3) (by omega)
  obtain ⟨c, ec, hc⟩ := tmod_nat hp0.1 e3
  have ec' : Int.tmod (rd p 0) ((e3 + 1 : Nat) : Int) = (c : Int) := ec
  have g0 : (0 : Int) < (p.length : Int) := by omega
  have g1 : ¬ ((e3 + 1 : Nat) : Int) = 0 := by omega
  have g2 : 0 ≤ (c : Int) := by omega
  have g3 : (c : Int) ≤ (e3 : Int) := by omega
  have hbc := hb c hc
  have hr := Ev.bind (impl_Unframe_ev (F.extract 0 c)) (f := fun k b => if (b.1.length : Int) ≤ 3 then (if 0 ≤ (b.1.length : Int) then (if (b.1.length : Int) < (([0, (e1 : Int), (e2 : Int), (e3 : Int)] : List Int).length : Int) then (if b.2 = rd [0, (e1 : Int), (e2 : Int), (e3 : Int)] (b.1.length : Int) then (if b.2 ≤ (c : Int) then (if (b.1.length : Int) ≤ (([t1, t2, t3] : List ByteArray).length : Int) then ((laws_sameTexts.f k b.1 (([t1, t2, t3] : List ByteArray).take ((b.1.length : Int) : Int).toNat)).bind fun t => if t = true then (if (b.1.length : Int) = 3 then some true else (if 0 ≤ wrap64 ((b.1.length : Int) + 1) then (if wrap64 ((b.1.length : Int) + 1) < (([0, (e1 : Int), (e2 : Int), (e3 : Int)] : List Int).length : Int) then some (decide (rd [0, (e1 : Int), (e2 : Int), (e3 : Int)] (wrap64 ((b.1.length : Int) + 1)) > (c : Int))) else none) else none)) else some false) else none) else some false) else some false) else none) else none) else some false) (r := true) ?_
  · refine Ev.step (fun k => ?_) hr
    simp only [laws_FnFrames.j3, Bool.false_eq_true, if_false]
    rw [hF, hw, ec', if_pos g0, if_neg g1, if_pos g2, if_pos g3]
    rfl
  · rw [hbc]
    clear hbc hb hF hw ec ec' hp0 hp1 hp2 g0 g1 g2 g3
    have w01 : wrap64 (0 + 1) = 1 := w64 (by omega) (by omega)
    have w12 : wrap64 (1 + 1) = 2 := w64 (by omega) (by omega)
    have w23 : wrap64 (2 + 1) = 3 := w64 (by omega) (by omega)
    by_cases c1 : c < e1
    · rw [if_pos c1]
      simp only [List.length_nil, List.length_cons, Nat.zero_add, Nat.reduceAdd, Int.natCast_zero, Int.natCast_one, Int.cast_ofNat_Int, w01, w12, w23]
      refine Ev.pos (by omega) (Ev.pos (by omega) (Ev.pos (by omega) (Ev.pos rfl (Ev.pos (show (0 : Int) ≤ (c : Int) by omega) (Ev.pos (by omega) (Ev.bind (sameT_ev [] (by simp)) (Ev.pos rfl (Ev.neg (by omega) (Ev.pos (by omega) (Ev.pos (by omega) ?_))))))))))
      show Ev (fun _ => some (decide ((e1 : Int) > (c : Int)))) true
      rw [decide_eq_true (show (e1 : Int) > (c : Int) by omega)]
      exact Ev.now _
    · rw [if_neg c1]
      by_cases c2 : c < e2
      · rw [if_pos c2]
        simp only [List.length_nil, List.length_cons, Nat.zero_add, Nat.reduceAdd, Int.natCast_zero, Int.natCast_one, Int.cast_ofNat_Int, w01, w12, w23]
        refine Ev.pos (by omega) (Ev.pos (by omega) (Ev.pos (by omega) (Ev.pos rfl (Ev.pos (show (e1 : Int) ≤ (c : Int) by omega) (Ev.pos (by omega) (Ev.bind (sameT_ev [t1] (by simp)) (Ev.pos rfl (Ev.neg (by omega) (Ev.pos (by omega) (Ev.pos (by omega) ?_))))))))))
        show Ev (fun _ => some (decide ((e2 : Int) > (c : Int)))) true
        rw [decide_eq_true (show (e2 : Int) > (c : Int) by omega)]
        exact Ev.now _
      · rw [if_neg c2]
        by_cases c3 : c < e3
        · rw [if_pos c3]
          simp only [List.length_nil, List.length_cons, Nat.zero_add, Nat.reduceAdd, Int.natCast_zero, Int.natCast_one, Int.cast_ofNat_Int, w01, w12, w23]
          refine Ev.pos (by omega) (Ev.pos (by omega) (Ev.pos (by omega) (Ev.pos rfl (Ev.pos (show (e2 : Int) ≤ (c : Int) by omega) (Ev.pos (by omega) (Ev.bind (sameT_ev [t1, t2] (by simp)) (Ev.pos rfl (Ev.neg (by omega) (Ev.pos (by omega) (Ev.pos (by omega) ?_))))))))))
          show Ev (fun _ => some (decide ((e3 : Int) > (c : Int)))) true
          rw [decide_eq_true (show (e3 : Int) > (c : Int) by omega)]
          exact Ev.now _
        · rw [if_neg c3]
          simp only [List.length_nil, List.length_cons, Nat.zero_add, Nat.reduceAdd, Int.natCast_zero, Int.natCast_one, Int.cast_ofNat_Int, w01, w12, w23]
          exact Ev.pos (by omega) (Ev.pos (by omega) (Ev.pos (by omega) (Ev.pos rfl (Ev.pos (show (e3 : Int) ≤ (c : Int) by omega) (Ev.pos (by omega) (Ev.bind (sameT_ev [t1, t2, t3] (by simp)) (Ev.pos rfl (Ev.pos True.intro (Ev.now _)))))))))
theorem j1_ev (p : List Int) (hp1 : p.length = 12) (hp2 : ∀ x ∈ p, 0 ≤ x ∧ x < 10000) (t1 t2 t3 : ByteArray) (h1 : 1 ≤ t1.size ∧ t1.size ≤ 900) (h2 : 1 ≤ t2.size ∧ t2.size ≤ 900) (h3 : 1 ≤ t3.size ∧ t3.size ≤ 900) :
    Ev (fun k => laws_FnFrames.j1 k p [t1, t2, t3]) true := by
  have s1 := fr_size t1
  have s2 := fr_size t2
  have s3 := fr_size t3
  have v1 := varF_length 4 t1.size
  have v2 := varF_length 4 t2.size
  have v3 := varF_length 4 t3.size
  have e0 : ((⟨#[]⟩ : ByteArray) ++ fr t1) = fr t1 := by apply str_ext; rw [str_app]; rfl
  have hF : (fr t1 ++ fr t2 ++ fr t3).size = (fr t1).size + (fr t2).size + (fr t3).size := by rw [ByteArray.size_append, ByteArray.size_append]
  refine Ev.step (fun k => by simp only [laws_FnFrames.j1]; rfl) ?_
  refine Ev.step (l0_step p t1 [t1, t2, t3] (⟨#[]⟩ : ByteArray) [0] 0 (by simp) (by omega) (rdB3 t1 t2 t3).1 (by simp)) (Ev.bind (impl_Frame_ev t1) ?_)
  rw [frameV_fr h1.1 (by omega)]
  simp only [if_true, e0, if_pos (show (⟨#[]⟩ : ByteArray).size + (fr t1).size ≤ 9223372036854775807 by rw [show (⟨#[]⟩ : ByteArray).size = 0 from rfl]; omega)]
  refine Ev.step (l0_step p t2 [t1, t2, t3] _ _ 1 (by simp) (by omega) (rdB3 t1 t2 t3).2.1 (by simp)) (Ev.bind (impl_Frame_ev t2) ?_)
  rw [frameV_fr h2.1 (by omega)]
  simp only [if_true, if_pos (show (fr t1).size + (fr t2).size ≤ 9223372036854775807 by omega)]
  refine Ev.step (l0_step p t3 [t1, t2, t3] _ _ 2 (by simp) (by omega) (rdB3 t1 t2 t3).2.2 (by simp)) (Ev.bind (impl_Frame_ev t3) ?_)
  rw [frameV_fr h3.1 (by omega)]
  have h12 : (fr t1 ++ fr t2).size = (fr t1).size + (fr t2).size := ByteArray.size_append
  simp only [if_true, if_pos (show (fr t1 ++ fr t2).size + (fr t3).size ≤ 9223372036854775807 by omega), List.append_assoc, List.singleton_append, List.cons_append, List.nil_append]
  have hends : ([0, (((⟨#[]⟩ : ByteArray).size : Nat) : Int) + (((fr t1).size : Nat) : Int), (((fr t1).size : Nat) : Int) + (((fr t2).size : Nat) : Int), (((fr t1 ++ fr t2).size : Nat) : Int) + (((fr t3).size : Nat) : Int)] : List Int) = [0, (((fr t1).size : Nat) : Int), (((fr t1).size + (fr t2).size : Nat) : Int), (((fr t1).size + (fr t2).size + (fr t3).size : Nat) : Int)] := by
    rw [h12, show (⟨#[]⟩ : ByteArray).size = 0 from rfl]
    simp
  rw [hends]
  refine Ev.step (l0_end p [t1, t2, t3] _ _ 3 (by simp)) (Ev.bind (impl_Unframe_ev _) ?_)
  have hall := three_back t1 t2 t3 h1 h2 h3 (fr t1 ++ fr t2 ++ fr t3).size (Nat.le_refl _)
  have hfull : (fr t1 ++ fr t2 ++ fr t3).extract 0 (fr t1 ++ fr t2 ++ fr t3).size = fr t1 ++ fr t2 ++ fr t3 := by
    apply str_ext
    rw [str_cut, List.drop_zero, Nat.sub_zero, List.take_of_length_le (by rw [str_len]; omega)]
  rw [hfull, if_neg (by omega), if_neg (by omega), if_neg (by omega)] at hall
  rw [hall]
  simp only [hF, if_true]
  refine Ev.bind (sameT_ev _ (by simp)) ?_
  simp only [Bool.not_true]
  exact j3_ev p hp1 hp2 t1 t2 t3 (fr t1 ++ fr t2 ++ fr t3) (fr t1).size ((fr t1).size + (fr t2).size) ((fr t1).size + (fr t2).size + (fr t3).size) (by omega) (by omega) (by omega) (by omega) hF (fun c hc => three_back t1 t2 t3 h1 h2 h3 c (by omega))
theorem FnFrames : laws_FnFrames.Pure := by
  intro l hl1 hl2 hl3
  have hl : l.length ≤ 140737488351232 := by omega
  refine Ev.rounds ?_
  unfold laws_FnFrames.f laws_big.f
  simp only [Option.bind_some, decide_eq_true_eq]
  by_cases hb : (l.length : Int) > 1048576
  · simp only [if_pos hb]
    exact Ev.now _
  · simp only [if_neg hb]
    obtain ⟨p, hp, hp1, hp2⟩ := places_ev l hl
    obtain ⟨t, ht⟩ := drawHex_ev l hl
    refine Ev.bind hp (Ev.bind ht ?_)
    have h2 : 1 ≤ (⟨#[116, 119, 111]⟩ : ByteArray).size ∧ (⟨#[116, 119, 111]⟩ : ByteArray).size ≤ 900 := by decide
    have h3 : 1 ≤ (⟨#[116, 104, 114, 101, 101, 32, 97, 110, 100, 32, 109, 111, 114, 101]⟩ : ByteArray).size ∧ (⟨#[116, 104, 114, 101, 101, 32, 97, 110, 100, 32, 109, 111, 114, 101]⟩ : ByteArray).size ≤ 900 := by decide
    have h1 : 1 ≤ (⟨#[111, 110, 101]⟩ : ByteArray).size ∧ (⟨#[111, 110, 101]⟩ : ByteArray).size ≤ 900 := by decide
    have hr : rdOf ByteArray.empty [t, (⟨#[116, 119, 111]⟩ : ByteArray), (⟨#[116, 104, 114, 101, 101, 32, 97, 110, 100, 32, 109, 111, 114, 101]⟩ : ByteArray)] 0 = t := rfl
    simp only [hr, List.length_cons, List.length_nil, if_pos (show (0 : Int) < ((0 + 1 + 1 + 1 : Nat) : Int) by omega)]
    have yes : Ev (fun k => laws_FnFrames.j0 k p [t, (⟨#[116, 119, 111]⟩ : ByteArray), (⟨#[116, 104, 114, 101, 101, 32, 97, 110, 100, 32, 109, 111, 114, 101]⟩ : ByteArray)] true) true := by
      refine Ev.step (fun k => ?_) (j1_ev p hp1 hp2 _ _ _ h1 h2 h3)
      simp only [laws_FnFrames.j0, if_true, List.length_cons, List.length_nil, if_pos (show (0 : Int) < ((0 + 1 + 1 + 1 : Nat) : Int) by omega), set0]
    by_cases c : (t.size : Int) = 0
    · simp only [if_pos c]
      exact yes
    · simp only [if_neg c]
      by_cases c2 : (t.size : Int) > 900
      · rw [decide_eq_true c2]
        exact yes
      · rw [decide_eq_false c2]
        refine Ev.step (fun k => ?_) (j1_ev p hp1 hp2 _ _ _ (show 1 ≤ t.size ∧ t.size ≤ 900 by omega) h2 h3)
        simp only [laws_FnFrames.j0, Bool.false_eq_true, if_false]


end Go.Proofs.Ytilhajijfbpcjaa.Pure
