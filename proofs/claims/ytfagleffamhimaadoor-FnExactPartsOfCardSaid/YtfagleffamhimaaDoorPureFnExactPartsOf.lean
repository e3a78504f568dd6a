/- The program's PartsOf and the reference's PartsOf return the same, for every text; what is returned is shared with nothing. -/
import Derived.Test.YtfagleffamhimaaDoorXFnExactPartsOfx2
set_option linter.unusedVariables false
set_option linter.unusedSimpArgs false
namespace Go.Proofs.YtfagleffamhimaaDoor.Pure
open Go.RowKit Go.Proofs.YtfagleffamhimaaDoor.XFnExactPartsOf Go.Proofs.YtfagleffamhimaaDoorW.PrintWords Go.Proofs.YtfagleffamhimaaDoorW.PrintLast

/-! ### small words -/
theorem w64 {x : Int} (h0 : -9223372036854775808 ≤ x) (h1 : x ≤ 9223372036854775807) : wrap64 x = x := by
  unfold wrap64
  omega
theorem wf64 {x : Int} (h : (Lit.int .i64 x).wf = true) : -9223372036854775808 ≤ x ∧ x ≤ 9223372036854775807 := by
  simp [Lit.wf, IntKind.min, IntKind.max, IntKind.signed, IntKind.bits] at h
  omega
theorem wfu32 {x : Int} (h : (Lit.int .u32 x).wf = true) : 0 ≤ x ∧ x ≤ 4294967295 := by
  simp [Lit.wf, IntKind.min, IntKind.max, IntKind.signed, IntKind.bits] at h
  omega
theorem wfu8 {x : Int} (h : (Lit.int .u8 x).wf = true) : 0 ≤ x ∧ x ≤ 255 := by
  simp [Lit.wf, IntKind.min, IntKind.max, IntKind.signed, IntKind.bits] at h
  omega
theorem wsucc {n : Nat} (h : n ≤ 4611686018427387904) : wrap64 ((n : Int) + 1) = ((n + 1 : Nat) : Int) := by
  rw [w64 (by omega) (by omega)]
  rfl
theorem wadd {a b : Nat} (h : a + b ≤ 4611686018427387904) : wrap64 ((a : Int) + (b : Int)) = ((a + b : Nat) : Int) := by
  rw [w64 (by omega) (by omega)]
  rfl
theorem wnat {n : Nat} (h : n ≤ 4611686018427387904) : wrap64 (n : Int) = (n : Int) := w64 (by omega) (by omega)
theorem Ev.some_bind {α β : Type} {a : Option α} {x : α} (h : a = some x) {f : Nat → α → Option β} {r : β} (k : Ev (fun n => f n x) r) : Ev (fun n => a.bind (f n)) r := by
  subst h
  exact k
theorem Ev.pos {α : Type} {p : Prop} [Decidable p] (h : p) {f g : Nat → Option α} {r : α} (k : Ev f r) : Ev (fun n => if p then f n else g n) r :=
  Ev.congr (fun _ => if_pos h) k
theorem Ev.neg {α : Type} {p : Prop} [Decidable p] (h : ¬ p) {f g : Nat → Option α} {r : α} (k : Ev g r) : Ev (fun n => if p then f n else g n) r :=
  Ev.congr (fun _ => if_neg h) k
theorem tmod_nat {x : Int} (h0 : 0 ≤ x) (N : Nat) : ∃ c : Nat, Int.tmod x ((N + 1 : Nat) : Int) = (c : Int) ∧ c ≤ N := by
  obtain ⟨c, hc⟩ := Int.eq_ofNat_of_zero_le (Int.tmod_nonneg ((N + 1 : Nat) : Int) h0)
  have hlt := Int.tmod_lt_of_pos x (show (0 : Int) < ((N + 1 : Nat) : Int) by omega)
  rw [hc] at hlt
  exact ⟨c, hc, by omega⟩

theorem strOfNums_size (xs : List Int) : (strOfNums xs).size = xs.length := by simp [strOfNums, ByteArray.size]
theorem str_ext {a b : ByteArray} (h : a.data.toList = b.data.toList) : a = b := by
  apply ByteArray.ext
  exact Array.toList_inj.1 h
theorem str_app (a b : ByteArray) : (a ++ b).data.toList = a.data.toList ++ b.data.toList := by simp [ByteArray.data_append]
theorem str_cut (s : ByteArray) (a b : Nat) : (s.extract a b).data.toList = (s.data.toList.drop a).take (b - a) := by
  obtain ⟨⟨l⟩⟩ := s
  simp [ByteArray.data_extract, List.extract_eq_take_drop]
theorem str_len (s : ByteArray) : s.data.toList.length = s.size := rfl
theorem str_toList {a b : ByteArray} : a.toList = b.toList ↔ a = b := by
  rw [ByteArray.toList_eq, ByteArray.toList_eq]
  exact ⟨str_ext, fun h => by rw [h]⟩
theorem str_split (s : ByteArray) (n : Nat) (h : n ≤ s.size) : s.extract 0 n ++ s.extract n s.size = s := by
  apply str_ext
  rw [str_app, str_cut, str_cut, List.drop_zero, Nat.sub_zero, List.take_of_length_le (l := s.data.toList.drop n) (by simp [str_len]), List.take_append_drop]
theorem str_app_inj {a b c : ByteArray} (h : a ++ b = a ++ c) : b = c := by
  have := congrArg (fun s : ByteArray => s.data.toList) h
  simp only [str_app] at this
  exact str_ext (List.append_cancel_left this)
theorem cut_size (s : ByteArray) {n : Nat} (h : n ≤ s.size) : (s.extract 0 n).size = n := by
  rw [ByteArray.size_extract]
  omega

theorem impl_within_eq (a l h : Int) : impl_within.f a l h = some (decide (l ≤ a ∧ a ≤ h)) := by
  unfold impl_within.f
  by_cases h1 : l ≤ a
  · rw [if_pos h1]; simp [h1]
  · rw [if_neg h1]; simp [h1]

/-! ### figures -/
def fig (d : Nat) : Int := if d < 10 then ((48 + d : Nat) : Int) else ((87 + d : Nat) : Int)
def figs (b : UInt8) : List Int := [fig (b.toNat / 16), fig (b.toNat % 16)]
def hexL (l : List UInt8) : List Int := l.flatMap figs
def hexV (s : ByteArray) : ByteArray × Bool := if (s.size : Int) > 20000 then ((⟨#[]⟩ : ByteArray), false) else (strOfNums (hexL s.data.toList), true)
theorem hexL_length (l : List UInt8) : (hexL l).length = 2 * l.length := by
  induction l with
  | nil => rfl
  | cons b l ih => simp only [hexL, List.flatMap_cons, List.length_append] at ih ⊢; rw [ih]; simp [figs]; omega
theorem hexL_snoc (l : List UInt8) (b : UInt8) : hexL (l ++ [b]) = hexL l ++ figs b := by simp [hexL, List.flatMap_append]
theorem bt_nat (s : ByteArray) {i : Nat} (h : i < s.size) : bt s (i : Int) = ((s.data.toList[i]'h).toNat : Int) := by
  unfold bt
  rw [dif_pos (by simpa using h)]
  rfl
theorem take_snoc (s : ByteArray) {i : Nat} (h : i < s.size) : s.data.toList.take (i + 1) = s.data.toList.take i ++ [s.data.toList[i]'h] := by
  rw [List.take_succ_eq_append_getElem h]

/-! ### lists of texts, compared -/
theorem rdB_nat {l : List ByteArray} {i : Nat} (h : i < l.length) : rdOf ByteArray.empty l (i : Int) = l[i] := by
  unfold rdOf
  rw [Int.toNat_natCast, List.getD_eq_getElem?_getD, List.getElem?_eq_getElem h]
  rfl
theorem eqS_ev (l : List ByteArray) (hl : l.length ≤ 4611686018427387904) : Ev (fun k => laws_eqStringS.f k l l) true := by
  have key : ∀ d (i : Nat), i ≤ l.length → l.length - i = d → Ev (fun k => laws_eqStringS.l0 k l l (i : Int)) true := by
    intro d
    induction d with
    | zero =>
      intro i hi hd
      exact Ev.step (f := fun _ => some true) (fun k => by simp only [laws_eqStringS.l0]; rw [if_neg (by omega)]) (Ev.now _)
    | succ d ih =>
      intro i hi hd
      refine Ev.step (fun k => ?_) (ih (i + 1) (by omega) (by omega))
      simp only [laws_eqStringS.l0]
      rw [if_pos (by omega), if_pos (by omega), if_pos (by omega), wsucc (by omega)]
      simp only [if_true]
  unfold laws_eqStringS.f
  simp only [if_true]
  exact key l.length 0 (by omega) (by omega)

/-! ### marks -/
theorem markText_ex (m : Nat) (hm : m ≤ 1000000000000) : ∃ t, Ev (fun k => laws_markText.f k (m : Int)) t := by
  have key : ∀ (f : Nat) (x : Nat) (acc : ByteArray), x < 10 ^ f → x ≤ 1000000000000 → acc.size + f ≤ 1000 → ∃ t, Ev (fun k => laws_markText.l0 k (x : Int) acc) t := by
    intro f
    induction f with
    | zero =>
      intro x acc hx hf ha
      refine ⟨_, Ev.step (fun k => ?_) (Ev.now ((⟨#[109]⟩ : ByteArray) ++ acc))⟩
      simp only [laws_markText.l0]
      rw [if_neg (by omega), if_pos (by omega)]
    | succ f ih =>
      intro x acc hx hf ha
      by_cases h : x = 0
      · refine ⟨_, Ev.step (fun k => ?_) (Ev.now ((⟨#[109]⟩ : ByteArray) ++ acc))⟩
        simp only [laws_markText.l0]
        rw [if_neg (by omega), if_pos (by omega)]
      · have hp : 10 ^ (f + 1) = 10 * 10 ^ f := by rw [Nat.pow_succ]; omega
        have hs : ∀ c : Int, (strOfNums [c]).size = 1 := fun c => by rw [strOfNums_size]; rfl
        obtain ⟨t, ht⟩ := ih (x / 10) (strOfNums [(wrap64 (48 + (Int.tmod (x : Int) 10))) % 256] ++ acc) (by omega) (by omega) (by rw [ByteArray.size_append, hs]; omega)
        refine ⟨t, Ev.step (fun k => ?_) ht⟩
        simp only [laws_markText.l0, Option.bind_some]
        rw [if_pos (by omega), if_pos (by rw [hs]; omega), Int.tdiv_eq_ediv_of_nonneg (by omega), w64 (x := (x : Int) / 10) (by omega) (by omega)]
        rfl
  unfold laws_markText.f
  by_cases h : (m : Int) ≤ 0
  · simp only [if_pos h]
    exact ⟨_, Ev.now _⟩
  · simp only [if_neg h]
    exact key 13 m _ (by omega) hm (by decide)
theorem markText_fun : ∃ T : Nat → ByteArray, ∀ m : Nat, m ≤ 1000000000000 → Ev (fun k => laws_markText.f k (m : Int)) (T m) := by
  refine ⟨fun m => if h : m ≤ 1000000000000 then Classical.choose (markText_ex m h) else ByteArray.empty, fun m h => ?_⟩
  simp only [dif_pos h]
  exact Classical.choose_spec (markText_ex m h)
def marked (T : Nat → ByteArray) (m n : Nat) : List ByteArray := (List.range n).map fun i => T (m + i)
theorem marked_length (T : Nat → ByteArray) (m n : Nat) : (marked T m n).length = n := by simp [marked]
theorem markS_ev (T : Nat → ByteArray) (hT : ∀ m : Nat, m ≤ 1000000000000 → Ev (fun k => laws_markText.f k (m : Int)) (T m)) (l : List ByteArray) (m : Nat) (hl : l.length + m ≤ 1000000000000) :
    Ev (fun k => laws_markStringS.f k l (m : Int)) (((m + l.length : Nat) : Int), marked T m l.length) := by
  have key : ∀ d (i : Nat), i ≤ l.length → l.length - i = d → Ev (fun k => laws_markStringS.l0 k (marked T m i ++ l.drop i) ((m + i : Nat) : Int) (i : Int)) (((m + l.length : Nat) : Int), marked T m l.length) := by
    intro d
    induction d with
    | zero =>
      intro i hi hd
      obtain rfl : i = l.length := by omega
      rw [List.drop_length, List.append_nil]
      exact Ev.step (f := fun _ => some (((m + l.length : Nat) : Int), marked T m l.length)) (fun k => by simp only [laws_markStringS.l0]; rw [marked_length, if_neg (by omega)]) (Ev.now _)
    | succ d ih =>
      intro i hi hd
      have hlen : (marked T m i ++ l.drop i).length = l.length := by rw [List.length_append, marked_length, List.length_drop]; omega
      have hset : (marked T m i ++ l.drop i).set i (T (m + i)) = marked T m (i + 1) ++ l.drop (i + 1) := by
        rw [List.set_append_right _ _ (by rw [marked_length]; omega), marked_length, Nat.sub_self, List.drop_eq_getElem_cons (by omega), List.set_cons_zero]
        simp [marked, List.range_succ]
      refine Ev.step (fun k => ?_) (Ev.bind (hT (m + i) (by omega)) (f := fun k t => laws_markStringS.l0 k ((marked T m i ++ l.drop i).set i t) ((m + (i + 1) : Nat) : Int) ((i + 1 : Nat) : Int)) ?_)
      · simp only [laws_markStringS.l0]
        rw [hlen, if_pos (by omega), wsucc (n := m + i) (by omega), wsucc (n := i) (by omega)]
        simp only [if_pos (show 0 ≤ (i : Int) by omega), Int.toNat_natCast]
        rfl
      · simp only [hset]
        exact ih (i + 1) (by omega) (by omega)
  have := key l.length 0 (by omega) (by omega)
  exact this
theorem heldS_ev (T : Nat → ByteArray) (hT : ∀ m : Nat, m ≤ 1000000000000 → Ev (fun k => laws_markText.f k (m : Int)) (T m)) (n m : Nat) (hl : n + m ≤ 1000000000000) :
    Ev (fun k => laws_heldStringS.f k (marked T m n) (m : Int)) ((m + n : Nat) : Int) := by
  have key : ∀ d (i : Nat), i ≤ n → n - i = d → Ev (fun k => laws_heldStringS.l0 k (marked T m n) ((m + i : Nat) : Int) (i : Int)) ((m + n : Nat) : Int) := by
    intro d
    induction d with
    | zero =>
      intro i hi hd
      obtain rfl : i = n := by omega
      exact Ev.step (f := fun _ => some ((m + i : Nat) : Int)) (fun k => by simp only [laws_heldStringS.l0]; rw [marked_length, if_neg (by omega)]) (Ev.now _)
    | succ d ih =>
      intro i hi hd
      have hg : rdOf ByteArray.empty (marked T m n) (i : Int) = T (m + i) := by
        rw [rdB_nat (by rw [marked_length]; omega)]
        simp [marked]
      refine Ev.step (fun k => ?_) (Ev.bind (hT (m + i) (by omega)) (f := fun k t => if (T (m + i)).toList = t.toList then laws_heldStringS.l0 k (marked T m n) ((m + (i + 1) : Nat) : Int) ((i + 1 : Nat) : Int) else some (-1)) ?_)
      · simp only [laws_heldStringS.l0]
        rw [marked_length, if_pos (by omega), if_pos (by omega), hg, wsucc (n := m + i) (by omega), wsucc (n := i) (by omega)]
        rfl
      · simp only [if_true]
        exact ih (i + 1) (by omega) (by omega)
  exact key n 0 (by omega) (by omega)

/-! ### the parts of a line -/
def okc (b : UInt8) : Bool := decide (32 ≤ b.toNat ∧ b.toNat ≤ 126)
def mkT (l : List UInt8) : ByteArray := ⟨l.toArray⟩
def endV (f : List ByteArray) : List ByteArray × Bool := if (f.length : Int) > 10 then ([], false) else (f, true)
def finV (out : List ByteArray) (cur rest : List UInt8) : List ByteArray × Bool := if rest.all okc = true then endV (out ++ (Lib.fieldsGo cur rest).map mkT) else ([], false)
def partsV (a : ByteArray) : List ByteArray × Bool := if (a.size : Int) > 600 then ([], false) else finV [] [] a.data.toList
theorem partsV_size (a : ByteArray) : (partsV a).1.length ≤ 10 := by
  unfold partsV
  by_cases h : (a.size : Int) > 600
  · rw [if_pos h]
    simp
  · rw [if_neg h]
    unfold finV
    by_cases c : a.data.toList.all okc = true
    · rw [if_pos c]
      unfold endV
      by_cases c2 : ((([] : List ByteArray) ++ (Lib.fieldsGo [] a.data.toList).map mkT).length : Int) > 10
      · rw [if_pos c2]
        simp
      · rw [if_neg c2]
        show (([] : List ByteArray) ++ (Lib.fieldsGo [] a.data.toList).map mkT).length ≤ 10
        omega
    · rw [if_neg c]
      simp
theorem cntF_le : ∀ (ws : Bool) (l : List UInt8), Lib.cntF ws l ≤ l.length
  | _, [] => Nat.le_refl _
  | ws, b :: l => by
    have := cntF_le (Lib.isSp b) l
    unfold Lib.cntF
    rw [List.length_cons]
    by_cases h : (ws && !Lib.isSp b) = true
    · rw [if_pos h]
      omega
    · rw [if_neg h]
      omega
theorem okc_sp {b : UInt8} (h : okc b = true) : Lib.isSp b = decide (b.toNat = 32) := by
  have hb := of_decide_eq_true h
  have key : ∀ b : Fin 256, 32 ≤ b.val → b.val ≤ 126 → Lib.isSp (UInt8.ofNat b.val) = decide (b.val = 32) := by decide +kernel
  have := key ⟨b.toNat, b.toNat_lt⟩ hb.1 hb.2
  simpa using this
theorem parts_at (a : ByteArray) {i : Nat} (h : i < a.size) : a.data.toList.drop i = (a.data.toList[i]'h) :: a.data.toList.drop (i + 1) := List.drop_eq_getElem_cons h
theorem impl_PartsOf_ev (a : ByteArray) : Ev (fun k => impl_PartsOf.f k a) (partsV a) := by
  unfold impl_PartsOf.f partsV
  by_cases h : (a.size : Int) > 600
  · rw [if_pos h]
    exact Ev.pos h (Ev.now _)
  · rw [if_neg h]
    refine Ev.neg h ?_
    have key : ∀ d i : Nat, i + d = a.size → (a.data.toList.take i).all okc = true → Ev (fun k => impl_PartsOf.l0 k a (i : Int)) (finV [] [] a.data.toList) := by
      intro d
      induction d with
      | zero =>
        intro i hi hall
        rw [List.take_of_length_le (by rw [str_len]; omega)] at hall
        have fl : (fieldsT a).length ≤ 600 := by
          unfold fieldsT
          rw [List.length_map, Lib.fields_length]
          have := cntF_le true a.data.toList
          rw [str_len] at this
          omega
        have fe : strings_Fields.f a = some (fieldsT a) := by
          unfold strings_Fields.f
          refine if_pos ⟨by omega, List.all_eq_true.mpr (fun b hb => ?_), by omega⟩
          have := of_decide_eq_true (List.all_eq_true.mp hall b hb)
          exact decide_eq_true (by omega)
        unfold finV
        rw [if_pos hall, List.nil_append]
        refine Ev.step (f := fun _ => (strings_Fields.f a).bind fun t114 => if (t114.length : Int) > 10 then some (([] : List ByteArray), false) else some (t114, true)) (fun k => ?_) ?_
        · simp only [impl_PartsOf.l0]
          rw [if_neg (by omega)]
        · refine Ev.some_bind fe ?_
          show Ev _ (endV (fieldsT a))
          by_cases c : ((fieldsT a).length : Int) > 10
          · rw [show endV (fieldsT a) = ([], false) from if_pos c]
            exact Ev.pos c (Ev.now _)
          · rw [show endV (fieldsT a) = (fieldsT a, true) from if_neg c]
            exact Ev.neg c (Ev.now _)
      | succ d ih =>
        intro i hi hall
        have hlt : i < a.size := by omega
        have hb := (a.data.toList[i]'hlt).toNat_lt
        have w : impl_within.f (wrap64 (bt a (i : Int))) 32 126 = some (okc (a.data.toList[i]'hlt)) := by
          rw [bt_nat a hlt, w64 (by omega) (by omega), impl_within_eq]
          congr 1
          unfold okc
          rw [decide_eq_decide]
          omega
        cases c : okc (a.data.toList[i]'hlt) with
        | true =>
          refine Ev.step (fun k => ?_) (ih (i + 1) (by omega) (by rw [take_snoc a hlt, List.all_append, hall, List.all_cons, c]; rfl))
          simp only [impl_PartsOf.l0]
          rw [if_pos (by omega), if_pos (by omega), w, c, Option.bind_some, if_pos rfl, wsucc (by omega)]
        | false =>
          unfold finV
          rw [if_neg (fun e => by
            have := List.all_eq_true.mp e _ (List.getElem_mem (l := a.data.toList) hlt)
            rw [c] at this
            exact absurd this (by simp))]
          refine Ev.step (f := fun _ => some (([] : List ByteArray), false)) (fun k => ?_) (Ev.now _)
          simp only [impl_PartsOf.l0]
          rw [if_pos (by omega), if_pos (by omega), w, c, Option.bind_some, if_neg (by simp)]
    exact key a.size 0 (by omega) (by simp)
theorem spec_PartsOf_ev (a : ByteArray) : Ev (fun k => spec_PartsOf.f k a) (partsV a) := by
  unfold spec_PartsOf.f partsV
  simp only [Option.bind_some]
  by_cases h : (a.size : Int) > 600
  · rw [if_pos h]
    exact Ev.pos h (Ev.now _)
  · rw [if_neg h]
    refine Ev.neg h ?_
    have cut : ∀ {b i : Nat}, b ≤ i → a.extract b i = mkT ((a.data.toList.drop b).take (i - b)) := fun {b i} _ => by
      apply str_ext
      rw [str_cut]
      rfl
    have key : ∀ d i b (out : List ByteArray), i + d = a.size → b ≤ i → out.length ≤ i → Ev (fun k => spec_PartsOf.l0 k a out (b : Int) (i : Int)) (finV out ((a.data.toList.drop b).take (i - b)) (a.data.toList.drop i)) := by
      intro d
      induction d with
      | zero =>
        intro i b out hi hb ho
        obtain rfl : i = a.size := by omega
        have last : ∀ (o : List ByteArray) (c : Nat), Ev (fun k => spec_PartsOf.l0 k a o ((c : Nat) : Int) ((a.size + 1 : Nat) : Int)) (endV o) := by
          intro o c
          unfold endV
          by_cases c2 : (o.length : Int) > 10
          · rw [if_pos c2]
            refine Ev.step (f := fun _ => some ([], false)) (fun k => ?_) (Ev.now _)
            simp only [spec_PartsOf.l0]
            rw [if_neg (by omega), if_pos c2]
          · rw [if_neg c2]
            refine Ev.step (f := fun _ => some (o, true)) (fun k => ?_) (Ev.now _)
            simp only [spec_PartsOf.l0]
            rw [if_neg (by omega), if_neg c2]
        rw [show a.data.toList.drop a.size = [] from List.drop_eq_nil_of_le (by rw [str_len]; exact Nat.le_refl _)]
        unfold finV
        rw [if_pos (by simp)]
        refine Ev.step (f := fun k => spec_PartsOf.j1 k a out (b : Int) (a.size : Int) false) (fun k => ?_) ?_
        · simp only [spec_PartsOf.l0]
          rw [if_pos (by omega), if_neg (by omega)]
        refine Ev.step (f := fun k => spec_PartsOf.j2 k a out (b : Int) (a.size : Int) false) (fun k => ?_) ?_
        · simp only [spec_PartsOf.j1, Bool.false_eq_true, if_false]
          rw [if_neg (by omega)]
        by_cases c : b < a.size
        · have ne : ((a.data.toList.drop b).take (a.size - b)).isEmpty = false := by
            rw [List.isEmpty_eq_false_iff]
            intro e
            have := congrArg List.length e
            rw [List.length_take, List.length_drop, str_len] at this
            simp at this
            omega
          have z := last (out ++ [a.extract b a.size]) (a.size + 1)
          rw [Lib.fieldsGo, ne, if_neg (by simp)]
          rw [cut (by omega)] at z
          refine Ev.step (fun k => ?_) z
          simp only [spec_PartsOf.j2, Bool.false_eq_true, if_false]
          rw [if_pos (by omega), if_pos (by omega), if_pos (by omega), if_pos (by omega), if_pos (by omega), wsucc (by omega), Int.toNat_natCast, Int.toNat_natCast, cut (by omega)]
        · have e : (a.data.toList.drop b).take (a.size - b) = [] := by rw [show a.size - b = 0 by omega, List.take_zero]
          rw [e, Lib.fieldsGo, if_pos (by rfl), List.map_nil, List.append_nil]
          refine Ev.step (fun k => ?_) (last out (a.size + 1))
          simp only [spec_PartsOf.j2, Bool.false_eq_true, if_false]
          rw [if_neg (by omega), wsucc (by omega)]
      | succ d ih =>
        intro i b out hi hb ho
        have hlt : i < a.size := by omega
        have hx := (a.data.toList[i]'hlt).toNat_lt
        have bte := bt_nat a hlt
        rw [parts_at a hlt]
        have j1ok : okc (a.data.toList[i]'hlt) = true → ∀ v, Ev (fun k => spec_PartsOf.j2 k a out (b : Int) (i : Int) (((a.data.toList[i]'hlt).toNat : Int) != 32)) v → Ev (fun k => spec_PartsOf.l0 k a out (b : Int) (i : Int)) v := by
          intro hc v hv
          have hc2 := of_decide_eq_true hc
          refine Ev.step (f := fun k => spec_PartsOf.j1 k a out (b : Int) (i : Int) false) (fun k => ?_) (Ev.step (fun k => ?_) hv)
          · simp only [spec_PartsOf.l0]
            rw [if_pos (by omega), if_pos (by omega), if_pos (by omega), bte, if_neg (by omega), decide_eq_false (by omega)]
          · simp only [spec_PartsOf.j1, Bool.false_eq_true, if_false]
            rw [if_pos (by omega), if_pos (by omega), bte]
        cases c : okc (a.data.toList[i]'hlt) with
        | false =>
          unfold finV
          rw [if_neg (by rw [List.all_cons, c]; simp)]
          have hc2 := of_decide_eq_false c
          refine Ev.step (f := fun k => spec_PartsOf.j1 k a out (b : Int) (i : Int) true) (fun k => ?_) (Ev.step (f := fun _ => some ([], false)) (fun k => by simp only [spec_PartsOf.j1, if_true]) (Ev.now _))
          simp only [spec_PartsOf.l0]
          rw [if_pos (by omega), if_pos (by omega), if_pos (by omega), bte]
          by_cases c3 : ((a.data.toList[i]'hlt).toNat : Int) < 32
          · rw [if_pos c3]
          · rw [if_neg c3, decide_eq_true (by omega)]
        | true =>
          have sp := okc_sp c
          have fin : ∀ (o : List ByteArray) (cu : List UInt8), finV o cu (a.data.toList.drop (i + 1)) = if (a.data.toList.drop (i + 1)).all okc = true then endV (o ++ (Lib.fieldsGo cu (a.data.toList.drop (i + 1))).map mkT) else ([], false) := fun o cu => rfl
          have all1 : ((a.data.toList[i]'hlt) :: a.data.toList.drop (i + 1)).all okc = (a.data.toList.drop (i + 1)).all okc := by rw [List.all_cons, c, Bool.true_and]
          refine j1ok c _ ?_
          by_cases c4 : (a.data.toList[i]'hlt).toNat = 32
          · rw [show (((a.data.toList[i]'hlt).toNat : Int) != 32) = false from bne_eq_false_iff_eq.mpr (by omega)]
            rw [decide_eq_true c4] at sp
            by_cases c5 : b < i
            · have ne : (a.data.toList.drop b).take (i - b) ≠ [] := by
                intro e
                have := congrArg List.length e
                rw [List.length_take, List.length_drop, str_len] at this
                simp at this
                omega
              have z := ih (i + 1) (i + 1) (out ++ [a.extract b i]) (by omega) (Nat.le_refl _) (by simp; omega)
              rw [Nat.sub_self, List.take_zero, cut (by omega), fin] at z
              unfold finV
              rw [all1, Lib.fieldsGo_end _ _ _ sp ne, List.map_cons, show out ++ mkT ((a.data.toList.drop b).take (i - b)) :: (Lib.fieldsGo [] (a.data.toList.drop (i + 1))).map mkT = out ++ [mkT ((a.data.toList.drop b).take (i - b))] ++ (Lib.fieldsGo [] (a.data.toList.drop (i + 1))).map mkT by simp]
              refine Ev.step (fun k => ?_) z
              simp only [spec_PartsOf.j2, Bool.false_eq_true, if_false]
              rw [if_pos (by omega), if_pos (by omega), if_pos (by omega), if_pos (by omega), if_pos (by omega), wsucc (by omega), Int.toNat_natCast, Int.toNat_natCast, cut (by omega)]
            · have z := ih (i + 1) (i + 1) out (by omega) (Nat.le_refl _) (by omega)
              rw [Nat.sub_self, List.take_zero, fin] at z
              unfold finV
              rw [all1, show i - b = 0 by omega, List.take_zero, Lib.fieldsGo_sp _ _ sp]
              refine Ev.step (fun k => ?_) z
              simp only [spec_PartsOf.j2, Bool.false_eq_true, if_false]
              rw [if_neg (by omega), wsucc (by omega)]
          · rw [show (((a.data.toList[i]'hlt).toNat : Int) != 32) = true from bne_iff_ne.mpr (by omega)]
            rw [decide_eq_false c4] at sp
            have z := ih (i + 1) b out (by omega) (by omega) (by omega)
            have cs : (a.data.toList.drop b).take (i + 1 - b) = (a.data.toList.drop b).take (i - b) ++ [a.data.toList[i]'hlt] := by
              rw [show i + 1 - b = (i - b) + 1 by omega, List.take_succ_eq_append_getElem (by rw [List.length_drop, str_len]; omega), List.getElem_drop]
              simp only [show b + (i - b) = i by omega]
            rw [cs, fin] at z
            unfold finV
            rw [all1, Lib.fieldsGo_more _ _ _ sp]
            refine Ev.step (fun k => ?_) z
            simp only [spec_PartsOf.j2, if_true]
            rw [wsucc (by omega)]
    have z := key a.size 0 0 [] (by omega) (Nat.le_refl _) (by simp)
    exact z

theorem FnExactPartsOf : laws_FnExactPartsOf.Pure := by
  intro a _
  obtain ⟨T, hT⟩ := markText_fun
  refine Ev.rounds ?_
  unfold laws_FnExactPartsOf.f
  by_cases ch : (a.size : Int) > 1048576
  · exact Ev.pos ch (Ev.now _)
  refine Ev.neg ch ?_
  have sp := spec_PartsOf_ev a
  have im := impl_PartsOf_ev a
  have e8 := partsV_size a
  obtain ⟨v, b, e⟩ : ∃ v b, partsV a = (v, b) := ⟨_, _, rfl⟩
  rw [e] at sp im e8
  replace e8 : v.length ≤ 10 := e8
  have ev := eqS_ev v (by omega)
  have m2 := markS_ev T hT v 1 (by omega)
  have hd := heldS_ev T hT v.length 1 (by omega)
  have j1 : Ev (fun k => laws_FnExactPartsOf.j1 k (marked T 1 v.length) ((1 + v.length : Nat) : Int) (b != b)) true := by
    refine Ev.step (f := fun k => (laws_heldStringS.f k (marked T 1 v.length) 1).bind fun t325 => if t325 < 0 then some false else if t325 = ((1 + v.length : Nat) : Int) then some true else some false) (fun k => by simp only [laws_FnExactPartsOf.j1, bne_self_eq_false, Bool.false_eq_true, if_false]) ?_
    exact Ev.bind hd (Ev.neg (by omega) (Ev.pos (by omega) (Ev.now _)))
  refine Ev.bind sp (Ev.bind im (Ev.bind ev (Ev.pos rfl ?_)))
  refine Ev.step (f := fun k => (laws_markStringS.f k v 1).bind fun bt135 => (laws_heldStringS.f k bt135.2 1).bind fun t137 => if t137 < 0 then some false else if t137 = bt135.1 then ((impl_PartsOf.f k a).bind fun bt138 => (laws_eqStringS.f k bt138.1 v).bind fun t142 => if t142 = true then laws_FnExactPartsOf.j1 k bt135.2 bt135.1 (bt138.2 != b) else laws_FnExactPartsOf.j1 k bt135.2 bt135.1 true) else some false) (fun k => by simp only [laws_FnExactPartsOf.j0, bne_self_eq_false, Bool.false_eq_true, if_false]) ?_
  exact Ev.bind m2 (Ev.bind hd (Ev.neg (by omega) (Ev.pos rfl (Ev.bind im (Ev.bind ev (Ev.pos rfl j1))))))


end Go.Proofs.YtfagleffamhimaaDoor.Pure
