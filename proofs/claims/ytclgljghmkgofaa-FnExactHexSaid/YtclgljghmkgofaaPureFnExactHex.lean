/- The program's Hex and the reference's Hex return the same, for every text. -/
import Derived.Test.YtclgljghmkgofaaXFnExactHexx1
set_option linter.unusedVariables false
set_option linter.unusedSimpArgs false
namespace Go.Proofs.Ytclgljghmkgofaa.Pure
open Go.RowKit Go.Proofs.Ytclgljghmkgofaa.XFnExactHex Go.Proofs.YtclgljghmkgofaaW.PrintWords Go.Proofs.YtclgljghmkgofaaW.PrintLast

/-! ### small words -/
theorem w64 {x : Int} (h0 : -9223372036854775808 ≤ x) (h1 : x ≤ 9223372036854775807) : wrap64 x = x := by
  unfold wrap64
  omega
theorem wf64 {x : Int} (h : (Lit.int .i64 x).wf = true) : -9223372036854775808 ≤ x ∧ x ≤ 9223372036854775807 := by
  simp [Lit.wf, IntKind.min, IntKind.max, IntKind.signed, IntKind.bits] at h
  omega
theorem wfu32 {x : Int} (h : (Lit.int .u32 x).wf = true) : 0 ≤ x ∧ x ≤ 4294967295 := by
  simp [Lit.wf, IntKind.min, IntKind.max, IntKind.signed, IntKind.bits] at h
  omega
theorem wfu8 {x : Int} (h : (Lit.int .u8 x).wf = true) : 0 ≤ x ∧ x ≤ 255 := by
  simp [Lit.wf, IntKind.min, IntKind.max, IntKind.signed, IntKind.bits] at h
  omega
theorem wsucc {n : Nat} (h : n ≤ 4611686018427387904) : wrap64 ((n : Int) + 1) = ((n + 1 : Nat) : Int) := by
  rw [w64 (by omega) (by omega)]
  rfl
theorem wadd {a b : Nat} (h : a + b ≤ 4611686018427387904) : wrap64 ((a : Int) + (b : Int)) = ((a + b : Nat) : Int) := by
  rw [w64 (by omega) (by omega)]
  rfl
theorem wnat {n : Nat} (h : n ≤ 4611686018427387904) : wrap64 (n : Int) = (n : Int) := w64 (by omega) (by omega)
theorem Ev.some_bind {α β : Type} {a : Option α} {x : α} (h : a = some x) {f : Nat → α → Option β} {r : β} (k : Ev (fun n => f n x) r) : Ev (fun n => a.bind (f n)) r := by
  subst h
  exact k
theorem Ev.pos {α : Type} {p : Prop} [Decidable p] (h : p) {f g : Nat → Option α} {r : α} (k : Ev f r) : Ev (fun n => if p then f n else g n) r :=
  Ev.congr (fun _ => if_pos h) k
theorem Ev.neg {α : Type} {p : Prop} [Decidable p] (h : ¬ p) {f g : Nat → Option α} {r : α} (k : Ev g r) : Ev (fun n => if p then f n else g n) r :=
  Ev.congr (fun _ => if_neg h) k
theorem tmod_nat {x : Int} (h0 : 0 ≤ x) (N : Nat) : ∃ c : Nat, Int.tmod x ((N + 1 : Nat) : Int) = (c : Int) ∧ c ≤ N := by
  obtain ⟨c, hc⟩ := Int.eq_ofNat_of_zero_le (Int.tmod_nonneg ((N + 1 : Nat) : Int) h0)
  have hlt := Int.tmod_lt_of_pos x (show (0 : Int) < ((N + 1 : Nat) : Int) by omega)
  rw [hc] at hlt
  exact ⟨c, hc, by omega⟩

theorem strOfNums_size (xs : List Int) : (strOfNums xs).size = xs.length := by simp [strOfNums, ByteArray.size]
theorem str_ext {a b : ByteArray} (h : a.data.toList = b.data.toList) : a = b := by
  apply ByteArray.ext
  exact Array.toList_inj.1 h
theorem str_app (a b : ByteArray) : (a ++ b).data.toList = a.data.toList ++ b.data.toList := by simp [ByteArray.data_append]
theorem str_cut (s : ByteArray) (a b : Nat) : (s.extract a b).data.toList = (s.data.toList.drop a).take (b - a) := by
  obtain ⟨⟨l⟩⟩ := s
  simp [ByteArray.data_extract, List.extract_eq_take_drop]
theorem str_len (s : ByteArray) : s.data.toList.length = s.size := rfl
theorem str_toList {a b : ByteArray} : a.toList = b.toList ↔ a = b := by
  rw [ByteArray.toList_eq, ByteArray.toList_eq]
  exact ⟨str_ext, fun h => by rw [h]⟩
theorem str_split (s : ByteArray) (n : Nat) (h : n ≤ s.size) : s.extract 0 n ++ s.extract n s.size = s := by
  apply str_ext
  rw [str_app, str_cut, str_cut, List.drop_zero, Nat.sub_zero, List.take_of_length_le (l := s.data.toList.drop n) (by simp [str_len]), List.take_append_drop]
theorem str_app_inj {a b c : ByteArray} (h : a ++ b = a ++ c) : b = c := by
  have := congrArg (fun s : ByteArray => s.data.toList) h
  simp only [str_app] at this
  exact str_ext (List.append_cancel_left this)
theorem cut_size (s : ByteArray) {n : Nat} (h : n ≤ s.size) : (s.extract 0 n).size = n := by
  rw [ByteArray.size_extract]
  omega

/-! ### figures -/
def fig (d : Nat) : Int := if d < 10 then ((48 + d : Nat) : Int) else ((87 + d : Nat) : Int)
def figs (b : UInt8) : List Int := [fig (b.toNat / 16), fig (b.toNat % 16)]
def hexL (l : List UInt8) : List Int := l.flatMap figs
def hexV (s : ByteArray) : ByteArray × Bool := if (s.size : Int) > 20000 then ((⟨#[]⟩ : ByteArray), false) else (strOfNums (hexL s.data.toList), true)
theorem hexL_length (l : List UInt8) : (hexL l).length = 2 * l.length := by
  induction l with
  | nil => rfl
  | cons b l ih => simp only [hexL, List.flatMap_cons, List.length_append] at ih ⊢; rw [ih]; simp [figs]; omega
theorem hexL_snoc (l : List UInt8) (b : UInt8) : hexL (l ++ [b]) = hexL l ++ figs b := by simp [hexL, List.flatMap_append]
theorem bt_nat (s : ByteArray) {i : Nat} (h : i < s.size) : bt s (i : Int) = ((s.data.toList[i]'h).toNat : Int) := by
  unfold bt
  rw [dif_pos (by simpa using h)]
  rfl
theorem take_snoc (s : ByteArray) {i : Nat} (h : i < s.size) : s.data.toList.take (i + 1) = s.data.toList.take i ++ [s.data.toList[i]'h] := by
  rw [List.take_succ_eq_append_getElem h]

theorem spec_l01Figure_eq {d : Nat} (h : d < 16) : spec_l01Figure.f (d : Int) = some (fig d) := by
  have : ∀ d : Fin 16, spec_l01Figure.f (d.val : Int) = some (fig d.val) := by decide +kernel
  exact this ⟨d, h⟩
theorem spec_Hex_l0 (s : ByteArray) (hs : s.size ≤ 20000) (d : Nat) : ∀ i, i ≤ s.size → s.size - i = d → Ev (fun k => spec_Hex.l0 k s (hexL (s.data.toList.take i)) (i : Int)) (strOfNums (hexL s.data.toList), true) := by
  induction d with
  | zero =>
    intro i hi hd
    refine Ev.step (f := fun _ => some (strOfNums (hexL s.data.toList), true)) (fun k => ?_) (Ev.now _)
    simp only [spec_Hex.l0]
    rw [if_neg (by omega), List.take_of_length_le (by rw [str_len]; omega)]
  | succ d ih =>
    intro i hi hd
    have hlt : i < s.size := by omega
    have hb := (s.data.toList[i]'hlt).toNat_lt
    refine Ev.step (f := fun k => spec_Hex.l0 k s (hexL (s.data.toList.take (i + 1))) ((i + 1 : Nat) : Int)) (fun k => ?_) (ih _ (by omega) (by omega))
    simp only [spec_Hex.l0]
    rw [if_pos (by omega), if_pos (by omega), bt_nat s hlt, w64 (x := ((s.data.toList[i]'hlt).toNat : Int)) (by omega) (by omega), Int.tdiv_eq_ediv_of_nonneg (by omega), w64 (x := ((s.data.toList[i]'hlt).toNat : Int) / 16) (by omega) (by omega), Int.tmod_eq_emod_of_nonneg (by omega)]
    have e1 := spec_l01Figure_eq (d := (s.data.toList[i]'hlt).toNat / 16) (by omega)
    have e2 := spec_l01Figure_eq (d := (s.data.toList[i]'hlt).toNat % 16) (by omega)
    have hl := hexL_length (s.data.toList.take i)
    rw [List.length_take] at hl
    rw [show ((s.data.toList[i]'hlt).toNat : Int) / 16 = (((s.data.toList[i]'hlt).toNat / 16 : Nat) : Int) from rfl, show ((s.data.toList[i]'hlt).toNat : Int) % 16 = (((s.data.toList[i]'hlt).toNat % 16 : Nat) : Int) from rfl, e1, e2]
    simp only [Option.bind_some]
    rw [if_pos (by simp; omega), w64 (by omega) (by omega), take_snoc s hlt, hexL_snoc]
    rfl
theorem spec_Hex_ev (s : ByteArray) : Ev (fun k => spec_Hex.f k s) (hexV s) := by
  unfold hexV spec_Hex.f
  by_cases h : (s.size : Int) > 20000
  · simp only [if_pos h]
    exact Ev.now _
  · simp only [if_neg h]
    have := spec_Hex_l0 s (by omega) s.size 0 (by omega) (by omega)
    exact this

theorem fig_bt {d : Nat} (h : d < 16) : bt (⟨#[48, 49, 50, 51, 52, 53, 54, 55, 56, 57, 97, 98, 99, 100, 101, 102]⟩ : ByteArray) (d : Int) = fig d := by
  have : ∀ d : Fin 16, bt (⟨#[48, 49, 50, 51, 52, 53, 54, 55, 56, 57, 97, 98, 99, 100, 101, 102]⟩ : ByteArray) (d.val : Int) = fig d.val := by decide +kernel
  exact this ⟨d, h⟩
theorem impl_Hex_l0 (s : ByteArray) (hs : s.size ≤ 20000) (d : Nat) : ∀ i, i ≤ s.size → s.size - i = d → Ev (fun k => impl_Hex.l0 k s (hexL (s.data.toList.take i)) (i : Int)) (strOfNums (hexL s.data.toList), true) := by
  induction d with
  | zero =>
    intro i hi hd
    refine Ev.step (f := fun _ => some (strOfNums (hexL s.data.toList), true)) (fun k => ?_) (Ev.now _)
    simp only [impl_Hex.l0]
    rw [if_neg (by omega), List.take_of_length_le (by rw [str_len]; omega)]
  | succ d ih =>
    intro i hi hd
    have hlt : i < s.size := by omega
    have hb := (s.data.toList[i]'hlt).toNat_lt
    refine Ev.step (f := fun k => impl_Hex.l0 k s (hexL (s.data.toList.take (i + 1))) ((i + 1 : Nat) : Int)) (fun k => ?_) (ih _ (by omega) (by omega))
    have e1 := fig_bt (d := (s.data.toList[i]'hlt).toNat / 16) (by omega)
    have e2 := fig_bt (d := (s.data.toList[i]'hlt).toNat % 16) (by omega)
    have d1 : Int.tdiv ((s.data.toList[i]'hlt).toNat : Int) 16 % 256 = (((s.data.toList[i]'hlt).toNat / 16 : Nat) : Int) := by
      rw [Int.tdiv_eq_ediv_of_nonneg (by omega)]
      omega
    have d2 : Int.tmod ((s.data.toList[i]'hlt).toNat : Int) 16 = (((s.data.toList[i]'hlt).toNat % 16 : Nat) : Int) := by
      rw [Int.tmod_eq_emod_of_nonneg (by omega)]
      rfl
    have hl := hexL_length (s.data.toList.take i)
    rw [List.length_take] at hl
    simp only [impl_Hex.l0]
    rw [if_pos (by omega), if_pos (by omega), bt_nat s hlt, d1, d2, e1, e2, if_pos (by omega), if_pos (by omega), if_pos (by omega), if_pos (by omega)]
    simp only [Option.bind_some]
    rw [if_pos (by simp; omega), w64 (by omega) (by omega), take_snoc s hlt, hexL_snoc]
    rfl
theorem impl_Hex_ev (s : ByteArray) : Ev (fun k => impl_Hex.f k s) (hexV s) := by
  unfold hexV impl_Hex.f
  by_cases h : (s.size : Int) > 20000
  · simp only [if_pos h]
    exact Ev.now _
  · simp only [if_neg h]
    have := impl_Hex_l0 s (by omega) s.size 0 (by omega) (by omega)
    exact this

theorem FnExactHex : laws_FnExactHex.Pure := by
  intro s hs
  refine Ev.rounds ?_
  unfold laws_FnExactHex.f
  by_cases h : (s.size : Int) > 1048576
  · simp only [if_pos h]
    exact Ev.now _
  · simp only [if_neg h]
    refine Ev.bind (spec_Hex_ev s) (Ev.bind (impl_Hex_ev s) ?_)
    simp only [if_true, bne_self_eq_false, Bool.false_eq_true, if_false]
    exact Ev.now _


end Go.Proofs.Ytclgljghmkgofaa.Pure
