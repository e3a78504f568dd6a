/- The program's Unhex and the reference's Unhex return the same, for every text. -/
import Derived.Test.YtfagleffamhimaaXFnExactUnhexx1
set_option linter.unusedVariables false
set_option linter.unusedSimpArgs false
namespace Go.Proofs.Ytfagleffamhimaa.Pure
open Go.RowKit Go.Proofs.Ytfagleffamhimaa.XFnExactUnhex Go.Proofs.YtfagleffamhimaaW.PrintWords Go.Proofs.YtfagleffamhimaaW.PrintLast

/-! ### small words -/
theorem w64 {x : Int} (h0 : -9223372036854775808 ≤ x) (h1 : x ≤ 9223372036854775807) : wrap64 x = x := by
  unfold wrap64
  omega
theorem wf64 {x : Int} (h : (Lit.int .i64 x).wf = true) : -9223372036854775808 ≤ x ∧ x ≤ 9223372036854775807 := by
  simp [Lit.wf, IntKind.min, IntKind.max, IntKind.signed, IntKind.bits] at h
  omega
theorem wfu32 {x : Int} (h : (Lit.int .u32 x).wf = true) : 0 ≤ x ∧ x ≤ 4294967295 := by
  simp [Lit.wf, IntKind.min, IntKind.max, IntKind.signed, IntKind.bits] at h
  omega
theorem wfu8 {x : Int} (h : (Lit.int .u8 x).wf = true) : 0 ≤ x ∧ x ≤ 255 := by
  simp [Lit.wf, IntKind.min, IntKind.max, IntKind.signed, IntKind.bits] at h
  omega
theorem wsucc {n : Nat} (h : n ≤ 4611686018427387904) : wrap64 ((n : Int) + 1) = ((n + 1 : Nat) : Int) := by
  rw [w64 (by omega) (by omega)]
  rfl
theorem wadd {a b : Nat} (h : a + b ≤ 4611686018427387904) : wrap64 ((a : Int) + (b : Int)) = ((a + b : Nat) : Int) := by
  rw [w64 (by omega) (by omega)]
  rfl
theorem wnat {n : Nat} (h : n ≤ 4611686018427387904) : wrap64 (n : Int) = (n : Int) := w64 (by omega) (by omega)
theorem Ev.some_bind {α β : Type} {a : Option α} {x : α} (h : a = some x) {f : Nat → α → Option β} {r : β} (k : Ev (fun n => f n x) r) : Ev (fun n => a.bind (f n)) r := by
  subst h
  exact k
theorem Ev.pos {α : Type} {p : Prop} [Decidable p] (h : p) {f g : Nat → Option α} {r : α} (k : Ev f r) : Ev (fun n => if p then f n else g n) r :=
  Ev.congr (fun _ => if_pos h) k
theorem Ev.neg {α : Type} {p : Prop} [Decidable p] (h : ¬ p) {f g : Nat → Option α} {r : α} (k : Ev g r) : Ev (fun n => if p then f n else g n) r :=
  Ev.congr (fun _ => if_neg h) k
theorem tmod_nat {x : Int} (h0 : 0 ≤ x) (N : Nat) : ∃ c : Nat, Int.tmod x ((N + 1 : Nat) : Int) = (c : Int) ∧ c ≤ N := by
  obtain ⟨c, hc⟩ := Int.eq_ofNat_of_zero_le (Int.tmod_nonneg ((N + 1 : Nat) : Int) h0)
  have hlt := Int.tmod_lt_of_pos x (show (0 : Int) < ((N + 1 : Nat) : Int) by omega)
  rw [hc] at hlt
  exact ⟨c, hc, by omega⟩

theorem strOfNums_size (xs : List Int) : (strOfNums xs).size = xs.length := by simp [strOfNums, ByteArray.size]
theorem str_ext {a b : ByteArray} (h : a.data.toList = b.data.toList) : a = b := by
  apply ByteArray.ext
  exact Array.toList_inj.1 h
theorem str_app (a b : ByteArray) : (a ++ b).data.toList = a.data.toList ++ b.data.toList := by simp [ByteArray.data_append]
theorem str_cut (s : ByteArray) (a b : Nat) : (s.extract a b).data.toList = (s.data.toList.drop a).take (b - a) := by
  obtain ⟨⟨l⟩⟩ := s
  simp [ByteArray.data_extract, List.extract_eq_take_drop]
theorem str_len (s : ByteArray) : s.data.toList.length = s.size := rfl
theorem str_toList {a b : ByteArray} : a.toList = b.toList ↔ a = b := by
  rw [ByteArray.toList_eq, ByteArray.toList_eq]
  exact ⟨str_ext, fun h => by rw [h]⟩
theorem str_split (s : ByteArray) (n : Nat) (h : n ≤ s.size) : s.extract 0 n ++ s.extract n s.size = s := by
  apply str_ext
  rw [str_app, str_cut, str_cut, List.drop_zero, Nat.sub_zero, List.take_of_length_le (l := s.data.toList.drop n) (by simp [str_len]), List.take_append_drop]
theorem str_app_inj {a b c : ByteArray} (h : a ++ b = a ++ c) : b = c := by
  have := congrArg (fun s : ByteArray => s.data.toList) h
  simp only [str_app] at this
  exact str_ext (List.append_cancel_left this)
theorem cut_size (s : ByteArray) {n : Nat} (h : n ≤ s.size) : (s.extract 0 n).size = n := by
  rw [ByteArray.size_extract]
  omega

/-! ### lists of bytes as numbers -/
def ints (l : List UInt8) : List Int := l.map fun b => (b.toNat : Int)
theorem ints_length (l : List UInt8) : (ints l).length = l.length := by simp [ints]
theorem ints_app (l m : List UInt8) : ints (l ++ m) = ints l ++ ints m := by simp [ints]
theorem bytesOf_ints (s : ByteArray) : bytesOf s = ints s.data.toList := rfl
theorem str_ints (l : List UInt8) : strOfNums (ints l) = ⟨l.toArray⟩ := by
  unfold strOfNums ints
  congr 1
  rw [List.map_map]
  congr 1
  conv => rhs; rw [← List.map_id l]
  refine List.map_congr_left (fun b _ => ?_)
  simp
theorem set_mid {α : Type} (A : List α) (x v : α) (B : List α) : (A ++ x :: B).set A.length v = A ++ v :: B := by simp
theorem rd_mid (A : List Int) (x : Int) (B : List Int) : rd (A ++ x :: B) (A.length : Int) = x := by simp [rd]
theorem bt_mid (s : ByteArray) {A : List UInt8} {x : UInt8} {B : List UInt8} (h : s.data.toList = A ++ x :: B) : bt s (A.length : Int) = (x.toNat : Int) := by
  have hl : A.length < s.size := by
    have h1 : s.data.toList.length = s.size := rfl
    rw [h] at h1
    simp at h1
    omega
  unfold bt
  rw [dif_pos (by simpa using hl)]
  have e : s.data.toList[A.length]'(by simpa using hl) = x := by simp [h]
  show (((s.data[A.length]'hl).toNat : Nat) : Int) = _
  rw [← e]
  simp
theorem size_of_list (s : ByteArray) {l : List UInt8} (h : s.data.toList = l) : s.size = l.length := by
  have h1 : s.data.toList.length = s.size := rfl
  rw [h] at h1
  omega

/-! ### hex figures read -/
def hv (b : UInt8) : Int := if 48 ≤ b.toNat ∧ b.toNat ≤ 57 then (b.toNat : Int) - 48 else if 97 ≤ b.toNat ∧ b.toNat ≤ 102 then (b.toNat : Int) - 87 else -1
theorem hv_range (b : UInt8) : -1 ≤ hv b ∧ hv b ≤ 15 := by
  unfold hv
  split
  · omega
  · split <;> omega
def uhL : List UInt8 → List Int → ByteArray × Bool
  | x :: y :: rest, out => if hv x < 0 ∨ hv y < 0 then (⟨#[]⟩, false) else uhL rest (out ++ [(16 * hv x + hv y) % 256])
  | _, out => (strOfNums out, true)
def uhR (s : ByteArray) : ByteArray × Bool := if s.size ≤ 40000 ∧ s.size % 2 = 0 then uhL s.data.toList [] else (⟨#[]⟩, false)
theorem size_list (s : ByteArray) : s.size = s.data.toList.length := rfl

theorem spec_value_ev (b : UInt8) : Ev (fun k => spec_l01Value.f k (b.toNat : Int)) (hv b) := by
  have hb := UInt8.toNat_lt b
  have hb : b.toNat < 256 := hb
  unfold spec_l01Value.f hv
  by_cases h1 : (b.toNat : Int) ≥ 48
  · refine Ev.pos h1 ?_
    by_cases h2 : b.toNat ≤ 57
    · rw [if_pos ⟨by omega, h2⟩]
      refine Ev.step (f := fun _ => some ((b.toNat : Int) - 48)) (fun k => ?_) (Ev.now _)
      simp only [spec_l01Value.j0]
      rw [if_pos (by simp; omega), w64 (x := (b.toNat : Int)) (by omega) (by omega), w64 (by omega) (by omega)]
    · rw [if_neg (by omega)]
      by_cases h3 : 97 ≤ b.toNat ∧ b.toNat ≤ 102
      · rw [if_pos h3]
        refine Ev.step (f := fun _ => some ((b.toNat : Int) - 87)) (fun k => ?_) (Ev.now _)
        simp only [spec_l01Value.j0]
        rw [if_neg (by simp; omega), if_pos (by omega), if_pos (by omega), w64 (x := (b.toNat : Int)) (by omega) (by omega), w64 (x := (b.toNat : Int) - 97) (by omega) (by omega), w64 (by omega) (by omega)]
        congr 1
        omega
      · rw [if_neg h3]
        refine Ev.step (f := fun _ => some (-1)) (fun k => ?_) (Ev.now _)
        simp only [spec_l01Value.j0]
        rw [if_neg (by simp; omega)]
        by_cases h4 : (b.toNat : Int) ≥ 97
        · rw [if_pos h4, if_neg (by omega)]
        · rw [if_neg h4]
  · refine Ev.neg h1 ?_
    rw [if_neg (by omega), if_neg (by omega)]
    refine Ev.step (f := fun _ => some (-1)) (fun k => ?_) (Ev.now _)
    simp only [spec_l01Value.j0]
    rw [if_neg (by simp), if_neg (by omega)]
theorem spec_Unhex_ev (s : ByteArray) (hs : s.size ≤ 4611686018427387904) : Ev (fun k => spec_Unhex.f k s) (uhR s) := by
  have bad : Ev (fun k => spec_Unhex.j0 k s true) ((⟨#[]⟩ : ByteArray), false) := Ev.step (f := fun _ => some (⟨#[]⟩, false)) (fun k => by simp only [spec_Unhex.j0, if_true]) (Ev.now _)
  unfold spec_Unhex.f uhR
  by_cases h1 : (s.size : Int) > 40000
  · rw [if_neg (by omega)]
    exact Ev.pos h1 bad
  · refine Ev.neg h1 ?_
    by_cases h2 : s.size % 2 = 0
    · rw [if_pos ⟨by omega, h2⟩]
      rw [show (((s.size : Int) % 2) != 0) = false by rw [show (s.size : Int) % 2 = 0 by omega]; rfl]
      have key : ∀ (n : Nat) (L A : List UInt8) (out : List Int), L.length = 2 * n → s.data.toList = A ++ L → out.length ≤ A.length → Ev (fun k => spec_Unhex.l0 k s out (A.length : Int)) (uhL L out) := by
        intro n
        induction n with
        | zero =>
          intro L A out hn hL ho
          obtain rfl : L = [] := List.length_eq_zero_iff.mp (by omega)
          have e : s.size = A.length := by rw [size_list, hL]; simp
          refine Ev.step (f := fun _ => some (strOfNums out, true)) (fun k => ?_) (Ev.now _)
          simp only [spec_Unhex.l0]
          rw [if_neg (by omega)]
        | succ n ih =>
          intro L A out hn hL ho
          match L, hn with
          | x :: y :: rest, hn =>
            simp only [List.length_cons] at hn
            have e : s.size = A.length + (rest.length + 2) := by rw [size_list, hL]; simp
            have b1 := bt_mid s hL
            have b2 := bt_mid s (A := A ++ [x]) (x := y) (B := rest) (by simp [hL])
            rw [List.length_append, List.length_singleton] at b2
            obtain ⟨x0, x1⟩ := hv_range x
            obtain ⟨y0, y1⟩ := hv_range y
            have ex := spec_value_ev x
            have ey := spec_value_ev y
            have tail : Ev (fun k => if hv x < 0 then some ((⟨#[]⟩ : ByteArray), false) else if hv y < 0 then some ((⟨#[]⟩ : ByteArray), false) else if out.length < 140737488355328 then spec_Unhex.l0 k s (out ++ [(wrap64 ((wrap64 (16 * hv x)) + hv y)) % 256]) ((A.length + 2 : Nat) : Int) else none) (uhL (x :: y :: rest) out) := by
              by_cases hx : hv x < 0
              · refine Ev.pos hx ?_
                rw [uhL, if_pos (Or.inl hx)]
                exact Ev.now _
              · refine Ev.neg hx ?_
                by_cases hy : hv y < 0
                · refine Ev.pos hy ?_
                  rw [uhL, if_pos (Or.inr hy)]
                  exact Ev.now _
                · refine Ev.neg hy (Ev.pos (by omega) ?_)
                  rw [uhL, if_neg (by omega), w64 (x := 16 * hv x) (by omega) (by omega), w64 (by omega) (by omega)]
                  have z := ih rest (A ++ [x, y]) (out ++ [(16 * hv x + hv y) % 256]) (by omega) (by simp [hL]) (by simp; omega)
                  simpa using z
            refine Ev.step (f := fun k => (spec_l01Value.f k (x.toNat : Int)).bind fun t => (spec_l01Value.f k (y.toNat : Int)).bind fun u => if t < 0 then some ((⟨#[]⟩ : ByteArray), false) else if u < 0 then some ((⟨#[]⟩ : ByteArray), false) else if out.length < 140737488355328 then spec_Unhex.l0 k s (out ++ [(wrap64 ((wrap64 (16 * t)) + u)) % 256]) ((A.length + 2 : Nat) : Int) else none) (fun k => ?_) (Ev.bind ex (Ev.bind ey tail))
            simp only [spec_Unhex.l0]
            rw [if_pos (by omega), if_pos (by omega), b1, wsucc (n := A.length) (by omega), b2, w64 (x := (A.length : Int) + 2) (by omega) (by omega)]
            refine congrArg (Option.bind _) (funext fun t => ?_)
            rw [if_pos (by omega), if_pos (by omega)]
            rfl
      refine Ev.step (fun k => ?_) (key (s.size / 2) s.data.toList [] [] (by rw [← size_list]; omega) rfl (by simp))
      simp only [spec_Unhex.j0, Bool.false_eq_true, if_false]
      rfl
    · rw [if_neg (fun h => h2 h.2)]
      rw [show (((s.size : Int) % 2) != 0) = true by rw [show (s.size : Int) % 2 = 1 by omega]; rfl]
      exact bad

theorem index_hv (b : UInt8) : Lib.indexByte [48, 49, 50, 51, 52, 53, 54, 55, 56, 57, 97, 98, 99, 100, 101, 102] b = hv b := by
  have key : ∀ n : Fin 256, Lib.indexByte [48, 49, 50, 51, 52, 53, 54, 55, 56, 57, 97, 98, 99, 100, 101, 102] (UInt8.ofNat n.val) = hv (UInt8.ofNat n.val) := by decide +kernel
  have h := key ⟨b.toNat, UInt8.toNat_lt b⟩
  rwa [UInt8.ofNat_toNat] at h
theorem impl_index (b : UInt8) : strings_IndexByte.f (⟨#[48, 49, 50, 51, 52, 53, 54, 55, 56, 57, 97, 98, 99, 100, 101, 102]⟩ : ByteArray) (b.toNat : Int) = some (hv b) := by
  unfold strings_IndexByte.f stringslite_IndexByte.f
  rw [Option.bind_some, Int.toNat_natCast]
  have e : b.toNat.toUInt8 = b := UInt8.ofNat_toNat
  rw [e]
  exact congrArg some (index_hv b)
theorem impl_Unhex_ev (s : ByteArray) (hs : s.size ≤ 4611686018427387904) : Ev (fun k => impl_Unhex.f k s) (uhR s) := by
  have bad : Ev (fun k => impl_Unhex.j0 k s true) ((⟨#[]⟩ : ByteArray), false) := Ev.step (f := fun _ => some (⟨#[]⟩, false)) (fun k => by simp only [impl_Unhex.j0, if_true]) (Ev.now _)
  unfold impl_Unhex.f uhR
  by_cases h2 : s.size % 2 = 0
  · refine Ev.neg (by omega) ?_
    by_cases h1 : (s.size : Int) > 40000
    · rw [if_neg (by omega), decide_eq_true h1]
      exact bad
    · rw [if_pos ⟨by omega, h2⟩, decide_eq_false h1]
      have key : ∀ (n : Nat) (L A : List UInt8) (out : List Int) (half : Int), L.length = 2 * n → A.length % 2 = 0 → s.data.toList = A ++ L → out.length ≤ A.length → Ev (fun k => impl_Unhex.l0 k s out half (A.length : Int)) (uhL L out) := by
        intro n
        induction n with
        | zero =>
          intro L A out half hn he hL ho
          obtain rfl : L = [] := List.length_eq_zero_iff.mp (by omega)
          have e : s.size = A.length := by rw [size_list, hL]; simp
          refine Ev.step (f := fun _ => some (strOfNums out, true)) (fun k => ?_) (Ev.now _)
          simp only [impl_Unhex.l0]
          rw [if_neg (by omega)]
        | succ n ih =>
          intro L A out half hn he hL ho
          match L, hn with
          | x :: y :: rest, hn =>
            simp only [List.length_cons] at hn
            have e : s.size = A.length + (rest.length + 2) := by rw [size_list, hL]; simp
            have b1 := bt_mid s hL
            have b2 := bt_mid s (A := A ++ [x]) (x := y) (B := rest) (by simp [hL])
            rw [List.length_append, List.length_singleton] at b2
            obtain ⟨x0, x1⟩ := hv_range x
            obtain ⟨y0, y1⟩ := hv_range y
            have t1 : Int.tmod (A.length : Int) 2 = ((A.length % 2 : Nat) : Int) := rfl
            have t2 : Int.tmod ((A.length + 1 : Nat) : Int) 2 = (((A.length + 1) % 2 : Nat) : Int) := rfl
            by_cases hx : hv x < 0
            · rw [uhL, if_pos (Or.inl hx)]
              refine Ev.step (f := fun _ => some (⟨#[]⟩, false)) (fun k => ?_) (Ev.now _)
              simp only [impl_Unhex.l0]
              rw [if_pos (by omega), if_pos (by omega), b1, impl_index, Option.bind_some, if_pos hx]
            · refine Ev.step (f := fun k => impl_Unhex.l0 k s out (hv x) ((A.length + 1 : Nat) : Int)) (fun k => ?_) ?_
              · simp only [impl_Unhex.l0]
                rw [if_pos (by omega), if_pos (by omega), b1, impl_index, Option.bind_some, if_neg hx, t1, if_neg (by omega), wsucc (by omega)]
              · by_cases hy : hv y < 0
                · rw [uhL, if_pos (Or.inr hy)]
                  refine Ev.step (f := fun _ => some (⟨#[]⟩, false)) (fun k => ?_) (Ev.now _)
                  simp only [impl_Unhex.l0]
                  rw [if_pos (by omega), if_pos (by omega), b2, impl_index, Option.bind_some, if_pos hy]
                · rw [uhL, if_neg (by omega)]
                  have z := ih rest (A ++ [x, y]) (out ++ [(16 * hv x + hv y) % 256]) (hv y) (by omega) (by simp; omega) (by simp [hL]) (by simp; omega)
                  refine Ev.step (fun k => ?_) z
                  simp only [impl_Unhex.l0]
                  rw [if_pos (by omega), if_pos (by omega), b2, impl_index, Option.bind_some, if_neg hy, t2, if_pos (by omega), if_pos (by omega), w64 (x := 16 * hv x) (by omega) (by omega), w64 (x := 16 * hv x + hv y) (by omega) (by omega), wsucc (n := A.length + 1) (by omega), List.length_append]
                  rfl
      refine Ev.step (fun k => ?_) (key (s.size / 2) s.data.toList [] [] 0 (by rw [← size_list]; omega) rfl rfl (by simp))
      simp only [impl_Unhex.j0, Bool.false_eq_true, if_false]
      rfl
  · rw [if_neg (fun h => h2 h.2)]
    exact Ev.pos (by omega) bad

theorem FnExactUnhex : laws_FnExactUnhex.Pure := by
  intro s hs
  refine Ev.rounds ?_
  unfold laws_FnExactUnhex.f
  by_cases h : (s.size : Int) > 1048576
  · exact Ev.pos h (Ev.now _)
  · refine Ev.neg h (Ev.bind (spec_Unhex_ev s (by omega)) (Ev.bind (impl_Unhex_ev s (by omega)) (Ev.pos rfl (Ev.neg (by simp) (Ev.now _)))))


end Go.Proofs.Ytfagleffamhimaa.Pure
