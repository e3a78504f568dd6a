/- Units that are drawn are encoded as the reference does it; behind the loss of so many as there are sums the units and all texts come back; behind one loss more nothing does. -/
import Derived.Test.YtcpcphdhaboekaaXFnCodesx11
set_option linter.unusedVariables false
set_option linter.unusedSimpArgs false
namespace Go.Proofs.Ytcpcphdhaboekaa.Pure
open Go.RowKit Go.Proofs.Ytcpcphdhaboekaa.XFnCodes Go.Proofs.YtcpcphdhaboekaaT.PrintWords Go.Proofs.YtcpcphdhaboekaaT.PrintLast

theorem strOfNums_size (xs : List Int) : (strOfNums xs).size = xs.length := by simp [strOfNums, ByteArray.size]
theorem str_ext {a b : ByteArray} (h : a.data.toList = b.data.toList) : a = b := by
 apply ByteArray.ext
 exact Array.toList_inj.1 h
theorem str_app (a b : ByteArray) : (a ++ b).data.toList = a.data.toList ++ b.data.toList := by simp [ByteArray.data_append]
theorem str_len (s : ByteArray) : s.data.toList.length = s.size := rfl
theorem spec_l01In_eq (a l h : Int) : spec_l01In.f a l h = some (decide (l ≤ a ∧ a ≤ h)) := by
 unfold spec_l01In.f
 by_cases h1 : l ≤ a
 ·rw [if_pos h1]; simp [h1]
 ·rw [if_neg h1]; simp [h1]

/-! ### spec.MatrixOk -/
theorem spec_MatrixOk_ev (m : List (List Int)) (hl : m.length ≤ 4611686018427387904) (hr : ∀ r ∈ m, r.length ≤ 4611686018427387904) : Ev (fun k => spec_MatrixOk.f k m) (okM m) := by
 have key : ∀ (B A : List (List Int)), m = A ++ B → Ev (fun k => spec_MatrixOk.l0 k m (A.length : Int)) (B.all (fun r => okR (m.headD []).length r && in18 (m.headD []).length) && in18 m.length) := by
  intro B
  induction B with
  | nil =>
   intro A h
   refine Ev.step (f := fun _ => some (in18 m.length)) (fun k => ?_) (Ev.now _)
   simp only [spec_MatrixOk.l0]
   rw [if_neg (by rw [h]; simp), spec_l01In_eq, in18_int]
   rfl
  | cons x B ih =>
   intro A h
   have e : m.length = A.length + (B.length + 1) := by rw [h]; simp
   have r : rd_L3 m (A.length : Int) = x := by rw [h]; exact rdL_mid A x B
   have hx : x.length ≤ 4611686018427387904 := hr x (by rw [h]; simp)
   have z := ih (A ++ [x]) (by simp [h])
   have inner : ∀ (D C : List Int), x = C ++ D → Ev (fun k => spec_MatrixOk.l1 k m (A.length : Int) (C.length : Int)) (D.all inB && (B.all (fun r => okR (m.headD []).length r && in18 (m.headD []).length) && in18 m.length)) := by
    intro D
    induction D with
    | nil =>
     intro C hc
     refine Ev.step (fun k => ?_) z
     simp only [spec_MatrixOk.l1]
     rw [if_pos (by omega), if_pos (by omega), r, if_neg (by rw [hc]; simp), wsucc (by omega)]
     simp
    | cons y D ihd =>
     intro C hc
     have ex : x.length = C.length + (D.length + 1) := by rw [hc]; simp
     have ry : rd x (C.length : Int) = y := by rw [hc]; exact rdI_mid C y D
     have zd := ihd (C ++ [y]) (by simp [hc])
     by_cases hy : inB y = true
     ·rw [List.all_cons, hy, Bool.true_and]
      refine Ev.step (fun k => ?_) zd
      simp only [spec_MatrixOk.l1]
      rw [if_pos (by omega), if_pos (by omega), r, if_pos (by omega), if_pos (by omega), ry, spec_l01In_eq, Option.bind_some, if_pos (by exact hy), wsucc (by omega)]
      simp
     ·rw [List.all_cons, Bool.eq_false_iff.mpr hy, Bool.false_and, Bool.false_and]
      refine Ev.step (f := fun _ => some false) (fun k => ?_) (Ev.now _)
      simp only [spec_MatrixOk.l1]
      rw [if_pos (by omega), if_pos (by omega), r, if_pos (by omega), if_pos (by omega), ry, spec_l01In_eq, Option.bind_some, if_neg (by exact hy)]
   have j : ∀ b : Bool, Ev (fun k => spec_MatrixOk.j1 k m (A.length : Int) b) (!b && (x.all inB && (B.all (fun r => okR (m.headD []).length r && in18 (m.headD []).length) && in18 m.length))) := by
    intro b
    cases b with
    | true => exact Ev.step (f := fun _ => some false) (fun k => by simp only [spec_MatrixOk.j1, if_true]) (Ev.now _)
    | false =>
     have y := inner x [] rfl
     rw [Bool.not_false, Bool.true_and]
     refine Ev.step (fun k => ?_) y
     simp only [spec_MatrixOk.j1, Bool.false_eq_true, if_false]
     rfl
   rw [List.all_cons]
   by_cases hn : x.length = (m.headD []).length
   ·refine Ev.step (f := fun k => spec_MatrixOk.j1 k m (A.length : Int) (!in18 x.length)) (fun k => ?_) ?_
    ·simp only [spec_MatrixOk.l0]
     rw [if_pos (by omega), if_pos (by omega), if_pos (by omega), r, rdL_zero, if_pos (by omega), spec_l01In_eq, Option.bind_some, in18_int]
    ·have jj := j (!in18 x.length)
     have eqv : (okR (m.headD []).length x && in18 (m.headD []).length && B.all (fun r => okR (m.headD []).length r && in18 (m.headD []).length) && in18 m.length) = (!(!in18 x.length) && (x.all inB && (B.all (fun r => okR (m.headD []).length r && in18 (m.headD []).length) && in18 m.length))) := by
      unfold okR
      rw [hn, decide_eq_true rfl]
      cases x.all inB <;> cases in18 (m.headD []).length <;> rfl
     rw [eqv]
     exact jj
   ·refine Ev.step (f := fun k => spec_MatrixOk.j1 k m (A.length : Int) true) (fun k => ?_) ?_
    ·simp only [spec_MatrixOk.l0]
     rw [if_pos (by omega), if_pos (by omega), if_pos (by omega), r, rdL_zero, if_neg (by omega)]
    ·have jj := j true
     have eqv : (okR (m.headD []).length x && in18 (m.headD []).length && B.all (fun r => okR (m.headD []).length r && in18 (m.headD []).length) && in18 m.length) = false := by
      unfold okR
      rw [decide_eq_false hn]
      rfl
     rw [eqv]
     exact jj
 have z := key m [] rfl
 have e : okM m = (m.all (fun r => okR (m.headD []).length r && in18 (m.headD []).length) && in18 m.length) := by
  cases m with
  | nil => rfl
  | cons x B =>
   unfold okM
   cases hx : in18 ((x :: B).headD []).length with
   | true =>
    simp only [Bool.and_true]
    exact Bool.and_comm _ _
   | false => simp
 rw [e]
 exact z

theorem spec_l05Mod_eq {a : Int} (h0 : -9223372036854775808 ≤ a) (h1 : a ≤ 9223372036854775807) : spec_l05Mod.f a = some ((modb a : Nat) : Int) := by
 have e : Int.tmod a 256 = if a < 0 ∧ a % 256 ≠ 0 then a % 256 - 256 else a % 256 := by
  rcases Int.lt_or_le a 0 with h | h
  ·obtain ⟨n, rfl⟩ : ∃ n : Nat, a = -(n : Int) := ⟨(-a).toNat, by omega⟩
   rw [Int.neg_tmod, Int.tmod_eq_emod_of_nonneg (by omega)]
   split <;> omega
  ·rw [Int.tmod_eq_emod_of_nonneg h, if_neg (by omega)]
 unfold spec_l05Mod.f modb
 rw [e]
 by_cases c : a < 0 ∧ a % 256 ≠ 0
 ·rw [if_pos c, if_pos (by omega), w64 (by omega) (by omega)]
  congr 1
  omega
 ·rw [if_neg c, if_neg (by omega)]
  congr 1
  omega
theorem spec_MulG_l0 (n : Nat) : ∀ (a b out : Nat), a < 256 → b < 2 ^ n → n ≤ 8 → out < 256 → Ev (fun k => spec_MulG.l0 k (a : Int) (b : Int) (out : Int)) ((out ^^^ Gf.gm n a b : Nat) : Int) := by
 induction n with
 | zero =>
  intro a b out ha hb hn ho
  have hb0 : b = 0 := by omega
  subst hb0
  exact Ev.step (f := fun _ => some (out : Int)) (fun k => by simp only [spec_MulG.l0]; rw [if_neg (by omega)]) (by simpa [Gf.gm] using Ev.now _)
 | succ n ih =>
  intro a b out ha hb hn ho
  by_cases hb0 : b = 0
  ·subst hb0
   have hz : Gf.gm (n + 1) a 0 = 0 := by
    have : ∀ n a, Gf.gm n a 0 = 0 := by
     intro n
     induction n with
     | zero => intro a; rfl
     | succ n ih => intro a; simp [Gf.gm, ih]
    exact this _ _
   rw [hz, Nat.xor_zero]
   exact Ev.step (f := fun _ => some (out : Int)) (fun k => by simp only [spec_MulG.l0]; rw [if_neg (by omega)]) (Ev.now _)
  ·have h8 : 2 ^ n ≤ 2 ^ 8 := Nat.pow_le_pow_right (by omega) (by omega)
   have h9 : 2 ^ (n + 1) = 2 * 2 ^ n := by rw [Nat.pow_succ]; omega
   have h10 : 2 ^ (n + 1) ≤ 2 ^ 8 := Nat.pow_le_pow_right (by omega) hn
   have hm : Int.tmod (b : Int) 2 = ((b % 2 : Nat) : Int) := by rw [Int.tmod_eq_emod_of_nonneg (by omega)]; rfl
   have hd : wrap64 (Int.tdiv (b : Int) 2) = ((b / 2 : Nat) : Int) := by rw [Int.tdiv_eq_ediv_of_nonneg (by omega), w64 (by omega) (by omega)]; rfl
   have h2 : wrap64 (2 * (a : Int)) = ((2 * a : Nat) : Int) := by rw [w64 (by omega) (by omega)]; rfl
   have hx : ∀ m : Nat, m < 256 → (out ^^^ (if b % 2 = 1 then a else 0) ^^^ Gf.gm n (Gf.xt a) (b / 2)) = (out ^^^ Gf.gm (n + 1) a b) := by
    intro m _
    rw [Gf.gm, Nat.xor_assoc]
   have hxa : Go.bits .xor .i64 (out : Int) (a : Int) = ((out ^^^ a : Nat) : Int) := bits_xor64 (by omega) (by omega)
   have hx5 : Go.bits .xor .i64 ((2 * a : Nat) : Int) 285 = ((2 * a ^^^ 285 : Nat) : Int) := bits_xor64 (b := 285) (by omega) (by omega)
   rw [← hx 0 (by omega)]
   have hlt : out ^^^ (if b % 2 = 1 then a else 0) < 256 := Gf.xor_lt (n := 8) ho (by split <;> omega)
   refine Ev.step (f := fun k => spec_MulG.l0 k ((Gf.xt a : Nat) : Int) ((b / 2 : Nat) : Int) ((out ^^^ (if b % 2 = 1 then a else 0) : Nat) : Int)) (fun k => ?_) (ih _ _ _ (Gf.xt_lt ha) (by omega) (by omega) hlt)
   simp only [spec_MulG.l0, hm, hd, h2, hxa, hx5]
   rw [if_pos (by omega)]
   unfold Gf.xt
   by_cases c1 : b % 2 = 1 <;> by_cases c2 : 255 < 2 * a
   ·rw [if_pos (by omega), if_pos (by omega), if_pos c1, if_pos c2]
   ·rw [if_pos (by omega), if_neg (by omega), if_pos c1, if_neg c2]
   ·rw [if_neg (by omega), if_pos (by omega), if_neg c1, if_pos c2, Nat.xor_zero]
   ·rw [if_neg (by omega), if_neg (by omega), if_neg c1, if_neg c2, Nat.xor_zero]
theorem spec_MulG_ev {a b : Int} (a0 : -9223372036854775808 ≤ a) (a1 : a ≤ 9223372036854775807) (b0 : -9223372036854775808 ≤ b) (b1 : b ≤ 9223372036854775807) : Ev (fun k => spec_MulG.f k a b) (gmul a b) := by
 have h := spec_MulG_l0 8 (modb a) (modb b) 0 (modb_lt a) (modb_lt b) (Nat.le_refl _) (by omega)
 rw [Nat.zero_xor] at h
 refine Ev.congr (fun k => ?_) h
 unfold spec_MulG.f
 rw [spec_l05Mod_eq a0 a1, spec_l05Mod_eq b0 b1]
 rfl

/-! ### lists of bytes as numbers -/
def ints (l : List UInt8) : List Int := l.map fun b => (b.toNat : Int)
theorem ints_length (l : List UInt8) : (ints l).length = l.length := by simp [ints]
theorem ints_app (l m : List UInt8) : ints (l ++ m) = ints l ++ ints m := by simp [ints]
theorem bytesOf_ints (s : ByteArray) : bytesOf s = ints s.data.toList := rfl
theorem str_ints (l : List UInt8) : strOfNums (ints l) = ⟨l.toArray⟩ := by
 unfold strOfNums ints
 congr 1
 rw [List.map_map]
 congr 1
 conv => rhs; rw [← List.map_id l]
 refine List.map_congr_left (fun b _ => ?_)
 simp
theorem set_mid {α : Type} (A : List α) (x v : α) (B : List α) : (A ++ x :: B).set A.length v = A ++ v :: B := by simp
theorem rd_mid (A : List Int) (x : Int) (B : List Int) : rd (A ++ x :: B) (A.length : Int) = x := by simp [rd]
theorem bt_mid (s : ByteArray) {A : List UInt8} {x : UInt8} {B : List UInt8} (h : s.data.toList = A ++ x :: B) : bt s (A.length : Int) = (x.toNat : Int) := by
 have hl : A.length < s.size := by
  have h1 : s.data.toList.length = s.size := rfl
  rw [h] at h1
  simp at h1
  omega
 unfold bt
 rw [dif_pos (by simpa using hl)]
 have e : s.data.toList[A.length]'(by simpa using hl) = x := by simp [h]
 show (((s.data[A.length]'hl).toNat : Nat) : Int) = _
 rw [← e]
 simp
theorem size_of_list (s : ByteArray) {l : List UInt8} (h : s.data.toList = l) : s.size = l.length := by
 have h1 : s.data.toList.length = s.size := rfl
 rw [h] at h1
 omega

/-! ### a text so many times -/
def mulB (a : Nat) (b : UInt8) : UInt8 := UInt8.ofNat (Gf.mul a b.toNat)
def mulL (a : Nat) (l : List UInt8) : List UInt8 := l.map (mulB a)
def mulT (a : Nat) (s : ByteArray) : ByteArray := ⟨(mulL a s.data.toList).toArray⟩
theorem mulB_nat {a : Nat} (ha : a < 256) (b : UInt8) : (mulB a b).toNat = Gf.mul a b.toNat := by
 have := Gf.mul_lt b.toNat ha
 simp only [mulB, UInt8.toNat_ofNat']
 omega
theorem gmul_byte (a : Int) (b : UInt8) : gmul a (b.toNat : Int) = ((mulB (modb a) b).toNat : Int) := by
 have := b.toNat_lt
 rw [mulB_nat (modb_lt a)]
 unfold gmul
 rw [modb_nat (by omega)]

theorem spec_MulText_l0 {a : Int} (a0 : -9223372036854775808 ≤ a) (a1 : a ≤ 9223372036854775807) : ∀ (rest done : List UInt8), done.length + rest.length ≤ 1073741824 →
  Ev (fun k => spec_MulText.l0 k a (ints (done ++ rest)) (done.length : Int)) (strOfNums (ints (done ++ mulL (modb a) rest))) := by
 intro rest
 induction rest with
 | nil =>
  intro done _
  refine Ev.step (f := fun _ => some (strOfNums (ints (done ++ mulL (modb a) [])))) (fun k => ?_) (Ev.now _)
  simp only [spec_MulText.l0]
  rw [if_neg (by rw [ints_length]; simp)]
  rfl
 | cons b rest ih =>
  intro done hl
  have hb := b.toNat_lt
  simp only [List.length_cons] at hl
  refine Ev.step (f := fun k => (spec_MulG.f k a (b.toNat : Int)).bind fun t => spec_MulText.l0 k a ((ints (done ++ b :: rest)).set done.length (t % 256)) ((done.length + 1 : Nat) : Int)) (fun k => ?_) (Ev.bind (spec_MulG_ev a0 a1 (by omega) (by omega)) ?_)
  ·simp only [spec_MulText.l0]
   rw [if_pos (by rw [ints_length, List.length_append, List.length_cons]; omega), if_pos (by omega), wsucc (by omega)]
   have e : rd (ints (done ++ b :: rest)) (done.length : Int) = (b.toNat : Int) := by
    have := rd_mid (ints done) (b.toNat : Int) (ints rest)
    rw [ints_length] at this
    rw [ints_app]
    exact this
   rw [e, wnat (by omega)]
   rfl
  ·have e : (ints (done ++ b :: rest)).set done.length (gmul a (b.toNat : Int) % 256) = ints ((done ++ [mulB (modb a) b]) ++ rest) := by
    have h1 := set_mid (ints done) (b.toNat : Int) (gmul a (b.toNat : Int) % 256) (ints rest)
    rw [ints_length] at h1
    have h2 := gmul_range a (b.toNat : Int)
    rw [ints_app]
    refine Eq.trans h1 ?_
    rw [show gmul a (b.toNat : Int) % 256 = ((mulB (modb a) b).toNat : Int) by rw [← gmul_byte]; omega]
    simp [ints]
   rw [e]
   have h := ih (done ++ [mulB (modb a) b]) (by simp; omega)
   rw [List.length_append] at h
   rw [show done ++ mulL (modb a) (b :: rest) = done ++ [mulB (modb a) b] ++ mulL (modb a) rest by simp [mulL]]
   exact h
theorem spec_MulText_ev {a : Int} (a0 : -9223372036854775808 ≤ a) (a1 : a ≤ 9223372036854775807) (s : ByteArray) (hs : s.size ≤ 1073741824) : Ev (fun k => spec_MulText.f k a s) (mulT (modb a) s) := by
 unfold spec_MulText.f
 refine Ev.pos (by omega) ?_
 have h := spec_MulText_l0 a0 a1 s.data.toList [] (by rw [str_len]; simpa using hs)
 rw [str_ints] at h
 exact h

theorem impl_MulText_l0 {a : Int} (a0 : -9223372036854775808 ≤ a) (a1 : a ≤ 9223372036854775807) (s : ByteArray) (hs : s.size ≤ 1073741824) : ∀ (rest pre done : List UInt8), s.data.toList = pre ++ rest → pre.length = done.length →
  Ev (fun k => impl_MulText.l0 k a s (ints done ++ List.replicate rest.length 0) (s.size : Int) (done.length : Int)) (strOfNums (ints (done ++ mulL (modb a) rest))) := by
 intro rest
 induction rest with
 | nil =>
  intro pre done he hp
  have hsz := size_of_list s he
  simp only [List.append_nil] at hsz
  refine Ev.step (f := fun _ => some (strOfNums (ints (done ++ mulL (modb a) [])))) (fun k => ?_) (Ev.now _)
  simp only [impl_MulText.l0]
  rw [if_neg (by omega)]
  simp [mulL]
 | cons b rest ih =>
  intro pre done he hp
  have hb := b.toNat_lt
  have hsz := size_of_list s he
  simp only [List.length_append, List.length_cons] at hsz
  refine Ev.step (f := fun k => (impl_MulG.f k a (b.toNat : Int)).bind fun t => impl_MulText.l0 k a s ((ints done ++ 0 :: List.replicate rest.length 0).set done.length (t % 256)) (s.size : Int) ((done.length + 1 : Nat) : Int)) (fun k => ?_) (Ev.bind (impl_MulG_ev a0 a1 (by omega) (by omega)) ?_)
  ·simp only [impl_MulText.l0]
   have e := bt_mid s he
   rw [hp] at e
   rw [if_pos (by omega), if_pos (by omega), if_pos (by omega), wsucc (by omega), e, wnat (by omega)]
   congr 1
   funext t
   rw [if_pos (by rw [List.length_append, ints_length, List.length_replicate, List.length_cons]; omega)]
   rfl
  ·have e : (ints done ++ 0 :: List.replicate rest.length 0).set done.length (gmul a (b.toNat : Int) % 256) = ints (done ++ [mulB (modb a) b]) ++ List.replicate rest.length 0 := by
    have h1 := set_mid (ints done) 0 (gmul a (b.toNat : Int) % 256) (List.replicate rest.length 0)
    rw [ints_length] at h1
    have h2 := gmul_range a (b.toNat : Int)
    rw [h1, show gmul a (b.toNat : Int) % 256 = ((mulB (modb a) b).toNat : Int) by rw [← gmul_byte]; omega]
    simp [ints]
   rw [e]
   have h := ih (pre ++ [b]) (done ++ [mulB (modb a) b]) (by rw [he]; simp) (by simp; omega)
   rw [List.length_append] at h
   rw [show done ++ mulL (modb a) (b :: rest) = done ++ [mulB (modb a) b] ++ mulL (modb a) rest by simp [mulL]]
   exact h
theorem impl_MulText_ev {a : Int} (a0 : -9223372036854775808 ≤ a) (a1 : a ≤ 9223372036854775807) (s : ByteArray) (hs : s.size ≤ 1073741824) : Ev (fun k => impl_MulText.f k a s) (mulT (modb a) s) := by
 unfold impl_MulText.f
 refine Ev.pos (by omega) (Ev.pos (by omega) (Ev.some_bind rfl ?_))
 have h := impl_MulText_l0 a0 a1 s hs s.data.toList [] [] rfl rfl
 rw [str_len, str_ints] at h
 simp only [ints, List.map_nil, List.nil_append, List.length_nil] at h
 simp only [Int.toNat_natCast, List.length_replicate]
 exact h

theorem bits_xor8 (a b : UInt8) : Go.bits .xor .u8 (a.toNat : Int) (b.toNat : Int) = ((a ^^^ b).toNat : Int) := by
 have ha := a.toNat_lt
 have hb := b.toNat_lt
 have hx : a.toNat ^^^ b.toNat < 2 ^ 8 := Nat.xor_lt_two_pow (by omega) (by omega)
 have e : (BitVec.ofNat 8 a.toNat ^^^ BitVec.ofNat 8 b.toNat).toNat = a.toNat ^^^ b.toNat := by rw [BitVec.toNat_xor, BitVec.toNat_ofNat, BitVec.toNat_ofNat, Nat.mod_eq_of_lt (by omega), Nat.mod_eq_of_lt (by omega)]
 show IntKind.u8.wrap (((BitVec.ofInt 8 (a.toNat : Int)) ^^^ (BitVec.ofInt 8 (b.toNat : Int))).toNat : Int) = _
 rw [BitVec.ofInt_natCast, BitVec.ofInt_natCast, e, IntKind.wrap_u8, UInt8.toNat_xor]
 omega

/-! ### sums of texts -/
def addL : List UInt8 → List UInt8 → List UInt8
 | [], ys => ys
 | xs, [] => xs
 | x :: xs, y :: ys => (x ^^^ y) :: addL xs ys
def addT (a b : ByteArray) : ByteArray := ⟨(addL a.data.toList b.data.toList).toArray⟩
theorem addL_nil (xs : List UInt8) : addL xs [] = xs := by cases xs <;> rfl
theorem nil_addL (xs : List UInt8) : addL [] xs = xs := rfl
theorem addL_comm : ∀ xs ys : List UInt8, addL xs ys = addL ys xs
 | [], ys => by rw [addL_nil]; rfl
 | x :: xs, [] => rfl
 | x :: xs, y :: ys => by simp only [addL]; rw [addL_comm xs ys, UInt8.xor_comm]
theorem addL_length : ∀ xs ys : List UInt8, (addL xs ys).length = max xs.length ys.length
 | [], ys => by simp [addL]
 | x :: xs, [] => by simp [addL]
 | x :: xs, y :: ys => by simp only [addL, List.length_cons, addL_length xs ys]; omega
theorem addL_zeros : ∀ (xs ys : List UInt8) (n : Nat), xs.length + n = max xs.length ys.length → addL (xs ++ List.replicate n 0) ys = addL xs ys
 | [], [], 0, _ => rfl
 | [], [], n + 1, h => by simp at h
 | [], y :: ys, 0, h => by simp at h
 | [], y :: ys, n + 1, h => by
  have ih := addL_zeros [] ys n (by simp at h ⊢; exact h)
  simp only [List.nil_append, List.replicate_succ, addL] at ih ⊢
  rw [ih, UInt8.zero_xor]
 | x :: xs, [], n, h => by
  have : n = 0 := by simp at h; exact h
  subst this
  simp
 | x :: xs, y :: ys, n, h => by
  simp only [List.cons_append, addL]
  rw [addL_zeros xs ys n (by simp only [List.length_cons] at h; omega)]

theorem spec_AddText_l0 (s : ByteArray) (hs : s.size ≤ 1073741824) : ∀ (rb rest pre done : List UInt8), s.data.toList = pre ++ rb → pre.length = done.length → rb.length ≤ rest.length →
  Ev (fun k => spec_AddText.l0 k s (ints (done ++ rest)) (done.length : Int)) (strOfNums (ints (done ++ addL rest rb))) := by
 intro rb
 induction rb with
 | nil =>
  intro rest pre done he hp hr
  have hsz := size_of_list s he
  simp only [List.append_nil] at hsz
  refine Ev.step (f := fun _ => some (strOfNums (ints (done ++ addL rest [])))) (fun k => ?_) (Ev.now _)
  simp only [spec_AddText.l0]
  rw [if_neg (by omega), addL_nil]
 | cons b rb ih =>
  intro rest pre done he hp hr
  have hsz := size_of_list s he
  simp only [List.length_append, List.length_cons] at hsz
  cases rest with
  | nil => simp at hr
  | cons r rest =>
   simp only [List.length_cons] at hr
   have h := ih rest (pre ++ [b]) (done ++ [r ^^^ b]) (by rw [he]; simp) (by simp; omega) (by omega)
   rw [List.length_append] at h
   refine Ev.step (fun k => ?_) (by rw [show done ++ addL (r :: rest) (b :: rb) = done ++ [r ^^^ b] ++ addL rest rb by simp [addL]]; exact h)
   simp only [spec_AddText.l0]
   have e := bt_mid s he
   rw [hp] at e
   have e2 : rd (ints (done ++ r :: rest)) (done.length : Int) = (r.toNat : Int) := by
    have := rd_mid (ints done) (r.toNat : Int) (ints rest)
    rw [ints_length] at this
    rw [ints_app]
    exact this
   rw [if_pos (by omega), if_pos (by omega), if_pos (by rw [ints_length, List.length_append, List.length_cons]; omega), wsucc (by omega), e, e2, bits_xor8]
   have h1 := set_mid (ints done) (r.toNat : Int) ((r ^^^ b).toNat : Int) (ints rest)
   rw [ints_length] at h1
   have e3 : (ints (done ++ r :: rest)).set done.length ((r ^^^ b).toNat : Int) = ints (done ++ [r ^^^ b] ++ rest) := by
    rw [ints_app]
    refine Eq.trans h1 ?_
    simp [ints]
   rw [show ((done.length : Int)).toNat = done.length from Int.toNat_natCast _, e3]
   rfl
theorem spec_AddText_j0 (a b : ByteArray) (ha : a.size ≤ 1073741824) (hb : b.size ≤ a.size) : Ev (fun k => spec_AddText.j0 k a b) (addT a b) := by
 have h := spec_AddText_l0 b (by omega) b.data.toList a.data.toList [] [] rfl rfl hb
 rw [str_ints] at h
 refine Ev.step (fun k => ?_) h
 simp only [spec_AddText.j0]
 rw [if_pos (by omega)]
 rfl
theorem spec_AddText_ev (a b : ByteArray) (ha : a.size ≤ 1073741824) (hb : b.size ≤ 1073741824) : Ev (fun k => spec_AddText.f k a b) (addT a b) := by
 unfold spec_AddText.f
 by_cases h : (a.size : Int) < (b.size : Int)
 ·refine Ev.pos h ?_
  rw [show addT a b = addT b a by unfold addT; rw [addL_comm]]
  exact spec_AddText_j0 b a hb (by omega)
 ·exact Ev.neg h (spec_AddText_j0 a b ha (by omega))

theorem impl_AddText_l0 (s : ByteArray) (hs : s.size ≤ 1073741824) : ∀ (rb rest pre done : List UInt8), s.data.toList = pre ++ rb → pre.length = done.length → rb.length ≤ rest.length →
  Ev (fun k => impl_AddText.l0 k s (ints (done ++ rest)) (done.length : Int)) (strOfNums (ints (done ++ addL rest rb))) := by
 intro rb
 induction rb with
 | nil =>
  intro rest pre done he hp hr
  have hsz := size_of_list s he
  simp only [List.append_nil] at hsz
  refine Ev.step (f := fun _ => some (strOfNums (ints (done ++ addL rest [])))) (fun k => ?_) (Ev.now _)
  simp only [impl_AddText.l0]
  rw [if_neg (by omega), addL_nil]
 | cons b rb ih =>
  intro rest pre done he hp hr
  have hsz := size_of_list s he
  simp only [List.length_append, List.length_cons] at hsz
  cases rest with
  | nil => simp at hr
  | cons r rest =>
   simp only [List.length_cons] at hr
   have h := ih rest (pre ++ [b]) (done ++ [r ^^^ b]) (by rw [he]; simp) (by simp; omega) (by omega)
   rw [List.length_append] at h
   refine Ev.step (fun k => ?_) (by rw [show done ++ addL (r :: rest) (b :: rb) = done ++ [r ^^^ b] ++ addL rest rb by simp [addL]]; exact h)
   simp only [impl_AddText.l0]
   have e := bt_mid s he
   rw [hp] at e
   have e2 : rd (ints (done ++ r :: rest)) (done.length : Int) = (r.toNat : Int) := by
    have := rd_mid (ints done) (r.toNat : Int) (ints rest)
    rw [ints_length] at this
    rw [ints_app]
    exact this
   rw [if_pos (by omega), if_pos (by omega), if_pos (by rw [ints_length, List.length_append, List.length_cons]; omega), wsucc (by omega), e, e2, bits_xor8]
   have h1 := set_mid (ints done) (r.toNat : Int) ((r ^^^ b).toNat : Int) (ints rest)
   rw [ints_length] at h1
   have e3 : (ints (done ++ r :: rest)).set done.length ((r ^^^ b).toNat : Int) = ints (done ++ [r ^^^ b] ++ rest) := by
    rw [ints_app]
    refine Eq.trans h1 ?_
    simp [ints]
   rw [show ((done.length : Int)).toNat = done.length from Int.toNat_natCast _, e3]
   rfl
theorem impl_AddText_ev (a b : ByteArray) (ha : a.size ≤ 1073741824) (hb : b.size ≤ 1073741824) : Ev (fun k => impl_AddText.f k a b) (addT a b) := by
 have hm : mx (a.size : Int) (b.size : Int) = ((max a.size b.size : Nat) : Int) := by
  unfold mx
  split <;> omega
 unfold impl_AddText.f
 rw [hm]
 refine Ev.pos (by omega) (Ev.pos (by omega) (Ev.some_bind rfl (Ev.pos (by rw [List.length_replicate]; omega) ?_)))
 have hc : copyS (List.replicate (max a.size b.size) 0) a = ints (a.data.toList ++ List.replicate (max a.size b.size - a.size) 0) := by
  unfold copyS
  rw [bytesOf_ints, ints_app, List.drop_replicate]
  simp [ints]
 have h := impl_AddText_l0 b hb b.data.toList (a.data.toList ++ List.replicate (max a.size b.size - a.size) 0) [] [] rfl rfl (by rw [List.length_append, List.length_replicate, str_len, str_len]; omega)
 rw [addL_zeros _ _ _ (by rw [str_len, str_len]; omega), str_ints] at h
 rw [Int.toNat_natCast, hc]
 exact h

/-! ### laws of sums and products of texts -/
theorem addT_list (a b : ByteArray) : (addT a b).data.toList = addL a.data.toList b.data.toList := rfl
theorem mulT_list (x : Nat) (a : ByteArray) : (mulT x a).data.toList = mulL x a.data.toList := rfl
theorem addT_size (a b : ByteArray) : (addT a b).size = max a.size b.size := by
 have h : (addT a b).data.toList.length = (addT a b).size := rfl
 rw [← h, addT_list, addL_length]
 rfl
theorem mulT_size (x : Nat) (a : ByteArray) : (mulT x a).size = a.size := by
 have h : (mulT x a).data.toList.length = (mulT x a).size := rfl
 rw [← h, mulT_list, mulL, List.length_map]
 rfl

/-! ### what a matrix makes of texts -/
def tsum : Nat → (Nat → ByteArray) → ByteArray
 | 0, _ => ⟨#[]⟩
 | n + 1, h => addT (tsum n h) (h n)
theorem tsum_size {N : Nat} {h : Nat → ByteArray} : ∀ {n : Nat}, (∀ k, k < n → (h k).size ≤ N) → (tsum n h).size ≤ N
 | 0, _ => Nat.zero_le _
 | n + 1, H => by
  rw [tsum, addT_size]
  have h1 := tsum_size (n := n) (fun k hk => H k (by omega))
  have h2 := H n (by omega)
  omega
def applyM (m : List (List Int)) (u : List ByteArray) : List ByteArray := (List.range m.length).map fun i => tsum u.length (fun j => mulT (ent m i j) (u.getD j ByteArray.empty))
def applyR (m : List (List Int)) (u : List ByteArray) : List ByteArray := if okM m = true ∧ (m.headD []).length = u.length then applyM m u else []
theorem applyR_size (m : List (List Int)) (u : List ByteArray) : (applyR m u).length ≤ 8 := by
 unfold applyR
 by_cases h : okM m = true ∧ (m.headD []).length = u.length
 ·rw [if_pos h]
  obtain ⟨_, h2, _⟩ := of_okM h.1
  unfold applyM
  rw [List.length_map, List.length_range]
  exact h2
 ·rw [if_neg h]
  simp
theorem unit_size {u : List ByteArray} {N : Nat} (hu : ∀ x ∈ u, x.size ≤ N) (j : Nat) : (u.getD j ByteArray.empty).size ≤ N := by
 rw [List.getD_eq_getElem?_getD]
 by_cases h : j < u.length
 ·rw [List.getElem?_eq_getElem h]
  exact hu _ (List.getElem_mem h)
 ·rw [List.getElem?_eq_none (by omega)]
  exact Nat.zero_le _

/-! ### impl.ApplyM -/
theorem impl_ApplyM_ev (m : List (List Int)) (u : List ByteArray) (hm : m.length ≤ 1099511627776) (hr : ∀ r ∈ m, r.length ≤ 1099511627776) (hu : ∀ x ∈ u, x.size ≤ 1073741824) : Ev (fun k => impl_ApplyM.f k m u) (applyR m u) := by
 have em := impl_MatrixOk_ev m (by omega) (fun r h => by have := hr r h; omega)
 have bad : Ev (fun k => impl_ApplyM.j0 k m u true) ([] : List ByteArray) := Ev.step (f := fun _ => some []) (fun k => by simp only [impl_ApplyM.j0, if_true]) (Ev.now _)
 unfold impl_ApplyM.f
 refine Ev.bind em ?_
 cases om : okM m with
 | false =>
  rw [show applyR m u = [] by unfold applyR; rw [if_neg (by simp [om])]]
  exact Ev.neg (by simp) bad
 | true =>
  obtain ⟨a1, a2, a3, a4, _⟩ := of_okM om
  refine Ev.pos rfl (Ev.pos (by omega) ?_)
  rw [rdL_zero]
  by_cases hn : (m.headD []).length = u.length
  ·rw [show applyR m u = applyM m u by unfold applyR; rw [if_pos ⟨om, hn⟩]]
   rw [show ((((m.headD []).length : Nat) : Int) != ((u.length : Nat) : Int)) = false by rw [hn]; simp]
   have L1 : ∀ (i : Nat), i < m.length → ∀ (out v : List ByteArray), out.length ≤ 8 →
     Ev (fun q => impl_ApplyM.l0 q u (out ++ [tsum u.length (fun j => mulT (ent m i j) (u.getD j ByteArray.empty))]) m (m.length : Int) ((i + 1 : Nat) : Int)) v →
     ∀ d j : Nat, j ≤ u.length → u.length - j = d →
     Ev (fun q => impl_ApplyM.l1 q u out (tsum j (fun j => mulT (ent m i j) (u.getD j ByteArray.empty))) m (m.length : Int) (i : Int) (rd_L3 m (i : Int)) ((rd_L3 m (i : Int)).length : Int) (j : Int)) v := by
    intro i hi out v ho h d
    have hl := rdL_len om hi
    induction d with
    | zero =>
     intro j hj hd
     obtain rfl : j = u.length := by omega
     refine Ev.step (fun q => ?_) h
     simp only [impl_ApplyM.l1]
     rw [if_neg (by omega), if_pos (by omega), wsucc (by omega)]
    | succ d ih =>
     intro j hj hd
     have z := ih (j + 1) (by omega) (by omega)
     rw [tsum] at z
     obtain ⟨q1, q2⟩ := rd_ent om hi (j := j) (by omega)
     have us := unit_size hu j
     have e1 := impl_MulText_ev (a := ((ent m i j : Nat) : Int)) (by omega) (by omega) (u.getD j ByteArray.empty) us
     rw [modb_nat q2] at e1
     have ts := tsum_size (N := 1073741824) (n := j) (h := fun j => mulT (ent m i j) (u.getD j ByteArray.empty)) (fun k _ => by rw [mulT_size]; exact unit_size hu k)
     have e2 := impl_AddText_ev (tsum j (fun j => mulT (ent m i j) (u.getD j ByteArray.empty))) (mulT (ent m i j) (u.getD j ByteArray.empty)) ts (by rw [mulT_size]; exact us)
     refine Ev.step (f := fun q => (impl_MulText.f q ((ent m i j : Nat) : Int) (u.getD j ByteArray.empty)).bind fun t => (impl_AddText.f q (tsum j (fun j => mulT (ent m i j) (u.getD j ByteArray.empty))) t).bind fun s => impl_ApplyM.l1 q u out s m (m.length : Int) (i : Int) (rd_L3 m (i : Int)) ((rd_L3 m (i : Int)).length : Int) ((j + 1 : Nat) : Int)) (fun q => ?_) (Ev.bind e1 (Ev.bind e2 z))
     simp only [impl_ApplyM.l1]
     rw [if_pos (by omega), if_pos (by omega), if_pos (by omega), if_pos (by omega), q1, wsucc (by omega)]
     unfold rdOf
     rw [Int.toNat_natCast]
   have L0 : ∀ d i : Nat, i ≤ m.length → m.length - i = d → Ev (fun q => impl_ApplyM.l0 q u ((List.range i).map fun i => tsum u.length (fun j => mulT (ent m i j) (u.getD j ByteArray.empty))) m (m.length : Int) (i : Int)) (applyM m u) := by
    intro d
    induction d with
    | zero =>
     intro i hi hd
     obtain rfl : i = m.length := by omega
     refine Ev.step (f := fun _ => some (applyM m u)) (fun q => ?_) (Ev.now _)
     simp only [impl_ApplyM.l0]
     rw [if_neg (by omega)]
     rfl
    | succ d ih =>
     intro i hi hd
     have z := ih (i + 1) (by omega) (by omega)
     rw [range_map_succ] at z
     have y := L1 i (by omega) _ _ (by rw [List.length_map, List.length_range]; omega) z u.length 0 (by omega) (by omega)
     refine Ev.step (fun q => ?_) y
     simp only [impl_ApplyM.l0]
     rw [if_pos (by omega), if_pos (by omega), if_pos (by omega)]
     rfl
   have y := L0 m.length 0 (by omega) (by omega)
   refine Ev.step (fun q => ?_) y
   simp only [impl_ApplyM.j0, Bool.false_eq_true, if_false]
   rfl
  ·rw [show applyR m u = [] by unfold applyR; rw [if_neg (fun h => hn h.2)]]
   rw [show ((((m.headD []).length : Nat) : Int) != ((u.length : Nat) : Int)) = true from bne_iff_ne.mpr (by omega)]
   exact bad

/-! ### spec.ApplyM -/
theorem spec_ApplyM_ev (m : List (List Int)) (u : List ByteArray) (hm : m.length ≤ 1099511627776) (hr : ∀ r ∈ m, r.length ≤ 1099511627776) (hu : ∀ x ∈ u, x.size ≤ 1073741824) : Ev (fun k => spec_ApplyM.f k m u) (applyR m u) := by
 have em := spec_MatrixOk_ev m (by omega) (fun r h => by have := hr r h; omega)
 have bad : Ev (fun k => spec_ApplyM.j0 k m u [] true) ([] : List ByteArray) := Ev.step (f := fun _ => some []) (fun k => by simp only [spec_ApplyM.j0, if_true]) (Ev.now _)
 unfold spec_ApplyM.f
 refine Ev.some_bind rfl (Ev.bind em ?_)
 cases om : okM m with
 | false =>
  rw [show applyR m u = [] by unfold applyR; rw [if_neg (by simp [om])]]
  exact Ev.neg (by simp) bad
 | true =>
  obtain ⟨a1, a2, a3, a4, _⟩ := of_okM om
  refine Ev.pos rfl (Ev.pos (by omega) ?_)
  rw [rdL_zero]
  by_cases hn : (m.headD []).length = u.length
  ·rw [show applyR m u = applyM m u by unfold applyR; rw [if_pos ⟨om, hn⟩]]
   rw [show ((((m.headD []).length : Nat) : Int) != ((u.length : Nat) : Int)) = false by rw [hn]; simp]
   have L1 : ∀ (i : Nat), i < m.length → ∀ (out v : List ByteArray), out.length ≤ 8 →
     Ev (fun q => spec_ApplyM.l0 q m u (out ++ [tsum u.length (fun j => mulT (ent m i j) (u.getD j ByteArray.empty))]) ((i + 1 : Nat) : Int)) v →
     ∀ d j : Nat, j ≤ u.length → u.length - j = d →
     Ev (fun q => spec_ApplyM.l1 q m u out (i : Int) (tsum j (fun j => mulT (ent m i j) (u.getD j ByteArray.empty))) (j : Int)) v := by
    intro i hi out v ho h d
    have hl := rdL_len om hi
    induction d with
    | zero =>
     intro j hj hd
     obtain rfl : j = u.length := by omega
     refine Ev.step (fun q => ?_) h
     simp only [spec_ApplyM.l1]
     rw [if_neg (by omega), if_pos (by omega), wsucc (by omega)]
    | succ d ih =>
     intro j hj hd
     have z := ih (j + 1) (by omega) (by omega)
     rw [tsum] at z
     obtain ⟨q1, q2⟩ := rd_ent om hi (j := j) (by omega)
     have us := unit_size hu j
     have e1 := spec_MulText_ev (a := ((ent m i j : Nat) : Int)) (by omega) (by omega) (u.getD j ByteArray.empty) us
     rw [modb_nat q2] at e1
     have ts := tsum_size (N := 1073741824) (n := j) (h := fun j => mulT (ent m i j) (u.getD j ByteArray.empty)) (fun k _ => by rw [mulT_size]; exact unit_size hu k)
     have e2 := spec_AddText_ev (tsum j (fun j => mulT (ent m i j) (u.getD j ByteArray.empty))) (mulT (ent m i j) (u.getD j ByteArray.empty)) ts (by rw [mulT_size]; exact us)
     refine Ev.step (f := fun q => (spec_MulText.f q ((ent m i j : Nat) : Int) (u.getD j ByteArray.empty)).bind fun t => (spec_AddText.f q (tsum j (fun j => mulT (ent m i j) (u.getD j ByteArray.empty))) t).bind fun s => spec_ApplyM.l1 q m u out (i : Int) s ((j + 1 : Nat) : Int)) (fun q => ?_) (Ev.bind e1 (Ev.bind e2 z))
     simp only [spec_ApplyM.l1]
     rw [if_pos (by omega), if_pos (by omega), if_pos (by omega), if_pos (by omega), if_pos (by omega), q1, wsucc (by omega)]
     unfold rdOf
     rw [Int.toNat_natCast]
   have L0 : ∀ d i : Nat, i ≤ m.length → m.length - i = d → Ev (fun q => spec_ApplyM.l0 q m u ((List.range i).map fun i => tsum u.length (fun j => mulT (ent m i j) (u.getD j ByteArray.empty))) (i : Int)) (applyM m u) := by
    intro d
    induction d with
    | zero =>
     intro i hi hd
     obtain rfl : i = m.length := by omega
     refine Ev.step (f := fun _ => some (applyM m u)) (fun q => ?_) (Ev.now _)
     simp only [spec_ApplyM.l0]
     rw [if_neg (by omega)]
     rfl
    | succ d ih =>
     intro i hi hd
     have z := ih (i + 1) (by omega) (by omega)
     rw [range_map_succ] at z
     have y := L1 i (by omega) _ _ (by rw [List.length_map, List.length_range]; omega) z u.length 0 (by omega) (by omega)
     refine Ev.step (fun q => ?_) y
     simp only [spec_ApplyM.l0]
     rw [if_pos (by omega)]
     rfl
   have y := L0 m.length 0 (by omega) (by omega)
   refine Ev.step (fun q => ?_) y
   simp only [spec_ApplyM.j0, Bool.false_eq_true, if_false]
   rfl
  ·rw [show applyR m u = [] by unfold applyR; rw [if_neg (fun h => hn h.2)]]
   rw [show ((((m.headD []).length : Nat) : Int) != ((u.length : Nat) : Int)) = true from bne_iff_ne.mpr (by omega)]
   exact bad

/-! ### powers -/
def gpow (a : Int) (n : Int) : Int := if 0 ≤ n ∧ n ≤ 1000 then ((Gf.pow (modb a) n.toNat : Nat) : Int) else 0
theorem gmul_pow (a : Int) (i : Nat) : gmul ((Gf.pow (modb a) i : Nat) : Int) a = ((Gf.pow (modb a) (i + 1) : Nat) : Int) := by
 unfold gmul
 rw [modb_nat (Gf.pow_lt (modb_lt a) i)]
 rfl

theorem spec_PowG_l0 {a : Int} (a0 : -9223372036854775808 ≤ a) (a1 : a ≤ 9223372036854775807) (n : Nat) (hn : n ≤ 1000) (d : Nat) : ∀ i : Nat, i ≤ n → n - i = d →
  Ev (fun k => spec_PowG.l0 k a (n : Int) ((Gf.pow (modb a) i : Nat) : Int) (i : Int)) ((Gf.pow (modb a) n : Nat) : Int) := by
 induction d with
 | zero =>
  intro i hi hd
  obtain rfl : i = n := by omega
  exact Ev.step (f := fun _ => some ((Gf.pow (modb a) i : Nat) : Int)) (fun k => by simp only [spec_PowG.l0]; rw [if_neg (by omega)]) (Ev.now _)
 | succ d ih =>
  intro i hi hd
  have hl := Gf.pow_lt (modb_lt a) i
  refine Ev.step (f := fun k => (spec_MulG.f k ((Gf.pow (modb a) i : Nat) : Int) a).bind fun t => spec_PowG.l0 k a (n : Int) t ((i + 1 : Nat) : Int)) (fun k => ?_) (Ev.bind (spec_MulG_ev (by omega) (by omega) a0 a1) ?_)
  ·simp only [spec_PowG.l0]
   rw [if_pos (by omega), w64 (by omega) (by omega)]
   rfl
  ·rw [gmul_pow]
   exact ih (i + 1) (by omega) (by omega)
theorem spec_PowG_ev {a n : Int} (a0 : -9223372036854775808 ≤ a) (a1 : a ≤ 9223372036854775807) : Ev (fun k => spec_PowG.f k a n) (gpow a n) := by
 unfold gpow spec_PowG.f
 simp only [spec_l01In_eq, Option.bind_some, decide_eq_true_eq]
 by_cases h : 0 ≤ n ∧ n ≤ 1000
 ·simp only [if_pos h]
  obtain ⟨m, rfl⟩ := Int.eq_ofNat_of_zero_le h.1
  exact spec_PowG_l0 a0 a1 m (by omega) m 0 (by omega) (by omega)
 ·simp only [if_neg h]
  exact Ev.now _

theorem spec_InvG_ev {a : Int} (a0 : -9223372036854775808 ≤ a) (a1 : a ≤ 9223372036854775807) : Ev (fun k => spec_InvG.f k a) (ginv a) := by
 unfold spec_InvG.f ginv
 rw [spec_l05Mod_eq a0 a1]
 simp only [Option.bind_some]
 have hl := modb_lt a
 by_cases h : modb a = 0
 ·simp only [h, if_true, Int.natCast_zero]
  exact Ev.now _
 ·simp only [if_neg h, if_neg (show ¬ ((modb a : Nat) : Int) = 0 by omega)]
  have hp := spec_PowG_ev (a := ((modb a : Nat) : Int)) (n := 254) (by omega) (by omega)
  have e : gpow ((modb a : Nat) : Int) 254 = ((Gf.pow (modb a) 254 : Nat) : Int) := by
   unfold gpow
   rw [if_pos (by omega), modb_nat hl]
   rfl
  rw [e] at hp
  exact Ev.bind hp (Ev.now _)

/-! ### spec.OneM -/
theorem spec_OneM_ev (n : Int) : Ev (fun k => spec_OneM.f k n) (oneR n) := by
 unfold spec_OneM.f oneR
 by_cases h : 1 ≤ n ∧ n ≤ 8
 ·rw [if_pos h]
  obtain ⟨N, rfl⟩ := Int.eq_ofNat_of_zero_le (show 0 ≤ n by omega)
  have key : ∀ d i : Nat, i ≤ N → N - i = d → Ev (fun q => spec_OneM.l0 q (N : Int) ((List.range i).map fun i => (List.range N).map fun j => ((idf i j : Nat) : Int)) (i : Int)) (mk N N idf) := by
   intro d
   induction d with
   | zero =>
    intro i hi hd
    obtain rfl : i = N := by omega
    refine Ev.step (f := fun _ => some (mk i i idf)) (fun q => ?_) (Ev.now _)
    simp only [spec_OneM.l0]
    rw [if_neg (by omega)]
    rfl
   | succ d ih =>
    intro i hi hd
    have z := ih (i + 1) (by omega) (by omega)
    rw [range_map_succ] at z
    refine Ev.step (fun q => ?_) z
    simp only [spec_OneM.l0]
    rw [if_pos (by omega), spec_l01In_eq, Option.bind_some, if_pos (decide_eq_true h), if_pos (by omega), if_pos (by omega), Option.bind_some, if_pos (by omega), Int.toNat_natCast, Int.toNat_natCast, List.length_replicate, if_pos (by omega), if_pos (by simp; omega), wsucc (by omega), one_row (by omega)]
  exact key N 0 (by omega) (by omega)
 ·rw [if_neg h]
  by_cases h0 : 0 < n
  ·refine Ev.step (f := fun _ => some []) (fun q => ?_) (Ev.now _)
   simp only [spec_OneM.l0]
   rw [if_pos h0, spec_l01In_eq, Option.bind_some, if_neg (by simpa using h)]
  ·refine Ev.step (f := fun _ => some []) (fun q => ?_) (Ev.now _)
   simp only [spec_OneM.l0]
   rw [if_neg h0]

/-! ### the code of a schema -/
def codeN (k m : Nat) : List (List Int) := mk k k idf ++ (List.range m).map fun i => (List.range k).map fun j => ginv (((k + i) ^^^ j : Nat) : Int)
def codeR (s : Int) : List (List Int) := if s = 1 then codeN 2 1 else if s = 2 then codeN 3 2 else if s = 3 then codeN 4 2 else []
theorem codeN_size {k m : Nat} (hk : k ≤ 8) (hm : m ≤ 8) : (codeN k m).length = k + m ∧ ∀ x ∈ codeN k m, x.length ≤ 8 := by
 unfold codeN
 refine ⟨by rw [List.length_append, mk_length, List.length_map, List.length_range], fun x hx => ?_⟩
 rcases List.mem_append.mp hx with h | h
 ·exact mk_rows hk x h
 ·obtain ⟨i, _, rfl⟩ := List.mem_map.mp h
  rw [List.length_map, List.length_range]
  exact hk
theorem codeR_size (s : Int) : (codeR s).length ≤ 8 ∧ ∀ x ∈ codeR s, x.length ≤ 8 := by
 unfold codeR
 by_cases h1 : s = 1
 ·rw [if_pos h1]
  have := codeN_size (k := 2) (m := 1) (by omega) (by omega)
  exact ⟨by omega, this.2⟩
 ·rw [if_neg h1]
  by_cases h2 : s = 2
  ·rw [if_pos h2]
   have := codeN_size (k := 3) (m := 2) (by omega) (by omega)
   exact ⟨by omega, this.2⟩
  ·rw [if_neg h2]
   by_cases h3 : s = 3
   ·rw [if_pos h3]
    have := codeN_size (k := 4) (m := 2) (by omega) (by omega)
    exact ⟨by omega, this.2⟩
   ·rw [if_neg h3]
    simp
theorem xor_small {k i j : Nat} (hk : k ≤ 8) (hi : i ≤ 8) (hj : j ≤ 8) : (k + i) ^^^ j < 2 ^ 8 := Nat.xor_lt_two_pow (by omega) (by omega)

/-! ### impl.CodeOf -/
theorem impl_code_ev {k m : Nat} (hk : k ≤ 8) (hm : m ≤ 8) : Ev (fun q => impl_CodeOf.l0 q (k : Int) (m : Int) (mk k k idf) 0) (codeN k m) := by
 have L1 : ∀ (i : Nat), i < m → ∀ (out v : List (List Int)), out.length ≤ 16 → Ev (fun q => impl_CodeOf.l0 q (k : Int) (m : Int) (out ++ [(List.range k).map fun j => ginv (((k + i) ^^^ j : Nat) : Int)]) ((i + 1 : Nat) : Int)) v →
   ∀ d j : Nat, j ≤ k → k - j = d → Ev (fun q => impl_CodeOf.l1 q (k : Int) (m : Int) out (i : Int) ((List.range j).map (fun j => ginv (((k + i) ^^^ j : Nat) : Int)) ++ List.replicate d 0) (k : Int) (j : Int)) v := by
  intro i hi out v ho h d
  induction d with
  | zero =>
   intro j hj hd
   obtain rfl : j = k := by omega
   refine Ev.step (fun q => ?_) h
   simp only [impl_CodeOf.l1]
   rw [if_neg (by omega), if_pos (by omega), wsucc (by omega), List.replicate_zero, List.append_nil]
  | succ d ih =>
   intro j hj hd
   have z := ih (j + 1) (by omega) (by omega)
   rw [range_map_succ, List.append_assoc] at z
   have x8 := xor_small (k := k) (i := i) (j := j) hk (by omega) (by omega)
   have e := impl_InvG_ev (a := (((k + i) ^^^ j : Nat) : Int)) (by omega) (by omega)
   refine Ev.step (f := fun q => (impl_InvG.f q (((k + i) ^^^ j : Nat) : Int)).bind fun t => impl_CodeOf.l1 q (k : Int) (m : Int) out (i : Int) (((List.range j).map (fun j => ginv (((k + i) ^^^ j : Nat) : Int)) ++ List.replicate (d + 1) 0).set j t) (k : Int) ((j + 1 : Nat) : Int)) (fun q => ?_) (Ev.bind e ?_)
   ·simp only [impl_CodeOf.l1]
    rw [if_pos (by omega), wadd (by omega), bits_xor64 (by omega) (by omega)]
    refine congrArg (Option.bind _) (funext fun t => ?_)
    rw [if_pos (by omega), if_pos (by rw [List.length_append, List.length_map, List.length_range, List.length_replicate]; omega), wsucc (by omega), Int.toNat_natCast]
   ·have s := set_midI ((List.range j).map (fun j => ginv (((k + i) ^^^ j : Nat) : Int))) 0 (ginv (((k + i) ^^^ j : Nat) : Int)) (List.replicate d 0)
    rw [List.length_map, List.length_range] at s
    rw [List.replicate_succ, s]
    exact z
 have L0 : ∀ d i : Nat, i ≤ m → m - i = d → Ev (fun q => impl_CodeOf.l0 q (k : Int) (m : Int) (mk k k idf ++ (List.range i).map fun i => (List.range k).map fun j => ginv (((k + i) ^^^ j : Nat) : Int)) (i : Int)) (codeN k m) := by
  intro d
  induction d with
  | zero =>
   intro i hi hd
   obtain rfl : i = m := by omega
   refine Ev.step (f := fun _ => some (codeN k i)) (fun q => ?_) (Ev.now _)
   simp only [impl_CodeOf.l0]
   rw [if_neg (by omega)]
   rfl
  | succ d ih =>
   intro i hi hd
   have z := ih (i + 1) (by omega) (by omega)
   rw [range_map_succ, ← List.append_assoc] at z
   have y := L1 i (by omega) _ _ (by rw [List.length_append, mk_length, List.length_map, List.length_range]; omega) z k 0 (by omega) (by omega)
   refine Ev.step (fun q => ?_) y
   simp only [impl_CodeOf.l0]
   rw [if_pos (by omega), if_pos (by omega), if_pos (by omega), Option.bind_some, Int.toNat_natCast, List.length_replicate]
   rfl
 have y := L0 m 0 (by omega) (by omega)
 simpa using y
theorem impl_CodeOf_ev (s : Int) : Ev (fun q => impl_CodeOf.f q s) (codeR s) := by
 have one (n : Nat) (h1 : 1 ≤ n) (h8 : n ≤ 8) : Ev (fun q => impl_OneM.f q (n : Int)) (mk n n idf) := by
  have h := impl_OneM_ev (n : Int)
  unfold oneR at h
  rw [if_pos (by omega), Int.toNat_natCast] at h
  exact h
 unfold impl_CodeOf.f impl_SchemaOf.f codeR
 by_cases h1 : s = 1
 ·simp only [if_pos h1, Option.bind_some, if_true]
  exact Ev.bind (one 2 (by omega) (by omega)) (impl_code_ev (k := 2) (m := 1) (by omega) (by omega))
 ·simp only [if_neg h1]
  by_cases h2 : s = 2
  ·simp only [if_pos h2, Option.bind_some, if_true]
   exact Ev.bind (one 3 (by omega) (by omega)) (impl_code_ev (k := 3) (m := 2) (by omega) (by omega))
  ·simp only [if_neg h2]
   by_cases h3 : s = 3
   ·simp only [if_pos h3, Option.bind_some, if_true]
    exact Ev.bind (one 4 (by omega) (by omega)) (impl_code_ev (k := 4) (m := 2) (by omega) (by omega))
   ·simp only [if_neg h3, Option.bind_some, Bool.false_eq_true, if_false]
    exact Ev.now _

/-! ### spec.CodeOf -/
theorem spec_code_ev {k m : Nat} (hk : k ≤ 8) (hm : m ≤ 8) : Ev (fun q => spec_CodeOf.l0 q (k : Int) (m : Int) (mk k k idf) 0) (codeN k m) := by
 have L1 : ∀ (i : Nat), i < m → ∀ (out v : List (List Int)), out.length ≤ 16 → Ev (fun q => spec_CodeOf.l0 q (k : Int) (m : Int) (out ++ [(List.range k).map fun j => ginv (((k + i) ^^^ j : Nat) : Int)]) ((i + 1 : Nat) : Int)) v →
   ∀ d j : Nat, j ≤ k → k - j = d → Ev (fun q => spec_CodeOf.l1 q (k : Int) (m : Int) out (i : Int) ((List.range j).map (fun j => ginv (((k + i) ^^^ j : Nat) : Int))) (j : Int)) v := by
  intro i hi out v ho h d
  induction d with
  | zero =>
   intro j hj hd
   obtain rfl : j = k := by omega
   refine Ev.step (fun q => ?_) h
   simp only [spec_CodeOf.l1]
   rw [if_neg (by omega), if_pos (by omega), wsucc (by omega)]
  | succ d ih =>
   intro j hj hd
   have z := ih (j + 1) (by omega) (by omega)
   rw [range_map_succ] at z
   have x8 := xor_small (k := k) (i := i) (j := j) hk (by omega) (by omega)
   have e := spec_InvG_ev (a := (((k + i) ^^^ j : Nat) : Int)) (by omega) (by omega)
   refine Ev.step (f := fun q => (spec_InvG.f q (((k + i) ^^^ j : Nat) : Int)).bind fun t => spec_CodeOf.l1 q (k : Int) (m : Int) out (i : Int) ((List.range j).map (fun j => ginv (((k + i) ^^^ j : Nat) : Int)) ++ [t]) ((j + 1 : Nat) : Int)) (fun q => ?_) (Ev.bind e z)
   simp only [spec_CodeOf.l1]
   rw [if_pos (by omega), wadd (by omega), bits_xor64 (by omega) (by omega)]
   refine congrArg (Option.bind _) (funext fun t => ?_)
   rw [if_pos (by rw [List.length_map, List.length_range]; omega), wsucc (by omega)]
 have L0 : ∀ d i : Nat, i ≤ m → m - i = d → Ev (fun q => spec_CodeOf.l0 q (k : Int) (m : Int) (mk k k idf ++ (List.range i).map fun i => (List.range k).map fun j => ginv (((k + i) ^^^ j : Nat) : Int)) (i : Int)) (codeN k m) := by
  intro d
  induction d with
  | zero =>
   intro i hi hd
   obtain rfl : i = m := by omega
   refine Ev.step (f := fun _ => some (codeN k i)) (fun q => ?_) (Ev.now _)
   simp only [spec_CodeOf.l0]
   rw [if_neg (by omega)]
   rfl
  | succ d ih =>
   intro i hi hd
   have z := ih (i + 1) (by omega) (by omega)
   rw [range_map_succ, ← List.append_assoc] at z
   have y := L1 i (by omega) _ _ (by rw [List.length_append, mk_length, List.length_map, List.length_range]; omega) z k 0 (by omega) (by omega)
   refine Ev.step (fun q => ?_) y
   simp only [spec_CodeOf.l0]
   rw [if_pos (by omega)]
   rfl
 have y := L0 m 0 (by omega) (by omega)
 simpa using y
theorem spec_CodeOf_ev (s : Int) : Ev (fun q => spec_CodeOf.f q s) (codeR s) := by
 have one (n : Nat) (h1 : 1 ≤ n) (h8 : n ≤ 8) : Ev (fun q => spec_OneM.f q (n : Int)) (mk n n idf) := by
  have h := spec_OneM_ev (n : Int)
  unfold oneR at h
  rw [if_pos (by omega), Int.toNat_natCast] at h
  exact h
 unfold spec_CodeOf.f spec_SchemaOf.f codeR
 by_cases h1 : s = 1
 ·simp only [if_pos h1, Option.bind_some, if_true, List.nil_append]
  exact Ev.bind (one 2 (by omega) (by omega)) (Ev.pos (by rw [mk_length]; simp) (spec_code_ev (k := 2) (m := 1) (by omega) (by omega)))
 ·simp only [if_neg h1]
  by_cases h2 : s = 2
  ·simp only [if_pos h2, Option.bind_some, if_true, List.nil_append]
   exact Ev.bind (one 3 (by omega) (by omega)) (Ev.pos (by rw [mk_length]; simp) (spec_code_ev (k := 3) (m := 2) (by omega) (by omega)))
  ·simp only [if_neg h2]
   by_cases h3 : s = 3
   ·simp only [if_pos h3, Option.bind_some, if_true, List.nil_append]
    exact Ev.bind (one 4 (by omega) (by omega)) (Ev.pos (by rw [mk_length]; simp) (spec_code_ev (k := 4) (m := 2) (by omega) (by omega)))
   ·simp only [if_neg h3, Option.bind_some, Bool.false_eq_true, if_false]
    exact Ev.now _

/-! ### so many rows of a code as there are units have an inverse -/
def sel : Nat → Nat → Nat → List (List Nat)
 | 0, _, 0 => [[]]
 | 0, _, _ + 1 => []
 | n + 1, i, 0 => sel n (i + 1) 0
 | n + 1, i, k + 1 => (sel n (i + 1) k).map (fun t => i :: t) ++ sel n (i + 1) (k + 1)
def rowsOf (c : List (List Int)) (t : List Nat) : List (List Int) := t.map fun i => c.getD i []
theorem inv_small : ∀ t ∈ sel 3 0 2, (invR (rowsOf (codeN 2 1) t)).2 = true := by decide +kernel
theorem inv_middle : ∀ t ∈ sel 5 0 3, (invR (rowsOf (codeN 3 2) t)).2 = true := by decide +kernel
theorem inv_wide : ∀ t ∈ sel 6 0 4, (invR (rowsOf (codeN 4 2) t)).2 = true := by decide +kernel
theorem rowsOf_snoc (c : List (List Int)) (t : List Nat) (i : Nat) : rowsOf c t ++ [rd_L3 c (i : Int)] = rowsOf c (t ++ [i]) := by
 unfold rowsOf rd_L3
 rw [List.map_append, Int.toNat_natCast]
 rfl
theorem rowsOf_length (c : List (List Int)) (t : List Nat) : (rowsOf c t).length = t.length := by simp [rowsOf]
theorem rowsOf_rows {c : List (List Int)} {N : Nat} (h : ∀ x ∈ c, x.length ≤ N) (t : List Nat) : ∀ x ∈ rowsOf c t, x.length ≤ N := by
 intro x hx
 unfold rowsOf at hx
 obtain ⟨i, _, rfl⟩ := List.mem_map.mp hx
 by_cases hi : i < c.length
 ·rw [List.getD_eq_getElem?_getD, List.getElem?_eq_getElem hi]
  exact h _ (List.getElem_mem hi)
 ·rw [List.getD_eq_getElem?_getD, List.getElem?_eq_none (by omega)]
  simp
theorem sel_in {n i k : Nat} {t : List Nat} (h : t ∈ sel n (i + 1) k) : i :: t ∈ sel (n + 1) i (k + 1) := by
 unfold sel
 exact List.mem_append_left _ (List.mem_map.mpr ⟨t, h, rfl⟩)
theorem sel_out {n i k : Nat} {t : List Nat} (h : t ∈ sel n (i + 1) k) : t ∈ sel (n + 1) i k := by
 cases k with
 | zero => exact h
 | succ k => exact List.mem_append_right _ h

/-! ### units filled up, and what Encode makes of them -/
def kOf (s : Int) : Nat := if s = 1 then 2 else if s = 2 then 3 else if s = 3 then 4 else 0
def mOf (s : Int) : Nat := if s = 1 then 1 else if s = 2 then 2 else if s = 3 then 2 else 0
def okS (s : Int) : Bool := decide (s = 1 ∨ s = 2 ∨ s = 3)
theorem schema_cases (s : Int) : s = 1 ∨ s = 2 ∨ s = 3 ∨ (s ≠ 1 ∧ s ≠ 2 ∧ s ≠ 3) := by omega
theorem impl_schema (s : Int) : impl_SchemaOf.f s = some ((kOf s : Int), (mOf s : Int), okS s) := by
 rcases schema_cases s with rfl | rfl | rfl | ⟨h1, h2, h3⟩
 ·rfl
 ·rfl
 ·rfl
 ·unfold impl_SchemaOf.f kOf mOf okS
  rw [if_neg h1, if_neg h2, if_neg h3, if_neg h1, if_neg h2, if_neg h3, if_neg h1, if_neg h2, if_neg h3, decide_eq_false (by omega)]
  rfl
theorem spec_schema (s : Int) : spec_SchemaOf.f s = some ((kOf s : Int), (mOf s : Int), okS s) := by
 rcases schema_cases s with rfl | rfl | rfl | ⟨h1, h2, h3⟩
 ·rfl
 ·rfl
 ·rfl
 ·unfold spec_SchemaOf.f kOf mOf okS
  rw [if_neg h1, if_neg h2, if_neg h3, if_neg h1, if_neg h2, if_neg h3, if_neg h1, if_neg h2, if_neg h3, decide_eq_false (by omega)]
  rfl
theorem kOf_le (s : Int) : kOf s ≤ 4 ∧ mOf s ≤ 2 := by
 unfold kOf mOf
 rcases schema_cases s with rfl | rfl | rfl | ⟨h1, h2, h3⟩
 ·decide
 ·decide
 ·decide
 ·rw [if_neg h1, if_neg h2, if_neg h3, if_neg h1, if_neg h2, if_neg h3]
  decide
def zerosT (n : Nat) : ByteArray := ⟨(List.replicate n 0).toArray⟩
theorem zerosT_size (n : Nat) : (zerosT n).size = n := by simp [zerosT, ByteArray.size]
def most (u : List ByteArray) : Nat := u.foldl (fun a x => max a x.size) 0
theorem most_snoc (u : List ByteArray) (x : ByteArray) : most (u ++ [x]) = max (most u) x.size := by simp [most]
theorem foldl_max_le (u : List ByteArray) : ∀ a : Nat, a ≤ u.foldl (fun a x => max a x.size) a ∧ ∀ x ∈ u, x.size ≤ u.foldl (fun a x => max a x.size) a := by
 induction u with
 | nil => intro a; simp
 | cons y u ih =>
  intro a
  obtain ⟨h1, h2⟩ := ih (max a y.size)
  refine ⟨?_, fun x hx => ?_⟩
  ·simp only [List.foldl_cons]
   omega
  ·simp only [List.foldl_cons]
   rcases List.mem_cons.mp hx with rfl | hx
   ·omega
   ·exact h2 x hx
theorem most_le {u : List ByteArray} : ∀ x ∈ u, x.size ≤ most u := (foldl_max_le u 0).2
theorem most_bound {u : List ByteArray} {N : Nat} (h : ∀ x ∈ u, x.size ≤ N) : most u ≤ N := by
 have key : ∀ (u : List ByteArray) (a : Nat), a ≤ N → (∀ x ∈ u, x.size ≤ N) → u.foldl (fun a x => max a x.size) a ≤ N := by
  intro u
  induction u with
  | nil => intro a ha _; exact ha
  | cons y u ih =>
   intro a ha hu
   have := hu y (by simp)
   exact ih (max a y.size) (by omega) (fun x hx => hu x (by simp [hx]))
 exact key u 0 (Nat.zero_le _) h
def padT (n : Nat) (u : ByteArray) : ByteArray := u ++ zerosT (n - u.size)
theorem padT_size {n : Nat} {u : ByteArray} (h : u.size ≤ n) : (padT n u).size = n := by
 unfold padT
 rw [ByteArray.size_append, zerosT_size]
 omega
theorem addL_pad : ∀ (l : List UInt8) (n : Nat), l.length ≤ n → addL l (List.replicate n 0) = l ++ List.replicate (n - l.length) 0
 | [], n, _ => rfl
 | x :: l, 0, h => by simp at h
 | x :: l, n + 1, h => by
  simp only [List.length_cons] at h
  rw [List.replicate_succ, addL, addL_pad l n (by omega), UInt8.xor_zero, List.length_cons, Nat.add_sub_add_right]
  rfl
theorem addT_pad {u : ByteArray} {n : Nat} (h : u.size ≤ n) : addT u (zerosT n) = padT n u := by
 apply str_ext
 unfold padT
 rw [str_app]
 exact addL_pad u.data.toList n h
def encV (s : Int) (u : List ByteArray) : List ByteArray × Bool := if okS s = true ∧ u.length = kOf s ∧ most u ≤ 200 then (applyR (codeR s) (u.map (padT (most u))), true) else ([], false)
theorem rdB_at {u : List ByteArray} {i : Nat} (h : i < u.length) : rdOf ByteArray.empty u (i : Int) = u[i] := by
 unfold rdOf
 rw [Int.toNat_natCast, List.getD_eq_getElem?_getD, List.getElem?_eq_getElem h]
 rfl

/-! ### what Decode makes of texts, some of which are there -/
def bAt (h : List Bool) (i : Nat) : Bool := h.getD i false
def tAt (l : List ByteArray) (i : Nat) : ByteArray := l.getD i ByteArray.empty
def textsOf (l : List ByteArray) (t : List Nat) : List ByteArray := t.map (tAt l)
theorem textsOf_snoc (l : List ByteArray) (t : List Nat) (i : Nat) : textsOf l t ++ [rdOf ByteArray.empty l (i : Int)] = textsOf l (t ++ [i]) := by
 unfold textsOf tAt rdOf
 rw [List.map_append, Int.toNat_natCast]
 rfl
theorem textsOf_length (l : List ByteArray) (t : List Nat) : (textsOf l t).length = t.length := by simp [textsOf]
theorem textsOf_size {l : List ByteArray} {N : Nat} (h : ∀ x ∈ l, x.size ≤ N) (t : List Nat) : ∀ x ∈ textsOf l t, x.size ≤ N := by
 intro x hx
 unfold textsOf at hx
 obtain ⟨i, _, rfl⟩ := List.mem_map.mp hx
 exact unit_size h i
theorem rd_tAt (l : List ByteArray) (i : Nat) : rdOf ByteArray.empty l (i : Int) = tAt l i := by
 unfold rdOf tAt
 rw [Int.toNat_natCast]
theorem rd_bAt (l : List Bool) (i : Nat) : rdOf false l (i : Int) = bAt l i := by
 unfold rdOf bAt
 rw [Int.toNat_natCast]
/-- The places that are there, while all their texts are of one size. -/
def pickG (l : List ByteArray) (h : List Bool) : Nat → Nat → List Nat → Option (List Nat)
 | 0, _, t => some t
 | d + 1, i, t => if bAt h i = true then (if t ≠ [] ∧ (tAt l i).size ≠ (tAt l (t.headD 0)).size then none else pickG l h d (i + 1) (t ++ [i])) else pickG l h d (i + 1) t
def decEnd (s : Int) (l : List ByteArray) (t : List Nat) : List ByteArray × Bool :=
 if t.length < kOf s then ([], false) else if (invR (rowsOf (codeR s) (t.take (kOf s)))).2 = true then (applyR (invR (rowsOf (codeR s) (t.take (kOf s)))).1 (textsOf l (t.take (kOf s))), true) else ([], false)
def decV (s : Int) (l : List ByteArray) (h : List Bool) : List ByteArray × Bool :=
 if okS s = true ∧ l.length = kOf s + mOf s ∧ h.length = kOf s + mOf s then (match pickG l h (kOf s + mOf s) 0 [] with
  | none => ([], false)
  | some t => decEnd s l t) else ([], false)
theorem decEnd_size (s : Int) (l : List ByteArray) (t : List Nat) : (decEnd s l t).1.length ≤ 8 := by
 unfold decEnd
 by_cases h : t.length < kOf s
 ·rw [if_pos h]
  simp
 ·rw [if_neg h]
  by_cases h2 : (invR (rowsOf (codeR s) (t.take (kOf s)))).2 = true
  ·rw [if_pos h2]
   exact applyR_size _ _
  ·rw [if_neg h2]
   simp
theorem decV_size (s : Int) (l : List ByteArray) (h : List Bool) : (decV s l h).1.length ≤ 8 := by
 unfold decV
 by_cases c : okS s = true ∧ l.length = kOf s + mOf s ∧ h.length = kOf s + mOf s
 ·rw [if_pos c]
  cases pickG l h (kOf s + mOf s) 0 [] with
  | none => simp
  | some t => exact decEnd_size s l t
 ·rw [if_neg c]
  simp
theorem code_length {s : Int} (h : okS s = true) : (codeR s).length = kOf s + mOf s := by
 have c := of_decide_eq_true h
 rcases c with rfl | rfl | rfl
 ·rfl
 ·rfl
 ·rfl
theorem invR_size (m : List (List Int)) : (invR m).1.length ≤ 8 ∧ ∀ x ∈ (invR m).1, x.length ≤ 8 := by
 unfold invR
 by_cases h : okM m = true ∧ m.length = (m.headD []).length
 ·rw [if_pos h]
  obtain ⟨_, a2, _⟩ := of_okM h.1
  cases gj m.length (ent m) with
  | none => exact ⟨by simp [gjRes], by simp [gjRes]⟩
  | some B =>
   refine ⟨?_, mk_rows a2⟩
   show (mk m.length m.length B).length ≤ 8
   rw [mk_length]
   exact a2
 ·rw [if_neg h]
  exact ⟨by simp, by simp⟩
theorem rowsOf_take (c : List (List Int)) (t : List Nat) (n : Nat) : (rowsOf c t).take n = rowsOf c (t.take n) := by simp [rowsOf, List.map_take]
theorem textsOf_take (l : List ByteArray) (t : List Nat) (n : Nat) : (textsOf l t).take n = textsOf l (t.take n) := by simp [textsOf, List.map_take]

theorem head_text {l : List ByteArray} {t : List Nat} (h : t ≠ []) : rdOf ByteArray.empty (textsOf l t) 0 = tAt l (t.headD 0) := by
 cases t with
 | nil => exact absurd rfl h
 | cons a t => rfl
theorem dec_rows (s : Int) (t : List Nat) : (rowsOf (codeR s) t).length = t.length ∧ ∀ x ∈ rowsOf (codeR s) t, x.length ≤ 8 := ⟨rowsOf_length _ _, rowsOf_rows (codeR_size s).2 t⟩
theorem impl_dec_loop {s : Int} {l : List ByteArray} {h : List Bool} (hs : okS s = true) (hl : l.length = kOf s + mOf s) (hh : h.length = kOf s + mOf s) (hu : ∀ x ∈ l, x.size ≤ 1073741824) :
  ∀ d i (t : List Nat), i + d = kOf s + mOf s → t.length ≤ i → Ev (fun k => impl_Decode.l0 k l (kOf s : Int) (codeR s) (rowsOf (codeR s) t) (textsOf l t) h (h.length : Int) (i : Int)) (match pickG l h d i t with
   | none => ([], false)
   | some t' => decEnd s l t') := by
 have kk := kOf_le s
 have cl := code_length hs
 intro d
 induction d with
 | zero =>
  intro i t hi ht
  rw [pickG]
  have r1 := rowsOf_length (codeR s) t
  have r2 := textsOf_length l t
  show Ev _ (decEnd s l t)
  unfold decEnd
  by_cases c : t.length < kOf s
  ·rw [if_pos c]
   refine Ev.step (f := fun _ => some ([], false)) (fun k => ?_) (Ev.now _)
   simp only [impl_Decode.l0]
   rw [if_neg (by omega), if_pos (by omega)]
  ·rw [if_neg c]
   have dr := dec_rows s (t.take (kOf s))
   have iv : impl_InvM.f (rowsOf (codeR s) (t.take (kOf s))) = some (invR (rowsOf (codeR s) (t.take (kOf s)))) := by
    unfold impl_InvM.f
    exact if_pos (sizeOk_iff.mpr ⟨by rw [dr.1, List.length_take]; omega, fun x hx => by have := dr.2 x hx; omega⟩)
   have z := invR_size (rowsOf (codeR s) (t.take (kOf s)))
   have ap := impl_ApplyM_ev (invR (rowsOf (codeR s) (t.take (kOf s)))).1 (textsOf l (t.take (kOf s))) (by omega) (fun x hx => by have := z.2 x hx; omega) (textsOf_size hu _)
   refine Ev.step (f := fun k => (impl_InvM.f (rowsOf (codeR s) (t.take (kOf s)))).bind fun bt224 => if bt224.2 = true then ((impl_ApplyM.f k bt224.1 (textsOf l (t.take (kOf s)))).bind fun t233 => some (t233, true)) else some ([], false)) (fun k => ?_) ?_
   ·simp only [impl_Decode.l0]
    rw [if_neg (by omega), if_neg (by omega), if_pos (by omega), if_pos (by omega), Int.toNat_natCast, rowsOf_take, textsOf_take]
    simp only [if_pos (show (kOf s : Int) ≤ ((textsOf l t).length : Int) by omega)]
   ·refine Ev.some_bind iv ?_
    by_cases c2 : (invR (rowsOf (codeR s) (t.take (kOf s)))).2 = true
    ·rw [if_pos c2]
     exact Ev.pos c2 (Ev.bind ap (Ev.now _))
    ·rw [if_neg c2]
     exact Ev.neg c2 (Ev.now _)
 | succ d ih =>
  intro i t hi ht
  have r1 := rowsOf_length (codeR s) t
  have r2 := textsOf_length l t
  rw [pickG]
  cases hb : bAt h i with
  | false =>
   rw [if_neg (by simp)]
   refine Ev.step (fun k => ?_) (ih (i + 1) t (by omega) (by omega))
   simp only [impl_Decode.l0]
   rw [if_pos (by omega), if_pos (by omega), if_pos (by omega), rd_bAt, hb, if_neg (by simp), wsucc (by omega)]
  | true =>
   rw [if_pos rfl]
   have z := ih (i + 1) (t ++ [i]) (by omega) (by simp; omega)
   rw [← rowsOf_snoc, ← textsOf_snoc] at z
   by_cases c : t = []
   ·rw [if_neg (fun e => e.1 c)]
    refine Ev.step (fun k => ?_) z
    simp only [impl_Decode.l0]
    rw [if_pos (by omega), if_pos (by omega), if_pos (by omega), rd_bAt, hb, if_pos rfl, if_neg (by rw [r2, c]; simp), if_pos (by omega), Option.bind_some, if_pos (by rw [r1, List.length_singleton]; omega), if_pos (by omega), Option.bind_some, if_pos (by rw [r2, List.length_singleton]; omega), wsucc (by omega)]
   ·have hp : 0 < t.length := List.length_pos_iff.mpr c
    by_cases c2 : (tAt l i).size = (tAt l (t.headD 0)).size
    ·rw [if_neg (fun e => e.2 c2)]
     refine Ev.step (fun k => ?_) z
     simp only [impl_Decode.l0]
     rw [if_pos (by omega), if_pos (by omega), if_pos (by omega), rd_bAt, hb, if_pos rfl, if_pos (by omega), if_pos (by omega), if_pos (by omega), head_text c, if_pos (by rw [rd_tAt]; omega), if_pos (by omega), Option.bind_some, if_pos (by rw [r1, List.length_singleton]; omega), Option.bind_some, if_pos (by rw [r2, List.length_singleton]; omega), wsucc (by omega)]
    ·rw [if_pos ⟨c, c2⟩]
     refine Ev.step (f := fun _ => some ([], false)) (fun k => ?_) (Ev.now _)
     simp only [impl_Decode.l0]
     rw [if_pos (by omega), if_pos (by omega), if_pos (by omega), rd_bAt, hb, if_pos rfl, if_pos (by omega), if_pos (by omega), if_pos (by omega), head_text c, if_neg (by rw [rd_tAt]; omega)]
theorem impl_Decode_ev (s : Int) (l : List ByteArray) (h : List Bool) (hll : l.length ≤ 1099511627776) (hhl : h.length ≤ 1099511627776) (hu : ∀ x ∈ l, x.size ≤ 1073741824) : Ev (fun k => impl_Decode.f k s l h) (decV s l h) := by
 have kk := kOf_le s
 have w := wadd (a := kOf s) (b := mOf s) (by omega)
 have no : ¬ (okS s = true ∧ l.length = kOf s + mOf s ∧ h.length = kOf s + mOf s) → decV s l h = ([], false) := fun hc => by
  unfold decV
  rw [if_neg hc]
 have j : Ev (fun k => impl_Decode.j0 k s l h (kOf s : Int) true) ([], false) := Ev.step (f := fun _ => some ([], false)) (fun k => by simp only [impl_Decode.j0, if_true]) (Ev.now _)
 unfold impl_Decode.f
 refine Ev.some_bind (impl_schema s) ?_
 by_cases h1 : okS s = true
 ·refine Ev.pos h1 ?_
  simp only [w]
  by_cases h2 : l.length = kOf s + mOf s
  ·refine Ev.pos (by omega) ?_
   by_cases h3 : h.length = kOf s + mOf s
   ·rw [show ((h.length : Int) != ((kOf s + mOf s : Nat) : Int)) = false from bne_eq_false_iff_eq.mpr (by omega)]
    refine Ev.step (f := fun k => (impl_CodeOf.f k s).bind fun t185 => impl_Decode.l0 k l (kOf s : Int) t185 [] [] h (h.length : Int) 0) (fun k => by simp only [impl_Decode.j0, Bool.false_eq_true, if_false]) ?_
    refine Ev.bind (impl_CodeOf_ev s) ?_
    unfold decV
    rw [if_pos ⟨h1, h2, h3⟩]
    exact impl_dec_loop h1 h2 h3 hu (kOf s + mOf s) 0 [] (by omega) (by simp)
   ·rw [show ((h.length : Int) != ((kOf s + mOf s : Nat) : Int)) = true from bne_iff_ne.mpr (by omega), no (fun e => h3 e.2.2)]
    exact j
  ·rw [no (fun e => h2 e.2.1)]
   exact Ev.neg (by omega) j
 ·rw [no (fun e => h1 e.1)]
  exact Ev.neg h1 j

theorem mx_nat (a b : Nat) : mx (a : Int) (b : Int) = ((max a b : Nat) : Int) := by
 unfold mx
 by_cases h : (a : Int) < (b : Int)
 ·rw [if_pos h]
  omega
 ·rw [if_neg h]
  omega
theorem repeat_zeros (n : Nat) (h : n ≤ 1073741824) : strings_Repeat.f (⟨#[0]⟩ : ByteArray) (n : Int) = some (zerosT n) := by
 unfold strings_Repeat.f
 rw [if_pos ⟨by omega, by omega, by rw [Int.toNat_natCast]; show 1 * n ≤ _; omega⟩, Int.toNat_natCast]
 congr 1
 have e : ∀ n : Nat, Lib.repeatL [0] n = List.replicate n 0 := by
  intro n
  induction n with
  | zero => rfl
  | succ n ih =>
   rw [Lib.repeatL, ih, List.replicate_succ]
   rfl
 show (⟨(Lib.repeatL [0] n).toArray⟩ : ByteArray) = zerosT n
 rw [e]
 rfl
theorem impl_Encode_ev (s : Int) (u : List ByteArray) (hl : u.length ≤ 1099511627776) (hu : ∀ x ∈ u, x.size ≤ 1073741824) : Ev (fun k => impl_Encode.f k s u) (encV s u) := by
 have mb := most_bound hu
 have cs := codeR_size s
 have fill : okS s = true ∧ u.length = kOf s ∧ most u ≤ 200 → ∀ d i : Nat, i ≤ u.length → u.length - i = d → Ev (fun k => impl_Encode.l1 k s ((most u : Nat) : Int) ((u.take i).map (padT (most u))) u (u.length : Int) (i : Int)) (encV s u) := by
  intro hc d
  induction d with
  | zero =>
   intro i hi hd
   obtain rfl : i = u.length := by omega
   have a := impl_ApplyM_ev (codeR s) (u.map (padT (most u))) (by omega) (fun r hr => by have := cs.2 r hr; omega) (fun x hx => by
    obtain ⟨y, hy, rfl⟩ := List.mem_map.mp hx
    rw [padT_size (most_le y hy)]
    exact mb)
   refine Ev.step (f := fun k => (impl_CodeOf.f k s).bind fun t169 => (impl_ApplyM.f k t169 (u.map (padT (most u)))).bind fun t172 => some (t172, true)) (fun k => ?_) ?_
   ·simp only [impl_Encode.l1]
    rw [if_neg (by omega), List.take_length]
   ·unfold encV
    rw [if_pos hc]
    exact Ev.bind (impl_CodeOf_ev s) (Ev.bind a (Ev.now _))
  | succ d ih =>
   intro i hi hd
   have ci : i < u.length := by omega
   have z := ih (i + 1) (by omega) (by omega)
   rw [List.take_succ_eq_append_getElem ci, List.map_append] at z
   have hx := most_le u[i] (List.getElem_mem ci)
   have kk := (kOf_le s).1
   have ww : wrap64 (((most u : Nat) : Int) - (u[i].size : Int)) = ((most u - u[i].size : Nat) : Int) := by rw [w64 (by omega) (by omega)]; omega
   refine Ev.step (fun k => ?_) z
   simp only [impl_Encode.l1]
   rw [if_pos (by omega), if_pos (by omega), if_pos (by omega), rdB_at ci, ww, repeat_zeros _ (by omega), Option.bind_some, if_pos (by rw [zerosT_size]; omega), if_pos (by simp; omega), wsucc (by omega)]
   rfl
 have size : ∀ d i : Nat, i ≤ u.length → u.length - i = d → Ev (fun k => impl_Encode.l0 k s u (kOf s : Int) (okS s) ((most (u.take i) : Nat) : Int) u (u.length : Int) (i : Int)) (encV s u) := by
  intro d
  induction d with
  | zero =>
   intro i hi hd
   obtain rfl : i = u.length := by omega
   have no : ¬ (okS s = true ∧ u.length = kOf s ∧ most u ≤ 200) → Ev (fun k => impl_Encode.j1 k s u ((most u : Nat) : Int) true) (encV s u) := by
    intro hc
    refine Ev.step (f := fun _ => some ([], false)) (fun k => by simp only [impl_Encode.j1, if_true]) ?_
    unfold encV
    rw [if_neg hc]
    exact Ev.now _
   refine Ev.step (f := fun k => if okS s = true then (if (u.length : Int) = (kOf s : Int) then impl_Encode.j1 k s u ((most u : Nat) : Int) (decide (((most u : Nat) : Int) > 200)) else impl_Encode.j1 k s u ((most u : Nat) : Int) true) else impl_Encode.j1 k s u ((most u : Nat) : Int) true) (fun k => ?_) ?_
   ·simp only [impl_Encode.l0]
    rw [if_neg (by omega), List.take_length]
   ·by_cases h1 : okS s = true
    ·refine Ev.pos h1 ?_
     by_cases h2 : u.length = kOf s
     ·refine Ev.pos (by omega) ?_
      by_cases h3 : most u ≤ 200
      ·rw [decide_eq_false (show ¬ ((most u : Nat) : Int) > 200 by omega)]
       refine Ev.step (f := fun k => impl_Encode.l1 k s ((most u : Nat) : Int) [] u (u.length : Int) 0) (fun k => by simp only [impl_Encode.j1, Bool.false_eq_true, if_false]) ?_
       exact fill ⟨h1, h2, h3⟩ u.length 0 (by omega) (by omega)
      ·rw [decide_eq_true (show ((most u : Nat) : Int) > 200 by omega)]
       exact no (fun h => h3 h.2.2)
     ·exact Ev.neg (by omega) (no (fun h => h2 h.2.1))
    ·exact Ev.neg h1 (no (fun h => h1 h.1))
  | succ d ih =>
   intro i hi hd
   have ci : i < u.length := by omega
   have z := ih (i + 1) (by omega) (by omega)
   rw [List.take_succ_eq_append_getElem ci, most_snoc, ← mx_nat] at z
   refine Ev.step (fun k => ?_) z
   simp only [impl_Encode.l0]
   rw [if_pos (by omega), if_pos (by omega), if_pos (by omega), rdB_at ci, wsucc (by omega)]
 unfold impl_Encode.f
 exact Ev.some_bind (impl_schema s) (size u.length 0 (by omega) (by omega))

theorem zeros_nums (n : Nat) : strOfNums (List.replicate n 0) = zerosT n := by
 apply str_ext
 unfold strOfNums zerosT
 simp
theorem spec_Encode_ev (s : Int) (u : List ByteArray) (hl : u.length ≤ 1099511627776) (hu : ∀ x ∈ u, x.size ≤ 1073741824) : Ev (fun k => spec_Encode.f k s u) (encV s u) := by
 have mb := most_bound hu
 have cs := codeR_size s
 have kk := (kOf_le s).1
 have no : ¬ (okS s = true ∧ u.length = kOf s ∧ most u ≤ 200) → encV s u = ([], false) := fun hc => by
  unfold encV
  rw [if_neg hc]
 have j : Ev (fun k => spec_Encode.j0 k s u (kOf s : Int) true) ([], false) := Ev.step (f := fun _ => some ([], false)) (fun k => by simp only [spec_Encode.j0, if_true]) (Ev.now _)
 have fill : okS s = true ∧ u.length = kOf s ∧ most u ≤ 200 → ∀ d i : Nat, i ≤ u.length → u.length - i = d → Ev (fun k => spec_Encode.l1 k s u (kOf s : Int) ((most u : Nat) : Int) ((u.take i).map (padT (most u))) (i : Int)) (encV s u) := by
  intro hc d
  induction d with
  | zero =>
   intro i hi hd
   obtain rfl : i = u.length := by omega
   have a := spec_ApplyM_ev (codeR s) (u.map (padT (most u))) (by omega) (fun r hr => by have := cs.2 r hr; omega) (fun x hx => by
    obtain ⟨y, hy, rfl⟩ := List.mem_map.mp hx
    rw [padT_size (most_le y hy)]
    exact mb)
   refine Ev.step (f := fun k => (spec_CodeOf.f k s).bind fun t169 => (spec_ApplyM.f k t169 (u.map (padT (most u)))).bind fun t172 => some (t172, true)) (fun k => ?_) ?_
   ·simp only [spec_Encode.l1]
    rw [if_neg (by omega), List.take_length]
   ·unfold encV
    rw [if_pos hc]
    exact Ev.bind (spec_CodeOf_ev s) (Ev.bind a (Ev.now _))
  | succ d ih =>
   intro i hi hd
   have ci : i < u.length := by omega
   have z := ih (i + 1) (by omega) (by omega)
   rw [List.take_succ_eq_append_getElem ci, List.map_append] at z
   have hx := most_le u[i] (List.getElem_mem ci)
   have ad := spec_AddText_ev u[i] (zerosT (most u)) (by omega) (by rw [zerosT_size]; omega)
   rw [addT_pad hx] at ad
   refine Ev.step (f := fun k => (spec_AddText.f k u[i] (zerosT (most u))).bind fun t358 => if ((u.take i).map (padT (most u))).length < 8796093022208 then spec_Encode.l1 k s u (kOf s : Int) ((most u : Nat) : Int) ((u.take i).map (padT (most u)) ++ [t358]) ((i + 1 : Nat) : Int) else none) (fun k => ?_) (Ev.bind ad (Ev.pos (by simp; omega) z))
   simp only [spec_Encode.l1]
   rw [if_pos (by omega), if_pos (by omega), if_pos (by omega), if_pos (by omega), Int.toNat_natCast, if_pos (by omega), rdB_at ci, zeros_nums, wsucc (by omega)]
 have size : okS s = true → u.length = kOf s → ∀ d i : Nat, i ≤ u.length → u.length - i = d → most (u.take i) ≤ 200 → Ev (fun k => spec_Encode.l0 k s u (kOf s : Int) ((most (u.take i) : Nat) : Int) (i : Int)) (encV s u) := by
  intro h1 h2 d
  induction d with
  | zero =>
   intro i hi hd hm
   obtain rfl : i = u.length := by omega
   rw [List.take_length] at hm ⊢
   refine Ev.step (f := fun k => spec_Encode.l1 k s u (kOf s : Int) ((most u : Nat) : Int) [] 0) (fun k => ?_) (fill ⟨h1, h2, hm⟩ u.length 0 (by omega) (by omega))
   simp only [spec_Encode.l0]
   rw [if_neg (by omega)]
  | succ d ih =>
   intro i hi hd hm
   have ci : i < u.length := by omega
   have sn : most (u.take (i + 1)) = max (most (u.take i)) u[i].size := by rw [List.take_succ_eq_append_getElem ci, most_snoc]
   by_cases c : u[i].size ≤ 200
   ·have z := ih (i + 1) (by omega) (by omega) (by omega)
    rw [sn] at z
    refine Ev.step (fun k => ?_) z
    simp only [spec_Encode.l0]
    rw [if_pos (by omega), if_pos (by omega), if_pos (by omega), rdB_at ci, if_neg (by omega), wsucc (by omega)]
    by_cases c2 : (u[i].size : Int) > ((most (u.take i) : Nat) : Int)
    ·rw [if_pos c2, show max (most (u.take i)) u[i].size = u[i].size by omega]
    ·rw [if_neg c2, show max (most (u.take i)) u[i].size = most (u.take i) by omega]
   ·have hx := most_le u[i] (List.getElem_mem ci)
    rw [no (fun h => by omega)]
    refine Ev.step (f := fun _ => some ([], false)) (fun k => ?_) (Ev.now _)
    simp only [spec_Encode.l0]
    rw [if_pos (by omega), if_pos (by omega), if_pos (by omega), rdB_at ci, if_pos (by omega)]
 unfold spec_Encode.f
 refine Ev.some_bind (spec_schema s) ?_
 by_cases h1 : okS s = true
 ·refine Ev.pos h1 ?_
  by_cases h2 : u.length = kOf s
  ·rw [show ((u.length : Int) != (kOf s : Int)) = false from bne_eq_false_iff_eq.mpr (by omega)]
   refine Ev.step (f := fun k => spec_Encode.l0 k s u (kOf s : Int) 0 0) (fun k => by simp only [spec_Encode.j0, Bool.false_eq_true, if_false]) ?_
   exact size h1 h2 u.length 0 (by omega) (by omega) (by simp [most])
  ·rw [show ((u.length : Int) != (kOf s : Int)) = true from bne_iff_ne.mpr (by omega), no (fun h => h2 h.2.1)]
   exact j
 ·rw [no (fun h => h1 h.1)]
  exact Ev.neg h1 j

/-! ### Rebuild -/
theorem applyR_texts {m : List (List Int)} {u : List ByteArray} {N : Nat} (h : ∀ x ∈ u, x.size ≤ N) : ∀ x ∈ applyR m u, x.size ≤ N := by
 unfold applyR
 by_cases c : okM m = true ∧ (m.headD []).length = u.length
 ·rw [if_pos c]
  intro x hx
  unfold applyM at hx
  obtain ⟨i, _, rfl⟩ := List.mem_map.mp hx
  exact tsum_size (fun k _ => by rw [mulT_size]; exact unit_size h k)
 ·rw [if_neg c]
  simp
theorem decV_texts {s : Int} {l : List ByteArray} {h : List Bool} {N : Nat} (hu : ∀ x ∈ l, x.size ≤ N) : ∀ x ∈ (decV s l h).1, x.size ≤ N := by
 unfold decV
 by_cases c : okS s = true ∧ l.length = kOf s + mOf s ∧ h.length = kOf s + mOf s
 ·rw [if_pos c]
  cases pickG l h (kOf s + mOf s) 0 [] with
  | none => simp
  | some t =>
   show ∀ x ∈ (decEnd s l t).1, x.size ≤ N
   unfold decEnd
   by_cases c2 : t.length < kOf s
   ·rw [if_pos c2]
    simp
   ·rw [if_neg c2]
    by_cases c3 : (invR (rowsOf (codeR s) (t.take (kOf s)))).2 = true
    ·rw [if_pos c3]
     exact applyR_texts (textsOf_size hu _)
    ·rw [if_neg c3]
     simp
 ·rw [if_neg c]
  simp
def rebV (s : Int) (l : List ByteArray) (h : List Bool) : List ByteArray × Bool := if (decV s l h).2 = true then encV s (decV s l h).1 else ([], false)
theorem impl_Rebuild_ev (s : Int) (l : List ByteArray) (h : List Bool) (hll : l.length ≤ 1099511627776) (hhl : h.length ≤ 1099511627776) (hu : ∀ x ∈ l, x.size ≤ 1073741824) : Ev (fun k => impl_Rebuild.f k s l h) (rebV s l h) := by
 have e8 := decV_size s l h
 unfold impl_Rebuild.f rebV
 refine Ev.bind (impl_Decode_ev s l h hll hhl hu) ?_
 by_cases c : (decV s l h).2 = true
 ·rw [if_pos c]
  exact Ev.pos c (Ev.bind (impl_Encode_ev s (decV s l h).1 (by omega) (decV_texts hu)) (Ev.now _))
 ·rw [if_neg c]
  exact Ev.neg c (Ev.now _)

/-! ### texts of one length -/
def bt8 (s : ByteArray) (t : Nat) : Nat := (s.data.toList.getD t 0).toNat
theorem bt8_lt (s : ByteArray) (t : Nat) : bt8 s t < 256 := UInt8.toNat_lt _
def ofB (N : Nat) (g : Nat → Nat) : ByteArray := ⟨((List.range N).map fun t => UInt8.ofNat (g t)).toArray⟩
theorem ofB_list (N : Nat) (g : Nat → Nat) : (ofB N g).data.toList = (List.range N).map fun t => UInt8.ofNat (g t) := rfl
theorem ofB_size (N : Nat) (g : Nat → Nat) : (ofB N g).size = N := by
 have := size_of_list (ofB N g) (ofB_list N g)
 rw [this, List.length_map, List.length_range]
theorem ofB_congr {N : Nat} {g h : Nat → Nat} (H : ∀ t, t < N → g t = h t) : ofB N g = ofB N h := by
 unfold ofB
 rw [List.map_congr_left (fun t ht => by rw [H t (List.mem_range.mp ht)])]
theorem ofB_self {s : ByteArray} {N : Nat} (hs : s.size = N) : ofB N (bt8 s) = s := by
 have hl : s.data.toList.length = N := by rw [← hs]; rfl
 have e : ((List.range N).map fun t => UInt8.ofNat (bt8 s t)) = s.data.toList := by
  refine List.ext_getElem (by rw [List.length_map, List.length_range, hl]) (fun i h1 h2 => ?_)
  rw [List.getElem_map, List.getElem_range]
  unfold bt8
  rw [List.getD_eq_getElem?_getD, List.getElem?_eq_getElem h2]
  exact UInt8.ofNat_toNat
 unfold ofB
 rw [e]
theorem addL_map (f g : Nat → UInt8) : ∀ l : List Nat, addL (l.map f) (l.map g) = l.map (fun t => f t ^^^ g t)
 | [] => rfl
 | t :: l => by
  simp only [List.map_cons, addL]
  rw [addL_map f g l]
theorem ofB_add (N : Nat) (g h : Nat → Nat) : addT (ofB N g) (ofB N h) = ofB N (fun t => g t ^^^ h t) := by
 unfold addT
 rw [ofB_list, ofB_list, addL_map]
 unfold ofB
 congr 2
 exact List.map_congr_left (fun t _ => (UInt8.ofNat_xor ..).symm)
theorem ofB_mul (N x : Nat) {g : Nat → Nat} (hg : ∀ t, t < N → g t < 256) : mulT x (ofB N g) = ofB N (fun t => Gf.mul x (g t)) := by
 unfold mulT mulL
 rw [ofB_list, List.map_map]
 unfold ofB
 congr 2
 refine List.map_congr_left (fun t ht => ?_)
 have := hg t (List.mem_range.mp ht)
 show UInt8.ofNat (Gf.mul x (UInt8.ofNat (g t)).toNat) = _
 rw [UInt8.toNat_ofNat', Nat.mod_eq_of_lt (by omega)]
theorem tsum_congr {g h : Nat → ByteArray} : ∀ {n : Nat}, (∀ k, k < n → g k = h k) → tsum n g = tsum n h
 | 0, _ => rfl
 | n + 1, H => by rw [tsum, tsum, tsum_congr (fun k hk => H k (by omega)), H n (by omega)]
theorem tsum_ofB (N : Nat) (H : Nat → Nat → Nat) : ∀ n : Nat, tsum (n + 1) (fun k => ofB N (H k)) = ofB N (fun t => xs (n + 1) (fun k => H k t))
 | 0 => by
  have e : addT (⟨#[]⟩ : ByteArray) (ofB N (H 0)) = ofB N (H 0) := by
   unfold addT
   show (⟨(addL [] (ofB N (H 0)).data.toList).toArray⟩ : ByteArray) = _
   rw [nil_addL]
  rw [tsum, tsum, e]
  exact ofB_congr (fun t _ => by simp [xs])
 | n + 1 => by
  rw [tsum, tsum_ofB N H n, ofB_add]
  rfl
def unitsB (n N : Nat) (U : Nat → Nat → Nat) : List ByteArray := (List.range n).map fun k => ofB N (U k)
theorem unitsB_length (n N : Nat) (U : Nat → Nat → Nat) : (unitsB n N U).length = n := by simp [unitsB]
theorem unitsB_get {n N : Nat} (U : Nat → Nat → Nat) {k : Nat} (hk : k < n) : (unitsB n N U).getD k ByteArray.empty = ofB N (U k) := by
 unfold unitsB
 rw [List.getD_eq_getElem?_getD, List.getElem?_map, List.getElem?_range hk]
 rfl
theorem unitsB_congr {n N : Nat} {U V : Nat → Nat → Nat} (H : ∀ k, k < n → ∀ t, t < N → U k t = V k t) : unitsB n N U = unitsB n N V := by
 unfold unitsB
 exact List.map_congr_left (fun k hk => ofB_congr (H k (List.mem_range.mp hk)))
theorem unitsB_size (n N : Nat) (U : Nat → Nat → Nat) : ∀ x ∈ unitsB n N U, x.size = N := by
 intro x hx
 obtain ⟨k, _, rfl⟩ := List.mem_map.mp hx
 exact ofB_size _ _
theorem applyR_units {r n N : Nat} {A U : Nat → Nat → Nat} (r1 : 1 ≤ r) (r8 : r ≤ 8) (n1 : 1 ≤ n) (n8 : n ≤ 8) (hA : ∀ i, i < r → ∀ j, j < n → A i j < 256) (hU : ∀ k, k < n → ∀ t, t < N → U k t < 256) :
  applyR (mk r n A) (unitsB n N U) = unitsB r N (fun i t => xs n (fun k => Gf.mul (A i k) (U k t))) := by
 unfold applyR
 rw [if_pos ⟨okM_mk r1 r8 n1 n8 hA, by rw [mk_head r n A (by omega), unitsB_length]⟩]
 unfold applyM
 rw [mk_length, unitsB_length]
 refine List.map_congr_left (fun i hi => ?_)
 have hi := List.mem_range.mp hi
 obtain ⟨m, rfl⟩ : ∃ m, n = m + 1 := ⟨n - 1, by omega⟩
 rw [tsum_congr (h := fun k => ofB N (fun t => Gf.mul (A i k) (U k t))) (fun k hk => ?_)]
 ·exact tsum_ofB N (fun k t => Gf.mul (A i k) (U k t)) m
 ·rw [unitsB_get U hk, ent_mk r (m + 1) A hi hk, ofB_mul N _ (hU k hk)]
theorem assoc_pt {r n m : Nat} {X Y : Nat → Nat → Nat} {z : Nat → Nat} {i : Nat} (hX : ∀ l, l < n → X i l < 256) (hY : ∀ l, l < n → ∀ k, k < m → Y l k < 256) (hz : ∀ k, k < m → z k < 256) :
  xs m (fun k => Gf.mul (xs n (fun l => Gf.mul (X i l) (Y l k))) (z k)) = xs n (fun l => Gf.mul (X i l) (xs m (fun k => Gf.mul (Y l k) (z k)))) := by
 have e1 : xs m (fun k => Gf.mul (xs n (fun l => Gf.mul (X i l) (Y l k))) (z k)) = xs m (fun k => xs n (fun l => Gf.mul (X i l) (Gf.mul (Y l k) (z k)))) :=
  xs_congr (fun k hk => by
   rw [xs_mul _ (fun l hl => Gf.mul_lt _ (hX l hl))]
   exact xs_congr (fun l hl => Gf.mul_assoc (hX l hl) (hY l hl k hk) (hz k hk)))
 rw [e1, xs_swap]
 exact xs_congr (fun l hl => (mul_xs _ _ _).symm)
theorem id_pt {n : Nat} {z : Nat → Nat} {i : Nat} (hi : i < n) (hz : ∀ k, k < n → z k < 256) : xs n (fun k => Gf.mul (idf i k) (z k)) = z i := by
 have e : xs n (fun k => Gf.mul (idf i k) (z k)) = xs n (fun k => if k = i then z k else 0) := xs_congr (fun k hk => by
  unfold idf
  by_cases h : k = i
  ·subst h
   rw [if_pos rfl, if_pos rfl, Gf.mul_one_left (hz k hk)]
  ·rw [if_neg h, if_neg (fun e => h e.symm), Gf.mul_zero_left])
 rw [e, xs_one z hi]

/-! ### lists of texts, compared -/
theorem sameT_ev (l : List ByteArray) (hl : l.length ≤ 4611686018427387904) : Ev (fun k => laws_sameTexts.f k l l) true := by
 have key : ∀ d (i : Nat), i ≤ l.length → l.length - i = d → Ev (fun k => laws_sameTexts.l0 k l l (i : Int)) true := by
  intro d
  induction d with
  | zero =>
   intro i hi hd
   exact Ev.step (f := fun _ => some true) (fun k => by simp only [laws_sameTexts.l0]; rw [if_neg (by omega)]) (Ev.now _)
  | succ d ih =>
   intro i hi hd
   refine Ev.step (fun k => ?_) (ih (i + 1) (by omega) (by omega))
   simp only [laws_sameTexts.l0]
   rw [if_pos (by omega), if_pos (by omega), if_pos (by omega), wsucc (by omega)]
   simp only [if_true]
 unfold laws_sameTexts.f
 simp only [if_true]
 exact key l.length 0 (by omega) (by omega)

/-! ### what is drawn -/
theorem and255_range (x : Int) : 0 ≤ Go.bits .and .i64 x 255 ∧ Go.bits .and .i64 x 255 ≤ 255 := by
 have e : ((BitVec.ofInt 64 x) &&& (BitVec.ofInt 64 255)).toNat = (x % 18446744073709551616).toNat % 256 := by
  rw [BitVec.toNat_and, BitVec.toNat_ofInt, show (BitVec.ofInt 64 255).toNat = 2 ^ 8 - 1 by decide, Nat.and_two_pow_sub_one_eq_mod]
  rfl
 have e2 : Go.bits .and .i64 x 255 = IntKind.i64.wrap (((BitVec.ofInt 64 x) &&& (BitVec.ofInt 64 255)).toNat : Int) := rfl
 rw [e2, e, IntKind.wrap_i64]
 omega
theorem byte_ex (l : List Int) (i h : Int) (hl : l.length ≤ 140737488351232) (hi : 0 ≤ i) : ∃ x i' h', spec_l01Byte.f l i h = some (x, i', h') ∧ 0 ≤ x ∧ x ≤ 255 ∧ 0 ≤ i' := by
 unfold spec_l01Byte.f
 by_cases c : i < (l.length : Int)
 ·rw [if_pos c, if_pos hi]
  refine ⟨_, _, _, rfl, (and255_range _).1, (and255_range _).2, ?_⟩
  rw [w64 (by omega) (by omega)]
  omega
 ·rw [if_neg c]
  exact ⟨_, _, _, rfl, (and255_range _).1, (and255_range _).2, hi⟩
theorem below_ex (l : List Int) (i h n : Int) (hl : l.length ≤ 140737488351232) (hi : 0 ≤ i) (hn : n ≤ 4294967296) : ∃ x i' h', spec_l01Below.f l i h n = some (x, i', h') ∧ 0 ≤ x ∧ (0 < n → x < n) ∧ (n ≤ 0 → x = 0) ∧ 0 ≤ i' := by
 unfold spec_l01Below.f
 by_cases c1 : n ≤ 0
 ·rw [if_pos c1]
  exact ⟨_, _, _, rfl, by omega, by omega, fun _ => rfl, hi⟩
 ·rw [if_neg c1]
  by_cases c2 : n ≤ 256
  ·rw [if_pos c2]
   obtain ⟨x, i1, h1, e1, b0, b1, hi1⟩ := byte_ex l i h hl hi
   simp only [e1, Option.bind_some]
   rw [if_neg (by omega)]
   refine ⟨_, _, _, rfl, Int.tmod_nonneg _ b0, fun _ => ?_, by omega, hi1⟩
   exact Int.tmod_lt_of_pos _ (by omega)
  ·rw [if_neg c2]
   obtain ⟨x, i1, h1, e1, x0, x1, hi1⟩ := byte_ex l i h hl hi
   obtain ⟨y, i2, h2, e2, y0, y1, hi2⟩ := byte_ex l i1 h1 hl hi1
   obtain ⟨z, i3, h3, e3, z0, z1, hi3⟩ := byte_ex l i2 h2 hl hi2
   obtain ⟨u, i4, h4, e4, u0, u1, hi4⟩ := byte_ex l i3 h3 hl hi3
   simp only [e1, e2, e3, e4, Option.bind_some]
   rw [if_neg (by omega)]
   refine ⟨_, _, _, rfl, Int.tmod_nonneg _ ?_, fun _ => Int.tmod_lt_of_pos _ (by omega), by omega, hi4⟩
   rw [w64 (x := x * 16777216) (by omega) (by omega), w64 (x := y * 65536) (by omega) (by omega), w64 (x := z * 256) (by omega) (by omega), w64 (x := x * 16777216 + y * 65536) (by omega) (by omega), w64 (x := x * 16777216 + y * 65536 + z * 256) (by omega) (by omega), w64 (by omega) (by omega)]
   omega
theorem new_ev (l : List Int) (hl : l.length ≤ 140737488351232) : ∃ h, Ev (fun k => spec_l01New.f k l) (l, 0, h) := by
 have key : ∀ d (i : Nat) (h : Int), l.length - i = d → ∃ h', Ev (fun k => spec_l01New.l0 k l h (i : Int)) (l, 0, h') := by
  intro d
  induction d with
  | zero =>
   intro i h hd
   exact ⟨h, Ev.step (f := fun _ => some (l, 0, h)) (fun k => by simp only [spec_l01New.l0]; rw [if_neg (by omega)]) (Ev.now _)⟩
  | succ d ih =>
   intro i h hd
   by_cases c : (i : Int) < 4000
   ·obtain ⟨h', hh⟩ := ih (i + 1) _ (by omega)
    refine ⟨h', Ev.step (fun k => ?_) hh⟩
    simp only [spec_l01New.l0]
    rw [if_pos (by omega), if_pos c, if_pos (by omega), wsucc (by omega)]
   ·exact ⟨h, Ev.step (f := fun _ => some (l, 0, h)) (fun k => by simp only [spec_l01New.l0]; rw [if_pos (by omega), if_neg c]) (Ev.now _)⟩
 obtain ⟨h', hh⟩ := key l.length 0 (wrap64 (36801 + (l.length : Int))) (by omega)
 exact ⟨h', hh⟩

theorem text_ev (l : List Int) (i h n : Int) (hl : l.length ≤ 140737488351232) (hi : 0 ≤ i) (hn : n ≤ 5000) : ∃ t i' h', Ev (fun k => spec_l01Text.f k l i h n) (t, i', h') ∧ t.size = n.toNat ∧ 0 ≤ i' := by
 have key : ∀ d (j : Nat) (acc : List Int) (i h : Int), j ≤ n.toNat → n.toNat - j = d → acc.length = j → 0 ≤ i → ∃ t i' h', Ev (fun k => spec_l01Text.l0 k n acc (j : Int) l i h) (t, i', h') ∧ t.size = n.toNat ∧ 0 ≤ i' := by
  intro d
  induction d with
  | zero =>
   intro j acc i h hj hd ha hi
   refine ⟨strOfNums acc, i, h, Ev.step (f := fun _ => some (strOfNums acc, i, h)) (fun k => by simp only [spec_l01Text.l0]; rw [if_neg (by omega)]) (Ev.now _), ?_, hi⟩
   rw [strOfNums_size]
   omega
  | succ d ih =>
   intro j acc i h hj hd ha hi
   obtain ⟨y, i2, h2, e2, _, _, hi2⟩ := byte_ex l i h hl hi
   obtain ⟨t, i3, h3, hp, hp1, hp2⟩ := ih (j + 1) (acc ++ [y % 256]) i2 h2 (by omega) (by omega) (by simp; omega) hi2
   refine ⟨t, i3, h3, Ev.step (fun k => ?_) hp, hp1, hp2⟩
   simp only [spec_l01Text.l0]
   rw [if_pos (by omega), e2]
   simp only [Option.bind_some]
   rw [if_pos (by omega), wsucc (by omega)]
 obtain ⟨t, i', h', ht, hs, hi'⟩ := key n.toNat 0 [] i h (by omega) (by omega) rfl hi
 refine ⟨t, i', h', ?_, hs, hi'⟩
 unfold spec_l01Text.f
 simp only [if_neg (show ¬ n > 5000 by omega)]
 exact Ev.step (fun k => by simp only [spec_l01Text.j0]; rfl) ht

theorem places_ev (l : List Int) (hl : l.length ≤ 140737488351232) : ∃ p : List Int, Ev (fun k => spec_DrawPlaces.f k l) p ∧ p.length = 12 ∧ ∀ x ∈ p, 0 ≤ x ∧ x < 10000 := by
 obtain ⟨h0, hn⟩ := new_ev l hl
 obtain ⟨x, i1, h1, e1, x0, x1, hi1⟩ := byte_ex l 0 h0 hl (by omega)
 have key : ∀ d (j : Nat) (acc : List Int) (i h : Int), j ≤ 12 → 12 - j = d → acc.length = j → (∀ x ∈ acc, 0 ≤ x ∧ x < 10000) → 0 ≤ i → ∃ p : List Int, Ev (fun k => spec_DrawPlaces.l0 k acc (j : Int) l i h) p ∧ p.length = 12 ∧ ∀ x ∈ p, 0 ≤ x ∧ x < 10000 := by
  intro d
  induction d with
  | zero =>
   intro j acc i h hj hd ha hb hi
   exact ⟨acc, Ev.step (f := fun _ => some acc) (fun k => by simp only [spec_DrawPlaces.l0]; rw [if_neg (by omega)]) (Ev.now _), by omega, hb⟩
  | succ d ih =>
   intro j acc i h hj hd ha hb hi
   obtain ⟨y, i2, h2, e2, y0, y1, _, hi2⟩ := below_ex l i h 10000 hl hi (by omega)
   obtain ⟨p, hp, hp1, hp2⟩ := ih (j + 1) (acc ++ [y]) i2 h2 (by omega) (by omega) (by simp; omega) (by
    intro z hz
    rcases List.mem_append.1 hz with hz | hz
    ·exact hb z hz
    ·rw [List.mem_singleton.1 hz]; exact ⟨y0, y1 (by omega)⟩) hi2
   refine ⟨p, Ev.step (fun k => ?_) hp, hp1, hp2⟩
   simp only [spec_DrawPlaces.l0]
   rw [if_pos (by omega), e2]
   simp only [Option.bind_some]
   rw [if_pos (by omega), wsucc (by omega)]
 obtain ⟨p, hp, hp1, hp2⟩ := key 12 0 [] i1 h1 (by omega) (by omega) rfl (by simp) hi1
 refine ⟨p, ?_, hp1, hp2⟩
 unfold spec_DrawPlaces.f
 refine Ev.bind hn ?_
 simp only [e1, Option.bind_some]
 exact hp
theorem rd_mem {p : List Int} {n : Nat} (h : n < p.length) : rd p (n : Int) ∈ p := by
 unfold rd
 rw [Int.toNat_natCast, List.getD_eq_getElem?_getD, List.getElem?_eq_getElem h]
 exact List.getElem_mem h

/-! ### units that are drawn -/
theorem drawUnits_ev (l : List Int) (hl : l.length ≤ 140737488351232) : ∃ (s k N : Nat) (u : List ByteArray), (s = 1 ∧ k = 2 ∨ s = 2 ∧ k = 3 ∨ s = 3 ∧ k = 4) ∧ N ≤ 8 ∧ Ev (fun q => spec_DrawUnits.f q l) ((s : Int), u) ∧ u.length = k ∧ ∀ x ∈ u, x.size = N := by
 obtain ⟨h, hn⟩ := new_ev l hl
 obtain ⟨x, i1, h1, e1, x0, x1, _, hi1⟩ := below_ex l 0 h 3 hl (by omega) (by omega)
 obtain ⟨S, rfl⟩ := Int.eq_ofNat_of_zero_le x0
 have x1 := x1 (by omega)
 obtain ⟨y, i2, h2, e2, y0, y1, _, hi2⟩ := below_ex l i1 h1 9 hl hi1 (by omega)
 obtain ⟨N, rfl⟩ := Int.eq_ofNat_of_zero_le y0
 have y1 := y1 (by omega)
 have key : ∀ (s : Int) (k : Nat), k ≤ 4 → ∀ d (j : Nat) (acc : List ByteArray) (i h : Int), j ≤ k → k - j = d → acc.length = j → 0 ≤ i → (∀ x ∈ acc, x.size = N) →
   ∃ u, Ev (fun q => spec_DrawUnits.l0 q s (k : Int) (N : Int) acc (j : Int) l i h) (s, u) ∧ u.length = k ∧ ∀ x ∈ u, x.size = N := by
  intro s k hk d
  induction d with
  | zero =>
   intro j acc i h hj hd ha hi hs
   refine ⟨acc, Ev.step (f := fun _ => some (s, acc)) (fun q => ?_) (Ev.now _), by omega, hs⟩
   simp only [spec_DrawUnits.l0]
   rw [if_neg (by omega)]
  | succ d ih =>
   intro j acc i h hj hd ha hi hs
   obtain ⟨t, i3, h3, e3, z, hi3⟩ := text_ev l i h (N : Int) hl hi (by omega)
   obtain ⟨u, hu, hl', hs'⟩ := ih (j + 1) (acc ++ [t]) i3 h3 (by omega) (by omega) (by simp [ha]) hi3 (fun x hx => by
    rcases List.mem_append.mp hx with hx | hx
    ·exact hs x hx
    ·obtain rfl := List.mem_singleton.mp hx
     rw [z]
     rfl)
   refine ⟨u, Ev.step (f := fun q => (spec_l01Text.f q l i h (N : Int)).bind fun bt => if acc.length < 8796093022208 then spec_DrawUnits.l0 q s (k : Int) (N : Int) (acc ++ [bt.1]) ((j + 1 : Nat) : Int) l bt.2.1 bt.2.2 else none) (fun q => ?_) (Ev.bind e3 (Ev.pos (by omega) hu)), hl', hs'⟩
   simp only [spec_DrawUnits.l0]
   rw [if_pos (by omega), wsucc (by omega)]
 have w : wrap64 (1 + (S : Int)) = ((1 + S : Nat) : Int) := by rw [w64 (by omega) (by omega)]; rfl
 have go : ∀ (k m : Nat), k ≤ 4 → spec_SchemaOf.f ((1 + S : Nat) : Int) = some ((k : Int), (m : Int), true) → ∃ u, Ev (fun q => spec_DrawUnits.f q l) (((1 + S : Nat) : Int), u) ∧ u.length = k ∧ ∀ x ∈ u, x.size = N := by
  intro k m hk hs
  obtain ⟨u, hu, a, b⟩ := key ((1 + S : Nat) : Int) k hk k 0 [] i2 h2 (by omega) (by omega) rfl hi2 (by simp)
  refine ⟨u, ?_, a, b⟩
  unfold spec_DrawUnits.f
  refine Ev.bind hn (Ev.some_bind e1 ?_)
  simp only [w]
  exact Ev.some_bind hs (Ev.some_bind e2 hu)
 have hS : S = 0 ∨ S = 1 ∨ S = 2 := by omega
 rcases hS with rfl | rfl | rfl
 ·obtain ⟨u, a, b, c⟩ := go 2 1 (by omega) rfl
  exact ⟨1, 2, N, u, Or.inl ⟨rfl, rfl⟩, by omega, a, b, c⟩
 ·obtain ⟨u, a, b, c⟩ := go 3 2 (by omega) rfl
  exact ⟨2, 3, N, u, Or.inr (Or.inl ⟨rfl, rfl⟩), by omega, a, b, c⟩
 ·obtain ⟨u, a, b, c⟩ := go 4 2 (by omega) rfl
  exact ⟨3, 4, N, u, Or.inr (Or.inr ⟨rfl, rfl⟩), by omega, a, b, c⟩

/-- The places that are there. -/
def ks (h : List Bool) : Nat → Nat → List Nat
 | 0, _ => []
 | d + 1, i => if bAt h i = true then i :: ks h d (i + 1) else ks h d (i + 1)
theorem ks_low {h : List Bool} {p : Nat} : ∀ d i : Nat, p < i → ks (h.set p false) d i = ks h d i
 | 0, _, _ => rfl
 | d + 1, i, hp => by
  have e : bAt (h.set p false) i = bAt h i := by
   unfold bAt
   rw [List.getD_eq_getElem?_getD, List.getD_eq_getElem?_getD, List.getElem?_set_ne (by omega)]
  unfold ks
  rw [e, ks_low d (i + 1) (by omega)]
theorem bAt_set (h : List Bool) (p i : Nat) : bAt (h.set p false) i = if i = p then false else bAt h i := by
 unfold bAt
 rw [List.getD_eq_getElem?_getD, List.getD_eq_getElem?_getD]
 by_cases e : i = p
 ·subst e
  rw [if_pos rfl]
  by_cases hl : i < h.length
  ·rw [List.getElem?_set_self hl]
   rfl
  ·rw [List.getElem?_eq_none (by rw [List.length_set]; omega)]
   rfl
 ·rw [if_neg e, List.getElem?_set_ne (by omega)]
theorem ks_set {h : List Bool} {p : Nat} : ∀ d i : Nat, (ks h d i).length ≤ (ks (h.set p false) d i).length + 1
 | 0, _ => by simp [ks]
 | d + 1, i => by
  have ih := ks_set (h := h) (p := p) d (i + 1)
  unfold ks
  by_cases e : i = p
  ·have e1 : bAt (h.set p false) i = false := by rw [bAt_set, if_pos e]
   rw [e1, if_neg (show ¬ (false = true) by decide), ks_low d (i + 1) (by omega)]
   by_cases c : bAt h i = true
   ·rw [if_pos c, List.length_cons]
    omega
   ·rw [if_neg c]
    omega
  ·have e1 : bAt (h.set p false) i = bAt h i := by rw [bAt_set, if_neg e]
   rw [e1]
   by_cases c : bAt h i = true
   ·rw [if_pos c, if_pos c, List.length_cons, List.length_cons]
    omega
   ·rw [if_neg c, if_neg c]
    exact ih
theorem ks_sel {h : List Bool} : ∀ d i k : Nat, k ≤ (ks h d i).length → (ks h d i).take k ∈ sel d i k
 | 0, i, k, hk => by
  have : k = 0 := by simpa [ks] using hk
  subst this
  simp [ks, sel]
 | d + 1, i, k, hk => by
  unfold ks at hk ⊢
  by_cases c : bAt h i = true
  ·rw [if_pos c] at hk ⊢
   cases k with
   | zero =>
    have := ks_sel (h := h) d (i + 1) 0 (Nat.zero_le _)
    rw [List.take_zero] at this ⊢
    exact sel_out this
   | succ k => exact sel_in (ks_sel d (i + 1) k (by simpa using hk))
  ·rw [if_neg c] at hk ⊢
   exact sel_out (ks_sel d (i + 1) k hk)
theorem ks_mem {h : List Bool} : ∀ (d i j : Nat), j ∈ ks h d i → bAt h j = true ∧ i ≤ j ∧ j < i + d
 | 0, _, _, hj => by simp [ks] at hj
 | d + 1, i, j, hj => by
  unfold ks at hj
  by_cases c : bAt h i = true
  ·rw [if_pos c] at hj
   rcases List.mem_cons.mp hj with e | hj
   ·subst e
    exact ⟨c, Nat.le_refl _, by omega⟩
   ·have := ks_mem d (i + 1) j hj
    exact ⟨this.1, by omega, by omega⟩
  ·rw [if_neg c] at hj
   have := ks_mem d (i + 1) j hj
   exact ⟨this.1, by omega, by omega⟩
theorem ks_all (n : Nat) : ∀ d i : Nat, i + d ≤ n → (ks (List.replicate n true) d i).length = d
 | 0, _, _ => rfl
 | d + 1, i, h => by
  have e : bAt (List.replicate n true) i = true := by
   unfold bAt
   rw [List.getD_eq_getElem?_getD, List.getElem?_replicate, if_pos (by omega)]
   rfl
  unfold ks
  rw [if_pos e, List.length_cons, ks_all n d (i + 1) (by omega)]
theorem pick_ok {l : List ByteArray} {h : List Bool} {N : Nat} : ∀ (d i : Nat) (t : List Nat), (∀ j, i ≤ j → j < i + d → bAt h j = true → (tAt l j).size = N) → (∀ j ∈ t, (tAt l j).size = N) → pickG l h d i t = some (t ++ ks h d i)
 | 0, _, t, _, _ => by
  unfold pickG ks
  rw [List.append_nil]
 | d + 1, i, t, h1, h2 => by
  unfold pickG ks
  by_cases c : bAt h i = true
  ·rw [if_pos c, if_pos c]
   have hi := h1 i (Nat.le_refl _) (by omega) c
   rw [if_neg (by
    rintro ⟨ne, bad⟩
    cases t with
    | nil => exact ne rfl
    | cons a t => exact bad (by rw [hi]; exact (h2 a List.mem_cons_self).symm)), pick_ok d (i + 1) (t ++ [i]) (fun j a b c => h1 j (by omega) (by omega) c) (fun j hj => by
    rcases List.mem_append.mp hj with hj | hj
    ·exact h2 j hj
    ·rw [List.mem_singleton] at hj
     subst hj
     exact hi), List.append_assoc]
   rfl
  ·rw [if_neg c, if_neg c]
   exact pick_ok d (i + 1) t (fun j a b c => h1 j (by omega) (by omega) c) h2
theorem pick_some {l : List ByteArray} {h : List Bool} : ∀ (d i : Nat) (t r : List Nat), pickG l h d i t = some r → r = t ++ ks h d i
 | 0, _, t, r, e => by
  unfold pickG at e
  unfold ks
  rw [List.append_nil]
  exact (Option.some.inj e).symm
 | d + 1, i, t, r, e => by
  unfold pickG at e
  unfold ks
  by_cases c : bAt h i = true
  ·rw [if_pos c] at e ⊢
   by_cases b : t ≠ [] ∧ (tAt l i).size ≠ (tAt l (t.headD 0)).size
   ·rw [if_pos b] at e
    exact absurd e (by simp)
   ·rw [if_neg b] at e
    rw [pick_some d (i + 1) (t ++ [i]) r e, List.append_assoc]
    rfl
  ·rw [if_neg c] at e ⊢
   exact pick_some d (i + 1) t r e
theorem few_small : ∀ (r : Fin 3) (a b c : Bool), bAt [a, b, c] (r.val % 3) = false → bAt [a, b, c] ((r.val + 1) % 3) = false → (ks [a, b, c] 3 0).length < 2 := by decide +kernel
theorem few_middle : ∀ (r : Fin 5) (a b c d e : Bool), bAt [a, b, c, d, e] (r.val % 5) = false → bAt [a, b, c, d, e] ((r.val + 1) % 5) = false → bAt [a, b, c, d, e] ((r.val + 2) % 5) = false → (ks [a, b, c, d, e] 5 0).length < 3 := by decide +kernel
theorem few_wide : ∀ (r : Fin 6) (a b c d e f : Bool), bAt [a, b, c, d, e, f] (r.val % 6) = false → bAt [a, b, c, d, e, f] ((r.val + 1) % 6) = false → bAt [a, b, c, d, e, f] ((r.val + 2) % 6) = false → (ks [a, b, c, d, e, f] 6 0).length < 4 := by decide +kernel
theorem few {s P : Nat} {h : List Bool} (hs : s = 1 ∨ s = 2 ∨ s = 3) (hl : h.length = kOf s + mOf s) (hf : ∀ j, j ≤ mOf s → bAt h ((P + j) % (kOf s + mOf s)) = false) : (ks h (kOf s + mOf s) 0).length < kOf s := by
 have md : ∀ n j : Nat, (P + j) % n = (P % n + j) % n := fun n j => (Nat.mod_add_mod P n j).symm
 rcases hs with rfl | rfl | rfl
 ·have h3 : h.length = 3 := hl
  match h, h3 with
  | [a, b, c], _ =>
   have f0 := hf 0 (by decide)
   have f1 := hf 1 (by decide)
   rw [md] at f0 f1
   exact few_small ⟨P % 3, Nat.mod_lt _ (by omega)⟩ a b c f0 f1
 ·have h5 : h.length = 5 := hl
  match h, h5 with
  | [a, b, c, d, e], _ =>
   have f0 := hf 0 (by decide)
   have f1 := hf 1 (by decide)
   have f2 := hf 2 (by decide)
   rw [md] at f0 f1 f2
   exact few_middle ⟨P % 5, Nat.mod_lt _ (by omega)⟩ a b c d e f0 f1 f2
 ·have h6 : h.length = 6 := hl
  match h, h6 with
  | [a, b, c, d, e, f], _ =>
   have f0 := hf 0 (by decide)
   have f1 := hf 1 (by decide)
   have f2 := hf 2 (by decide)
   rw [md] at f0 f1 f2
   exact few_wide ⟨P % 6, Nat.mod_lt _ (by omega)⟩ a b c d e f f0 f1 f2
theorem code_ok {s : Nat} (hs : s = 1 ∨ s = 2 ∨ s = 3) : okM (codeR s) = true ∧ ((codeR s).headD []).length = kOf s ∧ (codeR s).length = kOf s + mOf s ∧ ∀ i, i < kOf s → ∀ j, j < kOf s → ent (codeR s) i j = idf i j := by
 rcases hs with rfl | rfl | rfl
 ·have : okM (codeN 2 1) = true ∧ ((codeN 2 1).headD []).length = 2 ∧ (codeN 2 1).length = 2 + 1 ∧ ∀ i, i < 2 → ∀ j, j < 2 → ent (codeN 2 1) i j = idf i j := by decide +kernel
  exact this
 ·have : okM (codeN 3 2) = true ∧ ((codeN 3 2).headD []).length = 3 ∧ (codeN 3 2).length = 3 + 2 ∧ ∀ i, i < 3 → ∀ j, j < 3 → ent (codeN 3 2) i j = idf i j := by decide +kernel
  exact this
 ·have : okM (codeN 4 2) = true ∧ ((codeN 4 2).headD []).length = 4 ∧ (codeN 4 2).length = 4 + 2 ∧ ∀ i, i < 4 → ∀ j, j < 4 → ent (codeN 4 2) i j = idf i j := by decide +kernel
  exact this
theorem code_inv {s : Nat} (hs : s = 1 ∨ s = 2 ∨ s = 3) : ∀ t ∈ sel (kOf s + mOf s) 0 (kOf s), (invR (rowsOf (codeR s) t)).2 = true := by
 rcases hs with rfl | rfl | rfl
 ·exact inv_small
 ·exact inv_middle
 ·exact inv_wide
theorem sel_length : ∀ (n i k : Nat) (t : List Nat), t ∈ sel n i k → t.length = k
 | 0, _, 0, t, h => by
  have : t = [] := by simpa [sel] using h
  rw [this]
  rfl
 | 0, _, _ + 1, t, h => by simp [sel] at h
 | n + 1, i, 0, t, h => sel_length n (i + 1) 0 t h
 | n + 1, i, k + 1, t, h => by
  unfold sel at h
  rcases List.mem_append.mp h with h | h
  ·obtain ⟨r, hr, rfl⟩ := List.mem_map.mp h
   rw [List.length_cons, sel_length n (i + 1) k r hr]
  ·exact sel_length n (i + 1) (k + 1) t h
/-- What the code makes of units. -/
def allF (s k N : Nat) (U : Nat → Nat → Nat) : Nat → Nat → Nat := fun i t => xs k (fun j => Gf.mul (ent (codeR s) i j) (U j t))
theorem unitsB_at {n N : Nat} {U : Nat → Nat → Nat} {i : Nat} (h : i < (unitsB n N U).length) : (unitsB n N U)[i] = ofB N (U i) := by simp [unitsB]
theorem textsOf_at {l : List ByteArray} {t : List Nat} {i : Nat} (h : i < (textsOf l t).length) (h2 : i < t.length) : (textsOf l t)[i] = tAt l t[i] := by simp [textsOf]
theorem units_of {u : List ByteArray} {k N : Nat} (hk : u.length = k) (hz : ∀ x ∈ u, x.size = N) : u = unitsB k N (fun i => bt8 (u.getD i ByteArray.empty)) := by
 refine List.ext_getElem (by rw [unitsB_length, hk]) (fun i h1 h2 => ?_)
 rw [unitsB_at h2]
 have e : u.getD i ByteArray.empty = u[i] := by
  rw [List.getD_eq_getElem?_getD, List.getElem?_eq_getElem h1]
  rfl
 show u[i] = ofB N (bt8 (u.getD i ByteArray.empty))
 rw [e, ofB_self (hz _ (List.getElem_mem h1))]
theorem ent_lt {s : Nat} (hs : s = 1 ∨ s = 2 ∨ s = 3) {i j : Nat} (hi : i < kOf s + mOf s) (hj : j < kOf s) : ent (codeR s) i j < 256 := by
 obtain ⟨c1, c2, c3, _⟩ := code_ok hs
 exact (rd_ent c1 (by omega) (by omega)).2
theorem enc_units {s N : Nat} {U : Nat → Nat → Nat} (hs : s = 1 ∨ s = 2 ∨ s = 3) (hU : ∀ j, j < kOf s → ∀ t, t < N → U j t < 256) : applyR (codeR s) (unitsB (kOf s) N U) = unitsB (kOf s + mOf s) N (allF s (kOf s) N U) := by
 obtain ⟨c1, c2, c3, _⟩ := code_ok hs
 have hk : 1 ≤ kOf s ∧ kOf s ≤ 4 ∧ mOf s ≤ 2 := by rcases hs with rfl | rfl | rfl <;> decide
 have e := eq_mk c1
 rw [c2, c3] at e
 have z := applyR_units (N := N) (r := kOf s + mOf s) (n := kOf s) (A := ent (codeR s)) (U := U) (by omega) (by omega) hk.1 (by omega) (fun i hi j hj => ent_lt hs hi hj) hU
 rw [← e] at z
 exact z
theorem top_units {s N : Nat} {U : Nat → Nat → Nat} (hs : s = 1 ∨ s = 2 ∨ s = 3) (hU : ∀ j, j < kOf s → ∀ t, t < N → U j t < 256) : (unitsB (kOf s + mOf s) N (allF s (kOf s) N U)).take (kOf s) = unitsB (kOf s) N U := by
 obtain ⟨_, _, _, c4⟩ := code_ok hs
 have e : (unitsB (kOf s + mOf s) N (allF s (kOf s) N U)).take (kOf s) = unitsB (kOf s) N (allF s (kOf s) N U) := by
  unfold unitsB
  rw [← List.map_take, List.take_range, Nat.min_eq_left (by omega)]
 rw [e]
 refine unitsB_congr (fun i hi t ht => ?_)
 unfold allF
 rw [xs_congr (g := fun j => Gf.mul (idf i j) (U j t)) (fun j hj => by rw [c4 i hi j hj])]
 exact id_pt (z := fun j => U j t) hi (fun j hj => hU j hj t ht)
theorem back_units {s N : Nat} {U : Nat → Nat → Nat} {t : List Nat} (hs : s = 1 ∨ s = 2 ∨ s = 3) (hU : ∀ j, j < kOf s → ∀ i, i < N → U j i < 256) (ht : t ∈ sel (kOf s + mOf s) 0 (kOf s)) (hr : ∀ j ∈ t, j < kOf s + mOf s) :
  applyR (invR (rowsOf (codeR s) t)).1 (textsOf (unitsB (kOf s + mOf s) N (allF s (kOf s) N U)) t) = unitsB (kOf s) N U := by
 have hk : 1 ≤ kOf s ∧ kOf s ≤ 4 ∧ mOf s ≤ 2 := by rcases hs with rfl | rfl | rfl <;> decide
 have hl := sel_length _ _ _ _ ht
 have iv := code_inv hs t ht
 have hR : (rowsOf (codeR s) t).length = kOf s := by rw [rowsOf_length, hl]
 have en : ∀ i j, i < kOf s → ent (rowsOf (codeR s) t) i j = ent (codeR s) (t.getD i 0) j := by
  intro i j hi
  unfold ent rowsOf
  have hi2 : i < t.length := by omega
  rw [List.getD_eq_getElem?_getD (l := t.map _), List.getElem?_map, List.getD_eq_getElem?_getD (l := t), List.getElem?_eq_getElem hi2]
  rfl
 have tin : ∀ i, i < kOf s → t.getD i 0 < kOf s + mOf s := by
  intro i hi
  have hi2 : i < t.length := by omega
  rw [List.getD_eq_getElem?_getD, List.getElem?_eq_getElem hi2]
  exact hr _ (List.getElem_mem hi2)
 have tx : textsOf (unitsB (kOf s + mOf s) N (allF s (kOf s) N U)) t = unitsB (kOf s) N (fun i x => xs (kOf s) (fun j => Gf.mul (ent (rowsOf (codeR s) t) i j) (U j x))) := by
  refine List.ext_getElem (by rw [textsOf_length, unitsB_length, hl]) (fun i h1 h2 => ?_)
  have hi : i < kOf s := by rwa [unitsB_length] at h2
  have hi2 : i < t.length := by omega
  rw [textsOf_at h1 hi2, unitsB_at h2]
  have e : t[i] = t.getD i 0 := by
   rw [List.getD_eq_getElem?_getD, List.getElem?_eq_getElem hi2]
   rfl
  unfold tAt
  rw [e, unitsB_get _ (tin i hi)]
  refine ofB_congr (fun x hx => ?_)
  unfold allF
  exact xs_congr (fun j hj => by rw [en i j hi])
 have hM : bytesM (kOf s) (ent (rowsOf (codeR s) t)) := fun i hi j hj => by
  rw [en i j hi]
  exact ent_lt hs (tin i hi) hj
 rw [tx]
 have ir : invR (rowsOf (codeR s) t) = gjRes (kOf s) (gj (kOf s) (ent (rowsOf (codeR s) t))) := by
  unfold invR
  by_cases c : okM (rowsOf (codeR s) t) = true ∧ (rowsOf (codeR s) t).length = ((rowsOf (codeR s) t).headD []).length
  ·rw [if_pos c, hR]
  ·unfold invR at iv
   rw [if_neg c] at iv
   exact absurd iv (by simp)
 rw [ir] at iv ⊢
 cases hg : gj (kOf s) (ent (rowsOf (codeR s) t)) with
 | none =>
  rw [hg] at iv
  simp [gjRes] at iv
 | some B =>
  obtain ⟨hB, h1, _⟩ := gj_ok hM hg
  show applyR (mk (kOf s) (kOf s) B) _ = _
  rw [applyR_units hk.1 (by omega) hk.1 (by omega) hB (fun i hi x hx => mul_lt_of (hM i hi))]
  refine unitsB_congr (fun i hi x hx => ?_)
  rw [← assoc_pt (r := kOf s) (hB i hi) hM (fun j hj => hU j hj x hx)]
  have e : xs (kOf s) (fun k => Gf.mul (xs (kOf s) (fun l => Gf.mul (B i l) (ent (rowsOf (codeR s) t) l k))) (U k x)) = xs (kOf s) (fun k => Gf.mul (idf i k) (U k x)) := xs_congr (fun k hk => by
   have z := h1 i hi k hk
   unfold mulF at z
   rw [z])
  rw [e]
  exact id_pt (z := fun k => U k x) hi (fun k hk => hU k hk x hx)
/-- What came through some losses. -/
structure Lost (s : Nat) (A L : List ByteArray) (h : List Bool) (i : Nat) : Prop where
 hl : h.length = kOf s + mOf s
 ll : L.length = kOf s + mOf s
 same : ∀ j, bAt h j = true → tAt L j = tAt A j
 many : kOf s + mOf s ≤ (ks h (kOf s + mOf s) 0).length + i
 small : ∀ x ∈ L, x.size ≤ 8
theorem Lost.start {s : Nat} {A : List ByteArray} (ha : A.length = kOf s + mOf s) (hz : ∀ x ∈ A, x.size ≤ 8) : Lost s A A (List.replicate (kOf s + mOf s) true) 0 :=
 ⟨by simp, ha, fun _ _ => rfl, by rw [ks_all _ _ 0 (by omega)]; omega, hz⟩
theorem Lost.next {s : Nat} {A L : List ByteArray} {h : List Bool} {i : Nat} (H : Lost s A L h i) (p : Nat) : Lost s A (L.set p (⟨#[103, 111, 110, 101]⟩ : ByteArray)) (h.set p false) (i + 1) := by
 refine ⟨by rw [List.length_set, H.hl], by rw [List.length_set, H.ll], fun j hj => ?_, ?_, fun x hx => ?_⟩
 ·rw [bAt_set] at hj
  by_cases e : j = p
  ·rw [if_pos e] at hj
   exact absurd hj (by simp)
  ·rw [if_neg e] at hj
   rw [← H.same j hj]
   unfold tAt
   rw [List.getD_eq_getElem?_getD, List.getD_eq_getElem?_getD, List.getElem?_set_ne (by omega)]
 ·have := ks_set (h := h) (p := p) (kOf s + mOf s) 0
  have := H.many
  omega
 ·rcases List.mem_or_eq_of_mem_set hx with hx | hx
  ·exact H.small x hx
  ·rw [hx]
   decide
theorem Lost.dec {s N : Nat} {U : Nat → Nat → Nat} {L : List ByteArray} {h : List Bool} (hs : s = 1 ∨ s = 2 ∨ s = 3) (hU : ∀ j, j < kOf s → ∀ t, t < N → U j t < 256)
  (H : Lost s (unitsB (kOf s + mOf s) N (allF s (kOf s) N U)) L h (mOf s)) : decV s L h = (unitsB (kOf s) N U, true) := by
 have sz : ∀ j, j < kOf s + mOf s → bAt h j = true → (tAt L j).size = N := fun j hj hb => by
  rw [H.same j hb]
  unfold tAt
  rw [unitsB_get _ hj, ofB_size]
 have pk := pick_ok (l := L) (h := h) (N := N) (kOf s + mOf s) 0 [] (fun j _ hj hb => sz j (by omega) hb) (by simp)
 rw [List.nil_append] at pk
 have cnt : kOf s ≤ (ks h (kOf s + mOf s) 0).length := by have := H.many; omega
 have ht := ks_sel _ _ _ cnt
 have okS' : okS s = true := by rcases hs with rfl | rfl | rfl <;> rfl
 unfold decV
 rw [if_pos ⟨okS', H.ll, H.hl⟩, pk]
 show decEnd s L (ks h (kOf s + mOf s) 0) = _
 unfold decEnd
 rw [if_neg (by omega), if_pos (code_inv hs _ ht)]
 have hm : ∀ j ∈ (ks h (kOf s + mOf s) 0).take (kOf s), bAt h j = true ∧ j < kOf s + mOf s := fun j hj => by
  have := ks_mem _ _ _ (List.mem_of_mem_take hj)
  exact ⟨this.1, by omega⟩
 have tx : textsOf L ((ks h (kOf s + mOf s) 0).take (kOf s)) = textsOf (unitsB (kOf s + mOf s) N (allF s (kOf s) N U)) ((ks h (kOf s + mOf s) 0).take (kOf s)) := by
  unfold textsOf
  exact List.map_congr_left (fun j hj => H.same j (hm j hj).1)
 rw [tx, back_units hs hU ht (fun j hj => (hm j hj).2)]
theorem dec_few {s : Nat} {L : List ByteArray} {h : List Bool} (hf : (ks h (kOf s + mOf s) 0).length < kOf s) : (decV s L h).2 = false := by
 unfold decV
 by_cases c : okS s = true ∧ L.length = kOf s + mOf s ∧ h.length = kOf s + mOf s
 ·rw [if_pos c]
  cases e : pickG L h (kOf s + mOf s) 0 [] with
  | none => rfl
  | some t =>
   have := pick_some _ _ _ _ e
   rw [List.nil_append] at this
   subst this
   show (decEnd s L _).2 = false
   unfold decEnd
   rw [if_pos hf]
 ·rw [if_neg c]
theorem enc_val {s N : Nat} {u : List ByteArray} (hs : s = 1 ∨ s = 2 ∨ s = 3) (hk : u.length = kOf s) (hz : ∀ x ∈ u, x.size = N) (hN : N ≤ 8) :
  encV s u = (unitsB (kOf s + mOf s) N (allF s (kOf s) N (fun i => bt8 (u.getD i ByteArray.empty))), true) := by
 have hk1 : 1 ≤ kOf s := by rcases hs with rfl | rfl | rfl <;> decide
 have okS' : okS s = true := by rcases hs with rfl | rfl | rfl <;> rfl
 have m1 : most u ≤ N := most_bound (fun x hx => by rw [hz x hx]; exact Nat.le_refl _)
 have m2 : N ≤ most u := by
  have hx : u[0]'(by omega) ∈ u := List.getElem_mem _
  have := most_le _ hx
  rw [hz _ hx] at this
  exact this
 have m3 : most u = N := by omega
 have pad : u.map (padT (most u)) = u := by
  have : u.map (padT (most u)) = u.map id := List.map_congr_left (fun x hx => by
   rw [m3]
   unfold padT
   rw [hz x hx, Nat.sub_self]
   apply str_ext
   rw [str_app]
   show x.data.toList ++ [] = x.data.toList
   rw [List.append_nil])
  rw [this, List.map_id]
 unfold encV
 rw [if_pos ⟨okS', hk, by omega⟩, pad]
 congr 1
 have e := units_of hk hz
 rw [show applyR (codeR s) u = applyR (codeR s) (unitsB (kOf s) N (fun i => bt8 (u.getD i ByteArray.empty))) from congrArg _ e]
 exact enc_units hs (fun j _ t _ => bt8_lt _ _)
theorem codes_two {s P : Nat} {p : List Int} {L : List ByteArray} (hs : s = 1 ∨ s = 2 ∨ s = 3) (hp : p.length = 12) (hP : rd p 4 = (P : Int)) (hPb : P < 10000) (hL : L.length = kOf s + mOf s) (hz : ∀ x ∈ L, x.size ≤ 8) :
  ∀ (d i : Nat) (h : List Bool), i + d = mOf s + 1 → h.length = kOf s + mOf s → (∀ j, j < i → bAt h ((P + j) % (kOf s + mOf s)) = false) → Ev (fun q => laws_FnCodes.l2 q (s : Int) (kOf s : Int) (mOf s : Int) p h L (i : Int)) true := by
 have hk : 1 ≤ kOf s ∧ kOf s ≤ 4 ∧ mOf s ≤ 2 := by rcases hs with rfl | rfl | rfl <;> decide
 intro d
 induction d with
 | zero =>
  intro i h hi hh hf
  have fw := few (P := P) hs hh (fun j hj => hf j (by omega))
  have dv := impl_Decode_ev (s : Int) L h (by omega) (by omega) (fun x hx => by have := hz x hx; omega)
  have df := dec_few (s := s) (L := L) fw
  refine Ev.step (f := fun q => (impl_Decode.f q (s : Int) L h).bind fun bt464 => some (!bt464.2)) (fun q => ?_) (Ev.bind dv ?_)
  ·simp only [laws_FnCodes.l2]
   rw [if_neg (by omega)]
  ·rw [df]
   exact Ev.now _
 | succ d ih =>
  intro i h hi hh hf
  have hlt : (P + i) % (kOf s + mOf s) < kOf s + mOf s := Nat.mod_lt _ (by omega)
  have nx := ih (i + 1) (h.set ((P + i) % (kOf s + mOf s)) false) (by omega) (by rw [List.length_set, hh]) (fun j hj => by
   rw [bAt_set]
   by_cases e : (P + j) % (kOf s + mOf s) = (P + i) % (kOf s + mOf s)
   ·rw [if_pos e]
   ·rw [if_neg e]
    exact hf j (by
     rcases Nat.lt_or_ge j i with c | c
     ·exact c
     ·exact absurd (by rw [show j = i by omega]) e))
  refine Ev.step (fun q => ?_) nx
  simp only [laws_FnCodes.l2]
  have tm : Int.tmod ((P + i : Nat) : Int) ((kOf s + mOf s : Nat) : Int) = (((P + i) % (kOf s + mOf s) : Nat) : Int) := rfl
  rw [if_pos (by omega), if_pos (by omega), hP, wadd (by omega), wadd (by omega), if_neg (by omega), tm, if_pos (by omega), if_pos (by omega), wsucc (by omega), Int.toNat_natCast]
theorem codes_one {s N : Nat} {u : List ByteArray} {p : List Int} (hs : s = 1 ∨ s = 2 ∨ s = 3) (hk : u.length = kOf s) (hz : ∀ x ∈ u, x.size = N) (hN : N ≤ 8) (hp : p.length = 12) (hpr : ∀ x ∈ p, 0 ≤ x ∧ x < 10000) :
  ∀ (d i : Nat) (h : List Bool) (L : List ByteArray), i + d = mOf s → Lost s (unitsB (kOf s + mOf s) N (allF s (kOf s) N (fun i => bt8 (u.getD i ByteArray.empty)))) L h i →
   Ev (fun q => laws_FnCodes.l1 q (s : Int) u (kOf s : Int) (mOf s : Int) (unitsB (kOf s + mOf s) N (allF s (kOf s) N (fun i => bt8 (u.getD i ByteArray.empty)))) p h L (i : Int)) true := by
 have hk1 : 1 ≤ kOf s ∧ kOf s ≤ 4 ∧ mOf s ≤ 2 := by rcases hs with rfl | rfl | rfl <;> decide
 intro d
 induction d with
 | zero =>
  intro i h L hi H
  obtain rfl : i = mOf s := by omega
  have e := units_of hk hz
  have dv := impl_Decode_ev (s : Int) L h (by have := H.ll; omega) (by have := H.hl; omega) (fun x hx => by have := H.small x hx; omega)
  have rv := impl_Rebuild_ev (s : Int) L h (by have := H.ll; omega) (by have := H.hl; omega) (fun x hx => by have := H.small x hx; omega)
  have dd := H.dec hs (fun j _ t _ => bt8_lt _ _)
  rw [← e] at dd
  unfold rebV at rv
  rw [dd] at dv rv
  rw [if_pos rfl, enc_val hs hk hz hN] at rv
  have hp4 := hpr _ (rd_mem (p := p) (n := 4) (by omega))
  obtain ⟨P, hP⟩ := Int.eq_ofNat_of_zero_le hp4.1
  have hP : rd p 4 = (P : Int) := hP
  have hPb : P < 10000 := by
   have : rd p 4 < 10000 := hp4.2
   omega
  have two := codes_two hs hp hP hPb H.ll H.small (mOf s + 1) 0 h (by omega) H.hl (fun j hj => by omega)
  have sa := sameT_ev (unitsB (kOf s + mOf s) N (allF s (kOf s) N (fun i => bt8 (u.getD i ByteArray.empty)))) (by rw [unitsB_length]; omega)
  have su := sameT_ev u (by omega)
  refine Ev.step (f := fun q => (impl_Decode.f q (s : Int) L h).bind fun bt452 => (impl_Rebuild.f q (s : Int) L h).bind fun bt456 => if bt452.2 = true then (if bt456.2 = true then ((laws_sameTexts.f q bt452.1 u).bind fun t460 => if t460 = true then ((laws_sameTexts.f q bt456.1 (unitsB (kOf s + mOf s) N (allF s (kOf s) N (fun i => bt8 (u.getD i ByteArray.empty))))).bind fun t461 => laws_FnCodes.j3 q (s : Int) (kOf s : Int) (mOf s : Int) p h L (!t461)) else laws_FnCodes.j3 q (s : Int) (kOf s : Int) (mOf s : Int) p h L true) else laws_FnCodes.j3 q (s : Int) (kOf s : Int) (mOf s : Int) p h L true) else laws_FnCodes.j3 q (s : Int) (kOf s : Int) (mOf s : Int) p h L true) (fun q => ?_) ?_
  ·simp only [laws_FnCodes.l1]
   rw [if_neg (by omega)]
  ·refine Ev.bind dv (Ev.bind rv (Ev.pos rfl (Ev.pos rfl (Ev.bind su (Ev.pos rfl (Ev.bind sa ?_))))))
   refine Ev.step (fun q => ?_) two
   simp only [laws_FnCodes.j3, Bool.not_true, Bool.false_eq_true, if_false]
   rfl
 | succ d ih =>
  intro i h L hi H
  have hpi := hpr _ (rd_mem (p := p) (n := i) (by omega))
  obtain ⟨P, hP⟩ := Int.eq_ofNat_of_zero_le hpi.1
  have hlt : P % (kOf s + mOf s) < kOf s + mOf s := Nat.mod_lt _ (by omega)
  have nx := ih (i + 1) _ _ (by omega) (H.next (P % (kOf s + mOf s)))
  refine Ev.step (fun q => ?_) nx
  simp only [laws_FnCodes.l1]
  have tm : Int.tmod ((P : Nat) : Int) ((kOf s + mOf s : Nat) : Int) = ((P % (kOf s + mOf s) : Nat) : Int) := rfl
  have hh := H.hl
  have hl := H.ll
  rw [if_pos (by omega), if_pos (by omega), if_pos (by omega), hP, wadd (by omega), if_neg (by omega), tm, if_pos (by omega), if_pos (by omega), if_pos (by omega), wsucc (by omega), Int.toNat_natCast]
theorem set_next (n d : Nat) (i : Nat) : (List.replicate i true ++ List.replicate (d + 1) false).set i true = List.replicate (i + 1) true ++ List.replicate d false := by
 rw [List.set_append_right _ _ (by simp), List.length_replicate, Nat.sub_self, List.replicate_succ, List.set_cons_zero, List.replicate_succ', List.append_assoc]
 rfl
theorem codes_zero {s N : Nat} {u : List ByteArray} {p : List Int} (hs : s = 1 ∨ s = 2 ∨ s = 3) (hk : u.length = kOf s) (hz : ∀ x ∈ u, x.size = N) (hN : N ≤ 8) (hp : p.length = 12) (hpr : ∀ x ∈ p, 0 ≤ x ∧ x < 10000) :
  ∀ (d i : Nat), i + d = kOf s + mOf s →
   Ev (fun q => laws_FnCodes.l0 q (s : Int) u (kOf s : Int) (mOf s : Int) (unitsB (kOf s + mOf s) N (allF s (kOf s) N (fun i => bt8 (u.getD i ByteArray.empty)))) p (List.replicate i true ++ List.replicate d false) (i : Int)) true := by
 have hk1 : 1 ≤ kOf s ∧ kOf s ≤ 4 ∧ mOf s ≤ 2 := by rcases hs with rfl | rfl | rfl <;> decide
 intro d
 induction d with
 | zero =>
  intro i hi
  obtain rfl : i = kOf s + mOf s := by omega
  have one := codes_one hs hk hz hN hp hpr (mOf s) 0 _ _ (by omega) (Lost.start (s := s) (A := unitsB (kOf s + mOf s) N (allF s (kOf s) N (fun i => bt8 (u.getD i ByteArray.empty)))) (unitsB_length _ _ _) (fun x hx => by rw [unitsB_size _ _ _ x hx]; exact hN))
  refine Ev.step (fun q => ?_) one
  simp only [laws_FnCodes.l0, Option.bind_some, List.nil_append, List.replicate_zero, List.append_nil, List.length_nil]
  rw [wadd (by omega), if_neg (by omega), if_pos (by rw [unitsB_length]; omega)]
  rfl
 | succ d ih =>
  intro i hi
  refine Ev.step (fun q => ?_) (ih (i + 1) (by omega))
  simp only [laws_FnCodes.l0]
  rw [wadd (by omega), if_pos (by omega), if_pos (by omega), if_pos (by rw [List.length_append, List.length_replicate, List.length_replicate]; omega), wsucc (by omega), Int.toNat_natCast, set_next (kOf s + mOf s)]
theorem FnCodes : laws_FnCodes.Pure := by
 intro l _ hl _
 have hl' : l.length ≤ 140737488351232 := by omega
 refine Ev.rounds ?_
 unfold laws_FnCodes.f laws_big.f
 simp only [Option.bind_some, decide_eq_true_eq]
 by_cases hb : (l.length : Int) > 1048576
 ·simp only [if_pos hb]
  exact Ev.now _
 simp only [if_neg hb]
 obtain ⟨s, k, N, u, hsk, hN, hu, hk0, hz⟩ := drawUnits_ev l hl'
 obtain ⟨p, hpe, hp, hpr⟩ := places_ev l hl'
 have hs : s = 1 ∨ s = 2 ∨ s = 3 := by omega
 have hk : u.length = kOf s := by
  rcases hsk with ⟨rfl, rfl⟩ | ⟨rfl, rfl⟩ | ⟨rfl, rfl⟩ <;> exact hk0
 have hk1 : 1 ≤ kOf s ∧ kOf s ≤ 4 ∧ mOf s ≤ 2 := by rcases hs with rfl | rfl | rfl <;> decide
 have okS' : okS s = true := by rcases hs with rfl | rfl | rfl <;> rfl
 have us : ∀ x ∈ u, x.size ≤ 1073741824 := fun x hx => by rw [hz x hx]; omega
 have ie := impl_Encode_ev (s : Int) u (by omega) us
 have se := spec_Encode_ev (s : Int) u (by omega) us
 rw [enc_val hs hk hz hN] at ie se
 have sa := sameT_ev (unitsB (kOf s + mOf s) N (allF s (kOf s) N (fun i => bt8 (u.getD i ByteArray.empty)))) (by rw [unitsB_length]; omega)
 have su := sameT_ev u (by omega)
 have top := top_units (s := s) (N := N) (U := fun i => bt8 (u.getD i ByteArray.empty)) hs (fun j _ t _ => bt8_lt _ _)
 rw [← units_of hk hz] at top
 refine Ev.bind hu (Ev.some_bind (impl_schema (s : Int)) (Ev.bind ie (Ev.bind se ?_)))
 refine Ev.pos okS' (Ev.pos rfl (Ev.pos (by rw [unitsB_length]; exact (wadd (by omega)).symm) (Ev.bind sa (Ev.pos rfl (Ev.pos (by omega) (Ev.pos (by rw [unitsB_length]; omega) ?_))))))
 rw [Int.toNat_natCast, top]
 refine Ev.bind su ?_
 have z := codes_zero hs hk hz hN hp hpr (kOf s + mOf s) 0 (by omega)
 refine Ev.step (f := fun q => (spec_DrawPlaces.f q l).bind fun t435 => if 0 ≤ (wrap64 ((kOf s : Int) + (mOf s : Int))) then (if (wrap64 ((kOf s : Int) + (mOf s : Int)) : Int).toNat ≤ 281474976710656 then laws_FnCodes.l0 q (s : Int) u (kOf s : Int) (mOf s : Int) (unitsB (kOf s + mOf s) N (allF s (kOf s) N (fun i => bt8 (u.getD i ByteArray.empty)))) t435 (List.replicate (wrap64 ((kOf s : Int) + (mOf s : Int)) : Int).toNat false) 0 else none) else none) (fun q => ?_) ?_
 ·simp only [laws_FnCodes.j0, Bool.not_true, Bool.false_eq_true, if_false]
 ·rw [wadd (by omega), Int.toNat_natCast]
  exact Ev.bind hpe (Ev.pos (by omega) (Ev.pos (by omega) z))


end Go.Proofs.Ytcpcphdhaboekaa.Pure
