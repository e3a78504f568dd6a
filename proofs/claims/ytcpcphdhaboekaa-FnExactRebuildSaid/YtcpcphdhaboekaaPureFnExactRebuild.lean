import Derived.Test.YtcpcphdhaboekaaXFnExactRebuildx15
import Derived.Test.YtcpcphdhaboekaaUf
set_option linter.unusedVariables false
set_option linter.unusedSimpArgs false
namespace Go.Proofs.Ytcpcphdhaboekaa.Pure
open Go.RowKit Go.Proofs.Ytcpcphdhaboekaa.XFnExactRebuild Go.Proofs.YtcpcphdhaboekaaU.PrintWords Go.Proofs.YtcpcphdhaboekaaU.PrintLast
theorem strOfNums_size (xs : List Int) : (strOfNums xs).size = xs.length := by simp [strOfNums, ByteArray.size]
theorem str_ext {a b : ByteArray} (h : a.data.toList = b.data.toList) : a = b := by
  apply ByteArray.ext
  exact Array.toList_inj.1 h
theorem str_app (a b : ByteArray) : (a ++ b).data.toList = a.data.toList ++ b.data.toList := by simp [ByteArray.data_append]
theorem str_len (s : ByteArray) : s.data.toList.length = s.size := rfl
theorem spec_l01In_eq (a l h : Int) : spec_l01In.f a l h = some (decide (l ≤ a ∧ a ≤ h)) := by
  unfold spec_l01In.f
  by_cases h1 : l ≤ a
  · rw [if_pos h1]; simp [h1]
  rw [if_neg h1]; simp [h1]
theorem spec_MatrixOk_ev (m : List (List Int)) (hl : m.length ≤ 4611686018427387904) (hr : ∀ r ∈ m, r.length ≤ 4611686018427387904) : Ev (fun k => spec_MatrixOk.f k m) (okM m) := by
  have key : ∀ (B A : List (List Int)), m = A ++ B → Ev (fun k => spec_MatrixOk.l0 k m (A.length : Int)) (B.all (fun r => okR (m.headD []).length r && in18 (m.headD []).length) && in18 m.length) := by
    intro B
    induction B with
    | nil =>
      intro A h
      refine Ev.step (f := fun _ => some (in18 m.length)) (fun k => ?_) (Ev.now _)
      simp only [spec_MatrixOk.l0]
      rw [if_neg (by rw [h]; simp), spec_l01In_eq, in18_int]
      rfl
    | cons x B ih =>
      intro A h
      have e : m.length = A.length + (B.length + 1) := by rw [h]; simp
      have r : rd_L2 m (A.length : Int) = x := by rw [h]; exact rdL_mid A x B
      have hx : x.length ≤ 4611686018427387904 := hr x (by rw [h]; simp)
      have z := ih (A ++ [x]) (by simp [h])
      have inner : ∀ (D C : List Int), x = C ++ D → Ev (fun k => spec_MatrixOk.l1 k m (A.length : Int) (C.length : Int)) (D.all inB && (B.all (fun r => okR (m.headD []).length r && in18 (m.headD []).length) && in18 m.length)) := by
        intro D
        induction D with
        | nil =>
          intro C hc
          refine Ev.step (fun k => ?_) z
          simp only [spec_MatrixOk.l1]
          rw [if_pos (by omega), if_pos (by omega), r, if_neg (by rw [hc]; simp), wsucc (by omega)]
          simp
        | cons y D ihd =>
          intro C hc
          have ex : x.length = C.length + (D.length + 1) := by rw [hc]; simp
          have ry : rd x (C.length : Int) = y := by rw [hc]; exact rdI_mid C y D
          have zd := ihd (C ++ [y]) (by simp [hc])
          by_cases hy : inB y = true
          · rw [List.all_cons, hy, Bool.true_and]
            refine Ev.step (fun k => ?_) zd
            simp only [spec_MatrixOk.l1]
            rw [if_pos (by omega), if_pos (by omega), r, if_pos (by omega), if_pos (by omega), ry, spec_l01In_eq, Option.bind_some, if_pos (by exact hy), wsucc (by omega)]
            simp
          rw [List.all_cons, Bool.eq_false_iff.mpr hy, Bool.false_and, Bool.false_and]
          refine Ev.step (f := fun _ => some false) (fun k => ?_) (Ev.now _)
          simp only [spec_MatrixOk.l1]
          rw [if_pos (by omega), if_pos (by omega), r, if_pos (by omega), if_pos (by omega), ry, spec_l01In_eq, Option.bind_some, if_neg (by exact hy)]
      have j : ∀ b : Bool, Ev (fun k => spec_MatrixOk.j1 k m (A.length : Int) b) (!b && (x.all inB && (B.all (fun r => okR (m.headD []).length r && in18 (m.headD []).length) && in18 m.length))) := by
        intro b
        cases b with
        | true => exact Ev.step (f := fun _ => some false) (fun k => by simp only [spec_MatrixOk.j1, if_true]) (Ev.now _)
        | false =>
          have y := inner x [] rfl
          rw [Bool.not_false, Bool.true_and]
          refine Ev.step (fun k => ?_) y
          simp only [spec_MatrixOk.j1, Bool.false_eq_true, if_false]
          rfl
      rw [List.all_cons]
      by_cases hn : x.length = (m.headD []).length
      · refine Ev.step (f := fun k => spec_MatrixOk.j1 k m (A.length : Int) (!in18 x.length)) (fun k => ?_) ?_
        · simp only [spec_MatrixOk.l0]
          rw [if_pos (by omega), if_pos (by omega), if_pos (by omega), r, rdL_zero, if_pos (by omega), spec_l01In_eq, Option.bind_some, in18_int]
        have jj := j (!in18 x.length)
        have eqv : (okR (m.headD []).length x && in18 (m.headD []).length && B.all (fun r => okR (m.headD []).length r && in18 (m.headD []).length) && in18 m.length) = (!(!in18 x.length) && (x.all inB && (B.all (fun r => okR (m.headD []).length r && in18 (m.headD []).length) && in18 m.length))) := by
          unfold okR
          rw [hn, decide_eq_true rfl]
          cases x.all inB <;> cases in18 (m.headD []).length <;> rfl
        rw [eqv]
        exact jj
      refine Ev.step (f := fun k => spec_MatrixOk.j1 k m (A.length : Int) true) (fun k => ?_) ?_
      · simp only [spec_MatrixOk.l0]
        rw [if_pos (by omega), if_pos (by omega), if_pos (by omega), r, rdL_zero, if_neg (by omega)]
      have jj := j true
      have eqv : (okR (m.headD []).length x && in18 (m.headD []).length && B.all (fun r => okR (m.headD []).length r && in18 (m.headD []).length) && in18 m.length) = false := by
        unfold okR
        rw [decide_eq_false hn]
        rfl
      rw [eqv]
      exact jj
  have z := key m [] rfl
  have e : okM m = (m.all (fun r => okR (m.headD []).length r && in18 (m.headD []).length) && in18 m.length) := by
    cases m with
    | nil => rfl
    | cons x B =>
      unfold okM
      cases hx : in18 ((x :: B).headD []).length with
      | true =>
        simp only [Bool.and_true]
        exact Bool.and_comm _ _
      | false => simp
  rw [e]
  exact z
theorem spec_l05Mod_eq {a : Int} (h0 : -9223372036854775808 ≤ a) (h1 : a ≤ 9223372036854775807) : spec_l05Mod.f a = some ((modb a : Nat) : Int) := by
  have e : Int.tmod a 256 = if a < 0 ∧ a % 256 ≠ 0 then a % 256 - 256 else a % 256 := by
    rcases Int.lt_or_le a 0 with h | h
    · obtain ⟨n, rfl⟩ : ∃ n : Nat, a = -(n : Int) := ⟨(-a).toNat, by omega⟩
      rw [Int.neg_tmod, Int.tmod_eq_emod_of_nonneg (by omega)]
      split <;> omega
    rw [Int.tmod_eq_emod_of_nonneg h, if_neg (by omega)]
  unfold spec_l05Mod.f modb
  rw [e]
  by_cases c : a < 0 ∧ a % 256 ≠ 0
  · rw [if_pos c, if_pos (by omega), w64 (by omega) (by omega)]
    congr 1
    omega
  rw [if_neg c, if_neg (by omega)]
  congr 1
  omega
theorem spec_MulG_l0 (n : Nat) : ∀ (a b out : Nat), a < 256 → b < 2 ^ n → n ≤ 8 → out < 256 → Ev (fun k => spec_MulG.l0 k (a : Int) (b : Int) (out : Int)) ((out ^^^ Gf.gm n a b : Nat) : Int) := by
  induction n with
  | zero =>
    intro a b out ha hb hn ho
    have hb0 : b = 0 := by omega
    subst hb0
    exact Ev.step (f := fun _ => some (out : Int)) (fun k => by simp only [spec_MulG.l0]; rw [if_neg (by omega)]) (by simpa [Gf.gm] using Ev.now _)
  | succ n ih =>
    intro a b out ha hb hn ho
    by_cases hb0 : b = 0
    · subst hb0
      have hz : Gf.gm (n + 1) a 0 = 0 := by
        have : ∀ n a, Gf.gm n a 0 = 0 := by
          intro n
          induction n with
          | zero => intro a; rfl
          | succ n ih => intro a; simp [Gf.gm, ih]
        exact this _ _
      rw [hz, Nat.xor_zero]
      exact Ev.step (f := fun _ => some (out : Int)) (fun k => by simp only [spec_MulG.l0]; rw [if_neg (by omega)]) (Ev.now _)
    have h8 : 2 ^ n ≤ 2 ^ 8 := Nat.pow_le_pow_right (by omega) (by omega)
    have h9 : 2 ^ (n + 1) = 2 * 2 ^ n := by rw [Nat.pow_succ]; omega
    have h10 : 2 ^ (n + 1) ≤ 2 ^ 8 := Nat.pow_le_pow_right (by omega) hn
    have hm : Int.tmod (b : Int) 2 = ((b % 2 : Nat) : Int) := by rw [Int.tmod_eq_emod_of_nonneg (by omega)]; rfl
    have hd : wrap64 (Int.tdiv (b : Int) 2) = ((b / 2 : Nat) : Int) := by rw [Int.tdiv_eq_ediv_of_nonneg (by omega), w64 (by omega) (by omega)]; rfl
    have h2 : wrap64 (2 * (a : Int)) = ((2 * a : Nat) : Int) := by rw [w64 (by omega) (by omega)]; rfl
    have hx : ∀ m : Nat, m < 256 → (out ^^^ (if b % 2 = 1 then a else 0) ^^^ Gf.gm n (Gf.xt a) (b / 2)) = (out ^^^ Gf.gm (n + 1) a b) := by
      intro m _
      rw [Gf.gm, Nat.xor_assoc]
    have hxa : Go.bits .xor .i64 (out : Int) (a : Int) = ((out ^^^ a : Nat) : Int) := bits_xor64 (by omega) (by omega)
    have hx5 : Go.bits .xor .i64 ((2 * a : Nat) : Int) 285 = ((2 * a ^^^ 285 : Nat) : Int) := bits_xor64 (b := 285) (by omega) (by omega)
    rw [← hx 0 (by omega)]
    have hlt : out ^^^ (if b % 2 = 1 then a else 0) < 256 := Gf.xor_lt (n := 8) ho (by split <;> omega)
    refine Ev.step (f := fun k => spec_MulG.l0 k ((Gf.xt a : Nat) : Int) ((b / 2 : Nat) : Int) ((out ^^^ (if b % 2 = 1 then a else 0) : Nat) : Int)) (fun k => ?_) (ih _ _ _ (Gf.xt_lt ha) (by omega) (by omega) hlt)
    simp only [spec_MulG.l0, hm, hd, h2, hxa, hx5]
    rw [if_pos (by omega)]
    unfold Gf.xt
    by_cases c1 : b % 2 = 1 <;> by_cases c2 : 255 < 2 * a
    · rw [if_pos (by omega), if_pos (by omega), if_pos c1, if_pos c2]
    · rw [if_pos (by omega), if_neg (by omega), if_pos c1, if_neg c2]
    · rw [if_neg (by omega), if_pos (by omega), if_neg c1, if_pos c2, Nat.xor_zero]
    rw [if_neg (by omega), if_neg (by omega), if_neg c1, if_neg c2, Nat.xor_zero]
theorem spec_MulG_ev {a b : Int} (a0 : -9223372036854775808 ≤ a) (a1 : a ≤ 9223372036854775807) (b0 : -9223372036854775808 ≤ b) (b1 : b ≤ 9223372036854775807) : Ev (fun k => spec_MulG.f k a b) (gmul a b) := by
  have h := spec_MulG_l0 8 (modb a) (modb b) 0 (modb_lt a) (modb_lt b) (Nat.le_refl _) (by omega)
  rw [Nat.zero_xor] at h
  refine Ev.congr (fun k => ?_) h
  unfold spec_MulG.f
  rw [spec_l05Mod_eq a0 a1, spec_l05Mod_eq b0 b1]
  rfl
def ints (l : List UInt8) : List Int := l.map fun b => (b.toNat : Int)
theorem ints_length (l : List UInt8) : (ints l).length = l.length := by simp [ints]
theorem ints_app (l m : List UInt8) : ints (l ++ m) = ints l ++ ints m := by simp [ints]
theorem bytesOf_ints (s : ByteArray) : bytesOf s = ints s.data.toList := rfl
theorem str_ints (l : List UInt8) : strOfNums (ints l) = ⟨l.toArray⟩ := by
  unfold strOfNums ints
  congr 1
  rw [List.map_map]
  congr 1
  conv => rhs; rw [← List.map_id l]
  refine List.map_congr_left (fun b _ => ?_)
  simp
theorem set_mid {α : Type} (A : List α) (x v : α) (B : List α) : (A ++ x :: B).set A.length v = A ++ v :: B := by simp
theorem rd_mid (A : List Int) (x : Int) (B : List Int) : rd (A ++ x :: B) (A.length : Int) = x := by simp [rd]
theorem bt_mid (s : ByteArray) {A : List UInt8} {x : UInt8} {B : List UInt8} (h : s.data.toList = A ++ x :: B) : bt s (A.length : Int) = (x.toNat : Int) := by
  have hl : A.length < s.size := by
    have h1 : s.data.toList.length = s.size := rfl
    rw [h] at h1
    simp at h1
    omega
  unfold bt
  rw [dif_pos (by simpa using hl)]
  have e : s.data.toList[A.length]'(by simpa using hl) = x := by simp [h]
  show (((s.data[A.length]'hl).toNat : Nat) : Int) = _
  rw [← e]
  simp
theorem size_of_list (s : ByteArray) {l : List UInt8} (h : s.data.toList = l) : s.size = l.length := by
  have h1 : s.data.toList.length = s.size := rfl
  rw [h] at h1
  omega
def mulB (a : Nat) (b : UInt8) : UInt8 := UInt8.ofNat (Gf.mul a b.toNat)
def mulL (a : Nat) (l : List UInt8) : List UInt8 := l.map (mulB a)
def mulT (a : Nat) (s : ByteArray) : ByteArray := ⟨(mulL a s.data.toList).toArray⟩
theorem mulB_nat {a : Nat} (ha : a < 256) (b : UInt8) : (mulB a b).toNat = Gf.mul a b.toNat := by
  have := Gf.mul_lt b.toNat ha
  simp only [mulB, UInt8.toNat_ofNat']
  omega
theorem gmul_byte (a : Int) (b : UInt8) : gmul a (b.toNat : Int) = ((mulB (modb a) b).toNat : Int) := by
  have := b.toNat_lt
  rw [mulB_nat (modb_lt a)]
  unfold gmul
  rw [modb_nat (by omega)]
theorem spec_MulText_l0 {a : Int} (a0 : -9223372036854775808 ≤ a) (a1 : a ≤ 9223372036854775807) : ∀ (rest done : List UInt8), done.length + rest.length ≤ 1073741824 →
    Ev (fun k => spec_MulText.l0 k a (ints (done ++ rest)) (done.length : Int)) (strOfNums (ints (done ++ mulL (modb a) rest))) := by
  intro rest
  induction rest with
  | nil =>
    intro done _
    refine Ev.step (f := fun _ => some (strOfNums (ints (done ++ mulL (modb a) [])))) (fun k => ?_) (Ev.now _)
    simp only [spec_MulText.l0]
    rw [if_neg (by rw [ints_length]; simp)]
    rfl
  | cons b rest ih =>
    intro done hl
    have hb := b.toNat_lt
    simp only [List.length_cons] at hl
    refine Ev.step (f := fun k => (spec_MulG.f k a (b.toNat : Int)).bind fun t => spec_MulText.l0 k a ((ints (done ++ b :: rest)).set done.length (t % 256)) ((done.length + 1 : Nat) : Int)) (fun k => ?_) (Ev.bind (spec_MulG_ev a0 a1 (by omega) (by omega)) ?_)
    · simp only [spec_MulText.l0]
      rw [if_pos (by rw [ints_length, List.length_append, List.length_cons]; omega), if_pos (by omega), wsucc (by omega)]
      have e : rd (ints (done ++ b :: rest)) (done.length : Int) = (b.toNat : Int) := by
        have := rd_mid (ints done) (b.toNat : Int) (ints rest)
        rw [ints_length] at this
        rw [ints_app]
        exact this
      rw [e, wnat (by omega)]
      rfl
    have e : (ints (done ++ b :: rest)).set done.length (gmul a (b.toNat : Int) % 256) = ints ((done ++ [mulB (modb a) b]) ++ rest) := by
      have h1 := set_mid (ints done) (b.toNat : Int) (gmul a (b.toNat : Int) % 256) (ints rest)
      rw [ints_length] at h1
      have h2 := gmul_range a (b.toNat : Int)
      rw [ints_app]
      refine Eq.trans h1 ?_
      rw [show gmul a (b.toNat : Int) % 256 = ((mulB (modb a) b).toNat : Int) by rw [← gmul_byte]; omega]
      simp [ints]
    rw [e]
    have h := ih (done ++ [mulB (modb a) b]) (by simp; omega)
    rw [List.length_append] at h
    rw [show done ++ mulL (modb a) (b :: rest) = done ++ [mulB (modb a) b] ++ mulL (modb a) rest by simp [mulL]]
    exact h
theorem spec_MulText_ev {a : Int} (a0 : -9223372036854775808 ≤ a) (a1 : a ≤ 9223372036854775807) (s : ByteArray) (hs : s.size ≤ 1073741824) : Ev (fun k => spec_MulText.f k a s) (mulT (modb a) s) := by
  unfold spec_MulText.f
  refine Ev.pos (by omega) ?_
  have h := spec_MulText_l0 a0 a1 s.data.toList [] (by rw [str_len]; simpa using hs)
  rw [str_ints] at h
  exact h
theorem impl_MulText_l0 {a : Int} (a0 : -9223372036854775808 ≤ a) (a1 : a ≤ 9223372036854775807) (s : ByteArray) (hs : s.size ≤ 1073741824) : ∀ (rest pre done : List UInt8), s.data.toList = pre ++ rest → pre.length = done.length →
    Ev (fun k => impl_MulText.l0 k a s (ints done ++ List.replicate rest.length 0) (s.size : Int) (done.length : Int)) (strOfNums (ints (done ++ mulL (modb a) rest))) := by
  intro rest
  induction rest with
  | nil =>
    intro pre done he hp
    have hsz := size_of_list s he
    simp only [List.append_nil] at hsz
    refine Ev.step (f := fun _ => some (strOfNums (ints (done ++ mulL (modb a) [])))) (fun k => ?_) (Ev.now _)
    simp only [impl_MulText.l0]
    rw [if_neg (by omega)]
    simp [mulL]
  | cons b rest ih =>
    intro pre done he hp
    have hb := b.toNat_lt
    have hsz := size_of_list s he
    simp only [List.length_append, List.length_cons] at hsz
    refine Ev.step (f := fun k => (impl_MulG.f k a (b.toNat : Int)).bind fun t => impl_MulText.l0 k a s ((ints done ++ 0 :: List.replicate rest.length 0).set done.length (t % 256)) (s.size : Int) ((done.length + 1 : Nat) : Int)) (fun k => ?_) (Ev.bind (impl_MulG_ev a0 a1 (by omega) (by omega)) ?_)
    · simp only [impl_MulText.l0]
      have e := bt_mid s he
      rw [hp] at e
      rw [if_pos (by omega), if_pos (by omega), if_pos (by omega), wsucc (by omega), e, wnat (by omega)]
      congr 1
      funext t
      rw [if_pos (by rw [List.length_append, ints_length, List.length_replicate, List.length_cons]; omega)]
      rfl
    have e : (ints done ++ 0 :: List.replicate rest.length 0).set done.length (gmul a (b.toNat : Int) % 256) = ints (done ++ [mulB (modb a) b]) ++ List.replicate rest.length 0 := by
      have h1 := set_mid (ints done) 0 (gmul a (b.toNat : Int) % 256) (List.replicate rest.length 0)
      rw [ints_length] at h1
      have h2 := gmul_range a (b.toNat : Int)
      rw [h1, show gmul a (b.toNat : Int) % 256 = ((mulB (modb a) b).toNat : Int) by rw [← gmul_byte]; omega]
      simp [ints]
    rw [e]
    have h := ih (pre ++ [b]) (done ++ [mulB (modb a) b]) (by rw [he]; simp) (by simp; omega)
    rw [List.length_append] at h
    rw [show done ++ mulL (modb a) (b :: rest) = done ++ [mulB (modb a) b] ++ mulL (modb a) rest by simp [mulL]]
    exact h
theorem impl_MulText_ev {a : Int} (a0 : -9223372036854775808 ≤ a) (a1 : a ≤ 9223372036854775807) (s : ByteArray) (hs : s.size ≤ 1073741824) : Ev (fun k => impl_MulText.f k a s) (mulT (modb a) s) := by
  unfold impl_MulText.f
  refine Ev.pos (by omega) (Ev.pos (by omega) (Ev.some_bind rfl ?_))
  have h := impl_MulText_l0 a0 a1 s hs s.data.toList [] [] rfl rfl
  rw [str_len, str_ints] at h
  simp only [ints, List.map_nil, List.nil_append, List.length_nil] at h
  simp only [Int.toNat_natCast, List.length_replicate]
  exact h
theorem bits_xor8 (a b : UInt8) : Go.bits .xor .u8 (a.toNat : Int) (b.toNat : Int) = ((a ^^^ b).toNat : Int) := by
  have ha := a.toNat_lt
  have hb := b.toNat_lt
  have hx : a.toNat ^^^ b.toNat < 2 ^ 8 := Nat.xor_lt_two_pow (by omega) (by omega)
  have e : (BitVec.ofNat 8 a.toNat ^^^ BitVec.ofNat 8 b.toNat).toNat = a.toNat ^^^ b.toNat := by rw [BitVec.toNat_xor, BitVec.toNat_ofNat, BitVec.toNat_ofNat, Nat.mod_eq_of_lt (by omega), Nat.mod_eq_of_lt (by omega)]
  show IntKind.u8.wrap (((BitVec.ofInt 8 (a.toNat : Int)) ^^^ (BitVec.ofInt 8 (b.toNat : Int))).toNat : Int) = _
  rw [BitVec.ofInt_natCast, BitVec.ofInt_natCast, e, IntKind.wrap_u8, UInt8.toNat_xor]
  omega
def addL : List UInt8 → List UInt8 → List UInt8
  | [], ys => ys
  | xs, [] => xs
  | x :: xs, y :: ys => (x ^^^ y) :: addL xs ys
def addT (a b : ByteArray) : ByteArray := ⟨(addL a.data.toList b.data.toList).toArray⟩
theorem addL_nil (xs : List UInt8) : addL xs [] = xs := by cases xs <;> rfl
theorem addL_comm : ∀ xs ys : List UInt8, addL xs ys = addL ys xs
  | [], ys => by rw [addL_nil]; rfl
  | x :: xs, [] => rfl
  | x :: xs, y :: ys => by simp only [addL]; rw [addL_comm xs ys, UInt8.xor_comm]
theorem addL_length : ∀ xs ys : List UInt8, (addL xs ys).length = max xs.length ys.length
  | [], ys => by simp [addL]
  | x :: xs, [] => by simp [addL]
  | x :: xs, y :: ys => by simp only [addL, List.length_cons, addL_length xs ys]; omega
theorem addL_zeros : ∀ (xs ys : List UInt8) (n : Nat), xs.length + n = max xs.length ys.length → addL (xs ++ List.replicate n 0) ys = addL xs ys
  | [], [], 0, _ => rfl
  | [], [], n + 1, h => by simp at h
  | [], y :: ys, 0, h => by simp at h
  | [], y :: ys, n + 1, h => by
    have ih := addL_zeros [] ys n (by simp at h ⊢; exact h)
    simp only [List.nil_append, List.replicate_succ, addL] at ih ⊢
    rw [ih, UInt8.zero_xor]
  | x :: xs, [], n, h => by
    have : n = 0 := by simp at h; exact h
    subst this
    simp
  | x :: xs, y :: ys, n, h => by
    simp only [List.cons_append, addL]
    rw [addL_zeros xs ys n (by simp only [List.length_cons] at h; omega)]
theorem spec_AddText_l0 (s : ByteArray) (hs : s.size ≤ 1073741824) : ∀ (rb rest pre done : List UInt8), s.data.toList = pre ++ rb → pre.length = done.length → rb.length ≤ rest.length →
    Ev (fun k => spec_AddText.l0 k s (ints (done ++ rest)) (done.length : Int)) (strOfNums (ints (done ++ addL rest rb))) := by
  intro rb
  induction rb with
  | nil =>
    intro rest pre done he hp hr
    have hsz := size_of_list s he
    simp only [List.append_nil] at hsz
    refine Ev.step (f := fun _ => some (strOfNums (ints (done ++ addL rest [])))) (fun k => ?_) (Ev.now _)
    simp only [spec_AddText.l0]
    rw [if_neg (by omega), addL_nil]
  | cons b rb ih =>
    intro rest pre done he hp hr
    have hsz := size_of_list s he
    simp only [List.length_append, List.length_cons] at hsz
    cases rest with
    | nil => simp at hr
    | cons r rest =>
      simp only [List.length_cons] at hr
      have h := ih rest (pre ++ [b]) (done ++ [r ^^^ b]) (by rw [he]; simp) (by simp; omega) (by omega)
      rw [List.length_append] at h
      refine Ev.step (fun k => ?_) (by rw [show done ++ addL (r :: rest) (b :: rb) = done ++ [r ^^^ b] ++ addL rest rb by simp [addL]]; exact h)
      simp only [spec_AddText.l0]
      have e := bt_mid s he
      rw [hp] at e
      have e2 : rd (ints (done ++ r :: rest)) (done.length : Int) = (r.toNat : Int) := by
        have := rd_mid (ints done) (r.toNat : Int) (ints rest)
        rw [ints_length] at this
        rw [ints_app]
        exact this
      rw [if_pos (by omega), if_pos (by omega), if_pos (by rw [ints_length, List.length_append, List.length_cons]; omega), wsucc (by omega), e, e2, bits_xor8]
      have h1 := set_mid (ints done) (r.toNat : Int) ((r ^^^ b).toNat : Int) (ints rest)
      rw [ints_length] at h1
      have e3 : (ints (done ++ r :: rest)).set done.length ((r ^^^ b).toNat : Int) = ints (done ++ [r ^^^ b] ++ rest) := by
        rw [ints_app]
        refine Eq.trans h1 ?_
        simp [ints]
      rw [show ((done.length : Int)).toNat = done.length from Int.toNat_natCast _, e3]
      rfl
theorem spec_AddText_j0 (a b : ByteArray) (ha : a.size ≤ 1073741824) (hb : b.size ≤ a.size) : Ev (fun k => spec_AddText.j0 k a b) (addT a b) := by
  have h := spec_AddText_l0 b (by omega) b.data.toList a.data.toList [] [] rfl rfl hb
  rw [str_ints] at h
  refine Ev.step (fun k => ?_) h
  simp only [spec_AddText.j0]
  rw [if_pos (by omega)]
  rfl
theorem spec_AddText_ev (a b : ByteArray) (ha : a.size ≤ 1073741824) (hb : b.size ≤ 1073741824) : Ev (fun k => spec_AddText.f k a b) (addT a b) := by
  unfold spec_AddText.f
  by_cases h : (a.size : Int) < (b.size : Int)
  · refine Ev.pos h ?_
    rw [show addT a b = addT b a by unfold addT; rw [addL_comm]]
    exact spec_AddText_j0 b a hb (by omega)
  exact Ev.neg h (spec_AddText_j0 a b ha (by omega))
theorem impl_AddText_l0 (s : ByteArray) (hs : s.size ≤ 1073741824) : ∀ (rb rest pre done : List UInt8), s.data.toList = pre ++ rb → pre.length = done.length → rb.length ≤ rest.length →
    Ev (fun k => impl_AddText.l0 k s (ints (done ++ rest)) (done.length : Int)) (strOfNums (ints (done ++ addL rest rb))) := by
  intro rb
  induction rb with
  | nil =>
    intro rest pre done he hp hr
    have hsz := size_of_list s he
    simp only [List.append_nil] at hsz
    refine Ev.step (f := fun _ => some (strOfNums (ints (done ++ addL rest [])))) (fun k => ?_) (Ev.now _)
    simp only [impl_AddText.l0]
    rw [if_neg (by omega), addL_nil]
  | cons b rb ih =>
    intro rest pre done he hp hr
    have hsz := size_of_list s he
    simp only [List.length_append, List.length_cons] at hsz
    cases rest with
    | nil => simp at hr
    | cons r rest =>
      simp only [List.length_cons] at hr
      have h := ih rest (pre ++ [b]) (done ++ [r ^^^ b]) (by rw [he]; simp) (by simp; omega) (by omega)
      rw [List.length_append] at h
      refine Ev.step (fun k => ?_) (by rw [show done ++ addL (r :: rest) (b :: rb) = done ++ [r ^^^ b] ++ addL rest rb by simp [addL]]; exact h)
      simp only [impl_AddText.l0]
      have e := bt_mid s he
      rw [hp] at e
      have e2 : rd (ints (done ++ r :: rest)) (done.length : Int) = (r.toNat : Int) := by
        have := rd_mid (ints done) (r.toNat : Int) (ints rest)
        rw [ints_length] at this
        rw [ints_app]
        exact this
      rw [if_pos (by omega), if_pos (by omega), if_pos (by rw [ints_length, List.length_append, List.length_cons]; omega), wsucc (by omega), e, e2, bits_xor8]
      have h1 := set_mid (ints done) (r.toNat : Int) ((r ^^^ b).toNat : Int) (ints rest)
      rw [ints_length] at h1
      have e3 : (ints (done ++ r :: rest)).set done.length ((r ^^^ b).toNat : Int) = ints (done ++ [r ^^^ b] ++ rest) := by
        rw [ints_app]
        refine Eq.trans h1 ?_
        simp [ints]
      rw [show ((done.length : Int)).toNat = done.length from Int.toNat_natCast _, e3]
      rfl
theorem impl_AddText_ev (a b : ByteArray) (ha : a.size ≤ 1073741824) (hb : b.size ≤ 1073741824) : Ev (fun k => impl_AddText.f k a b) (addT a b) := by
  have hm : mx (a.size : Int) (b.size : Int) = ((max a.size b.size : Nat) : Int) := by
    unfold mx
    split <;> omega
  unfold impl_AddText.f
  rw [hm]
  refine Ev.pos (by omega) (Ev.pos (by omega) (Ev.some_bind rfl (Ev.pos (by rw [List.length_replicate]; omega) ?_)))
  have hc : copyS (List.replicate (max a.size b.size) 0) a = ints (a.data.toList ++ List.replicate (max a.size b.size - a.size) 0) := by
    unfold copyS
    rw [bytesOf_ints, ints_app, List.drop_replicate]
    simp [ints]
  have h := impl_AddText_l0 b hb b.data.toList (a.data.toList ++ List.replicate (max a.size b.size - a.size) 0) [] [] rfl rfl (by rw [List.length_append, List.length_replicate, str_len, str_len]; omega)
  rw [addL_zeros _ _ _ (by rw [str_len, str_len]; omega), str_ints] at h
  rw [Int.toNat_natCast, hc]
  exact h
theorem addT_list (a b : ByteArray) : (addT a b).data.toList = addL a.data.toList b.data.toList := rfl
theorem mulT_list (x : Nat) (a : ByteArray) : (mulT x a).data.toList = mulL x a.data.toList := rfl
theorem addT_size (a b : ByteArray) : (addT a b).size = max a.size b.size := by
  have h : (addT a b).data.toList.length = (addT a b).size := rfl
  rw [← h, addT_list, addL_length]
  rfl
theorem mulT_size (x : Nat) (a : ByteArray) : (mulT x a).size = a.size := by
  have h : (mulT x a).data.toList.length = (mulT x a).size := rfl
  rw [← h, mulT_list, mulL, List.length_map]
  rfl
theorem rdB_nat {l : List ByteArray} {i : Nat} (h : i < l.length) : rdOf ByteArray.empty l (i : Int) = l[i] := by
  unfold rdOf
  rw [Int.toNat_natCast, List.getD_eq_getElem?_getD, List.getElem?_eq_getElem h]
  rfl
theorem eqS_ev (l : List ByteArray) (hl : l.length ≤ 4611686018427387904) : Ev (fun k => laws_eqStringS.f k l l) true := by
  have key : ∀ d (i : Nat), i ≤ l.length → l.length - i = d → Ev (fun k => laws_eqStringS.l0 k l l (i : Int)) true := by
    intro d
    induction d with
    | zero =>
      intro i hi hd
      exact Ev.step (f := fun _ => some true) (fun k => by simp only [laws_eqStringS.l0]; rw [if_neg (by omega)]) (Ev.now _)
    | succ d ih =>
      intro i hi hd
      refine Ev.step (fun k => ?_) (ih (i + 1) (by omega) (by omega))
      simp only [laws_eqStringS.l0]
      rw [if_pos (by omega), if_pos (by omega), if_pos (by omega), wsucc (by omega)]
      simp only [if_true]
  unfold laws_eqStringS.f
  simp only [if_true]
  exact key l.length 0 (by omega) (by omega)
theorem rdB_mid (A : List ByteArray) (x : ByteArray) (B : List ByteArray) : rdOf ByteArray.empty (A ++ x :: B) (A.length : Int) = x := by simp [rdOf]
theorem szStrS_ex (l : List ByteArray) (hl : l.length ≤ 9223372036854775807) (hr : ∀ r ∈ l, r.size ≤ 9223372036854775807) (left : Int) (h0 : 0 ≤ left) (h1 : left ≤ 1099511627776) :
    ∃ r, Ev (fun k => laws_szStringS.f k l left) r ∧ (r < 0 ∨ (0 ≤ r ∧ r ≤ left ∧ (l.length : Int) ≤ left ∧ ∀ x ∈ l, (x.size : Int) ≤ left)) := by
  unfold laws_szStringS.f
  rw [w64 (x := left - (l.length : Int)) (by omega) (by omega)]
  by_cases c : left - (l.length : Int) < 0
  · exact ⟨-1, Ev.pos c (Ev.now _), Or.inl (by omega)⟩
  have key : ∀ (B A : List ByteArray) (y : Int), l = A ++ B → 0 ≤ y → y ≤ left → ∃ r, Ev (fun k => laws_szStringS.l0 k l y (A.length : Int)) r ∧ (r < 0 ∨ (0 ≤ r ∧ r ≤ y ∧ ∀ x ∈ B, (x.size : Int) ≤ left)) := by
    intro B
    induction B with
    | nil =>
      intro A y h hy0 hy1
      refine ⟨y, Ev.step (f := fun _ => some y) (fun k => ?_) (Ev.now _), Or.inr ⟨hy0, Int.le_refl _, by simp⟩⟩
      simp only [laws_szStringS.l0]
      rw [if_neg (by rw [h]; simp)]
    | cons x B ih =>
      intro A y h hy0 hy1
      have e : l.length = A.length + (B.length + 1) := by rw [h]; simp
      have r : rdOf ByteArray.empty l (A.length : Int) = x := by rw [h]; exact rdB_mid A x B
      have hx : x.size ≤ 9223372036854775807 := hr x (by rw [h]; simp)
      by_cases cx : y - (x.size : Int) < 0
      · refine ⟨-1, Ev.step (f := fun _ => some (-1)) (fun k => ?_) (Ev.now _), Or.inl (by omega)⟩
        simp only [laws_szStringS.l0]
        rw [if_pos (by omega), if_pos (by omega), r, w64 (x := y - (x.size : Int)) (by omega) (by omega), if_pos cx]
      obtain ⟨q, hq, hq2⟩ := ih (A ++ [x]) (y - (x.size : Int)) (by simp [h]) (by omega) (by omega)
      refine ⟨q, Ev.step (fun k => ?_) hq, ?_⟩
      · simp only [laws_szStringS.l0]
        rw [if_pos (by omega), if_pos (by omega), r, w64 (x := y - (x.size : Int)) (by omega) (by omega), if_neg cx, wsucc (by omega)]
        simp
      rcases hq2 with hn | ⟨q0, q1, q2⟩
      · exact Or.inl hn
      refine Or.inr ⟨q0, by omega, fun z hz => ?_⟩
      rcases List.mem_cons.mp hz with rfl | hz
      · omega
      exact q2 z hz
  obtain ⟨r, h2, h3⟩ := key l [] (left - (l.length : Int)) rfl (by omega) (by omega)
  refine ⟨r, Ev.neg c ?_, ?_⟩
  · simpa using h2
  rcases h3 with h3 | ⟨h4, h5, h6⟩
  · exact Or.inl h3
  exact Or.inr ⟨h4, by omega, by omega, h6⟩
theorem toStrS_ev (l : List ByteArray) (hl : l.length ≤ 17592186044416) : Ev (fun k => laws_toStringS.f k l) l := by
  have key : ∀ (B A : List ByteArray), l = A ++ B → Ev (fun k => laws_toStringS.l0 k l (A ++ List.replicate B.length (⟨#[]⟩ : ByteArray)) (A.length : Int)) l := by
    intro B
    induction B with
    | nil =>
      intro A h
      refine Ev.step (f := fun _ => some l) (fun k => ?_) (Ev.now _)
      simp only [laws_toStringS.l0]
      rw [if_neg (by rw [h]; simp)]
      simp [h]
    | cons x B ih =>
      intro A h
      refine Ev.step (fun k => ?_) (ih (A ++ [x]) (by simp [h]))
      have e : l.length = A.length + (B.length + 1) := by rw [h]; simp
      simp only [laws_toStringS.l0]
      rw [if_pos (by omega), if_pos (by omega), if_pos (by simp; omega), wsucc (by omega), Int.toNat_natCast]
      have r : rdOf ByteArray.empty l (A.length : Int) = x := by rw [h]; exact rdB_mid A x B
      rw [r, List.length_cons, List.replicate_succ, set_midI]
      simp
  unfold laws_toStringS.f
  refine Ev.pos (by omega) (Ev.pos (by omega) ?_)
  have z := key l [] rfl
  simpa using z
def tsum : Nat → (Nat → ByteArray) → ByteArray
  | 0, _ => ⟨#[]⟩
  | n + 1, h => addT (tsum n h) (h n)
theorem tsum_size {N : Nat} {h : Nat → ByteArray} : ∀ {n : Nat}, (∀ k, k < n → (h k).size ≤ N) → (tsum n h).size ≤ N
  | 0, _ => Nat.zero_le _
  | n + 1, H => by
    rw [tsum, addT_size]
    have h1 := tsum_size (n := n) (fun k hk => H k (by omega))
    have h2 := H n (by omega)
    omega
def applyM (m : List (List Int)) (u : List ByteArray) : List ByteArray := (List.range m.length).map fun i => tsum u.length (fun j => mulT (ent m i j) (u.getD j ByteArray.empty))
def applyR (m : List (List Int)) (u : List ByteArray) : List ByteArray := if okM m = true ∧ (m.headD []).length = u.length then applyM m u else []
theorem applyR_size (m : List (List Int)) (u : List ByteArray) : (applyR m u).length ≤ 8 := by
  unfold applyR
  by_cases h : okM m = true ∧ (m.headD []).length = u.length
  · rw [if_pos h]
    obtain ⟨_, h2, _⟩ := of_okM h.1
    unfold applyM
    rw [List.length_map, List.length_range]
    exact h2
  rw [if_neg h]
  simp
theorem unit_size {u : List ByteArray} {N : Nat} (hu : ∀ x ∈ u, x.size ≤ N) (j : Nat) : (u.getD j ByteArray.empty).size ≤ N := by
  rw [List.getD_eq_getElem?_getD]
  by_cases h : j < u.length
  · rw [List.getElem?_eq_getElem h]
    exact hu _ (List.getElem_mem h)
  rw [List.getElem?_eq_none (by omega)]
  exact Nat.zero_le _
theorem impl_ApplyM_ev (m : List (List Int)) (u : List ByteArray) (hm : m.length ≤ 1099511627776) (hr : ∀ r ∈ m, r.length ≤ 1099511627776) (hu : ∀ x ∈ u, x.size ≤ 1073741824) : Ev (fun k => impl_ApplyM.f k m u) (applyR m u) := by
  have em := impl_MatrixOk_ev m (by omega) (fun r h => by have := hr r h; omega)
  have bad : Ev (fun k => impl_ApplyM.j0 k m u true) ([] : List ByteArray) := Ev.step (f := fun _ => some []) (fun k => by simp only [impl_ApplyM.j0, if_true]) (Ev.now _)
  unfold impl_ApplyM.f
  refine Ev.bind em ?_
  cases om : okM m with
  | false =>
    rw [show applyR m u = [] by unfold applyR; rw [if_neg (by simp [om])]]
    exact Ev.neg (by simp) bad
  | true =>
    obtain ⟨a1, a2, a3, a4, _⟩ := of_okM om
    refine Ev.pos rfl (Ev.pos (by omega) ?_)
    rw [rdL_zero]
    by_cases hn : (m.headD []).length = u.length
    · rw [show applyR m u = applyM m u by unfold applyR; rw [if_pos ⟨om, hn⟩]]
      rw [show ((((m.headD []).length : Nat) : Int) != ((u.length : Nat) : Int)) = false by rw [hn]; simp]
      have L1 : ∀ (i : Nat), i < m.length → ∀ (out v : List ByteArray), out.length ≤ 8 →
          Ev (fun q => impl_ApplyM.l0 q u (out ++ [tsum u.length (fun j => mulT (ent m i j) (u.getD j ByteArray.empty))]) m (m.length : Int) ((i + 1 : Nat) : Int)) v →
          ∀ d j : Nat, j ≤ u.length → u.length - j = d →
          Ev (fun q => impl_ApplyM.l1 q u out (tsum j (fun j => mulT (ent m i j) (u.getD j ByteArray.empty))) m (m.length : Int) (i : Int) (rd_L2 m (i : Int)) ((rd_L2 m (i : Int)).length : Int) (j : Int)) v := by
        intro i hi out v ho h d
        have hl := rdL_len om hi
        induction d with
        | zero =>
          intro j hj hd
          obtain rfl : j = u.length := by omega
          refine Ev.step (fun q => ?_) h
          simp only [impl_ApplyM.l1]
          rw [if_neg (by omega), if_pos (by omega), wsucc (by omega)]
        | succ d ih =>
          intro j hj hd
          have z := ih (j + 1) (by omega) (by omega)
          rw [tsum] at z
          obtain ⟨q1, q2⟩ := rd_ent om hi (j := j) (by omega)
          have us := unit_size hu j
          have e1 := impl_MulText_ev (a := ((ent m i j : Nat) : Int)) (by omega) (by omega) (u.getD j ByteArray.empty) us
          rw [modb_nat q2] at e1
          have ts := tsum_size (N := 1073741824) (n := j) (h := fun j => mulT (ent m i j) (u.getD j ByteArray.empty)) (fun k _ => by rw [mulT_size]; exact unit_size hu k)
          have e2 := impl_AddText_ev (tsum j (fun j => mulT (ent m i j) (u.getD j ByteArray.empty))) (mulT (ent m i j) (u.getD j ByteArray.empty)) ts (by rw [mulT_size]; exact us)
          refine Ev.step (f := fun q => (impl_MulText.f q ((ent m i j : Nat) : Int) (u.getD j ByteArray.empty)).bind fun t => (impl_AddText.f q (tsum j (fun j => mulT (ent m i j) (u.getD j ByteArray.empty))) t).bind fun s => impl_ApplyM.l1 q u out s m (m.length : Int) (i : Int) (rd_L2 m (i : Int)) ((rd_L2 m (i : Int)).length : Int) ((j + 1 : Nat) : Int)) (fun q => ?_) (Ev.bind e1 (Ev.bind e2 z))
          simp only [impl_ApplyM.l1]
          rw [if_pos (by omega), if_pos (by omega), if_pos (by omega), if_pos (by omega), q1, wsucc (by omega)]
          unfold rdOf
          rw [Int.toNat_natCast]
      have L0 : ∀ d i : Nat, i ≤ m.length → m.length - i = d → Ev (fun q => impl_ApplyM.l0 q u ((List.range i).map fun i => tsum u.length (fun j => mulT (ent m i j) (u.getD j ByteArray.empty))) m (m.length : Int) (i : Int)) (applyM m u) := by
        intro d
        induction d with
        | zero =>
          intro i hi hd
          obtain rfl : i = m.length := by omega
          refine Ev.step (f := fun _ => some (applyM m u)) (fun q => ?_) (Ev.now _)
          simp only [impl_ApplyM.l0]
          rw [if_neg (by omega)]
          rfl
        | succ d ih =>
          intro i hi hd
          have z := ih (i + 1) (by omega) (by omega)
          rw [range_map_succ] at z
          have y := L1 i (by omega) _ _ (by rw [List.length_map, List.length_range]; omega) z u.length 0 (by omega) (by omega)
          refine Ev.step (fun q => ?_) y
          simp only [impl_ApplyM.l0]
          rw [if_pos (by omega), if_pos (by omega), if_pos (by omega)]
          rfl
      have y := L0 m.length 0 (by omega) (by omega)
      refine Ev.step (fun q => ?_) y
      simp only [impl_ApplyM.j0, Bool.false_eq_true, if_false]
      rfl
    rw [show applyR m u = [] by unfold applyR; rw [if_neg (fun h => hn h.2)]]
    rw [show ((((m.headD []).length : Nat) : Int) != ((u.length : Nat) : Int)) = true from bne_iff_ne.mpr (by omega)]
    exact bad
theorem spec_ApplyM_ev (m : List (List Int)) (u : List ByteArray) (hm : m.length ≤ 1099511627776) (hr : ∀ r ∈ m, r.length ≤ 1099511627776) (hu : ∀ x ∈ u, x.size ≤ 1073741824) : Ev (fun k => spec_ApplyM.f k m u) (applyR m u) := by
  have em := spec_MatrixOk_ev m (by omega) (fun r h => by have := hr r h; omega)
  have bad : Ev (fun k => spec_ApplyM.j0 k m u [] true) ([] : List ByteArray) := Ev.step (f := fun _ => some []) (fun k => by simp only [spec_ApplyM.j0, if_true]) (Ev.now _)
  unfold spec_ApplyM.f
  refine Ev.some_bind rfl (Ev.bind em ?_)
  cases om : okM m with
  | false =>
    rw [show applyR m u = [] by unfold applyR; rw [if_neg (by simp [om])]]
    exact Ev.neg (by simp) bad
  | true =>
    obtain ⟨a1, a2, a3, a4, _⟩ := of_okM om
    refine Ev.pos rfl (Ev.pos (by omega) ?_)
    rw [rdL_zero]
    by_cases hn : (m.headD []).length = u.length
    · rw [show applyR m u = applyM m u by unfold applyR; rw [if_pos ⟨om, hn⟩]]
      rw [show ((((m.headD []).length : Nat) : Int) != ((u.length : Nat) : Int)) = false by rw [hn]; simp]
      have L1 : ∀ (i : Nat), i < m.length → ∀ (out v : List ByteArray), out.length ≤ 8 →
          Ev (fun q => spec_ApplyM.l0 q m u (out ++ [tsum u.length (fun j => mulT (ent m i j) (u.getD j ByteArray.empty))]) ((i + 1 : Nat) : Int)) v →
          ∀ d j : Nat, j ≤ u.length → u.length - j = d →
          Ev (fun q => spec_ApplyM.l1 q m u out (i : Int) (tsum j (fun j => mulT (ent m i j) (u.getD j ByteArray.empty))) (j : Int)) v := by
        intro i hi out v ho h d
        have hl := rdL_len om hi
        induction d with
        | zero =>
          intro j hj hd
          obtain rfl : j = u.length := by omega
          refine Ev.step (fun q => ?_) h
          simp only [spec_ApplyM.l1]
          rw [if_neg (by omega), if_pos (by omega), wsucc (by omega)]
        | succ d ih =>
          intro j hj hd
          have z := ih (j + 1) (by omega) (by omega)
          rw [tsum] at z
          obtain ⟨q1, q2⟩ := rd_ent om hi (j := j) (by omega)
          have us := unit_size hu j
          have e1 := spec_MulText_ev (a := ((ent m i j : Nat) : Int)) (by omega) (by omega) (u.getD j ByteArray.empty) us
          rw [modb_nat q2] at e1
          have ts := tsum_size (N := 1073741824) (n := j) (h := fun j => mulT (ent m i j) (u.getD j ByteArray.empty)) (fun k _ => by rw [mulT_size]; exact unit_size hu k)
          have e2 := spec_AddText_ev (tsum j (fun j => mulT (ent m i j) (u.getD j ByteArray.empty))) (mulT (ent m i j) (u.getD j ByteArray.empty)) ts (by rw [mulT_size]; exact us)
          refine Ev.step (f := fun q => (spec_MulText.f q ((ent m i j : Nat) : Int) (u.getD j ByteArray.empty)).bind fun t => (spec_AddText.f q (tsum j (fun j => mulT (ent m i j) (u.getD j ByteArray.empty))) t).bind fun s => spec_ApplyM.l1 q m u out (i : Int) s ((j + 1 : Nat) : Int)) (fun q => ?_) (Ev.bind e1 (Ev.bind e2 z))
          simp only [spec_ApplyM.l1]
          rw [if_pos (by omega), if_pos (by omega), if_pos (by omega), if_pos (by omega), if_pos (by omega), q1, wsucc (by omega)]
          unfold rdOf
          rw [Int.toNat_natCast]
      have L0 : ∀ d i : Nat, i ≤ m.length → m.length - i = d → Ev (fun q => spec_ApplyM.l0 q m u ((List.range i).map fun i => tsum u.length (fun j => mulT (ent m i j) (u.getD j ByteArray.empty))) (i : Int)) (applyM m u) := by
        intro d
        induction d with
        | zero =>
          intro i hi hd
          obtain rfl : i = m.length := by omega
          refine Ev.step (f := fun _ => some (applyM m u)) (fun q => ?_) (Ev.now _)
          simp only [spec_ApplyM.l0]
          rw [if_neg (by omega)]
          rfl
        | succ d ih =>
          intro i hi hd
          have z := ih (i + 1) (by omega) (by omega)
          rw [range_map_succ] at z
          have y := L1 i (by omega) _ _ (by rw [List.length_map, List.length_range]; omega) z u.length 0 (by omega) (by omega)
          refine Ev.step (fun q => ?_) y
          simp only [spec_ApplyM.l0]
          rw [if_pos (by omega)]
          rfl
      have y := L0 m.length 0 (by omega) (by omega)
      refine Ev.step (fun q => ?_) y
      simp only [spec_ApplyM.j0, Bool.false_eq_true, if_false]
      rfl
    rw [show applyR m u = [] by unfold applyR; rw [if_neg (fun h => hn h.2)]]
    rw [show ((((m.headD []).length : Nat) : Int) != ((u.length : Nat) : Int)) = true from bne_iff_ne.mpr (by omega)]
    exact bad
def gpow (a : Int) (n : Int) : Int := if 0 ≤ n ∧ n ≤ 1000 then ((Gf.pow (modb a) n.toNat : Nat) : Int) else 0
theorem gmul_pow (a : Int) (i : Nat) : gmul ((Gf.pow (modb a) i : Nat) : Int) a = ((Gf.pow (modb a) (i + 1) : Nat) : Int) := by
  unfold gmul
  rw [modb_nat (Gf.pow_lt (modb_lt a) i)]
  rfl
theorem spec_PowG_l0 {a : Int} (a0 : -9223372036854775808 ≤ a) (a1 : a ≤ 9223372036854775807) (n : Nat) (hn : n ≤ 1000) (d : Nat) : ∀ i : Nat, i ≤ n → n - i = d →
    Ev (fun k => spec_PowG.l0 k a (n : Int) ((Gf.pow (modb a) i : Nat) : Int) (i : Int)) ((Gf.pow (modb a) n : Nat) : Int) := by
  induction d with
  | zero =>
    intro i hi hd
    obtain rfl : i = n := by omega
    exact Ev.step (f := fun _ => some ((Gf.pow (modb a) i : Nat) : Int)) (fun k => by simp only [spec_PowG.l0]; rw [if_neg (by omega)]) (Ev.now _)
  | succ d ih =>
    intro i hi hd
    have hl := Gf.pow_lt (modb_lt a) i
    refine Ev.step (f := fun k => (spec_MulG.f k ((Gf.pow (modb a) i : Nat) : Int) a).bind fun t => spec_PowG.l0 k a (n : Int) t ((i + 1 : Nat) : Int)) (fun k => ?_) (Ev.bind (spec_MulG_ev (by omega) (by omega) a0 a1) ?_)
    · simp only [spec_PowG.l0]
      rw [if_pos (by omega), w64 (by omega) (by omega)]
      rfl
    rw [gmul_pow]
    exact ih (i + 1) (by omega) (by omega)
theorem spec_PowG_ev {a n : Int} (a0 : -9223372036854775808 ≤ a) (a1 : a ≤ 9223372036854775807) : Ev (fun k => spec_PowG.f k a n) (gpow a n) := by
  unfold gpow spec_PowG.f
  simp only [spec_l01In_eq, Option.bind_some, decide_eq_true_eq]
  by_cases h : 0 ≤ n ∧ n ≤ 1000
  · simp only [if_pos h]
    obtain ⟨m, rfl⟩ := Int.eq_ofNat_of_zero_le h.1
    exact spec_PowG_l0 a0 a1 m (by omega) m 0 (by omega) (by omega)
  simp only [if_neg h]
  exact Ev.now _
theorem spec_InvG_ev {a : Int} (a0 : -9223372036854775808 ≤ a) (a1 : a ≤ 9223372036854775807) : Ev (fun k => spec_InvG.f k a) (ginv a) := by
  unfold spec_InvG.f ginv
  rw [spec_l05Mod_eq a0 a1]
  simp only [Option.bind_some]
  have hl := modb_lt a
  by_cases h : modb a = 0
  · simp only [h, if_true, Int.natCast_zero]
    exact Ev.now _
  simp only [if_neg h, if_neg (show ¬ ((modb a : Nat) : Int) = 0 by omega)]
  have hp := spec_PowG_ev (a := ((modb a : Nat) : Int)) (n := 254) (by omega) (by omega)
  have e : gpow ((modb a : Nat) : Int) 254 = ((Gf.pow (modb a) 254 : Nat) : Int) := by
    unfold gpow
    rw [if_pos (by omega), modb_nat hl]
    rfl
  rw [e] at hp
  exact Ev.bind hp (Ev.now _)
theorem spec_OneM_ev (n : Int) : Ev (fun k => spec_OneM.f k n) (oneR n) := by
  unfold spec_OneM.f oneR
  by_cases h : 1 ≤ n ∧ n ≤ 8
  · rw [if_pos h]
    obtain ⟨N, rfl⟩ := Int.eq_ofNat_of_zero_le (show 0 ≤ n by omega)
    have key : ∀ d i : Nat, i ≤ N → N - i = d → Ev (fun q => spec_OneM.l0 q (N : Int) ((List.range i).map fun i => (List.range N).map fun j => ((idf i j : Nat) : Int)) (i : Int)) (mk N N idf) := by
      intro d
      induction d with
      | zero =>
        intro i hi hd
        obtain rfl : i = N := by omega
        refine Ev.step (f := fun _ => some (mk i i idf)) (fun q => ?_) (Ev.now _)
        simp only [spec_OneM.l0]
        rw [if_neg (by omega)]
        rfl
      | succ d ih =>
        intro i hi hd
        have z := ih (i + 1) (by omega) (by omega)
        rw [range_map_succ] at z
        refine Ev.step (fun q => ?_) z
        simp only [spec_OneM.l0]
        rw [if_pos (by omega), spec_l01In_eq, Option.bind_some, if_pos (decide_eq_true h), if_pos (by omega), if_pos (by omega), Option.bind_some, if_pos (by omega), Int.toNat_natCast, Int.toNat_natCast, List.length_replicate, if_pos (by omega), if_pos (by simp; omega), wsucc (by omega), one_row (by omega)]
    exact key N 0 (by omega) (by omega)
  rw [if_neg h]
  by_cases h0 : 0 < n
  · refine Ev.step (f := fun _ => some []) (fun q => ?_) (Ev.now _)
    simp only [spec_OneM.l0]
    rw [if_pos h0, spec_l01In_eq, Option.bind_some, if_neg (by simpa using h)]
  refine Ev.step (f := fun _ => some []) (fun q => ?_) (Ev.now _)
  simp only [spec_OneM.l0]
  rw [if_neg h0]
theorem times_ev {n v : Nat} {g : Nat → Nat} (hn : n ≤ 8) (hv : v < 256) (hg : ∀ j, j < n → g j < 256) : Ev (fun k => spec_l06Times.f k (rowN n g) (v : Int)) (rowN n (fun j => Gf.mul v (g j))) := by
  have key : ∀ d j : Nat, j ≤ n → n - j = d → Ev (fun k => spec_l06Times.l0 k (rowN n g) (v : Int) (rowN j (fun j => Gf.mul v (g j))) (j : Int)) (rowN n (fun j => Gf.mul v (g j))) := by
    intro d
    induction d with
    | zero =>
      intro j hj hd
      obtain rfl : j = n := by omega
      refine Ev.step (f := fun _ => some (rowN j (fun j => Gf.mul v (g j)))) (fun k => ?_) (Ev.now _)
      simp only [spec_l06Times.l0]
      rw [if_neg (by rw [rowN_length]; omega)]
    | succ d ih =>
      intro j hj hd
      have z := ih (j + 1) (by omega) (by omega)
      rw [rowN_succ] at z
      have hx := hg j (by omega)
      have e := spec_MulG_ev (a := (v : Int)) (b := ((g j : Nat) : Int)) (by omega) (by omega) (by omega) (by omega)
      rw [gmul_nn hv hx] at e
      refine Ev.step (f := fun k => (spec_MulG.f k (v : Int) ((g j : Nat) : Int)).bind fun t => spec_l06Times.l0 k (rowN n g) (v : Int) (rowN j (fun j => Gf.mul v (g j)) ++ [t]) ((j + 1 : Nat) : Int)) (fun k => ?_) (Ev.bind e z)
      simp only [spec_l06Times.l0]
      rw [if_pos (by rw [rowN_length]; omega), if_pos (by omega), rd_rowN g (by omega)]
      refine congrArg (Option.bind _) (funext fun t => ?_)
      rw [if_pos (by rw [rowN_length]; omega), wsucc (by omega)]
  exact key n 0 (by omega) (by omega)
theorem take_ev {n t : Nat} {a b : Nat → Nat} (hn : n ≤ 8) (ht : t < 256) (ha : ∀ j, j < n → a j < 256) (hb : ∀ j, j < n → b j < 256) : Ev (fun k => spec_l06Row.f k (rowN n a) (rowN n b) (t : Int)) (rowN n (fun j => a j ^^^ Gf.mul t (b j))) := by
  have key : ∀ d j : Nat, j ≤ n → n - j = d → Ev (fun k => spec_l06Row.l0 k (rowN n a) (rowN n b) (t : Int) (rowN j (fun j => a j ^^^ Gf.mul t (b j))) (j : Int)) (rowN n (fun j => a j ^^^ Gf.mul t (b j))) := by
    intro d
    induction d with
    | zero =>
      intro j hj hd
      obtain rfl : j = n := by omega
      refine Ev.step (f := fun _ => some (rowN j (fun j => a j ^^^ Gf.mul t (b j)))) (fun k => ?_) (Ev.now _)
      simp only [spec_l06Row.l0]
      rw [if_neg (by rw [rowN_length]; omega)]
    | succ d ih =>
      intro j hj hd
      have z := ih (j + 1) (by omega) (by omega)
      rw [rowN_succ] at z
      have hx := hb j (by omega)
      have hy := ha j (by omega)
      have hm := Gf.mul_lt (b j) ht
      have e := spec_MulG_ev (a := (t : Int)) (b := ((b j : Nat) : Int)) (by omega) (by omega) (by omega) (by omega)
      rw [gmul_nn ht hx] at e
      refine Ev.step (f := fun k => (spec_MulG.f k (t : Int) ((b j : Nat) : Int)).bind fun s => spec_l06Row.l0 k (rowN n a) (rowN n b) (t : Int) (rowN j (fun j => a j ^^^ Gf.mul t (b j)) ++ [Go.bits .xor .i64 ((a j : Nat) : Int) s]) ((j + 1 : Nat) : Int)) (fun k => ?_) (Ev.bind e ?_)
      · simp only [spec_l06Row.l0]
        rw [if_pos (by rw [rowN_length]; omega), if_pos (by omega), if_pos (by rw [rowN_length]; omega), rd_rowN a (by omega), rd_rowN b (by omega)]
        refine congrArg (Option.bind _) (funext fun s => ?_)
        rw [if_pos (by rw [rowN_length]; omega), wsucc (by omega)]
      rw [bits_xor64 (by omega) (by omega)]
      exact z
  exact key n 0 (by omega) (by omega)
theorem spec_elim_ev {n c : Nat} {A B : Nat → Nat → Nat} {v : List (List Int) × Bool} (hn : n ≤ 8) (hc : c < n) (hA : bytesM n A) (hB : bytesM n B)
    (h : Ev (fun k => spec_InvM.l1 k (n : Int) (mk n n (elimM c (fun i => A i c) A)) (mk n n (elimM c (fun i => A i c) B)) ((c + 1 : Nat) : Int)) v) :
    ∀ d i0 : Nat, i0 ≤ n → n - i0 = d → Ev (fun k => spec_InvM.l3 k (n : Int) (mk n n (partM c (fun i => A i c) i0 A)) (mk n n (partM c (fun i => A i c) i0 B)) (c : Int) (i0 : Int)) v := by
  intro d
  induction d with
  | zero =>
    intro i0 hi hd
    obtain rfl : i0 = n := by omega
    rw [part_all, part_all]
    refine Ev.step (fun k => ?_) h
    simp only [spec_InvM.l3]
    rw [if_neg (by omega), wsucc (by omega)]
  | succ d ih =>
    intro i0 hi hd
    have z := ih (i0 + 1) (by omega) (by omega)
    have same : (i0 = c ∨ A i0 c = 0) → Ev (fun k => spec_InvM.j6 k (n : Int) (mk n n (partM c (fun i => A i c) i0 A)) (mk n n (partM c (fun i => A i c) i0 B)) (c : Int) (i0 : Int) false) v := by
      intro hs
      rw [part_same n c (fun i => A i c) i0 A hs, part_same n c (fun i => A i c) i0 B hs] at z
      refine Ev.step (fun k => ?_) z
      simp only [spec_InvM.j6, Bool.false_eq_true, if_false]
      rw [wsucc (by omega)]
    by_cases hic : i0 = c
    · refine Ev.step (fun k => ?_) (same (Or.inl hic))
      simp only [spec_InvM.l3]
      rw [if_pos (by omega), if_pos (by omega)]
    have rA : partM c (fun i => A i c) i0 A i0 = A i0 := part_row _ A (fun e => absurd e.1 (Nat.lt_irrefl _))
    have rAc : partM c (fun i => A i c) i0 A c = A c := part_row _ A (fun e => e.2 rfl)
    have rB : partM c (fun i => A i c) i0 B i0 = B i0 := part_row _ B (fun e => absurd e.1 (Nat.lt_irrefl _))
    have rBc : partM c (fun i => A i c) i0 B c = B c := part_row _ B (fun e => e.2 rfl)
    have go : Ev (fun k => spec_InvM.j6 k (n : Int) (mk n n (partM c (fun i => A i c) i0 A)) (mk n n (partM c (fun i => A i c) i0 B)) (c : Int) (i0 : Int) (((A i0 c : Nat) : Int) != 0)) v := by
      by_cases h0 : A i0 c = 0
      · rw [show (((A i0 c : Nat) : Int) != 0) = false by rw [h0]; rfl]
        exact same (Or.inr h0)
      rw [show (((A i0 c : Nat) : Int) != 0) = true from bne_iff_ne.mpr (by omega)]
      have e1 := take_ev (n := n) (t := A i0 c) (a := A i0) (b := A c) hn (hA i0 (by omega) c hc) (hA i0 (by omega)) (hA c hc)
      have e2 := take_ev (n := n) (t := A i0 c) (a := B i0) (b := B c) hn (hA i0 (by omega) c hc) (hB i0 (by omega)) (hB c hc)
      refine Ev.step (f := fun k => (spec_l06Row.f k (rowN n (A i0)) (rowN n (A c)) ((A i0 c : Nat) : Int)).bind fun t => (spec_l06Row.f k (rowN n (B i0)) (rowN n (B c)) ((A i0 c : Nat) : Int)).bind fun s => spec_InvM.l3 k (n : Int) ((mk n n (partM c (fun i => A i c) i0 A)).set i0 t) ((mk n n (partM c (fun i => A i c) i0 B)).set i0 s) (c : Int) ((i0 + 1 : Nat) : Int)) (fun k => ?_) (Ev.bind e1 (Ev.bind e2 ?_))
      · simp only [spec_InvM.j6, if_true]
        rw [rdL_mk _ (i := i0) (by omega), rdL_mk _ (i := c) hc, rdL_mk _ (i := i0) (by omega), rdL_mk _ (i := c) hc, rA, rAc, rB, rBc, rd_rowN _ hc, mk_length, mk_length, rowN_length]
        rw [if_pos (by omega), if_pos (by omega), if_pos (by omega), if_pos (by omega), if_pos (by omega)]
        refine congrArg (Option.bind _) (funext fun t => ?_)
        rw [if_pos (by omega), if_pos (by omega), wsucc (by omega), Int.toNat_natCast]
      rw [part_next (fun i => A i c) A (by omega) hic, part_next (fun i => A i c) B (by omega) hic]
      exact z
    refine Ev.step (fun k => ?_) go
    simp only [spec_InvM.l3]
    rw [if_pos (by omega), if_neg (by omega), rdL_mk _ (i := i0) (by omega), rA, rd_rowN _ hc, mk_length, rowN_length, if_pos (by omega), if_pos (by omega), if_pos (by omega), if_pos (by omega)]
theorem spec_find_ev {n c : Nat} {A : Nat → Nat → Nat} {B : List (List Int)} {v : List (List Int) × Bool} (hn : n ≤ 8) (hc : c < n) :
    ∀ d p : Nat, p ≤ n → n - p = d → Ev (fun k => spec_InvM.j4 k (n : Int) (mk n n A) B (c : Int) ((match findP A c d p with | some q => q | none => n : Nat) : Int)) v → Ev (fun k => spec_InvM.l2 k (n : Int) (mk n n A) B (c : Int) (p : Int)) v := by
  intro d
  induction d with
  | zero =>
    intro p hp hd h
    obtain rfl : p = n := by omega
    refine Ev.step (fun k => ?_) h
    simp only [spec_InvM.l2]
    rw [if_neg (by omega)]
    rfl
  | succ d ih =>
    intro p hp hd h
    by_cases h0 : A p c = 0
    · have e : findP A c (d + 1) p = findP A c d (p + 1) := by
        rw [findP, if_pos h0]
      rw [e] at h
      refine Ev.step (fun k => ?_) (ih (p + 1) (by omega) (by omega) h)
      simp only [spec_InvM.l2]
      rw [if_pos (by omega), if_pos (by omega), mk_length, if_pos (by omega), if_pos (by omega), rdL_mk _ (by omega), rowN_length, if_pos (by omega), rd_rowN _ hc, if_pos (by omega), wsucc (by omega)]
    have e : findP A c (d + 1) p = some p := by
      rw [findP, if_neg h0]
    rw [e] at h
    refine Ev.step (fun k => ?_) h
    simp only [spec_InvM.l2]
    rw [if_pos (by omega), if_pos (by omega), mk_length, if_pos (by omega), if_pos (by omega), rdL_mk _ (by omega), rowN_length, if_pos (by omega), rd_rowN _ hc, if_neg (by omega)]
theorem spec_cols_ev {n : Nat} (hn : n ≤ 8) : ∀ (d c : Nat) (A B : Nat → Nat → Nat), d + c = n → bytesM n A → bytesM n B → Ev (fun k => spec_InvM.l1 k (n : Int) (mk n n A) (mk n n B) (c : Int)) (gjRes n (gjGo n d c A B)) := by
  intro d
  induction d with
  | zero =>
    intro c A B hd hA hB
    refine Ev.step (f := fun _ => some (mk n n B, true)) (fun k => ?_) (Ev.now _)
    simp only [spec_InvM.l1]
    rw [if_neg (by omega)]
  | succ d ih =>
    intro c A B hd hA hB
    have hc : c < n := by omega
    have go : Ev (fun k => spec_InvM.j4 k (n : Int) (mk n n A) (mk n n B) (c : Int) ((match findP A c (n - c) c with | some q => q | none => n : Nat) : Int)) (gjRes n (gjGo n (d + 1) c A B)) := by
      unfold gjGo
      cases hp : findP A c (n - c) c with
      | none =>
        refine Ev.step (f := fun _ => some ([], false)) (fun k => ?_) (Ev.now _)
        simp only [spec_InvM.j4, if_true]
      | some p =>
        obtain ⟨p1, p2, p3⟩ := findP_some hp
        have hpn : p < n := by omega
        have hv : gjV p c A < 256 := Gf.pow_lt (hA p hpn c hc) 254
        have sA := (swap_op hpn hc).bytes _ hA
        have sB := (swap_op hpn hc).bytes _ hB
        have tA := (scale_op hc hv).bytes _ sA
        have tB := (scale_op hc hv).bytes _ sB
        have hT : ∀ i, i < n → gjT p c A i < 256 := fun i hi => tA i hi c hc
        have z := ih (c + 1) (gjF p c (gjV p c A) (gjT p c A) A) (gjF p c (gjV p c A) (gjT p c A) B) (by omega) ((elim_op hc hT).bytes _ tA) ((elim_op hc hT).bytes _ tB)
        have y := spec_elim_ev hn hc tA tB z n 0 (by omega) (by omega)
        rw [part_zero, part_zero] at y
        have pc : swapM p c A c c = A p c := by unfold swapM; rw [if_pos rfl]
        have g := spec_InvG_ev (a := ((A p c : Nat) : Int)) (by have := hA p hpn c hc; omega) (by have := hA p hpn c hc; omega)
        rw [ginv_nat (hA p hpn c hc) p3] at g
        have e1 := times_ev (n := n) (v := gjV p c A) (g := swapM p c A c) hn hv (sA c hc)
        have e2 := times_ev (n := n) (v := gjV p c A) (g := swapM p c B c) hn hv (sB c hc)
        refine Ev.step (f := fun k => (spec_InvG.f k ((A p c : Nat) : Int)).bind fun t => (spec_l06Times.f k (rowN n (swapM p c A c)) t).bind fun r => (spec_l06Times.f k (rowN n (swapM p c B c)) t).bind fun s => spec_InvM.l3 k (n : Int) ((mk n n (swapM p c A)).set c r) ((mk n n (swapM p c B)).set c s) (c : Int) 0) (fun k => ?_) (Ev.bind g (Ev.bind e1 (Ev.bind e2 ?_)))
        · simp only [spec_InvM.j4]
          rw [if_neg (by omega), if_pos (by omega), mk_length, if_pos (by omega), if_pos (by omega), if_pos (by omega), Option.bind_some, mk_length, if_pos (by omega), if_pos (by omega), Option.bind_some, Int.toNat_natCast, Int.toNat_natCast]
          rw [rdL_mk A hc, rdL_mk A hpn, rdL_mk B hc, rdL_mk B hpn, swap_list A hpn hc, swap_list B hpn hc, rdL_mk _ hc, rdL_mk _ hc, rowN_length, if_pos (by omega), rd_rowN _ hc, pc]
        rw [scale_list _ hc, scale_list _ hc]
        exact y
    refine Ev.step (fun k => ?_) (spec_find_ev hn hc (n - c) c (by omega) rfl go)
    simp only [spec_InvM.l1]
    rw [if_pos (by omega)]
theorem spec_InvM_ev (m : List (List Int)) (hm : m.length ≤ 1099511627776) (hr : ∀ r ∈ m, r.length ≤ 1099511627776) : Ev (fun k => spec_InvM.f k m) (invR m) := by
  have em := spec_MatrixOk_ev m (by omega) (fun r h => by have := hr r h; omega)
  have bad : Ev (fun k => spec_InvM.j0 k m true) (([] : List (List Int)), false) := Ev.step (f := fun _ => some ([], false)) (fun k => by simp only [spec_InvM.j0, if_true]) (Ev.now _)
  unfold spec_InvM.f
  refine Ev.bind em ?_
  cases om : okM m with
  | false =>
    rw [show invR m = ([], false) by unfold invR; rw [if_neg (by simp [om])]]
    exact Ev.neg (by simp) bad
  | true =>
    obtain ⟨a1, a2, a3, a4, _⟩ := of_okM om
    refine Ev.pos rfl (Ev.pos (by omega) ?_)
    rw [rdL_zero]
    by_cases hn : m.length = (m.headD []).length
    · rw [show invR m = gjRes m.length (gj m.length (ent m)) by unfold invR; rw [if_pos ⟨om, hn⟩]]
      rw [show (((m.length : Nat) : Int) != (((m.headD []).length : Nat) : Int)) = false by rw [← hn]; simp]
      have e := eq_mk om
      rw [← hn] at e
      have hb : bytesM m.length (ent m) := fun i hi j hj => (rd_ent om hi (by omega)).2
      have o := spec_OneM_ev ((m.length : Nat) : Int)
      unfold oneR at o
      rw [if_pos (by omega), Int.toNat_natCast] at o
      have last := spec_cols_ev a2 m.length 0 (ent m) idf (by omega) hb (fun i _ j _ => idf_lt i j)
      have L0 : ∀ d i : Nat, i ≤ m.length → m.length - i = d → Ev (fun k => spec_InvM.l0 k m (m.length : Int) ((List.range i).map fun i => rowN m.length (ent m i)) (i : Int)) (gjRes m.length (gj m.length (ent m))) := by
        intro d
        induction d with
        | zero =>
          intro i hi hd
          obtain rfl : i = m.length := by omega
          refine Ev.step (f := fun k => (spec_OneM.f k (m.length : Int)).bind fun t => spec_InvM.l1 k (m.length : Int) (mk m.length m.length (ent m)) t 0) (fun k => ?_) (Ev.bind o last)
          simp only [spec_InvM.l0]
          rw [if_neg (by omega)]
          rfl
        | succ d ih =>
          intro i hi hd
          have z := ih (i + 1) (by omega) (by omega)
          rw [range_map_succ] at z
          have hl := rdL_len om (i := i) (by omega)
          have er : rd_L2 m (i : Int) = rowN m.length (ent m i) := by
            have q := rdL_mk (n := m.length) (ent m) (i := i) (by omega)
            rw [← e] at q
            exact q
          refine Ev.step (fun k => ?_) z
          simp only [spec_InvM.l0]
          rw [if_pos (by omega), Option.bind_some, if_pos (by omega), if_pos (by omega), if_pos (by rw [hl, List.length_nil]; omega), if_pos (by rw [List.length_map, List.length_range]; omega), er, wsucc (by omega), List.nil_append]
      refine Ev.step (fun k => ?_) (L0 m.length 0 (by omega) (by omega))
      simp only [spec_InvM.j0, Bool.false_eq_true, if_false]
      rfl
    rw [show invR m = ([], false) by unfold invR; rw [if_neg (fun h => hn h.2)]]
    rw [show (((m.length : Nat) : Int) != (((m.headD []).length : Nat) : Int)) = true from bne_iff_ne.mpr (by omega)]
    exact bad
def codeN (k m : Nat) : List (List Int) := mk k k idf ++ (List.range m).map fun i => (List.range k).map fun j => ginv (((k + i) ^^^ j : Nat) : Int)
def codeR (s : Int) : List (List Int) := if s = 1 then codeN 2 1 else if s = 2 then codeN 3 2 else if s = 3 then codeN 4 2 else []
theorem codeN_size {k m : Nat} (hk : k ≤ 8) (hm : m ≤ 8) : (codeN k m).length = k + m ∧ ∀ x ∈ codeN k m, x.length ≤ 8 := by
  unfold codeN
  refine ⟨by rw [List.length_append, mk_length, List.length_map, List.length_range], fun x hx => ?_⟩
  rcases List.mem_append.mp hx with h | h
  · exact mk_rows hk x h
  obtain ⟨i, _, rfl⟩ := List.mem_map.mp h
  rw [List.length_map, List.length_range]
  exact hk
theorem codeR_size (s : Int) : (codeR s).length ≤ 8 ∧ ∀ x ∈ codeR s, x.length ≤ 8 := by
  unfold codeR
  by_cases h1 : s = 1
  · rw [if_pos h1]
    have := codeN_size (k := 2) (m := 1) (by omega) (by omega)
    exact ⟨by omega, this.2⟩
  rw [if_neg h1]
  by_cases h2 : s = 2
  · rw [if_pos h2]
    have := codeN_size (k := 3) (m := 2) (by omega) (by omega)
    exact ⟨by omega, this.2⟩
  rw [if_neg h2]
  by_cases h3 : s = 3
  · rw [if_pos h3]
    have := codeN_size (k := 4) (m := 2) (by omega) (by omega)
    exact ⟨by omega, this.2⟩
  rw [if_neg h3]
  simp
theorem xor_small {k i j : Nat} (hk : k ≤ 8) (hi : i ≤ 8) (hj : j ≤ 8) : (k + i) ^^^ j < 2 ^ 8 := Nat.xor_lt_two_pow (by omega) (by omega)
theorem impl_code_ev {k m : Nat} (hk : k ≤ 8) (hm : m ≤ 8) : Ev (fun q => impl_CodeOf.l0 q (k : Int) (m : Int) (mk k k idf) 0) (codeN k m) := by
  have L1 : ∀ (i : Nat), i < m → ∀ (out v : List (List Int)), out.length ≤ 16 → Ev (fun q => impl_CodeOf.l0 q (k : Int) (m : Int) (out ++ [(List.range k).map fun j => ginv (((k + i) ^^^ j : Nat) : Int)]) ((i + 1 : Nat) : Int)) v →
      ∀ d j : Nat, j ≤ k → k - j = d → Ev (fun q => impl_CodeOf.l1 q (k : Int) (m : Int) out (i : Int) ((List.range j).map (fun j => ginv (((k + i) ^^^ j : Nat) : Int)) ++ List.replicate d 0) (k : Int) (j : Int)) v := by
    intro i hi out v ho h d
    induction d with
    | zero =>
      intro j hj hd
      obtain rfl : j = k := by omega
      refine Ev.step (fun q => ?_) h
      simp only [impl_CodeOf.l1]
      rw [if_neg (by omega), if_pos (by omega), wsucc (by omega), List.replicate_zero, List.append_nil]
    | succ d ih =>
      intro j hj hd
      have z := ih (j + 1) (by omega) (by omega)
      rw [range_map_succ, List.append_assoc] at z
      have x8 := xor_small (k := k) (i := i) (j := j) hk (by omega) (by omega)
      have e := impl_InvG_ev (a := (((k + i) ^^^ j : Nat) : Int)) (by omega) (by omega)
      refine Ev.step (f := fun q => (impl_InvG.f q (((k + i) ^^^ j : Nat) : Int)).bind fun t => impl_CodeOf.l1 q (k : Int) (m : Int) out (i : Int) (((List.range j).map (fun j => ginv (((k + i) ^^^ j : Nat) : Int)) ++ List.replicate (d + 1) 0).set j t) (k : Int) ((j + 1 : Nat) : Int)) (fun q => ?_) (Ev.bind e ?_)
      · simp only [impl_CodeOf.l1]
        rw [if_pos (by omega), wadd (by omega), bits_xor64 (by omega) (by omega)]
        refine congrArg (Option.bind _) (funext fun t => ?_)
        rw [if_pos (by omega), if_pos (by rw [List.length_append, List.length_map, List.length_range, List.length_replicate]; omega), wsucc (by omega), Int.toNat_natCast]
      have s := set_midI ((List.range j).map (fun j => ginv (((k + i) ^^^ j : Nat) : Int))) 0 (ginv (((k + i) ^^^ j : Nat) : Int)) (List.replicate d 0)
      rw [List.length_map, List.length_range] at s
      rw [List.replicate_succ, s]
      exact z
  have L0 : ∀ d i : Nat, i ≤ m → m - i = d → Ev (fun q => impl_CodeOf.l0 q (k : Int) (m : Int) (mk k k idf ++ (List.range i).map fun i => (List.range k).map fun j => ginv (((k + i) ^^^ j : Nat) : Int)) (i : Int)) (codeN k m) := by
    intro d
    induction d with
    | zero =>
      intro i hi hd
      obtain rfl : i = m := by omega
      refine Ev.step (f := fun _ => some (codeN k i)) (fun q => ?_) (Ev.now _)
      simp only [impl_CodeOf.l0]
      rw [if_neg (by omega)]
      rfl
    | succ d ih =>
      intro i hi hd
      have z := ih (i + 1) (by omega) (by omega)
      rw [range_map_succ, ← List.append_assoc] at z
      have y := L1 i (by omega) _ _ (by rw [List.length_append, mk_length, List.length_map, List.length_range]; omega) z k 0 (by omega) (by omega)
      refine Ev.step (fun q => ?_) y
      simp only [impl_CodeOf.l0]
      rw [if_pos (by omega), if_pos (by omega), if_pos (by omega), Option.bind_some, Int.toNat_natCast, List.length_replicate]
      rfl
  have y := L0 m 0 (by omega) (by omega)
  simpa using y
theorem impl_CodeOf_ev (s : Int) : Ev (fun q => impl_CodeOf.f q s) (codeR s) := by
  have one (n : Nat) (h1 : 1 ≤ n) (h8 : n ≤ 8) : Ev (fun q => impl_OneM.f q (n : Int)) (mk n n idf) := by
    have h := impl_OneM_ev (n : Int)
    unfold oneR at h
    rw [if_pos (by omega), Int.toNat_natCast] at h
    exact h
  unfold impl_CodeOf.f impl_SchemaOf.f codeR
  by_cases h1 : s = 1
  · simp only [if_pos h1, Option.bind_some, if_true]
    exact Ev.bind (one 2 (by omega) (by omega)) (impl_code_ev (k := 2) (m := 1) (by omega) (by omega))
  simp only [if_neg h1]
  by_cases h2 : s = 2
  · simp only [if_pos h2, Option.bind_some, if_true]
    exact Ev.bind (one 3 (by omega) (by omega)) (impl_code_ev (k := 3) (m := 2) (by omega) (by omega))
  simp only [if_neg h2]
  by_cases h3 : s = 3
  · simp only [if_pos h3, Option.bind_some, if_true]
    exact Ev.bind (one 4 (by omega) (by omega)) (impl_code_ev (k := 4) (m := 2) (by omega) (by omega))
  simp only [if_neg h3, Option.bind_some, Bool.false_eq_true, if_false]
  exact Ev.now _
theorem spec_code_ev {k m : Nat} (hk : k ≤ 8) (hm : m ≤ 8) : Ev (fun q => spec_CodeOf.l0 q (k : Int) (m : Int) (mk k k idf) 0) (codeN k m) := by
  have L1 : ∀ (i : Nat), i < m → ∀ (out v : List (List Int)), out.length ≤ 16 → Ev (fun q => spec_CodeOf.l0 q (k : Int) (m : Int) (out ++ [(List.range k).map fun j => ginv (((k + i) ^^^ j : Nat) : Int)]) ((i + 1 : Nat) : Int)) v →
      ∀ d j : Nat, j ≤ k → k - j = d → Ev (fun q => spec_CodeOf.l1 q (k : Int) (m : Int) out (i : Int) ((List.range j).map (fun j => ginv (((k + i) ^^^ j : Nat) : Int))) (j : Int)) v := by
    intro i hi out v ho h d
    induction d with
    | zero =>
      intro j hj hd
      obtain rfl : j = k := by omega
      refine Ev.step (fun q => ?_) h
      simp only [spec_CodeOf.l1]
      rw [if_neg (by omega), if_pos (by omega), wsucc (by omega)]
    | succ d ih =>
      intro j hj hd
      have z := ih (j + 1) (by omega) (by omega)
      rw [range_map_succ] at z
      have x8 := xor_small (k := k) (i := i) (j := j) hk (by omega) (by omega)
      have e := spec_InvG_ev (a := (((k + i) ^^^ j : Nat) : Int)) (by omega) (by omega)
      refine Ev.step (f := fun q => (spec_InvG.f q (((k + i) ^^^ j : Nat) : Int)).bind fun t => spec_CodeOf.l1 q (k : Int) (m : Int) out (i : Int) ((List.range j).map (fun j => ginv (((k + i) ^^^ j : Nat) : Int)) ++ [t]) ((j + 1 : Nat) : Int)) (fun q => ?_) (Ev.bind e z)
      simp only [spec_CodeOf.l1]
      rw [if_pos (by omega), wadd (by omega), bits_xor64 (by omega) (by omega)]
      refine congrArg (Option.bind _) (funext fun t => ?_)
      rw [if_pos (by rw [List.length_map, List.length_range]; omega), wsucc (by omega)]
  have L0 : ∀ d i : Nat, i ≤ m → m - i = d → Ev (fun q => spec_CodeOf.l0 q (k : Int) (m : Int) (mk k k idf ++ (List.range i).map fun i => (List.range k).map fun j => ginv (((k + i) ^^^ j : Nat) : Int)) (i : Int)) (codeN k m) := by
    intro d
    induction d with
    | zero =>
      intro i hi hd
      obtain rfl : i = m := by omega
      refine Ev.step (f := fun _ => some (codeN k i)) (fun q => ?_) (Ev.now _)
      simp only [spec_CodeOf.l0]
      rw [if_neg (by omega)]
      rfl
    | succ d ih =>
      intro i hi hd
      have z := ih (i + 1) (by omega) (by omega)
      rw [range_map_succ, ← List.append_assoc] at z
      have y := L1 i (by omega) _ _ (by rw [List.length_append, mk_length, List.length_map, List.length_range]; omega) z k 0 (by omega) (by omega)
      refine Ev.step (fun q => ?_) y
      simp only [spec_CodeOf.l0]
      rw [if_pos (by omega)]
      rfl
  have y := L0 m 0 (by omega) (by omega)
  simpa using y
theorem spec_CodeOf_ev (s : Int) : Ev (fun q => spec_CodeOf.f q s) (codeR s) := by
  have one (n : Nat) (h1 : 1 ≤ n) (h8 : n ≤ 8) : Ev (fun q => spec_OneM.f q (n : Int)) (mk n n idf) := by
    have h := spec_OneM_ev (n : Int)
    unfold oneR at h
    rw [if_pos (by omega), Int.toNat_natCast] at h
    exact h
  unfold spec_CodeOf.f spec_SchemaOf.f codeR
  by_cases h1 : s = 1
  · simp only [if_pos h1, Option.bind_some, if_true, List.nil_append]
    exact Ev.bind (one 2 (by omega) (by omega)) (Ev.pos (by rw [mk_length]; simp) (spec_code_ev (k := 2) (m := 1) (by omega) (by omega)))
  simp only [if_neg h1]
  by_cases h2 : s = 2
  · simp only [if_pos h2, Option.bind_some, if_true, List.nil_append]
    exact Ev.bind (one 3 (by omega) (by omega)) (Ev.pos (by rw [mk_length]; simp) (spec_code_ev (k := 3) (m := 2) (by omega) (by omega)))
  simp only [if_neg h2]
  by_cases h3 : s = 3
  · simp only [if_pos h3, Option.bind_some, if_true, List.nil_append]
    exact Ev.bind (one 4 (by omega) (by omega)) (Ev.pos (by rw [mk_length]; simp) (spec_code_ev (k := 4) (m := 2) (by omega) (by omega)))
  simp only [if_neg h3, Option.bind_some, Bool.false_eq_true, if_false]
  exact Ev.now _
def rowsOf (c : List (List Int)) (t : List Nat) : List (List Int) := t.map fun i => c.getD i []
theorem rowsOf_snoc (c : List (List Int)) (t : List Nat) (i : Nat) : rowsOf c t ++ [rd_L2 c (i : Int)] = rowsOf c (t ++ [i]) := by
  unfold rowsOf rd_L2
  rw [List.map_append, Int.toNat_natCast]
  rfl
theorem rowsOf_length (c : List (List Int)) (t : List Nat) : (rowsOf c t).length = t.length := by simp [rowsOf]
theorem rowsOf_rows {c : List (List Int)} {N : Nat} (h : ∀ x ∈ c, x.length ≤ N) (t : List Nat) : ∀ x ∈ rowsOf c t, x.length ≤ N := by
  intro x hx
  unfold rowsOf at hx
  obtain ⟨i, _, rfl⟩ := List.mem_map.mp hx
  by_cases hi : i < c.length
  · rw [List.getD_eq_getElem?_getD, List.getElem?_eq_getElem hi]
    exact h _ (List.getElem_mem hi)
  rw [List.getD_eq_getElem?_getD, List.getElem?_eq_none (by omega)]
  simp
def kOf (s : Int) : Nat := if s = 1 then 2 else if s = 2 then 3 else if s = 3 then 4 else 0
def mOf (s : Int) : Nat := if s = 1 then 1 else if s = 2 then 2 else if s = 3 then 2 else 0
def okS (s : Int) : Bool := decide (s = 1 ∨ s = 2 ∨ s = 3)
theorem schema_cases (s : Int) : s = 1 ∨ s = 2 ∨ s = 3 ∨ (s ≠ 1 ∧ s ≠ 2 ∧ s ≠ 3) := by omega
theorem impl_schema (s : Int) : impl_SchemaOf.f s = some ((kOf s : Int), (mOf s : Int), okS s) := by
  rcases schema_cases s with rfl | rfl | rfl | ⟨h1, h2, h3⟩
  · rfl
  · rfl
  · rfl
  unfold impl_SchemaOf.f kOf mOf okS
  rw [if_neg h1, if_neg h2, if_neg h3, if_neg h1, if_neg h2, if_neg h3, if_neg h1, if_neg h2, if_neg h3, decide_eq_false (by omega)]
  rfl
theorem spec_schema (s : Int) : spec_SchemaOf.f s = some ((kOf s : Int), (mOf s : Int), okS s) := by
  rcases schema_cases s with rfl | rfl | rfl | ⟨h1, h2, h3⟩
  · rfl
  · rfl
  · rfl
  unfold spec_SchemaOf.f kOf mOf okS
  rw [if_neg h1, if_neg h2, if_neg h3, if_neg h1, if_neg h2, if_neg h3, if_neg h1, if_neg h2, if_neg h3, decide_eq_false (by omega)]
  rfl
theorem kOf_le (s : Int) : kOf s ≤ 4 ∧ mOf s ≤ 2 := by
  unfold kOf mOf
  rcases schema_cases s with rfl | rfl | rfl | ⟨h1, h2, h3⟩
  · decide
  · decide
  · decide
  rw [if_neg h1, if_neg h2, if_neg h3, if_neg h1, if_neg h2, if_neg h3]
  decide
def zerosT (n : Nat) : ByteArray := ⟨(List.replicate n 0).toArray⟩
theorem zerosT_size (n : Nat) : (zerosT n).size = n := by simp [zerosT, ByteArray.size]
def most (u : List ByteArray) : Nat := u.foldl (fun a x => max a x.size) 0
theorem most_snoc (u : List ByteArray) (x : ByteArray) : most (u ++ [x]) = max (most u) x.size := by simp [most]
theorem foldl_max_le (u : List ByteArray) : ∀ a : Nat, a ≤ u.foldl (fun a x => max a x.size) a ∧ ∀ x ∈ u, x.size ≤ u.foldl (fun a x => max a x.size) a := by
  induction u with
  | nil => intro a; simp
  | cons y u ih =>
    intro a
    obtain ⟨h1, h2⟩ := ih (max a y.size)
    refine ⟨?_, fun x hx => ?_⟩
    · simp only [List.foldl_cons]
      omega
    simp only [List.foldl_cons]
    rcases List.mem_cons.mp hx with rfl | hx
    · omega
    exact h2 x hx
theorem most_le {u : List ByteArray} : ∀ x ∈ u, x.size ≤ most u := (foldl_max_le u 0).2
theorem most_bound {u : List ByteArray} {N : Nat} (h : ∀ x ∈ u, x.size ≤ N) : most u ≤ N := by
  have key : ∀ (u : List ByteArray) (a : Nat), a ≤ N → (∀ x ∈ u, x.size ≤ N) → u.foldl (fun a x => max a x.size) a ≤ N := by
    intro u
    induction u with
    | nil => intro a ha _; exact ha
    | cons y u ih =>
      intro a ha hu
      have := hu y (by simp)
      exact ih (max a y.size) (by omega) (fun x hx => hu x (by simp [hx]))
  exact key u 0 (Nat.zero_le _) h
def padT (n : Nat) (u : ByteArray) : ByteArray := u ++ zerosT (n - u.size)
theorem padT_size {n : Nat} {u : ByteArray} (h : u.size ≤ n) : (padT n u).size = n := by
  unfold padT
  rw [ByteArray.size_append, zerosT_size]
  omega
theorem addL_pad : ∀ (l : List UInt8) (n : Nat), l.length ≤ n → addL l (List.replicate n 0) = l ++ List.replicate (n - l.length) 0
  | [], n, _ => rfl
  | x :: l, 0, h => by simp at h
  | x :: l, n + 1, h => by
    simp only [List.length_cons] at h
    rw [List.replicate_succ, addL, addL_pad l n (by omega), UInt8.xor_zero, List.length_cons, Nat.add_sub_add_right]
    rfl
theorem addT_pad {u : ByteArray} {n : Nat} (h : u.size ≤ n) : addT u (zerosT n) = padT n u := by
  apply str_ext
  unfold padT
  rw [str_app]
  exact addL_pad u.data.toList n h
def encV (s : Int) (u : List ByteArray) : List ByteArray × Bool := if okS s = true ∧ u.length = kOf s ∧ most u ≤ 200 then (applyR (codeR s) (u.map (padT (most u))), true) else ([], false)
theorem encV_size (s : Int) (u : List ByteArray) : (encV s u).1.length ≤ 8 := by
  unfold encV
  by_cases h : okS s = true ∧ u.length = kOf s ∧ most u ≤ 200
  · rw [if_pos h]
    exact applyR_size _ _
  rw [if_neg h]
  simp
theorem rdB_at {u : List ByteArray} {i : Nat} (h : i < u.length) : rdOf ByteArray.empty u (i : Int) = u[i] := by
  unfold rdOf
  rw [Int.toNat_natCast, List.getD_eq_getElem?_getD, List.getElem?_eq_getElem h]
  rfl
theorem rdBo_at {l : List Bool} {i : Nat} (h : i < l.length) : rdOf false l (i : Int) = l[i] := by
  unfold rdOf
  rw [Int.toNat_natCast, List.getD_eq_getElem?_getD, List.getElem?_eq_getElem h]
  rfl
theorem toBo_ev (l : List Bool) (hl : l.length ≤ 1099511627776) : Ev (fun k => laws_toBoolS.f k l) l := by
  have key : ∀ d (i : Nat), i ≤ l.length → l.length - i = d → Ev (fun k => laws_toBoolS.l0 k l (l.take i ++ List.replicate (l.length - i) false) (i : Int)) l := by
    intro d
    induction d with
    | zero =>
      intro i hi hd
      obtain rfl : i = l.length := by omega
      rw [List.take_length, Nat.sub_self, List.replicate_zero, List.append_nil]
      exact Ev.step (f := fun _ => some l) (fun k => by simp only [laws_toBoolS.l0]; rw [if_neg (by omega)]) (Ev.now _)
    | succ d ih =>
      intro i hi hd
      have hlt : i < l.length := by omega
      have hlen : (l.take i ++ List.replicate (l.length - i) false).length = l.length := by simp; omega
      have hset : (l.take i ++ List.replicate (l.length - i) false).set i l[i] = l.take (i + 1) ++ List.replicate (l.length - (i + 1)) false := by
        have h1 : (l.take i).length = i := by simp; omega
        rw [List.set_append_right _ _ (by omega), h1, Nat.sub_self, show l.length - i = (l.length - (i + 1)) + 1 by omega, List.replicate_succ, List.set_cons_zero, List.take_succ_eq_append_getElem hlt, List.append_assoc]
        rfl
      have := ih (i + 1) (by omega) (by omega)
      rw [← hset] at this
      refine Ev.step (fun k => ?_) this
      simp only [laws_toBoolS.l0]
      rw [if_pos (by omega), if_pos (by omega), if_pos (by rw [hlen]; omega), rdBo_at hlt, wsucc (by omega), Int.toNat_natCast]
  have h0 := key l.length 0 (by omega) (by omega)
  rw [List.take_zero, List.nil_append, Nat.sub_zero] at h0
  unfold laws_toBoolS.f
  simp only [Int.toNat_natCast, if_pos (show 0 ≤ (l.length : Int) by omega), if_pos (show l.length ≤ 281474976710656 by omega)]
  exact h0
theorem eqBo_ev (l : List Bool) (hl : l.length ≤ 4611686018427387904) : Ev (fun k => laws_eqBoolS.f k l l) true := by
  have key : ∀ d (i : Nat), i ≤ l.length → l.length - i = d → Ev (fun k => laws_eqBoolS.l0 k l l (i : Int)) true := by
    intro d
    induction d with
    | zero =>
      intro i hi hd
      exact Ev.step (f := fun _ => some true) (fun k => by simp only [laws_eqBoolS.l0]; rw [if_neg (by omega)]) (Ev.now _)
    | succ d ih =>
      intro i hi hd
      refine Ev.step (fun k => ?_) (ih (i + 1) (by omega) (by omega))
      simp only [laws_eqBoolS.l0, bne_self_eq_false, Bool.false_eq_true, if_false]
      rw [if_pos (by omega), if_pos (by omega), if_pos (by omega), wsucc (by omega)]
  unfold laws_eqBoolS.f
  exact Ev.pos rfl (key l.length 0 (by omega) (by omega))
theorem markBo_ex (l : List Bool) (m : Nat) (hl : l.length + m ≤ 4611686018427387904) : ∃ r : List Bool, Ev (fun k => laws_markBoolS.f k l (m : Int)) (((m + l.length : Nat) : Int), r) := by
  have key : ∀ d (i : Nat) (q : List Bool), q.length = l.length → i ≤ l.length → l.length - i = d → ∃ r : List Bool, Ev (fun k => laws_markBoolS.l0 k q ((m + i : Nat) : Int) (i : Int)) (((m + l.length : Nat) : Int), r) := by
    intro d
    induction d with
    | zero =>
      intro i q hq hi hd
      obtain rfl : i = l.length := by omega
      exact ⟨q, Ev.step (f := fun _ => some (((m + l.length : Nat) : Int), q)) (fun k => by simp only [laws_markBoolS.l0]; rw [if_neg (by omega)]) (Ev.now _)⟩
    | succ d ih =>
      intro i q hq hi hd
      obtain ⟨r, hr⟩ := ih (i + 1) (q.set i ((Int.tmod ((m + i : Nat) : Int) 3) == 0)) (by rw [List.length_set]; exact hq) (by omega) (by omega)
      refine ⟨r, Ev.step (fun k => ?_) hr⟩
      simp only [laws_markBoolS.l0]
      rw [if_pos (by omega), if_pos (by omega), wsucc (by omega), wsucc (by omega), Int.toNat_natCast]
      rfl
  exact key l.length 0 l rfl (by omega) (by omega)
def bAt (h : List Bool) (i : Nat) : Bool := h.getD i false
def tAt (l : List ByteArray) (i : Nat) : ByteArray := l.getD i ByteArray.empty
def textsOf (l : List ByteArray) (t : List Nat) : List ByteArray := t.map (tAt l)
theorem textsOf_snoc (l : List ByteArray) (t : List Nat) (i : Nat) : textsOf l t ++ [rdOf ByteArray.empty l (i : Int)] = textsOf l (t ++ [i]) := by
  unfold textsOf tAt rdOf
  rw [List.map_append, Int.toNat_natCast]
  rfl
theorem textsOf_length (l : List ByteArray) (t : List Nat) : (textsOf l t).length = t.length := by simp [textsOf]
theorem textsOf_size {l : List ByteArray} {N : Nat} (h : ∀ x ∈ l, x.size ≤ N) (t : List Nat) : ∀ x ∈ textsOf l t, x.size ≤ N := by
  intro x hx
  unfold textsOf at hx
  obtain ⟨i, _, rfl⟩ := List.mem_map.mp hx
  exact unit_size h i
theorem rd_tAt (l : List ByteArray) (i : Nat) : rdOf ByteArray.empty l (i : Int) = tAt l i := by
  unfold rdOf tAt
  rw [Int.toNat_natCast]
theorem rd_bAt (l : List Bool) (i : Nat) : rdOf false l (i : Int) = bAt l i := by
  unfold rdOf bAt
  rw [Int.toNat_natCast]
def pickG (l : List ByteArray) (h : List Bool) : Nat → Nat → List Nat → Option (List Nat)
  | 0, _, t => some t
  | d + 1, i, t => if bAt h i = true then (if t ≠ [] ∧ (tAt l i).size ≠ (tAt l (t.headD 0)).size then none else pickG l h d (i + 1) (t ++ [i])) else pickG l h d (i + 1) t
def decEnd (s : Int) (l : List ByteArray) (t : List Nat) : List ByteArray × Bool :=
  if t.length < kOf s then ([], false) else if (invR (rowsOf (codeR s) (t.take (kOf s)))).2 = true then (applyR (invR (rowsOf (codeR s) (t.take (kOf s)))).1 (textsOf l (t.take (kOf s))), true) else ([], false)
def decV (s : Int) (l : List ByteArray) (h : List Bool) : List ByteArray × Bool :=
  if okS s = true ∧ l.length = kOf s + mOf s ∧ h.length = kOf s + mOf s then (match pickG l h (kOf s + mOf s) 0 [] with
    | none => ([], false)
    | some t => decEnd s l t) else ([], false)
theorem decEnd_size (s : Int) (l : List ByteArray) (t : List Nat) : (decEnd s l t).1.length ≤ 8 := by
  unfold decEnd
  by_cases h : t.length < kOf s
  · rw [if_pos h]
    simp
  rw [if_neg h]
  by_cases h2 : (invR (rowsOf (codeR s) (t.take (kOf s)))).2 = true
  · rw [if_pos h2]
    exact applyR_size _ _
  rw [if_neg h2]
  simp
theorem decV_size (s : Int) (l : List ByteArray) (h : List Bool) : (decV s l h).1.length ≤ 8 := by
  unfold decV
  by_cases c : okS s = true ∧ l.length = kOf s + mOf s ∧ h.length = kOf s + mOf s
  · rw [if_pos c]
    cases pickG l h (kOf s + mOf s) 0 [] with
    | none => simp
    | some t => exact decEnd_size s l t
  rw [if_neg c]
  simp
theorem code_length {s : Int} (h : okS s = true) : (codeR s).length = kOf s + mOf s := by
  have c := of_decide_eq_true h
  rcases c with rfl | rfl | rfl
  · rfl
  · rfl
  rfl
theorem invR_size (m : List (List Int)) : (invR m).1.length ≤ 8 ∧ ∀ x ∈ (invR m).1, x.length ≤ 8 := by
  unfold invR
  by_cases h : okM m = true ∧ m.length = (m.headD []).length
  · rw [if_pos h]
    obtain ⟨_, a2, _⟩ := of_okM h.1
    cases gj m.length (ent m) with
    | none => exact ⟨by simp [gjRes], by simp [gjRes]⟩
    | some B =>
      refine ⟨?_, mk_rows a2⟩
      show (mk m.length m.length B).length ≤ 8
      rw [mk_length]
      exact a2
  rw [if_neg h]
  exact ⟨by simp, by simp⟩
theorem rowsOf_take (c : List (List Int)) (t : List Nat) (n : Nat) : (rowsOf c t).take n = rowsOf c (t.take n) := by simp [rowsOf, List.map_take]
theorem textsOf_take (l : List ByteArray) (t : List Nat) (n : Nat) : (textsOf l t).take n = textsOf l (t.take n) := by simp [textsOf, List.map_take]
theorem head_text {l : List ByteArray} {t : List Nat} (h : t ≠ []) : rdOf ByteArray.empty (textsOf l t) 0 = tAt l (t.headD 0) := by
  cases t with
  | nil => exact absurd rfl h
  | cons a t => rfl
theorem dec_rows (s : Int) (t : List Nat) : (rowsOf (codeR s) t).length = t.length ∧ ∀ x ∈ rowsOf (codeR s) t, x.length ≤ 8 := ⟨rowsOf_length _ _, rowsOf_rows (codeR_size s).2 t⟩
theorem impl_dec_loop {s : Int} {l : List ByteArray} {h : List Bool} (hs : okS s = true) (hl : l.length = kOf s + mOf s) (hh : h.length = kOf s + mOf s) (hu : ∀ x ∈ l, x.size ≤ 1073741824) :
    ∀ d i (t : List Nat), i + d = kOf s + mOf s → t.length ≤ i → Ev (fun k => impl_Decode.l0 k l (kOf s : Int) (codeR s) (rowsOf (codeR s) t) (textsOf l t) h (h.length : Int) (i : Int)) (match pickG l h d i t with
      | none => ([], false)
      | some t' => decEnd s l t') := by
  have kk := kOf_le s
  have cl := code_length hs
  intro d
  induction d with
  | zero =>
    intro i t hi ht
    rw [pickG]
    have r1 := rowsOf_length (codeR s) t
    have r2 := textsOf_length l t
    show Ev _ (decEnd s l t)
    unfold decEnd
    by_cases c : t.length < kOf s
    · rw [if_pos c]
      refine Ev.step (f := fun _ => some ([], false)) (fun k => ?_) (Ev.now _)
      simp only [impl_Decode.l0]
      rw [if_neg (by omega), if_pos (by omega)]
    rw [if_neg c]
    have dr := dec_rows s (t.take (kOf s))
    have iv : impl_InvM.f (rowsOf (codeR s) (t.take (kOf s))) = some (invR (rowsOf (codeR s) (t.take (kOf s)))) := by
      unfold impl_InvM.f
      exact if_pos (sizeOk_iff.mpr ⟨by rw [dr.1, List.length_take]; omega, fun x hx => by have := dr.2 x hx; omega⟩)
    have z := invR_size (rowsOf (codeR s) (t.take (kOf s)))
    have ap := impl_ApplyM_ev (invR (rowsOf (codeR s) (t.take (kOf s)))).1 (textsOf l (t.take (kOf s))) (by omega) (fun x hx => by have := z.2 x hx; omega) (textsOf_size hu _)
    refine Ev.step (f := fun k => (impl_InvM.f (rowsOf (codeR s) (t.take (kOf s)))).bind fun bt224 => if bt224.2 = true then ((impl_ApplyM.f k bt224.1 (textsOf l (t.take (kOf s)))).bind fun t233 => some (t233, true)) else some ([], false)) (fun k => ?_) ?_
    · simp only [impl_Decode.l0]
      rw [if_neg (by omega), if_neg (by omega), if_pos (by omega), if_pos (by omega), Int.toNat_natCast, rowsOf_take, textsOf_take]
      simp only [if_pos (show (kOf s : Int) ≤ ((textsOf l t).length : Int) by omega)]
    refine Ev.some_bind iv ?_
    by_cases c2 : (invR (rowsOf (codeR s) (t.take (kOf s)))).2 = true
    · rw [if_pos c2]
      exact Ev.pos c2 (Ev.bind ap (Ev.now _))
    rw [if_neg c2]
    exact Ev.neg c2 (Ev.now _)
  | succ d ih =>
    intro i t hi ht
    have r1 := rowsOf_length (codeR s) t
    have r2 := textsOf_length l t
    rw [pickG]
    cases hb : bAt h i with
    | false =>
      rw [if_neg (by simp)]
      refine Ev.step (fun k => ?_) (ih (i + 1) t (by omega) (by omega))
      simp only [impl_Decode.l0]
      rw [if_pos (by omega), if_pos (by omega), if_pos (by omega), rd_bAt, hb, if_neg (by simp), wsucc (by omega)]
    | true =>
      rw [if_pos rfl]
      have z := ih (i + 1) (t ++ [i]) (by omega) (by simp; omega)
      rw [← rowsOf_snoc, ← textsOf_snoc] at z
      by_cases c : t = []
      · rw [if_neg (fun e => e.1 c)]
        refine Ev.step (fun k => ?_) z
        simp only [impl_Decode.l0]
        rw [if_pos (by omega), if_pos (by omega), if_pos (by omega), rd_bAt, hb, if_pos rfl, if_neg (by rw [r2, c]; simp), if_pos (by omega), Option.bind_some, if_pos (by rw [r1, List.length_singleton]; omega), if_pos (by omega), Option.bind_some, if_pos (by rw [r2, List.length_singleton]; omega), wsucc (by omega)]
      have hp : 0 < t.length := List.length_pos_iff.mpr c
      by_cases c2 : (tAt l i).size = (tAt l (t.headD 0)).size
      · rw [if_neg (fun e => e.2 c2)]
        refine Ev.step (fun k => ?_) z
        simp only [impl_Decode.l0]
        rw [if_pos (by omega), if_pos (by omega), if_pos (by omega), rd_bAt, hb, if_pos rfl, if_pos (by omega), if_pos (by omega), if_pos (by omega), head_text c, if_pos (by rw [rd_tAt]; omega), if_pos (by omega), Option.bind_some, if_pos (by rw [r1, List.length_singleton]; omega), Option.bind_some, if_pos (by rw [r2, List.length_singleton]; omega), wsucc (by omega)]
      rw [if_pos ⟨c, c2⟩]
      refine Ev.step (f := fun _ => some ([], false)) (fun k => ?_) (Ev.now _)
      simp only [impl_Decode.l0]
      rw [if_pos (by omega), if_pos (by omega), if_pos (by omega), rd_bAt, hb, if_pos rfl, if_pos (by omega), if_pos (by omega), if_pos (by omega), head_text c, if_neg (by rw [rd_tAt]; omega)]
theorem impl_Decode_ev (s : Int) (l : List ByteArray) (h : List Bool) (hll : l.length ≤ 1099511627776) (hhl : h.length ≤ 1099511627776) (hu : ∀ x ∈ l, x.size ≤ 1073741824) : Ev (fun k => impl_Decode.f k s l h) (decV s l h) := by
  have kk := kOf_le s
  have w := wadd (a := kOf s) (b := mOf s) (by omega)
  have no : ¬ (okS s = true ∧ l.length = kOf s + mOf s ∧ h.length = kOf s + mOf s) → decV s l h = ([], false) := fun hc => by
    unfold decV
    rw [if_neg hc]
  have j : Ev (fun k => impl_Decode.j0 k s l h (kOf s : Int) true) ([], false) := Ev.step (f := fun _ => some ([], false)) (fun k => by simp only [impl_Decode.j0, if_true]) (Ev.now _)
  unfold impl_Decode.f
  refine Ev.some_bind (impl_schema s) ?_
  by_cases h1 : okS s = true
  · refine Ev.pos h1 ?_
    simp only [w]
    by_cases h2 : l.length = kOf s + mOf s
    · refine Ev.pos (by omega) ?_
      by_cases h3 : h.length = kOf s + mOf s
      · rw [show ((h.length : Int) != ((kOf s + mOf s : Nat) : Int)) = false from bne_eq_false_iff_eq.mpr (by omega)]
        refine Ev.step (f := fun k => (impl_CodeOf.f k s).bind fun t185 => impl_Decode.l0 k l (kOf s : Int) t185 [] [] h (h.length : Int) 0) (fun k => by simp only [impl_Decode.j0, Bool.false_eq_true, if_false]) ?_
        refine Ev.bind (impl_CodeOf_ev s) ?_
        unfold decV
        rw [if_pos ⟨h1, h2, h3⟩]
        exact impl_dec_loop h1 h2 h3 hu (kOf s + mOf s) 0 [] (by omega) (by simp)
      rw [show ((h.length : Int) != ((kOf s + mOf s : Nat) : Int)) = true from bne_iff_ne.mpr (by omega), no (fun e => h3 e.2.2)]
      exact j
    rw [no (fun e => h2 e.2.1)]
    exact Ev.neg (by omega) j
  rw [no (fun e => h1 e.1)]
  exact Ev.neg h1 j
theorem take_snoc_lt {t : List Nat} {n i : Nat} (h : t.length < n) : (t ++ [i]).take n = t.take n ++ [i] := by
  rw [List.take_of_length_le (by simp; omega), List.take_of_length_le (by omega)]
theorem take_snoc_ge {t : List Nat} {n i : Nat} (h : ¬ t.length < n) : (t ++ [i]).take n = t.take n := List.take_append_of_le_length (by omega)
def sizeV (l : List ByteArray) (t : List Nat) : Int := if t = [] then -1 else ((tAt l (t.headD 0)).size : Int)
theorem sizeV_snoc {l : List ByteArray} {t : List Nat} {i : Nat} (h : t ≠ [] → (tAt l i).size = (tAt l (t.headD 0)).size) : sizeV l (t ++ [i]) = ((tAt l i).size : Int) := by
  unfold sizeV
  rw [if_neg (by simp)]
  cases t with
  | nil => rfl
  | cons a t =>
    have := h (by simp)
    show ((tAt l a).size : Int) = _
    rw [this]
    rfl
theorem spec_dec_loop {s : Int} {l : List ByteArray} {h : List Bool} (hs : okS s = true) (hl : l.length = kOf s + mOf s) (hh : h.length = kOf s + mOf s) (hu : ∀ x ∈ l, x.size ≤ 1073741824) :
    ∀ d i (t : List Nat), i + d = kOf s + mOf s → t.length ≤ i → Ev (fun k => spec_Decode.l0 k l h (kOf s : Int) (mOf s : Int) (rowsOf (codeR s) (t.take (kOf s))) (textsOf l (t.take (kOf s))) (sizeV l t) (codeR s) (i : Int)) (match pickG l h d i t with
      | none => ([], false)
      | some t' => decEnd s l t') := by
  have kk := kOf_le s
  have cl := code_length hs
  have W := AM (wadd (a := kOf s) (b := mOf s) (by omega))
  intro d
  induction d with
  | zero =>
    intro i t hi ht
    rw [pickG]
    have r1 := rowsOf_length (codeR s) (t.take (kOf s))
    rw [List.length_take] at r1
    show Ev _ (decEnd s l t)
    unfold decEnd
    by_cases c : t.length < kOf s
    · rw [if_pos c]
      refine Ev.step (f := fun _ => some ([], false)) (fun k => ?_) (Ev.now _)
      simp only [spec_Decode.l0]
      rw [W.out, if_neg (by omega), if_pos (by omega)]
    rw [if_neg c]
    have dr := dec_rows s (t.take (kOf s))
    have iv := spec_InvM_ev (rowsOf (codeR s) (t.take (kOf s))) (by rw [dr.1, List.length_take]; omega) (fun x hx => by have := dr.2 x hx; omega)
    have z := invR_size (rowsOf (codeR s) (t.take (kOf s)))
    have ap := spec_ApplyM_ev (invR (rowsOf (codeR s) (t.take (kOf s)))).1 (textsOf l (t.take (kOf s))) (by omega) (fun x hx => by have := z.2 x hx; omega) (textsOf_size hu _)
    refine Ev.step (f := fun k => (spec_InvM.f k (rowsOf (codeR s) (t.take (kOf s)))).bind fun bt224 => if bt224.2 = true then ((spec_ApplyM.f k bt224.1 (textsOf l (t.take (kOf s)))).bind fun t233 => some (t233, true)) else some ([], false)) (fun k => ?_) ?_
    · simp only [spec_Decode.l0]
      rw [W.out, if_neg (by omega), if_neg (by omega)]
    refine Ev.bind iv ?_
    by_cases c2 : (invR (rowsOf (codeR s) (t.take (kOf s)))).2 = true
    · rw [if_pos c2]
      exact Ev.pos c2 (Ev.bind ap (Ev.now _))
    rw [if_neg c2]
    exact Ev.neg c2 (Ev.now _)
  | succ d ih =>
    intro i t hi ht
    have r1 := rowsOf_length (codeR s) (t.take (kOf s))
    rw [List.length_take] at r1
    have r2 := textsOf_length l (t.take (kOf s))
    rw [List.length_take] at r2
    rw [pickG]
    cases hb : bAt h i with
    | false =>
      rw [if_neg (by simp)]
      refine Ev.step (fun k => ?_) (ih (i + 1) t (by omega) (by omega))
      simp only [spec_Decode.l0]
      rw [W.out, if_pos (by omega), if_pos (by omega), if_pos (by omega), rd_bAt, hb, if_neg (by simp), wsucc (by omega)]
    | true =>
      rw [if_pos rfl]
      have z := ih (i + 1) (t ++ [i]) (by omega) (by simp; omega)
      have go : (t ≠ [] → (tAt l i).size = (tAt l (t.headD 0)).size) → Ev (fun k => spec_Decode.j2 k l h (kOf s : Int) (mOf s : Int) (rowsOf (codeR s) (t.take (kOf s))) (textsOf l (t.take (kOf s))) (codeR s) (i : Int) false) (match pickG l h d (i + 1) (t ++ [i]) with
          | none => ([], false)
          | some t' => decEnd s l t') := by
        intro hz
        rw [sizeV_snoc hz] at z
        by_cases c : t.length < kOf s
        · rw [take_snoc_lt c, ← rowsOf_snoc, ← textsOf_snoc] at z
          refine Ev.step (fun k => ?_) z
          simp only [spec_Decode.j2, Bool.false_eq_true, if_false]
          rw [if_pos (by omega), if_pos (by omega), if_pos (by omega), if_pos (by omega), if_pos (by omega), if_pos (by omega), wsucc (by omega), rd_tAt]
        rw [take_snoc_ge c] at z
        refine Ev.step (fun k => ?_) z
        simp only [spec_Decode.j2, Bool.false_eq_true, if_false]
        rw [if_pos (by omega), if_pos (by omega), if_neg (by omega), wsucc (by omega), rd_tAt]
      by_cases c : t = []
      · rw [if_neg (fun e => e.1 c)]
        have sv : sizeV l t = -1 := by unfold sizeV; rw [if_pos c]
        refine Ev.step (fun k => ?_) (go (fun e => absurd c e))
        simp only [spec_Decode.l0]
        rw [W.out, if_pos (by omega), if_pos (by omega), if_pos (by omega), rd_bAt, hb, if_pos rfl, sv, if_neg (by omega)]
      have sv : sizeV l t = ((tAt l (t.headD 0)).size : Int) := by unfold sizeV; rw [if_neg c]
      by_cases c2 : (tAt l i).size = (tAt l (t.headD 0)).size
      · rw [if_neg (fun e => e.2 c2)]
        refine Ev.step (fun k => ?_) (go (fun _ => c2))
        simp only [spec_Decode.l0]
        rw [W.out, if_pos (by omega), if_pos (by omega), if_pos (by omega), rd_bAt, hb, if_pos rfl, sv, if_pos (by omega), if_pos (by omega), rd_tAt, show (((tAt l i).size : Int) != ((tAt l (t.headD 0)).size : Int)) = false from bne_eq_false_iff_eq.mpr (by omega)]
      rw [if_pos ⟨c, c2⟩]
      refine Ev.step (f := fun k => spec_Decode.j2 k l h (kOf s : Int) (mOf s : Int) (rowsOf (codeR s) (t.take (kOf s))) (textsOf l (t.take (kOf s))) (codeR s) (i : Int) true) (fun k => ?_) (Ev.step (f := fun _ => some ([], false)) (fun k => by simp only [spec_Decode.j2, if_true]) (Ev.now _))
      simp only [spec_Decode.l0]
      rw [W.out, if_pos (by omega), if_pos (by omega), if_pos (by omega), rd_bAt, hb, if_pos rfl, sv, if_pos (by omega), if_pos (by omega), rd_tAt, show (((tAt l i).size : Int) != ((tAt l (t.headD 0)).size : Int)) = true from bne_iff_ne.mpr (by omega)]
theorem spec_Decode_ev (s : Int) (l : List ByteArray) (h : List Bool) (hll : l.length ≤ 1099511627776) (hhl : h.length ≤ 1099511627776) (hu : ∀ x ∈ l, x.size ≤ 1073741824) : Ev (fun k => spec_Decode.f k s l h) (decV s l h) := by
  have kk := kOf_le s
  have w := wadd (a := kOf s) (b := mOf s) (by omega)
  have no : ¬ (okS s = true ∧ l.length = kOf s + mOf s ∧ h.length = kOf s + mOf s) → decV s l h = ([], false) := fun hc => by
    unfold decV
    rw [if_neg hc]
  have j : Ev (fun k => spec_Decode.j0 k s l h (kOf s : Int) (mOf s : Int) true) ([], false) := Ev.step (f := fun _ => some ([], false)) (fun k => by simp only [spec_Decode.j0, if_true]) (Ev.now _)
  unfold spec_Decode.f
  refine Ev.some_bind (spec_schema s) ?_
  by_cases h1 : okS s = true
  · refine Ev.pos h1 ?_
    simp only [w]
    by_cases h2 : l.length = kOf s + mOf s
    · refine Ev.pos (by omega) ?_
      by_cases h3 : h.length = kOf s + mOf s
      · rw [show ((h.length : Int) != ((kOf s + mOf s : Nat) : Int)) = false from bne_eq_false_iff_eq.mpr (by omega)]
        refine Ev.step (f := fun k => (spec_CodeOf.f k s).bind fun t460 => spec_Decode.l0 k l h (kOf s : Int) (mOf s : Int) [] [] (-1) t460 0) (fun k => by simp only [spec_Decode.j0, Bool.false_eq_true, if_false]) ?_
        refine Ev.bind (spec_CodeOf_ev s) ?_
        unfold decV
        rw [if_pos ⟨h1, h2, h3⟩]
        have z := spec_dec_loop h1 h2 h3 hu (kOf s + mOf s) 0 [] (by omega) (by simp)
        rw [List.take_nil] at z
        exact z
      rw [show ((h.length : Int) != ((kOf s + mOf s : Nat) : Int)) = true from bne_iff_ne.mpr (by omega), no (fun e => h3 e.2.2)]
      exact j
    rw [no (fun e => h2 e.2.1)]
    exact Ev.neg (by omega) j
  rw [no (fun e => h1 e.1)]
  exact Ev.neg h1 j
theorem mx_nat (a b : Nat) : mx (a : Int) (b : Int) = ((max a b : Nat) : Int) := by
  unfold mx
  by_cases h : (a : Int) < (b : Int)
  · rw [if_pos h]
    omega
  rw [if_neg h]
  omega
theorem repeat_zeros (n : Nat) (h : n ≤ 1073741824) : strings_Repeat.f (⟨#[0]⟩ : ByteArray) (n : Int) = some (zerosT n) := by
  unfold strings_Repeat.f
  rw [if_pos ⟨by omega, by omega, by rw [Int.toNat_natCast]; show 1 * n ≤ _; omega⟩, Int.toNat_natCast]
  congr 1
  have e : ∀ n : Nat, Lib.repeatL [0] n = List.replicate n 0 := by
    intro n
    induction n with
    | zero => rfl
    | succ n ih =>
      rw [Lib.repeatL, ih, List.replicate_succ]
      rfl
  show (⟨(Lib.repeatL [0] n).toArray⟩ : ByteArray) = zerosT n
  rw [e]
  rfl
theorem impl_Encode_ev (s : Int) (u : List ByteArray) (hl : u.length ≤ 1099511627776) (hu : ∀ x ∈ u, x.size ≤ 1073741824) : Ev (fun k => impl_Encode.f k s u) (encV s u) := by
  have mb := most_bound hu
  have cs := codeR_size s
  have fill : okS s = true ∧ u.length = kOf s ∧ most u ≤ 200 → ∀ d i : Nat, i ≤ u.length → u.length - i = d → Ev (fun k => impl_Encode.l1 k s ((most u : Nat) : Int) ((u.take i).map (padT (most u))) u (u.length : Int) (i : Int)) (encV s u) := by
    intro hc d
    induction d with
    | zero =>
      intro i hi hd
      obtain rfl : i = u.length := by omega
      have a := impl_ApplyM_ev (codeR s) (u.map (padT (most u))) (by omega) (fun r hr => by have := cs.2 r hr; omega) (fun x hx => by
        obtain ⟨y, hy, rfl⟩ := List.mem_map.mp hx
        rw [padT_size (most_le y hy)]
        exact mb)
      refine Ev.step (f := fun k => (impl_CodeOf.f k s).bind fun t169 => (impl_ApplyM.f k t169 (u.map (padT (most u)))).bind fun t172 => some (t172, true)) (fun k => ?_) ?_
      · simp only [impl_Encode.l1]
        rw [if_neg (by omega), List.take_length]
      unfold encV
      rw [if_pos hc]
      exact Ev.bind (impl_CodeOf_ev s) (Ev.bind a (Ev.now _))
    | succ d ih =>
      intro i hi hd
      have ci : i < u.length := by omega
      have z := ih (i + 1) (by omega) (by omega)
      rw [List.take_succ_eq_append_getElem ci, List.map_append] at z
      have hx := most_le u[i] (List.getElem_mem ci)
      have kk := (kOf_le s).1
      have ww : wrap64 (((most u : Nat) : Int) - (u[i].size : Int)) = ((most u - u[i].size : Nat) : Int) := by rw [w64 (by omega) (by omega)]; omega
      refine Ev.step (fun k => ?_) z
      simp only [impl_Encode.l1]
      rw [if_pos (by omega), if_pos (by omega), if_pos (by omega), rdB_at ci, ww, repeat_zeros _ (by omega), Option.bind_some, if_pos (by rw [zerosT_size]; omega), if_pos (by simp; omega), wsucc (by omega)]
      rfl
  have size : ∀ d i : Nat, i ≤ u.length → u.length - i = d → Ev (fun k => impl_Encode.l0 k s u (kOf s : Int) (okS s) ((most (u.take i) : Nat) : Int) u (u.length : Int) (i : Int)) (encV s u) := by
    intro d
    induction d with
    | zero =>
      intro i hi hd
      obtain rfl : i = u.length := by omega
      have no : ¬ (okS s = true ∧ u.length = kOf s ∧ most u ≤ 200) → Ev (fun k => impl_Encode.j1 k s u ((most u : Nat) : Int) true) (encV s u) := by
        intro hc
        refine Ev.step (f := fun _ => some ([], false)) (fun k => by simp only [impl_Encode.j1, if_true]) ?_
        unfold encV
        rw [if_neg hc]
        exact Ev.now _
      refine Ev.step (f := fun k => if okS s = true then (if (u.length : Int) = (kOf s : Int) then impl_Encode.j1 k s u ((most u : Nat) : Int) (decide (((most u : Nat) : Int) > 200)) else impl_Encode.j1 k s u ((most u : Nat) : Int) true) else impl_Encode.j1 k s u ((most u : Nat) : Int) true) (fun k => ?_) ?_
      · simp only [impl_Encode.l0]
        rw [if_neg (by omega), List.take_length]
      by_cases h1 : okS s = true
      · refine Ev.pos h1 ?_
        by_cases h2 : u.length = kOf s
        · refine Ev.pos (by omega) ?_
          by_cases h3 : most u ≤ 200
          · rw [decide_eq_false (show ¬ ((most u : Nat) : Int) > 200 by omega)]
            refine Ev.step (f := fun k => impl_Encode.l1 k s ((most u : Nat) : Int) [] u (u.length : Int) 0) (fun k => by simp only [impl_Encode.j1, Bool.false_eq_true, if_false]) ?_
            exact fill ⟨h1, h2, h3⟩ u.length 0 (by omega) (by omega)
          rw [decide_eq_true (show ((most u : Nat) : Int) > 200 by omega)]
          exact no (fun h => h3 h.2.2)
        exact Ev.neg (by omega) (no (fun h => h2 h.2.1))
      exact Ev.neg h1 (no (fun h => h1 h.1))
    | succ d ih =>
      intro i hi hd
      have ci : i < u.length := by omega
      have z := ih (i + 1) (by omega) (by omega)
      rw [List.take_succ_eq_append_getElem ci, most_snoc, ← mx_nat] at z
      refine Ev.step (fun k => ?_) z
      simp only [impl_Encode.l0]
      rw [if_pos (by omega), if_pos (by omega), if_pos (by omega), rdB_at ci, wsucc (by omega)]
  unfold impl_Encode.f
  exact Ev.some_bind (impl_schema s) (size u.length 0 (by omega) (by omega))
theorem zeros_nums (n : Nat) : strOfNums (List.replicate n 0) = zerosT n := by
  apply str_ext
  unfold strOfNums zerosT
  simp
theorem spec_Encode_ev (s : Int) (u : List ByteArray) (hl : u.length ≤ 1099511627776) (hu : ∀ x ∈ u, x.size ≤ 1073741824) : Ev (fun k => spec_Encode.f k s u) (encV s u) := by
  have mb := most_bound hu
  have cs := codeR_size s
  have kk := (kOf_le s).1
  have no : ¬ (okS s = true ∧ u.length = kOf s ∧ most u ≤ 200) → encV s u = ([], false) := fun hc => by
    unfold encV
    rw [if_neg hc]
  have j : Ev (fun k => spec_Encode.j0 k s u (kOf s : Int) true) ([], false) := Ev.step (f := fun _ => some ([], false)) (fun k => by simp only [spec_Encode.j0, if_true]) (Ev.now _)
  have fill : okS s = true ∧ u.length = kOf s ∧ most u ≤ 200 → ∀ d i : Nat, i ≤ u.length → u.length - i = d → Ev (fun k => spec_Encode.l1 k s u (kOf s : Int) ((most u : Nat) : Int) ((u.take i).map (padT (most u))) (i : Int)) (encV s u) := by
    intro hc d
    induction d with
    | zero =>
      intro i hi hd
      obtain rfl : i = u.length := by omega
      have a := spec_ApplyM_ev (codeR s) (u.map (padT (most u))) (by omega) (fun r hr => by have := cs.2 r hr; omega) (fun x hx => by
        obtain ⟨y, hy, rfl⟩ := List.mem_map.mp hx
        rw [padT_size (most_le y hy)]
        exact mb)
      refine Ev.step (f := fun k => (spec_CodeOf.f k s).bind fun t169 => (spec_ApplyM.f k t169 (u.map (padT (most u)))).bind fun t172 => some (t172, true)) (fun k => ?_) ?_
      · simp only [spec_Encode.l1]
        rw [if_neg (by omega), List.take_length]
      unfold encV
      rw [if_pos hc]
      exact Ev.bind (spec_CodeOf_ev s) (Ev.bind a (Ev.now _))
    | succ d ih =>
      intro i hi hd
      have ci : i < u.length := by omega
      have z := ih (i + 1) (by omega) (by omega)
      rw [List.take_succ_eq_append_getElem ci, List.map_append] at z
      have hx := most_le u[i] (List.getElem_mem ci)
      have ad := spec_AddText_ev u[i] (zerosT (most u)) (by omega) (by rw [zerosT_size]; omega)
      rw [addT_pad hx] at ad
      refine Ev.step (f := fun k => (spec_AddText.f k u[i] (zerosT (most u))).bind fun t358 => if ((u.take i).map (padT (most u))).length < 8796093022208 then spec_Encode.l1 k s u (kOf s : Int) ((most u : Nat) : Int) ((u.take i).map (padT (most u)) ++ [t358]) ((i + 1 : Nat) : Int) else none) (fun k => ?_) (Ev.bind ad (Ev.pos (by simp; omega) z))
      simp only [spec_Encode.l1]
      rw [if_pos (by omega), if_pos (by omega), if_pos (by omega), if_pos (by omega), Int.toNat_natCast, if_pos (by omega), rdB_at ci, zeros_nums, wsucc (by omega)]
  have size : okS s = true → u.length = kOf s → ∀ d i : Nat, i ≤ u.length → u.length - i = d → most (u.take i) ≤ 200 → Ev (fun k => spec_Encode.l0 k s u (kOf s : Int) ((most (u.take i) : Nat) : Int) (i : Int)) (encV s u) := by
    intro h1 h2 d
    induction d with
    | zero =>
      intro i hi hd hm
      obtain rfl : i = u.length := by omega
      rw [List.take_length] at hm ⊢
      refine Ev.step (f := fun k => spec_Encode.l1 k s u (kOf s : Int) ((most u : Nat) : Int) [] 0) (fun k => ?_) (fill ⟨h1, h2, hm⟩ u.length 0 (by omega) (by omega))
      simp only [spec_Encode.l0]
      rw [if_neg (by omega)]
    | succ d ih =>
      intro i hi hd hm
      have ci : i < u.length := by omega
      have sn : most (u.take (i + 1)) = max (most (u.take i)) u[i].size := by rw [List.take_succ_eq_append_getElem ci, most_snoc]
      by_cases c : u[i].size ≤ 200
      · have z := ih (i + 1) (by omega) (by omega) (by omega)
        rw [sn] at z
        refine Ev.step (fun k => ?_) z
        simp only [spec_Encode.l0]
        rw [if_pos (by omega), if_pos (by omega), if_pos (by omega), rdB_at ci, if_neg (by omega), wsucc (by omega)]
        by_cases c2 : (u[i].size : Int) > ((most (u.take i) : Nat) : Int)
        · rw [if_pos c2, show max (most (u.take i)) u[i].size = u[i].size by omega]
        rw [if_neg c2, show max (most (u.take i)) u[i].size = most (u.take i) by omega]
      have hx := most_le u[i] (List.getElem_mem ci)
      rw [no (fun h => by omega)]
      refine Ev.step (f := fun _ => some ([], false)) (fun k => ?_) (Ev.now _)
      simp only [spec_Encode.l0]
      rw [if_pos (by omega), if_pos (by omega), if_pos (by omega), rdB_at ci, if_pos (by omega)]
  unfold spec_Encode.f
  refine Ev.some_bind (spec_schema s) ?_
  by_cases h1 : okS s = true
  · refine Ev.pos h1 ?_
    by_cases h2 : u.length = kOf s
    · rw [show ((u.length : Int) != (kOf s : Int)) = false from bne_eq_false_iff_eq.mpr (by omega)]
      refine Ev.step (f := fun k => spec_Encode.l0 k s u (kOf s : Int) 0 0) (fun k => by simp only [spec_Encode.j0, Bool.false_eq_true, if_false]) ?_
      exact size h1 h2 u.length 0 (by omega) (by omega) (by simp [most])
    rw [show ((u.length : Int) != (kOf s : Int)) = true from bne_iff_ne.mpr (by omega), no (fun h => h2 h.2.1)]
    exact j
  rw [no (fun h => h1 h.1)]
  exact Ev.neg h1 j
theorem applyR_texts {m : List (List Int)} {u : List ByteArray} {N : Nat} (h : ∀ x ∈ u, x.size ≤ N) : ∀ x ∈ applyR m u, x.size ≤ N := by
  unfold applyR
  by_cases c : okM m = true ∧ (m.headD []).length = u.length
  · rw [if_pos c]
    intro x hx
    unfold applyM at hx
    obtain ⟨i, _, rfl⟩ := List.mem_map.mp hx
    exact tsum_size (fun k _ => by rw [mulT_size]; exact unit_size h k)
  rw [if_neg c]
  simp
theorem decV_texts {s : Int} {l : List ByteArray} {h : List Bool} {N : Nat} (hu : ∀ x ∈ l, x.size ≤ N) : ∀ x ∈ (decV s l h).1, x.size ≤ N := by
  unfold decV
  by_cases c : okS s = true ∧ l.length = kOf s + mOf s ∧ h.length = kOf s + mOf s
  · rw [if_pos c]
    cases pickG l h (kOf s + mOf s) 0 [] with
    | none => simp
    | some t =>
      show ∀ x ∈ (decEnd s l t).1, x.size ≤ N
      unfold decEnd
      by_cases c2 : t.length < kOf s
      · rw [if_pos c2]
        simp
      rw [if_neg c2]
      by_cases c3 : (invR (rowsOf (codeR s) (t.take (kOf s)))).2 = true
      · rw [if_pos c3]
        exact applyR_texts (textsOf_size hu _)
      rw [if_neg c3]
      simp
  rw [if_neg c]
  simp
def rebV (s : Int) (l : List ByteArray) (h : List Bool) : List ByteArray × Bool := if (decV s l h).2 = true then encV s (decV s l h).1 else ([], false)
theorem rebV_size (s : Int) (l : List ByteArray) (h : List Bool) : (rebV s l h).1.length ≤ 8 := by
  unfold rebV
  by_cases c : (decV s l h).2 = true
  · rw [if_pos c]
    exact encV_size _ _
  rw [if_neg c]
  simp
theorem impl_Rebuild_ev (s : Int) (l : List ByteArray) (h : List Bool) (hll : l.length ≤ 1099511627776) (hhl : h.length ≤ 1099511627776) (hu : ∀ x ∈ l, x.size ≤ 1073741824) : Ev (fun k => impl_Rebuild.f k s l h) (rebV s l h) := by
  have e8 := decV_size s l h
  unfold impl_Rebuild.f rebV
  refine Ev.bind (impl_Decode_ev s l h hll hhl hu) ?_
  by_cases c : (decV s l h).2 = true
  · rw [if_pos c]
    exact Ev.pos c (Ev.bind (impl_Encode_ev s (decV s l h).1 (by omega) (decV_texts hu)) (Ev.now _))
  rw [if_neg c]
  exact Ev.neg c (Ev.now _)
theorem spec_Rebuild_ev (s : Int) (l : List ByteArray) (h : List Bool) (hll : l.length ≤ 1099511627776) (hhl : h.length ≤ 1099511627776) (hu : ∀ x ∈ l, x.size ≤ 1073741824) : Ev (fun k => spec_Rebuild.f k s l h) (rebV s l h) := by
  have e8 := decV_size s l h
  unfold spec_Rebuild.f rebV
  refine Ev.bind (spec_Decode_ev s l h hll hhl hu) ?_
  by_cases c : (decV s l h).2 = true
  · rw [if_pos c]
    exact Ev.pos c (Ev.bind (spec_Encode_ev s (decV s l h).1 (by omega) (decV_texts hu)) (Ev.now _))
  rw [if_neg c]
  exact Ev.neg c (Ev.now _)
theorem markText_ex (m : Nat) (hm : m ≤ 1000000000000) : ∃ t, Ev (fun k => laws_markText.f k (m : Int)) t := by
  have key : ∀ (f : Nat) (x : Nat) (acc : ByteArray), x < 10 ^ f → x ≤ 1000000000000 → acc.size + f ≤ 1000 → ∃ t, Ev (fun k => laws_markText.l0 k (x : Int) acc) t := by
    intro f
    induction f with
    | zero =>
      intro x acc hx hf ha
      refine ⟨_, Ev.step (fun k => ?_) (Ev.now ((⟨#[109]⟩ : ByteArray) ++ acc))⟩
      simp only [laws_markText.l0]
      rw [if_neg (by omega), if_pos (by omega)]
    | succ f ih =>
      intro x acc hx hf ha
      by_cases h : x = 0
      · refine ⟨_, Ev.step (fun k => ?_) (Ev.now ((⟨#[109]⟩ : ByteArray) ++ acc))⟩
        simp only [laws_markText.l0]
        rw [if_neg (by omega), if_pos (by omega)]
      have hp : 10 ^ (f + 1) = 10 * 10 ^ f := by rw [Nat.pow_succ]; omega
      have hs : ∀ c : Int, (strOfNums [c]).size = 1 := fun c => by rw [strOfNums_size]; rfl
      obtain ⟨t, ht⟩ := ih (x / 10) (strOfNums [(wrap64 (48 + (Int.tmod (x : Int) 10))) % 256] ++ acc) (by omega) (by omega) (by rw [ByteArray.size_append, hs]; omega)
      refine ⟨t, Ev.step (fun k => ?_) ht⟩
      simp only [laws_markText.l0, Option.bind_some]
      rw [if_pos (by omega), if_pos (by rw [hs]; omega), Int.tdiv_eq_ediv_of_nonneg (by omega), w64 (x := (x : Int) / 10) (by omega) (by omega)]
      rfl
  unfold laws_markText.f
  by_cases h : (m : Int) ≤ 0
  · simp only [if_pos h]
    exact ⟨_, Ev.now _⟩
  simp only [if_neg h]
  exact key 13 m _ (by omega) hm (by decide)
theorem markText_fun : ∃ T : Nat → ByteArray, ∀ m : Nat, m ≤ 1000000000000 → Ev (fun k => laws_markText.f k (m : Int)) (T m) := by
  refine ⟨fun m => if h : m ≤ 1000000000000 then Classical.choose (markText_ex m h) else ByteArray.empty, fun m h => ?_⟩
  simp only [dif_pos h]
  exact Classical.choose_spec (markText_ex m h)
def marked (T : Nat → ByteArray) (m n : Nat) : List ByteArray := (List.range n).map fun i => T (m + i)
theorem marked_length (T : Nat → ByteArray) (m n : Nat) : (marked T m n).length = n := by simp [marked]
theorem markS_ev (T : Nat → ByteArray) (hT : ∀ m : Nat, m ≤ 1000000000000 → Ev (fun k => laws_markText.f k (m : Int)) (T m)) (l : List ByteArray) (m : Nat) (hl : l.length + m ≤ 1000000000000) :
    Ev (fun k => laws_markStringS.f k l (m : Int)) (((m + l.length : Nat) : Int), marked T m l.length) := by
  have key : ∀ d (i : Nat), i ≤ l.length → l.length - i = d → Ev (fun k => laws_markStringS.l0 k (marked T m i ++ l.drop i) ((m + i : Nat) : Int) (i : Int)) (((m + l.length : Nat) : Int), marked T m l.length) := by
    intro d
    induction d with
    | zero =>
      intro i hi hd
      obtain rfl : i = l.length := by omega
      rw [List.drop_length, List.append_nil]
      exact Ev.step (f := fun _ => some (((m + l.length : Nat) : Int), marked T m l.length)) (fun k => by simp only [laws_markStringS.l0]; rw [marked_length, if_neg (by omega)]) (Ev.now _)
    | succ d ih =>
      intro i hi hd
      have hlen : (marked T m i ++ l.drop i).length = l.length := by rw [List.length_append, marked_length, List.length_drop]; omega
      have hset : (marked T m i ++ l.drop i).set i (T (m + i)) = marked T m (i + 1) ++ l.drop (i + 1) := by
        rw [List.set_append_right _ _ (by rw [marked_length]; omega), marked_length, Nat.sub_self, List.drop_eq_getElem_cons (by omega), List.set_cons_zero]
        simp [marked, List.range_succ]
      refine Ev.step (fun k => ?_) (Ev.bind (hT (m + i) (by omega)) (f := fun k t => laws_markStringS.l0 k ((marked T m i ++ l.drop i).set i t) ((m + (i + 1) : Nat) : Int) ((i + 1 : Nat) : Int)) ?_)
      · simp only [laws_markStringS.l0]
        rw [hlen, if_pos (by omega), wsucc (n := m + i) (by omega), wsucc (n := i) (by omega)]
        simp only [if_pos (show 0 ≤ (i : Int) by omega), Int.toNat_natCast]
        rfl
      simp only [hset]
      exact ih (i + 1) (by omega) (by omega)
  have := key l.length 0 (by omega) (by omega)
  exact this
theorem heldS_ev (T : Nat → ByteArray) (hT : ∀ m : Nat, m ≤ 1000000000000 → Ev (fun k => laws_markText.f k (m : Int)) (T m)) (n m : Nat) (hl : n + m ≤ 1000000000000) :
    Ev (fun k => laws_heldStringS.f k (marked T m n) (m : Int)) ((m + n : Nat) : Int) := by
  have key : ∀ d (i : Nat), i ≤ n → n - i = d → Ev (fun k => laws_heldStringS.l0 k (marked T m n) ((m + i : Nat) : Int) (i : Int)) ((m + n : Nat) : Int) := by
    intro d
    induction d with
    | zero =>
      intro i hi hd
      obtain rfl : i = n := by omega
      exact Ev.step (f := fun _ => some ((m + i : Nat) : Int)) (fun k => by simp only [laws_heldStringS.l0]; rw [marked_length, if_neg (by omega)]) (Ev.now _)
    | succ d ih =>
      intro i hi hd
      have hg : rdOf ByteArray.empty (marked T m n) (i : Int) = T (m + i) := by
        rw [rdB_nat (by rw [marked_length]; omega)]
        simp [marked]
      refine Ev.step (fun k => ?_) (Ev.bind (hT (m + i) (by omega)) (f := fun k t => if (T (m + i)).toList = t.toList then laws_heldStringS.l0 k (marked T m n) ((m + (i + 1) : Nat) : Int) ((i + 1 : Nat) : Int) else some (-1)) ?_)
      · simp only [laws_heldStringS.l0]
        rw [marked_length, if_pos (by omega), if_pos (by omega), hg, wsucc (n := m + i) (by omega), wsucc (n := i) (by omega)]
        rfl
      simp only [if_true]
      exact ih (i + 1) (by omega) (by omega)
  exact key n 0 (by omega) (by omega)
theorem FnExactRebuild : laws_FnExactRebuild.Pure := by
  intro s l h _ hu hh0
  obtain ⟨h1, h2⟩ := hu
  have hml : l.length ≤ 9223372036854775807 := h1
  obtain ⟨T, hT⟩ := markText_fun
  obtain ⟨r, hr, hr2⟩ := szStrS_ex l hml (fun y hy => h2 y hy) 1048576 (by omega) (by omega)
  refine Ev.rounds ?_
  unfold laws_FnExactRebuild.f
  by_cases ch : (h.length : Int) > 1048576
  · exact Ev.pos ch (Ev.now _)
  refine Ev.neg ch (Ev.bind hr ?_)
  rcases hr2 with c | ⟨r0, r1, b1, b2⟩
  · exact Ev.pos c (Ev.now _)
  refine Ev.neg (by omega) ?_
  have hl : l.length ≤ 1048576 := by omega
  have hs : ∀ x ∈ l, x.size ≤ 1073741824 := fun x hx => by have := b2 x hx; omega
  have tS := toStrS_ev l (by omega)
  have tB := toBo_ev h (by omega)
  have sp := spec_Rebuild_ev s l h (by omega) (by omega) hs
  have im := impl_Rebuild_ev s l h (by omega) (by omega) hs
  have e8 := rebV_size s l h
  obtain ⟨v, b, e⟩ : ∃ v b, rebV s l h = (v, b) := ⟨_, _, rfl⟩
  rw [e] at sp im e8
  replace e8 : v.length ≤ 8 := e8
  have ev := eqS_ev v (by omega)
  have eu := eqS_ev l (by omega)
  have eb := eqBo_ev h (by omega)
  have m1 := markS_ev T hT l 1 (by omega)
  obtain ⟨hq, m3⟩ := markBo_ex h (1 + l.length) (by omega)
  have m2 := markS_ev T hT v 1 (by omega)
  have hd := heldS_ev T hT v.length 1 (by omega)
  have j2 : Ev (fun k => laws_FnExactRebuild.j2 k (marked T 1 v.length) ((1 + v.length : Nat) : Int) (b != b)) true := by
    refine Ev.step (f := fun k => (laws_heldStringS.f k (marked T 1 v.length) 1).bind fun t325 => if t325 < 0 then some false else if t325 = ((1 + v.length : Nat) : Int) then some true else some false) (fun k => by simp only [laws_FnExactRebuild.j2, bne_self_eq_false, Bool.false_eq_true, if_false]) ?_
    exact Ev.bind hd (Ev.neg (by omega) (Ev.pos (by omega) (Ev.now _)))
  have j1 : Ev (fun k => laws_FnExactRebuild.j1 k s l h v b v (b != b)) true := by
    refine Ev.step (f := fun k => (laws_markStringS.f k v 1).bind fun bt314 => (laws_heldStringS.f k bt314.2 1).bind fun t316 => if t316 < 0 then some false else if t316 = bt314.1 then ((laws_toStringS.f k l).bind fun t317 => (laws_toBoolS.f k h).bind fun t318 => (impl_Rebuild.f k s t317 t318).bind fun bt320 => (laws_eqStringS.f k bt320.1 v).bind fun t324 => if t324 = true then laws_FnExactRebuild.j2 k bt314.2 bt314.1 (bt320.2 != b) else laws_FnExactRebuild.j2 k bt314.2 bt314.1 true) else some false) (fun k => by simp only [laws_FnExactRebuild.j1, bne_self_eq_false, Bool.false_eq_true, if_false]) ?_
    exact Ev.bind m2 (Ev.bind hd (Ev.neg (by omega) (Ev.pos rfl (Ev.bind tS (Ev.bind tB (Ev.bind im (Ev.bind ev (Ev.pos rfl j2))))))))
  refine Ev.bind tS (Ev.bind tB (Ev.bind sp (Ev.bind tS (Ev.bind tB (Ev.bind im (Ev.bind ev (Ev.pos rfl ?_)))))))
  refine Ev.step (f := fun k => (laws_toStringS.f k l).bind fun t307 => (laws_eqStringS.f k l t307).bind fun t310 => if t310 = true then ((laws_toBoolS.f k h).bind fun t461 => (laws_eqBoolS.f k h t461).bind fun t464 => if t464 = true then ((laws_markStringS.f k l 1).bind fun bt311 => (laws_markBoolS.f k h bt311.1).bind fun bt467 => if bt467.1 < 0 then laws_FnExactRebuild.j1 k s l h v b v true else (laws_eqStringS.f k v v).bind fun t313 => if t313 = true then laws_FnExactRebuild.j1 k s l h v b v (b != b) else laws_FnExactRebuild.j1 k s l h v b v true) else some false) else some false) (fun k => by simp only [laws_FnExactRebuild.j0, bne_self_eq_false, Bool.false_eq_true, if_false]) ?_
  refine Ev.bind tS (Ev.bind eu (Ev.pos rfl (Ev.bind tB (Ev.bind eb (Ev.pos rfl (Ev.bind m1 ?_))))))
  exact Ev.bind m3 (Ev.neg (by omega) (Ev.bind ev (Ev.pos rfl j1)))
end Go.Proofs.Ytcpcphdhaboekaa.Pure
