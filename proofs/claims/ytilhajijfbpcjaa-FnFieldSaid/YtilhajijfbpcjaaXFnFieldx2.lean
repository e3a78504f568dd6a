/- What the functions of a law compute, and that their calls compute it: written by a program of this session (xprint.py), which turns the kit print at a few places. -/
import Derived.Test.YtilhajijfbpcjaaXFnFieldx0
import Derived.Test.YtilhajijfbpcjaaXFnFieldx1
namespace Go.Proofs.Ytilhajijfbpcjaa.XFnField
open Go.RowKit Go.Proofs.YtilhajijfbpcjaaW.PrintWords Go.Proofs.YtilhajijfbpcjaaW.PrintLast Go.Proofs.YtilhajijfbpcjaaW.PrintMore
attribute [local go_sem] max2_int min2_int max_two min_two max_three min_three max_four min_four   -- for this text's walks alone
set_option linter.unusedVariables false
set_option linter.unusedSimpArgs false

/-! ### impl_PowG: function 37 -/
def impl_PowG.l0 : Nat → Int → Int → Int → Int → Option (Int)
  | 0, _, _, _, _ => none
  | k + 1, x0, x1, x5, x6 => if x6 < x1 then ((impl_MulG.f k x5 x0).bind fun t140 => (impl_PowG.l0 k x0 x1 t140 (wrap64 (x6 + 1)))) else (some x5)
def impl_PowG.f (k : Nat) (a0 : Int) (a1 : Int) : Option (Int) := (impl_within.f a1 0 1000).bind fun t139 => (if t139 = true then (impl_PowG.l0 k a0 a1 1 0) else (some 0))
theorem impl_PowG.mono_l : ∀ k, (∀ y0 y1 y2 y3, LeO (impl_PowG.l0 k y0 y1 y2 y3) (impl_PowG.l0 (k + 1) y0 y1 y2 y3))
  | 0 => fun _ _ _ _ r h => by simp [impl_PowG.l0] at h
  | k + 1 => by
    have ih0 := impl_PowG.mono_l k
    · intro y0 y1 y2 y3
      unfold impl_PowG.l0
      repeat' first
      | (with_reducible exact ih0 _ _ _ _)
      | (with_reducible exact impl_MulG.mono _ _ _)
      | (with_reducible exact LeO.refl _)
      | (with_reducible exact LeO.none _)
      | (with_reducible refine LeO.ite ?_ ?_)
      | (with_reducible refine LeO.bind ?_ (fun _ => ?_))
      | exact ih0 _ _ _ _
      | exact impl_MulG.mono _ _ _
      | exact LeO.none _
      | refine LeO.ite ?_ ?_
      | refine LeO.bind ?_ (fun _ => ?_)
theorem impl_PowG.mono : ∀ a0 a1 k, LeO (impl_PowG.f k a0 a1) (impl_PowG.f (k + 1) a0 a1) := by
  intro a0 a1 k
  have ih0 := impl_PowG.mono_l k
  unfold impl_PowG.f
  repeat' first
      | (with_reducible exact ih0 _ _ _ _)
      | (with_reducible exact impl_MulG.mono _ _ _)
      | (with_reducible exact LeO.refl _)
      | (with_reducible exact LeO.none _)
      | (with_reducible refine LeO.ite ?_ ?_)
      | (with_reducible refine LeO.bind ?_ (fun _ => ?_))
      | exact ih0 _ _ _ _
      | exact impl_MulG.mono _ _ _
      | exact LeO.none _
      | refine LeO.ite ?_ ?_
      | refine LeO.bind ?_ (fun _ => ?_)
set_option maxHeartbeats 8000000 in
set_option maxRecDepth 100000 in
theorem impl_PowG.calls (k : Nat) (a0 : Int) (a1 : Int) (r : Int) (w : World) (h : impl_PowG.f k a0 a1 = some r) :
    Calls Try.prog 37 #[.int .i64 a0, .int .i64 a1] w fun e w' => e = .returned (.int .i64 r) ∧ Drawn0 w w' := by
  have H : ((impl_within.f a1 0 1000).bind fun t139 => (if t139 = true then (impl_PowG.l0 k a0 a1 1 0) else (some 0))) = some r := h
  clear h
  replace H := Option.bind_eq_some_iff.mp H
  obtain ⟨t139, A30, H⟩ := H
  replace H : (if t139 = true then (impl_PowG.l0 k a0 a1 1 0) else (some 0)) = some r := H
  have A3 := Aside0.mk A30
  clear A30
  by_cases c4 : t139 = true
  · subst c4
    have H1 : (impl_PowG.l0 k a0 a1 1 0) = some r := by rw [if_pos rfl] at H; exact H
    clear H
    have H := H1
    clear H1
    have H' := Aside0.mk H
    clear H
    go_enter Try.func37, Try.ntmps37
    go_wp2_with (first | ((with_reducible refine gate_callee (f := 65) rfl ?_); refine goesL_ (some 8) rfl rfl Try.func65 (by kernel_rfl) rfl #[.int .i64 a1, .int .i64 0, .int .i64 1000] rfl (by (try simp only [List.map_toArray, List.map_cons, List.map_nil]); first | done | rfl | (simp only [List.length_drop, List.length_take]; rfl)) ?_; (with_reducible refine (impl_within.calls a1 0 1000 true _ A3.out).mono ?_); rintro e w' ⟨rfl, ⟨nd, rfl⟩⟩; refine ⟨_, rfl, ?_⟩))
    go_loopg [5, 6] k (fun kq v5 v6 w' => ∃ (x5_1 : Int) (x6_1 : Int), v5 = .int .i64 x5_1 ∧ v6 = .int .i64 x6_1 ∧ Aside0 (impl_PowG.l0 kq a0 a1 x5_1 x6_1 = some r) ∧ Aside0 (kq ≤ k) ∧ Drawn0 w w')
    case atStart => exact ⟨(1), (0), (by first | rfl | (simp; done) | (simp [*]; done)), (by first | rfl | (simp; done) | (simp [*]; done)), H', ⟨Nat.le_refl _⟩, by repeat (first | exact Drawn0.refl _ | apply Drawn0.step)⟩
    case round =>
      clear H'
      try clear p2
      try clear c3
      try clear c4
      obtain ⟨x5_1, x6_1, rfl, rfl, HA, HK1, ⟨m1, rfl⟩⟩ := hrel
      cases gk with
      | zero => exact absurd HA.out (by simp [impl_PowG.l0])
      | succ k1 =>
        have H := HA.out
        clear HA
        simp only [impl_PowG.l0] at H
        by_cases c5 : x6_1 < a1
        · rw [if_pos c5] at H
          have c5b0 : decide (x6_1 < a1) = true := decide_eq_true c5
          clear c5
          replace H := Option.bind_eq_some_iff.mp H
          obtain ⟨t140, A60, H⟩ := H
          replace H : (impl_PowG.l0 k1 a0 a1 t140 (wrap64 (x6_1 + 1))) = some r := H
          have A6 := Aside0.mk A60
          clear A60
          have H' := Aside0.mk H
          clear H
          go_wp2_with (first | ((with_reducible refine gate_callee (f := 35) rfl ?_); refine goesL_ (some 17) rfl rfl Try.func35 (by kernel_rfl) rfl #[.int .i64 x5_1, .int .i64 a0] rfl (by (try simp only [List.map_toArray, List.map_cons, List.map_nil]); first | done | rfl | (simp only [List.length_drop, List.length_take]; rfl)) ?_; (with_reducible refine (impl_MulG.calls k1 x5_1 a0 t140 _ A6.out).mono ?_); rintro e w' ⟨rfl, ⟨nd, rfl⟩⟩; refine ⟨_, rfl, ?_⟩))
          go_roundg k1
          case measure => have := HK1.out; omega
          case rel => exact ⟨(t140), (wrap64 (x6_1 + 1)), (by first | rfl | (simp; done) | (simp [*]; done)), (by first | rfl | (simp; done) | (simp [*]; done)), H', ⟨by have := HK1.out; omega⟩, by repeat (first | exact Drawn0.refl _ | apply Drawn0.step)⟩
        · rw [if_neg c5] at H
          have c5b0 : decide (x6_1 < a1) = false := decide_eq_false c5
          clear c5
          obtain rfl := Option.some.inj H
          go_wp2
          go_ret
          exact ⟨by first | rfl | (simp; done) | (simp [*]; done), by repeat (first | exact Drawn0.refl _ | apply Drawn0.step)⟩
  · replace c4 := Bool.eq_false_iff.mpr c4
    subst c4
    have H1 : (some 0) = some r := by rw [if_neg (show ¬ (false = true) by decide)] at H; exact H
    clear H
    have H := H1
    clear H1
    obtain rfl := Option.some.inj H
    go_enter Try.func37, Try.ntmps37
    go_wp2_with (first | ((with_reducible refine gate_callee (f := 65) rfl ?_); refine goesL_ (some 8) rfl rfl Try.func65 (by kernel_rfl) rfl #[.int .i64 a1, .int .i64 0, .int .i64 1000] rfl (by (try simp only [List.map_toArray, List.map_cons, List.map_nil]); first | done | rfl | (simp only [List.length_drop, List.length_take]; rfl)) ?_; (with_reducible refine (impl_within.calls a1 0 1000 false _ A3.out).mono ?_); rintro e w' ⟨rfl, ⟨nd, rfl⟩⟩; refine ⟨_, rfl, ?_⟩))
    go_ret
    exact ⟨by first | rfl | (simp; done) | (simp [*]; done), by repeat (first | exact Drawn0.refl _ | apply Drawn0.step)⟩

/-! ### laws_FnField: function 9 -/
def laws_FnField.j0 : Nat → Int → Int → Int → Bool → Option (Bool)
  | 0, _, _, _, _ => none
  | k + 1, x4, x7, x8, x76 => if x76 = true then (some false) else ((impl_PowG.f k x4 x7).bind fun t159 => ((impl_PowG.f k x4 x8).bind fun t160 => ((impl_MulG.f k t159 t160).bind fun t161 => ((impl_PowG.f k x4 (wrap64 (x7 + x8))).bind fun t162 => (if t161 = t162 then ((impl_MulG.f k x4 1).bind fun t163 => (if t163 = x4 then ((impl_MulG.f k x4 0).bind fun t164 => (if t164 = 0 then (if x4 = 0 then ((impl_InvG.f k x4).bind fun t165 => (if t165 = 0 then ((impl_PowG.f k 2 8).bind fun t166 => (if t166 = 29 then ((impl_PowG.f k x4 (-1)).bind fun t167 => (if t167 = 0 then ((impl_PowG.f k x4 0).bind fun t168 => (some (t168 == 1))) else (some false))) else (some false))) else ((impl_MulG.f k x4 t165).bind fun t169 => (if t169 = 1 then ((impl_PowG.f k x4 255).bind fun t170 => (if t170 = 1 then ((impl_PowG.f k 2 8).bind fun t171 => (if t171 = 29 then ((impl_PowG.f k x4 (-1)).bind fun t172 => (if t172 = 0 then ((impl_PowG.f k x4 0).bind fun t173 => (some (t173 == 1))) else (some false))) else (some false))) else (some false))) else (some false))))) else ((impl_InvG.f k x4).bind fun t174 => ((impl_MulG.f k x4 t174).bind fun t175 => (if t175 = 1 then ((impl_PowG.f k x4 255).bind fun t176 => (if t176 = 1 then ((impl_PowG.f k 2 8).bind fun t177 => (if t177 = 29 then ((impl_PowG.f k x4 (-1)).bind fun t178 => (if t178 = 0 then ((impl_PowG.f k x4 0).bind fun t179 => (some (t179 == 1))) else (some false))) else (some false))) else (some false))) else (some false))))) else (some false))) else (some false))) else (some false))))))
def laws_FnField.f (k : Nat) (l0 : List Int) : Option (Bool) := (laws_big.f l0).bind fun t141 => (if t141 = true then (some true) else ((spec_DrawPlaces.f k l0).bind fun t142 => (if 0 < (t142.length : Int) then (if 1 < (t142.length : Int) then (if 2 < (t142.length : Int) then (if 3 < (t142.length : Int) then (if 4 < (t142.length : Int) then ((impl_MulG.f k (Int.tmod (rd t142 0) 256) (Int.tmod (rd t142 1) 256)).bind fun t150 => ((impl_MulG.f k (Int.tmod (rd t142 1) 256) (Int.tmod (rd t142 0) 256)).bind fun t151 => (if t150 = t151 then ((impl_MulG.f k (Int.tmod (rd t142 0) 256) (Go.bits .xor .i64 (Int.tmod (rd t142 1) 256) (Int.tmod (rd t142 2) 256))).bind fun t152 => ((impl_MulG.f k (Int.tmod (rd t142 0) 256) (Int.tmod (rd t142 1) 256)).bind fun t153 => ((impl_MulG.f k (Int.tmod (rd t142 0) 256) (Int.tmod (rd t142 2) 256)).bind fun t154 => (if t152 = (Go.bits .xor .i64 t153 t154) then ((impl_MulG.f k t153 (Int.tmod (rd t142 2) 256)).bind fun t155 => ((impl_MulG.f k (Int.tmod (rd t142 1) 256) (Int.tmod (rd t142 2) 256)).bind fun t156 => ((impl_MulG.f k (Int.tmod (rd t142 0) 256) t156).bind fun t157 => (if t155 = t157 then ((spec_MulG.f k (Int.tmod (rd t142 0) 256) (Int.tmod (rd t142 1) 256)).bind fun t158 => (laws_FnField.j0 k (Int.tmod (rd t142 0) 256) (Int.tmod (rd t142 3) 200) (Int.tmod (rd t142 4) 200) (t153 != t158))) else (laws_FnField.j0 k (Int.tmod (rd t142 0) 256) (Int.tmod (rd t142 3) 200) (Int.tmod (rd t142 4) 200) true))))) else (laws_FnField.j0 k (Int.tmod (rd t142 0) 256) (Int.tmod (rd t142 3) 200) (Int.tmod (rd t142 4) 200) true))))) else (laws_FnField.j0 k (Int.tmod (rd t142 0) 256) (Int.tmod (rd t142 3) 200) (Int.tmod (rd t142 4) 200) true)))) else (none)) else (none)) else (none)) else (none)) else (none))))
theorem laws_FnField.mono_l : ∀ k, (∀ y0 y1 y2 y3, LeO (laws_FnField.j0 k y0 y1 y2 y3) (laws_FnField.j0 (k + 1) y0 y1 y2 y3))
  | 0 => fun _ _ _ _ r h => by simp [laws_FnField.j0] at h
  | k + 1 => by
    have ih0 := laws_FnField.mono_l k
    · intro y0 y1 y2 y3
      unfold laws_FnField.j0
      repeat' first
      | (with_reducible exact ih0 _ _ _ _)
      | (with_reducible exact impl_InvG.mono _ _)
      | (with_reducible exact impl_MulG.mono _ _ _)
      | (with_reducible exact impl_PowG.mono _ _ _)
      | (with_reducible exact spec_DrawPlaces.mono _ _)
      | (with_reducible exact spec_MulG.mono _ _ _)
      | (with_reducible exact LeO.refl _)
      | (with_reducible exact LeO.none _)
      | (with_reducible refine LeO.ite ?_ ?_)
      | (with_reducible refine LeO.bind ?_ (fun _ => ?_))
      | exact ih0 _ _ _ _
      | exact impl_InvG.mono _ _
      | exact impl_MulG.mono _ _ _
      | exact impl_PowG.mono _ _ _
      | exact spec_DrawPlaces.mono _ _
      | exact spec_MulG.mono _ _ _
      | exact LeO.none _
      | refine LeO.ite ?_ ?_
      | refine LeO.bind ?_ (fun _ => ?_)
theorem laws_FnField.mono : ∀ a0 k, LeO (laws_FnField.f k a0) (laws_FnField.f (k + 1) a0) := by
  intro a0 k
  have ih0 := laws_FnField.mono_l k
  unfold laws_FnField.f
  repeat' first
      | (with_reducible exact ih0 _ _ _ _)
      | (with_reducible exact impl_InvG.mono _ _)
      | (with_reducible exact impl_MulG.mono _ _ _)
      | (with_reducible exact impl_PowG.mono _ _ _)
      | (with_reducible exact spec_DrawPlaces.mono _ _)
      | (with_reducible exact spec_MulG.mono _ _ _)
      | (with_reducible exact LeO.refl _)
      | (with_reducible exact LeO.none _)
      | (with_reducible refine LeO.ite ?_ ?_)
      | (with_reducible refine LeO.bind ?_ (fun _ => ?_))
      | exact ih0 _ _ _ _
      | exact impl_InvG.mono _ _
      | exact impl_MulG.mono _ _ _
      | exact impl_PowG.mono _ _ _
      | exact spec_DrawPlaces.mono _ _
      | exact spec_MulG.mono _ _ _
      | exact LeO.none _
      | refine LeO.ite ?_ ?_
      | refine LeO.bind ?_ (fun _ => ?_)
set_option maxHeartbeats 8000000 in
set_option maxRecDepth 100000 in
theorem laws_FnField.calls (k : Nat) (A0 : Option Addr) (c0 : Nat) (l0 : List Int) (r : Bool) (w : World) (hr0 : Kd.C (Kd.int .u8) w A0 l0.length l0) (hc0 : l0.length ≤ c0) (h : laws_FnField.f k l0 = some r) :
    Calls Try.prog 9 #[.slice A0 l0.length c0] w fun e w' => e = .returned (.bool r) ∧ Below w.heap.size w w' := by
  have HR0 := Aside0.mk hr0
  have HC0 := Aside0.mk hc0
  clear hr0 hc0
  have HB := Aside0.mk (Below.refl w.heap.size w)
  have H : ((laws_big.f l0).bind fun t141 => (if t141 = true then (some true) else ((spec_DrawPlaces.f k l0).bind fun t142 => (if 0 < (t142.length : Int) then (if 1 < (t142.length : Int) then (if 2 < (t142.length : Int) then (if 3 < (t142.length : Int) then (if 4 < (t142.length : Int) then ((impl_MulG.f k (Int.tmod (rd t142 0) 256) (Int.tmod (rd t142 1) 256)).bind fun t150 => ((impl_MulG.f k (Int.tmod (rd t142 1) 256) (Int.tmod (rd t142 0) 256)).bind fun t151 => (if t150 = t151 then ((impl_MulG.f k (Int.tmod (rd t142 0) 256) (Go.bits .xor .i64 (Int.tmod (rd t142 1) 256) (Int.tmod (rd t142 2) 256))).bind fun t152 => ((impl_MulG.f k (Int.tmod (rd t142 0) 256) (Int.tmod (rd t142 1) 256)).bind fun t153 => ((impl_MulG.f k (Int.tmod (rd t142 0) 256) (Int.tmod (rd t142 2) 256)).bind fun t154 => (if t152 = (Go.bits .xor .i64 t153 t154) then ((impl_MulG.f k t153 (Int.tmod (rd t142 2) 256)).bind fun t155 => ((impl_MulG.f k (Int.tmod (rd t142 1) 256) (Int.tmod (rd t142 2) 256)).bind fun t156 => ((impl_MulG.f k (Int.tmod (rd t142 0) 256) t156).bind fun t157 => (if t155 = t157 then ((spec_MulG.f k (Int.tmod (rd t142 0) 256) (Int.tmod (rd t142 1) 256)).bind fun t158 => (laws_FnField.j0 k (Int.tmod (rd t142 0) 256) (Int.tmod (rd t142 3) 200) (Int.tmod (rd t142 4) 200) (t153 != t158))) else (laws_FnField.j0 k (Int.tmod (rd t142 0) 256) (Int.tmod (rd t142 3) 200) (Int.tmod (rd t142 4) 200) true))))) else (laws_FnField.j0 k (Int.tmod (rd t142 0) 256) (Int.tmod (rd t142 3) 200) (Int.tmod (rd t142 4) 200) true))))) else (laws_FnField.j0 k (Int.tmod (rd t142 0) 256) (Int.tmod (rd t142 3) 200) (Int.tmod (rd t142 4) 200) true)))) else (none)) else (none)) else (none)) else (none)) else (none))))) = some r := h
  clear h
  replace H := Option.bind_eq_some_iff.mp H
  obtain ⟨t141, A20, H⟩ := H
  replace H : (if t141 = true then (some true) else ((spec_DrawPlaces.f k l0).bind fun t142 => (if 0 < (t142.length : Int) then (if 1 < (t142.length : Int) then (if 2 < (t142.length : Int) then (if 3 < (t142.length : Int) then (if 4 < (t142.length : Int) then ((impl_MulG.f k (Int.tmod (rd t142 0) 256) (Int.tmod (rd t142 1) 256)).bind fun t150 => ((impl_MulG.f k (Int.tmod (rd t142 1) 256) (Int.tmod (rd t142 0) 256)).bind fun t151 => (if t150 = t151 then ((impl_MulG.f k (Int.tmod (rd t142 0) 256) (Go.bits .xor .i64 (Int.tmod (rd t142 1) 256) (Int.tmod (rd t142 2) 256))).bind fun t152 => ((impl_MulG.f k (Int.tmod (rd t142 0) 256) (Int.tmod (rd t142 1) 256)).bind fun t153 => ((impl_MulG.f k (Int.tmod (rd t142 0) 256) (Int.tmod (rd t142 2) 256)).bind fun t154 => (if t152 = (Go.bits .xor .i64 t153 t154) then ((impl_MulG.f k t153 (Int.tmod (rd t142 2) 256)).bind fun t155 => ((impl_MulG.f k (Int.tmod (rd t142 1) 256) (Int.tmod (rd t142 2) 256)).bind fun t156 => ((impl_MulG.f k (Int.tmod (rd t142 0) 256) t156).bind fun t157 => (if t155 = t157 then ((spec_MulG.f k (Int.tmod (rd t142 0) 256) (Int.tmod (rd t142 1) 256)).bind fun t158 => (laws_FnField.j0 k (Int.tmod (rd t142 0) 256) (Int.tmod (rd t142 3) 200) (Int.tmod (rd t142 4) 200) (t153 != t158))) else (laws_FnField.j0 k (Int.tmod (rd t142 0) 256) (Int.tmod (rd t142 3) 200) (Int.tmod (rd t142 4) 200) true))))) else (laws_FnField.j0 k (Int.tmod (rd t142 0) 256) (Int.tmod (rd t142 3) 200) (Int.tmod (rd t142 4) 200) true))))) else (laws_FnField.j0 k (Int.tmod (rd t142 0) 256) (Int.tmod (rd t142 3) 200) (Int.tmod (rd t142 4) 200) true)))) else (none)) else (none)) else (none)) else (none)) else (none)))) = some r := H
  have A2 := Aside0.mk A20
  clear A20
  by_cases c3 : t141 = true
  · subst c3
    have H1 : (some true) = some r := by rw [if_pos rfl] at H; exact H
    clear H
    have H := H1
    clear H1
    obtain rfl := Option.some.inj H
    go_enter Try.func9, Try.ntmps9
    go_wp2_with (first | ((with_reducible refine gate_callee (f := 28) rfl ?_); refine goesL_ (some 10) rfl rfl Try.func28 (by kernel_rfl) rfl #[.slice A0 l0.length c0] rfl (by (try simp only [List.map_toArray, List.map_cons, List.map_nil]); first | done | rfl | (simp only [List.length_drop, List.length_take]; rfl)) ?_; (with_reducible refine (laws_big.calls _ _ l0 true _ ?side1 ?side2 A2.out).mono ?_); (case side1 => repeat (first | exact HR0.out | (with_reducible refine Kd.C_alloc ?_ _) | (with_reducible refine Kd.C_drewN ?_ _) | (with_reducible refine Kd.C_drew ?_))); (case side2 => exact HC0.out); rintro e w' ⟨rfl, ⟨nd, rfl⟩⟩; refine ⟨_, rfl, ?_⟩))
    go_ret
    exact ⟨by first | rfl | (simp [errW_none, errW_some] <;> rfl) | (simp [*, errW_none, errW_some] <;> rfl), by repeat (first | (with_reducible first | exact HB.out | apply below_alloc | apply pw_below_drewN | apply below_drew1) | exact HB.out)⟩
  · replace c3 := Bool.eq_false_iff.mpr c3
    subst c3
    have H1 : ((spec_DrawPlaces.f k l0).bind fun t142 => (if 0 < (t142.length : Int) then (if 1 < (t142.length : Int) then (if 2 < (t142.length : Int) then (if 3 < (t142.length : Int) then (if 4 < (t142.length : Int) then ((impl_MulG.f k (Int.tmod (rd t142 0) 256) (Int.tmod (rd t142 1) 256)).bind fun t150 => ((impl_MulG.f k (Int.tmod (rd t142 1) 256) (Int.tmod (rd t142 0) 256)).bind fun t151 => (if t150 = t151 then ((impl_MulG.f k (Int.tmod (rd t142 0) 256) (Go.bits .xor .i64 (Int.tmod (rd t142 1) 256) (Int.tmod (rd t142 2) 256))).bind fun t152 => ((impl_MulG.f k (Int.tmod (rd t142 0) 256) (Int.tmod (rd t142 1) 256)).bind fun t153 => ((impl_MulG.f k (Int.tmod (rd t142 0) 256) (Int.tmod (rd t142 2) 256)).bind fun t154 => (if t152 = (Go.bits .xor .i64 t153 t154) then ((impl_MulG.f k t153 (Int.tmod (rd t142 2) 256)).bind fun t155 => ((impl_MulG.f k (Int.tmod (rd t142 1) 256) (Int.tmod (rd t142 2) 256)).bind fun t156 => ((impl_MulG.f k (Int.tmod (rd t142 0) 256) t156).bind fun t157 => (if t155 = t157 then ((spec_MulG.f k (Int.tmod (rd t142 0) 256) (Int.tmod (rd t142 1) 256)).bind fun t158 => (laws_FnField.j0 k (Int.tmod (rd t142 0) 256) (Int.tmod (rd t142 3) 200) (Int.tmod (rd t142 4) 200) (t153 != t158))) else (laws_FnField.j0 k (Int.tmod (rd t142 0) 256) (Int.tmod (rd t142 3) 200) (Int.tmod (rd t142 4) 200) true))))) else (laws_FnField.j0 k (Int.tmod (rd t142 0) 256) (Int.tmod (rd t142 3) 200) (Int.tmod (rd t142 4) 200) true))))) else (laws_FnField.j0 k (Int.tmod (rd t142 0) 256) (Int.tmod (rd t142 3) 200) (Int.tmod (rd t142 4) 200) true)))) else (none)) else (none)) else (none)) else (none)) else (none))) = some r := by rw [if_neg (show ¬ (false = true) by decide)] at H; exact H
    clear H
    have H := H1
    clear H1
    replace H := Option.bind_eq_some_iff.mp H
    obtain ⟨t142, A40, H⟩ := H
    replace H : (if 0 < (t142.length : Int) then (if 1 < (t142.length : Int) then (if 2 < (t142.length : Int) then (if 3 < (t142.length : Int) then (if 4 < (t142.length : Int) then ((impl_MulG.f k (Int.tmod (rd t142 0) 256) (Int.tmod (rd t142 1) 256)).bind fun t150 => ((impl_MulG.f k (Int.tmod (rd t142 1) 256) (Int.tmod (rd t142 0) 256)).bind fun t151 => (if t150 = t151 then ((impl_MulG.f k (Int.tmod (rd t142 0) 256) (Go.bits .xor .i64 (Int.tmod (rd t142 1) 256) (Int.tmod (rd t142 2) 256))).bind fun t152 => ((impl_MulG.f k (Int.tmod (rd t142 0) 256) (Int.tmod (rd t142 1) 256)).bind fun t153 => ((impl_MulG.f k (Int.tmod (rd t142 0) 256) (Int.tmod (rd t142 2) 256)).bind fun t154 => (if t152 = (Go.bits .xor .i64 t153 t154) then ((impl_MulG.f k t153 (Int.tmod (rd t142 2) 256)).bind fun t155 => ((impl_MulG.f k (Int.tmod (rd t142 1) 256) (Int.tmod (rd t142 2) 256)).bind fun t156 => ((impl_MulG.f k (Int.tmod (rd t142 0) 256) t156).bind fun t157 => (if t155 = t157 then ((spec_MulG.f k (Int.tmod (rd t142 0) 256) (Int.tmod (rd t142 1) 256)).bind fun t158 => (laws_FnField.j0 k (Int.tmod (rd t142 0) 256) (Int.tmod (rd t142 3) 200) (Int.tmod (rd t142 4) 200) (t153 != t158))) else (laws_FnField.j0 k (Int.tmod (rd t142 0) 256) (Int.tmod (rd t142 3) 200) (Int.tmod (rd t142 4) 200) true))))) else (laws_FnField.j0 k (Int.tmod (rd t142 0) 256) (Int.tmod (rd t142 3) 200) (Int.tmod (rd t142 4) 200) true))))) else (laws_FnField.j0 k (Int.tmod (rd t142 0) 256) (Int.tmod (rd t142 3) 200) (Int.tmod (rd t142 4) 200) true)))) else (none)) else (none)) else (none)) else (none)) else (none)) = some r := H
    have A4 := Aside0.mk A40
    clear A40
    by_cases c5 : 0 < (t142.length : Int)
    · rw [if_pos c5] at H
      have c5b0 : decide (0 < (t142.length : Int)) = true := decide_eq_true c5
      have c5b1 : decide (0 < t142.length) = true := decide_eq_true (by omega)
      clear c5
      by_cases c6 : 1 < (t142.length : Int)
      · rw [if_pos c6] at H
        have c6b0 : decide (1 < (t142.length : Int)) = true := decide_eq_true c6
        have c6b1 : decide (1 < t142.length) = true := decide_eq_true (by omega)
        clear c6
        by_cases c7 : 2 < (t142.length : Int)
        · rw [if_pos c7] at H
          have c7b0 : decide (2 < (t142.length : Int)) = true := decide_eq_true c7
          have c7b1 : decide (2 < t142.length) = true := decide_eq_true (by omega)
          clear c7
          by_cases c8 : 3 < (t142.length : Int)
          · rw [if_pos c8] at H
            have c8b0 : decide (3 < (t142.length : Int)) = true := decide_eq_true c8
            have c8b1 : decide (3 < t142.length) = true := decide_eq_true (by omega)
            clear c8
            by_cases c9 : 4 < (t142.length : Int)
            · rw [if_pos c9] at H
              have c9b0 : decide (4 < (t142.length : Int)) = true := decide_eq_true c9
              have c9b1 : decide (4 < t142.length) = true := decide_eq_true (by omega)
              clear c9
              have HC10 := Aside0.mk H
              clear H
              go_enter Try.func9, Try.ntmps9
              go_upto_region 9 with (first | ((with_reducible refine gate_callee (f := 28) rfl ?_); refine goesL_ (some 10) rfl rfl Try.func28 (by kernel_rfl) rfl #[.slice A0 l0.length c0] rfl (by (try simp only [List.map_toArray, List.map_cons, List.map_nil]); first | done | rfl | (simp only [List.length_drop, List.length_take]; rfl)) ?_; (with_reducible refine (laws_big.calls _ _ l0 false _ ?side1 ?side2 A2.out).mono ?_); (case side1 => repeat (first | exact HR0.out | (with_reducible refine Kd.C_alloc ?_ _) | (with_reducible refine Kd.C_drewN ?_ _) | (with_reducible refine Kd.C_drew ?_))); (case side2 => exact HC0.out); rintro e w' ⟨rfl, ⟨nd, rfl⟩⟩; refine ⟨_, rfl, ?_⟩) | ((with_reducible refine gate_callee (f := 30) rfl ?_); refine goesL_ (some 12) rfl rfl Try.func30 (by kernel_rfl) rfl #[.slice A0 l0.length c0] rfl (by (try simp only [List.map_toArray, List.map_cons, List.map_nil]); first | done | rfl | (simp only [List.length_drop, List.length_take]; rfl)) ?_; (with_reducible refine (spec_DrawPlaces.calls k _ _ l0 t142 _ ?side1 ?side2 A4.out).mono ?_); (case side1 => repeat (first | exact HR0.out | (with_reducible refine Kd.C_alloc ?_ _) | (with_reducible refine Kd.C_drewN ?_ _) | (with_reducible refine Kd.C_drew ?_))); (case side2 => exact HC0.out); rintro e w11 ⟨v143, rfl, ho0, hb⟩; refine ⟨_, rfl, ?_⟩; have n0_ := Aside0.mk (Kd.R_lower ho0 (below_size (by repeat (first | (with_reducible first | exact HB.out | apply below_alloc | apply pw_below_drewN | apply below_drew1) | exact HB.out)))); have n1_ := Aside0.mk (below_step (by repeat (first | (with_reducible first | exact HB.out | apply below_alloc | apply pw_below_drewN | apply below_drew1) | exact HB.out)) hb); clear HB; have HO144 := n0_; have HB := n1_; clear n0_ n1_; (try clear hb); (try clear hb2); (try clear hk); (try clear hi); (try clear ho0); obtain ⟨Ao12, co12, eo12⟩ := Kd.R_slice HO144.out; subst eo12; have p145 : 0 ≤ (0 : Int) := (by omega); have q145 : 0 < (t142.length : Int) := of_decide_eq_true (by first | (with_reducible assumption) | assumption); obtain ⟨ad145, e145, hx145_0⟩ := Kd.at_int (Kd.R_reads' HO144.out).2.2 0 p145 q145; cases e145; have qi145 : (0 < t142.length) = True := eq_true (by omega); (try rw [show ((0 : Int)).toNat = 0 from rfl] at hx145_0); (try rw [Addr.add_zero'] at hx145_0); replace p145 := eq_true p145; replace q145 := eq_true q145; have p146 : 0 ≤ (1 : Int) := (by omega); have q146 : 1 < (t142.length : Int) := of_decide_eq_true (by first | (with_reducible assumption) | assumption); obtain ⟨ad146, e146, hx146_0⟩ := Kd.at_int (Kd.R_reads' HO144.out).2.2 1 p146 q146; obtain rfl : ad145 = ad146 := (by injection e146); (try simp only [show (1 : Int).toNat = 1 from rfl, Nat.reduceMul, Nat.reduceEqDiff, Go.Addr.add, ↓reduceIte] at hx146_0); have qi146 : (1 < t142.length) = True := eq_true (by omega); (try rw [show ((1 : Int)).toNat = 1 from rfl] at hx146_0); replace p146 := eq_true p146; replace q146 := eq_true q146; have p147 : 0 ≤ (2 : Int) := (by omega); have q147 : 2 < (t142.length : Int) := of_decide_eq_true (by first | (with_reducible assumption) | assumption); obtain ⟨ad147, e147, hx147_0⟩ := Kd.at_int (Kd.R_reads' HO144.out).2.2 2 p147 q147; obtain rfl : ad145 = ad147 := (by injection e147); (try simp only [show (2 : Int).toNat = 2 from rfl, Nat.reduceMul, Nat.reduceEqDiff, Go.Addr.add, ↓reduceIte] at hx147_0); have qi147 : (2 < t142.length) = True := eq_true (by omega); (try rw [show ((2 : Int)).toNat = 2 from rfl] at hx147_0); replace p147 := eq_true p147; replace q147 := eq_true q147; have p148 : 0 ≤ (3 : Int) := (by omega); have q148 : 3 < (t142.length : Int) := of_decide_eq_true (by first | (with_reducible assumption) | assumption); obtain ⟨ad148, e148, hx148_0⟩ := Kd.at_int (Kd.R_reads' HO144.out).2.2 3 p148 q148; obtain rfl : ad145 = ad148 := (by injection e148); (try simp only [show (3 : Int).toNat = 3 from rfl, Nat.reduceMul, Nat.reduceEqDiff, Go.Addr.add, ↓reduceIte] at hx148_0); have qi148 : (3 < t142.length) = True := eq_true (by omega); (try rw [show ((3 : Int)).toNat = 3 from rfl] at hx148_0); replace p148 := eq_true p148; replace q148 := eq_true q148; have p149 : 0 ≤ (4 : Int) := (by omega); have q149 : 4 < (t142.length : Int) := of_decide_eq_true (by first | (with_reducible assumption) | assumption); obtain ⟨ad149, e149, hx149_0⟩ := Kd.at_int (Kd.R_reads' HO144.out).2.2 4 p149 q149; obtain rfl : ad145 = ad149 := (by injection e149); (try simp only [show (4 : Int).toNat = 4 from rfl, Nat.reduceMul, Nat.reduceEqDiff, Go.Addr.add, ↓reduceIte] at hx149_0); have qi149 : (4 < t142.length) = True := eq_true (by omega); (try rw [show ((4 : Int)).toNat = 4 from rfl] at hx149_0); replace p149 := eq_true p149; replace q149 := eq_true q149))
              (try simp only [Act.put, List.setIfInBounds_toArray, List.set_cons_zero, List.set_cons_succ])
              go_cut [76] (fun v76 wc => ∃ (kq : Nat) (x76_9 : Bool), v76 = .bool x76_9 ∧ Aside0 (laws_FnField.j0 kq (Int.tmod (rd t142 0) 256) (Int.tmod (rd t142 3) 200) (Int.tmod (rd t142 4) 200) x76_9 = some r) ∧ Aside0 (kq ≤ k) ∧ Aside0 (Below w.heap.size w wc))
              case first =>
                have H := HC10.out
                clear HC10
                replace H := Option.bind_eq_some_iff.mp H
                obtain ⟨t150, A130, H⟩ := H
                replace H : ((impl_MulG.f k (Int.tmod (rd t142 1) 256) (Int.tmod (rd t142 0) 256)).bind fun t151 => (if t150 = t151 then ((impl_MulG.f k (Int.tmod (rd t142 0) 256) (Go.bits .xor .i64 (Int.tmod (rd t142 1) 256) (Int.tmod (rd t142 2) 256))).bind fun t152 => ((impl_MulG.f k (Int.tmod (rd t142 0) 256) (Int.tmod (rd t142 1) 256)).bind fun t153 => ((impl_MulG.f k (Int.tmod (rd t142 0) 256) (Int.tmod (rd t142 2) 256)).bind fun t154 => (if t152 = (Go.bits .xor .i64 t153 t154) then ((impl_MulG.f k t153 (Int.tmod (rd t142 2) 256)).bind fun t155 => ((impl_MulG.f k (Int.tmod (rd t142 1) 256) (Int.tmod (rd t142 2) 256)).bind fun t156 => ((impl_MulG.f k (Int.tmod (rd t142 0) 256) t156).bind fun t157 => (if t155 = t157 then ((spec_MulG.f k (Int.tmod (rd t142 0) 256) (Int.tmod (rd t142 1) 256)).bind fun t158 => (laws_FnField.j0 k (Int.tmod (rd t142 0) 256) (Int.tmod (rd t142 3) 200) (Int.tmod (rd t142 4) 200) (t153 != t158))) else (laws_FnField.j0 k (Int.tmod (rd t142 0) 256) (Int.tmod (rd t142 3) 200) (Int.tmod (rd t142 4) 200) true))))) else (laws_FnField.j0 k (Int.tmod (rd t142 0) 256) (Int.tmod (rd t142 3) 200) (Int.tmod (rd t142 4) 200) true))))) else (laws_FnField.j0 k (Int.tmod (rd t142 0) 256) (Int.tmod (rd t142 3) 200) (Int.tmod (rd t142 4) 200) true))) = some r := H
                have A13 := Aside0.mk A130
                clear A130
                replace H := Option.bind_eq_some_iff.mp H
                obtain ⟨t151, A140, H⟩ := H
                replace H : (if t150 = t151 then ((impl_MulG.f k (Int.tmod (rd t142 0) 256) (Go.bits .xor .i64 (Int.tmod (rd t142 1) 256) (Int.tmod (rd t142 2) 256))).bind fun t152 => ((impl_MulG.f k (Int.tmod (rd t142 0) 256) (Int.tmod (rd t142 1) 256)).bind fun t153 => ((impl_MulG.f k (Int.tmod (rd t142 0) 256) (Int.tmod (rd t142 2) 256)).bind fun t154 => (if t152 = (Go.bits .xor .i64 t153 t154) then ((impl_MulG.f k t153 (Int.tmod (rd t142 2) 256)).bind fun t155 => ((impl_MulG.f k (Int.tmod (rd t142 1) 256) (Int.tmod (rd t142 2) 256)).bind fun t156 => ((impl_MulG.f k (Int.tmod (rd t142 0) 256) t156).bind fun t157 => (if t155 = t157 then ((spec_MulG.f k (Int.tmod (rd t142 0) 256) (Int.tmod (rd t142 1) 256)).bind fun t158 => (laws_FnField.j0 k (Int.tmod (rd t142 0) 256) (Int.tmod (rd t142 3) 200) (Int.tmod (rd t142 4) 200) (t153 != t158))) else (laws_FnField.j0 k (Int.tmod (rd t142 0) 256) (Int.tmod (rd t142 3) 200) (Int.tmod (rd t142 4) 200) true))))) else (laws_FnField.j0 k (Int.tmod (rd t142 0) 256) (Int.tmod (rd t142 3) 200) (Int.tmod (rd t142 4) 200) true))))) else (laws_FnField.j0 k (Int.tmod (rd t142 0) 256) (Int.tmod (rd t142 3) 200) (Int.tmod (rd t142 4) 200) true)) = some r := H
                have A14 := Aside0.mk A140
                clear A140
                by_cases c15 : t150 = t151
                · rw [if_pos c15] at H
                  have c15b0 : (t150 == t151) = true := beq_iff_eq.mpr c15
                  have c15b1 : (t150 != t151) = false := bne_eq_false_iff_eq.mpr c15
                  clear c15
                  (first | rw [c15b0] | (simp only [i64_w, i32_w]; rw [c15b0]) | skip)
                  replace H := Option.bind_eq_some_iff.mp H
                  obtain ⟨t152, A160, H⟩ := H
                  replace H : ((impl_MulG.f k (Int.tmod (rd t142 0) 256) (Int.tmod (rd t142 1) 256)).bind fun t153 => ((impl_MulG.f k (Int.tmod (rd t142 0) 256) (Int.tmod (rd t142 2) 256)).bind fun t154 => (if t152 = (Go.bits .xor .i64 t153 t154) then ((impl_MulG.f k t153 (Int.tmod (rd t142 2) 256)).bind fun t155 => ((impl_MulG.f k (Int.tmod (rd t142 1) 256) (Int.tmod (rd t142 2) 256)).bind fun t156 => ((impl_MulG.f k (Int.tmod (rd t142 0) 256) t156).bind fun t157 => (if t155 = t157 then ((spec_MulG.f k (Int.tmod (rd t142 0) 256) (Int.tmod (rd t142 1) 256)).bind fun t158 => (laws_FnField.j0 k (Int.tmod (rd t142 0) 256) (Int.tmod (rd t142 3) 200) (Int.tmod (rd t142 4) 200) (t153 != t158))) else (laws_FnField.j0 k (Int.tmod (rd t142 0) 256) (Int.tmod (rd t142 3) 200) (Int.tmod (rd t142 4) 200) true))))) else (laws_FnField.j0 k (Int.tmod (rd t142 0) 256) (Int.tmod (rd t142 3) 200) (Int.tmod (rd t142 4) 200) true)))) = some r := H
                  have A16 := Aside0.mk A160
                  clear A160
                  replace H := Option.bind_eq_some_iff.mp H
                  obtain ⟨t153, A170, H⟩ := H
                  replace H : ((impl_MulG.f k (Int.tmod (rd t142 0) 256) (Int.tmod (rd t142 2) 256)).bind fun t154 => (if t152 = (Go.bits .xor .i64 t153 t154) then ((impl_MulG.f k t153 (Int.tmod (rd t142 2) 256)).bind fun t155 => ((impl_MulG.f k (Int.tmod (rd t142 1) 256) (Int.tmod (rd t142 2) 256)).bind fun t156 => ((impl_MulG.f k (Int.tmod (rd t142 0) 256) t156).bind fun t157 => (if t155 = t157 then ((spec_MulG.f k (Int.tmod (rd t142 0) 256) (Int.tmod (rd t142 1) 256)).bind fun t158 => (laws_FnField.j0 k (Int.tmod (rd t142 0) 256) (Int.tmod (rd t142 3) 200) (Int.tmod (rd t142 4) 200) (t153 != t158))) else (laws_FnField.j0 k (Int.tmod (rd t142 0) 256) (Int.tmod (rd t142 3) 200) (Int.tmod (rd t142 4) 200) true))))) else (laws_FnField.j0 k (Int.tmod (rd t142 0) 256) (Int.tmod (rd t142 3) 200) (Int.tmod (rd t142 4) 200) true))) = some r := H
                  have A17 := Aside0.mk A170
                  clear A170
                  replace H := Option.bind_eq_some_iff.mp H
                  obtain ⟨t154, A180, H⟩ := H
                  replace H : (if t152 = (Go.bits .xor .i64 t153 t154) then ((impl_MulG.f k t153 (Int.tmod (rd t142 2) 256)).bind fun t155 => ((impl_MulG.f k (Int.tmod (rd t142 1) 256) (Int.tmod (rd t142 2) 256)).bind fun t156 => ((impl_MulG.f k (Int.tmod (rd t142 0) 256) t156).bind fun t157 => (if t155 = t157 then ((spec_MulG.f k (Int.tmod (rd t142 0) 256) (Int.tmod (rd t142 1) 256)).bind fun t158 => (laws_FnField.j0 k (Int.tmod (rd t142 0) 256) (Int.tmod (rd t142 3) 200) (Int.tmod (rd t142 4) 200) (t153 != t158))) else (laws_FnField.j0 k (Int.tmod (rd t142 0) 256) (Int.tmod (rd t142 3) 200) (Int.tmod (rd t142 4) 200) true))))) else (laws_FnField.j0 k (Int.tmod (rd t142 0) 256) (Int.tmod (rd t142 3) 200) (Int.tmod (rd t142 4) 200) true)) = some r := H
                  have A18 := Aside0.mk A180
                  clear A180
                  by_cases c19 : t152 = (Go.bits .xor .i64 t153 t154)
                  · rw [if_pos c19] at H
                    have c19b0 : (t152 == (Go.bits .xor .i64 t153 t154)) = true := beq_iff_eq.mpr c19
                    have c19b1 : (t152 != (Go.bits .xor .i64 t153 t154)) = false := bne_eq_false_iff_eq.mpr c19
                    clear c19
                    replace H := Option.bind_eq_some_iff.mp H
                    obtain ⟨t155, A200, H⟩ := H
                    replace H : ((impl_MulG.f k (Int.tmod (rd t142 1) 256) (Int.tmod (rd t142 2) 256)).bind fun t156 => ((impl_MulG.f k (Int.tmod (rd t142 0) 256) t156).bind fun t157 => (if t155 = t157 then ((spec_MulG.f k (Int.tmod (rd t142 0) 256) (Int.tmod (rd t142 1) 256)).bind fun t158 => (laws_FnField.j0 k (Int.tmod (rd t142 0) 256) (Int.tmod (rd t142 3) 200) (Int.tmod (rd t142 4) 200) (t153 != t158))) else (laws_FnField.j0 k (Int.tmod (rd t142 0) 256) (Int.tmod (rd t142 3) 200) (Int.tmod (rd t142 4) 200) true)))) = some r := H
                    have A20 := Aside0.mk A200
                    clear A200
                    replace H := Option.bind_eq_some_iff.mp H
                    obtain ⟨t156, A210, H⟩ := H
                    replace H : ((impl_MulG.f k (Int.tmod (rd t142 0) 256) t156).bind fun t157 => (if t155 = t157 then ((spec_MulG.f k (Int.tmod (rd t142 0) 256) (Int.tmod (rd t142 1) 256)).bind fun t158 => (laws_FnField.j0 k (Int.tmod (rd t142 0) 256) (Int.tmod (rd t142 3) 200) (Int.tmod (rd t142 4) 200) (t153 != t158))) else (laws_FnField.j0 k (Int.tmod (rd t142 0) 256) (Int.tmod (rd t142 3) 200) (Int.tmod (rd t142 4) 200) true))) = some r := H
                    have A21 := Aside0.mk A210
                    clear A210
                    replace H := Option.bind_eq_some_iff.mp H
                    obtain ⟨t157, A220, H⟩ := H
                    replace H : (if t155 = t157 then ((spec_MulG.f k (Int.tmod (rd t142 0) 256) (Int.tmod (rd t142 1) 256)).bind fun t158 => (laws_FnField.j0 k (Int.tmod (rd t142 0) 256) (Int.tmod (rd t142 3) 200) (Int.tmod (rd t142 4) 200) (t153 != t158))) else (laws_FnField.j0 k (Int.tmod (rd t142 0) 256) (Int.tmod (rd t142 3) 200) (Int.tmod (rd t142 4) 200) true)) = some r := H
                    have A22 := Aside0.mk A220
                    clear A220
                    by_cases c23 : t155 = t157
                    · rw [if_pos c23] at H
                      have c23b0 : (t155 == t157) = true := beq_iff_eq.mpr c23
                      have c23b1 : (t155 != t157) = false := bne_eq_false_iff_eq.mpr c23
                      clear c23
                      replace H := Option.bind_eq_some_iff.mp H
                      obtain ⟨t158, A240, H⟩ := H
                      replace H : (laws_FnField.j0 k (Int.tmod (rd t142 0) 256) (Int.tmod (rd t142 3) 200) (Int.tmod (rd t142 4) 200) (t153 != t158)) = some r := H
                      have A24 := Aside0.mk A240
                      clear A240
                      have H' := Aside0.mk H
                      clear H
                      go_wp2_with (first | ((with_reducible refine gate_callee (f := 35) rfl ?_); refine goesL_ (some 35) rfl rfl Try.func35 (by kernel_rfl) rfl #[.int .i64 (Int.tmod (rd t142 0) 256), .int .i64 (Int.tmod (rd t142 1) 256)] rfl (by (try simp only [List.map_toArray, List.map_cons, List.map_nil]); first | done | rfl | (simp only [List.length_drop, List.length_take]; rfl)) ?_; (with_reducible refine (impl_MulG.calls k (Int.tmod (rd t142 0) 256) (Int.tmod (rd t142 1) 256) t150 _ A13.out).mono ?_); rintro e w' ⟨rfl, ⟨nd, rfl⟩⟩; refine ⟨_, rfl, ?_⟩) | ((with_reducible refine gate_callee (f := 35) rfl ?_); refine goesL_ (some 38) rfl rfl Try.func35 (by kernel_rfl) rfl #[.int .i64 (Int.tmod (rd t142 1) 256), .int .i64 (Int.tmod (rd t142 0) 256)] rfl (by (try simp only [List.map_toArray, List.map_cons, List.map_nil]); first | done | rfl | (simp only [List.length_drop, List.length_take]; rfl)) ?_; (with_reducible refine (impl_MulG.calls k (Int.tmod (rd t142 1) 256) (Int.tmod (rd t142 0) 256) t151 _ A14.out).mono ?_); rintro e w' ⟨rfl, ⟨nd, rfl⟩⟩; refine ⟨_, rfl, ?_⟩) | (go_at_call 35; (with_reducible refine (impl_MulG.calls k (Int.tmod (rd t142 0) 256) (Go.bits .xor .i64 (Int.tmod (rd t142 1) 256) (Int.tmod (rd t142 2) 256)) t152 _ A16.out).mono ?_); rintro e w' ⟨rfl, ⟨nd, rfl⟩⟩) | (go_at_call 35; (with_reducible refine (impl_MulG.calls k (Int.tmod (rd t142 0) 256) (Int.tmod (rd t142 1) 256) t153 _ A17.out).mono ?_); rintro e w' ⟨rfl, ⟨nd, rfl⟩⟩) | (go_at_call 35; (with_reducible refine (impl_MulG.calls k (Int.tmod (rd t142 0) 256) (Int.tmod (rd t142 2) 256) t154 _ A18.out).mono ?_); rintro e w' ⟨rfl, ⟨nd, rfl⟩⟩) | (go_at_call 35; (with_reducible refine (impl_MulG.calls k t153 (Int.tmod (rd t142 2) 256) t155 _ A20.out).mono ?_); rintro e w' ⟨rfl, ⟨nd, rfl⟩⟩) | (go_at_call 35; (with_reducible refine (impl_MulG.calls k (Int.tmod (rd t142 1) 256) (Int.tmod (rd t142 2) 256) t156 _ A21.out).mono ?_); rintro e w' ⟨rfl, ⟨nd, rfl⟩⟩) | (go_at_call 35; (with_reducible refine (impl_MulG.calls k (Int.tmod (rd t142 0) 256) t156 t157 _ A22.out).mono ?_); rintro e w' ⟨rfl, ⟨nd, rfl⟩⟩) | (go_at_call 36; (with_reducible refine (spec_MulG.calls k (Int.tmod (rd t142 0) 256) (Int.tmod (rd t142 1) 256) t158 _ A24.out).mono ?_); rintro e w' ⟨rfl, ⟨nd, rfl⟩⟩))
                      go_meet
                      case rel => exact ⟨_, ((t153 != t158)), (by first | rfl | (simp; done) | (simp [*]; done)), H', ⟨by first | omega | exact Nat.le_refl _⟩, ⟨by repeat (first | (with_reducible first | exact HB.out | apply below_alloc | apply pw_below_drewN | apply below_drew1) | exact HB.out)⟩⟩
                    · rw [if_neg c23] at H
                      have c23b0 : (t155 == t157) = false := beq_eq_false_iff_ne.mpr c23
                      have c23b1 : (t155 != t157) = true := bne_iff_ne.mpr c23
                      have H' := Aside0.mk H
                      clear H
                      go_wp2_with (first | ((with_reducible refine gate_callee (f := 35) rfl ?_); refine goesL_ (some 35) rfl rfl Try.func35 (by kernel_rfl) rfl #[.int .i64 (Int.tmod (rd t142 0) 256), .int .i64 (Int.tmod (rd t142 1) 256)] rfl (by (try simp only [List.map_toArray, List.map_cons, List.map_nil]); first | done | rfl | (simp only [List.length_drop, List.length_take]; rfl)) ?_; (with_reducible refine (impl_MulG.calls k (Int.tmod (rd t142 0) 256) (Int.tmod (rd t142 1) 256) t150 _ A13.out).mono ?_); rintro e w' ⟨rfl, ⟨nd, rfl⟩⟩; refine ⟨_, rfl, ?_⟩) | ((with_reducible refine gate_callee (f := 35) rfl ?_); refine goesL_ (some 38) rfl rfl Try.func35 (by kernel_rfl) rfl #[.int .i64 (Int.tmod (rd t142 1) 256), .int .i64 (Int.tmod (rd t142 0) 256)] rfl (by (try simp only [List.map_toArray, List.map_cons, List.map_nil]); first | done | rfl | (simp only [List.length_drop, List.length_take]; rfl)) ?_; (with_reducible refine (impl_MulG.calls k (Int.tmod (rd t142 1) 256) (Int.tmod (rd t142 0) 256) t151 _ A14.out).mono ?_); rintro e w' ⟨rfl, ⟨nd, rfl⟩⟩; refine ⟨_, rfl, ?_⟩) | (go_at_call 35; (with_reducible refine (impl_MulG.calls k (Int.tmod (rd t142 0) 256) (Go.bits .xor .i64 (Int.tmod (rd t142 1) 256) (Int.tmod (rd t142 2) 256)) t152 _ A16.out).mono ?_); rintro e w' ⟨rfl, ⟨nd, rfl⟩⟩) | (go_at_call 35; (with_reducible refine (impl_MulG.calls k (Int.tmod (rd t142 0) 256) (Int.tmod (rd t142 1) 256) t153 _ A17.out).mono ?_); rintro e w' ⟨rfl, ⟨nd, rfl⟩⟩) | (go_at_call 35; (with_reducible refine (impl_MulG.calls k (Int.tmod (rd t142 0) 256) (Int.tmod (rd t142 2) 256) t154 _ A18.out).mono ?_); rintro e w' ⟨rfl, ⟨nd, rfl⟩⟩) | (go_at_call 35; (with_reducible refine (impl_MulG.calls k t153 (Int.tmod (rd t142 2) 256) t155 _ A20.out).mono ?_); rintro e w' ⟨rfl, ⟨nd, rfl⟩⟩) | (go_at_call 35; (with_reducible refine (impl_MulG.calls k (Int.tmod (rd t142 1) 256) (Int.tmod (rd t142 2) 256) t156 _ A21.out).mono ?_); rintro e w' ⟨rfl, ⟨nd, rfl⟩⟩) | (go_at_call 35; (with_reducible refine (impl_MulG.calls k (Int.tmod (rd t142 0) 256) t156 t157 _ A22.out).mono ?_); rintro e w' ⟨rfl, ⟨nd, rfl⟩⟩))
                      go_meet
                      case rel => exact ⟨_, (true), (by first | rfl | (simp; done) | (simp [*]; done)), H', ⟨by first | omega | exact Nat.le_refl _⟩, ⟨by repeat (first | (with_reducible first | exact HB.out | apply below_alloc | apply pw_below_drewN | apply below_drew1) | exact HB.out)⟩⟩
                  · rw [if_neg c19] at H
                    have c19b0 : (t152 == (Go.bits .xor .i64 t153 t154)) = false := beq_eq_false_iff_ne.mpr c19
                    have c19b1 : (t152 != (Go.bits .xor .i64 t153 t154)) = true := bne_iff_ne.mpr c19
                    have H' := Aside0.mk H
                    clear H
                    go_wp2_with (first | ((with_reducible refine gate_callee (f := 35) rfl ?_); refine goesL_ (some 35) rfl rfl Try.func35 (by kernel_rfl) rfl #[.int .i64 (Int.tmod (rd t142 0) 256), .int .i64 (Int.tmod (rd t142 1) 256)] rfl (by (try simp only [List.map_toArray, List.map_cons, List.map_nil]); first | done | rfl | (simp only [List.length_drop, List.length_take]; rfl)) ?_; (with_reducible refine (impl_MulG.calls k (Int.tmod (rd t142 0) 256) (Int.tmod (rd t142 1) 256) t150 _ A13.out).mono ?_); rintro e w' ⟨rfl, ⟨nd, rfl⟩⟩; refine ⟨_, rfl, ?_⟩) | ((with_reducible refine gate_callee (f := 35) rfl ?_); refine goesL_ (some 38) rfl rfl Try.func35 (by kernel_rfl) rfl #[.int .i64 (Int.tmod (rd t142 1) 256), .int .i64 (Int.tmod (rd t142 0) 256)] rfl (by (try simp only [List.map_toArray, List.map_cons, List.map_nil]); first | done | rfl | (simp only [List.length_drop, List.length_take]; rfl)) ?_; (with_reducible refine (impl_MulG.calls k (Int.tmod (rd t142 1) 256) (Int.tmod (rd t142 0) 256) t151 _ A14.out).mono ?_); rintro e w' ⟨rfl, ⟨nd, rfl⟩⟩; refine ⟨_, rfl, ?_⟩) | (go_at_call 35; (with_reducible refine (impl_MulG.calls k (Int.tmod (rd t142 0) 256) (Go.bits .xor .i64 (Int.tmod (rd t142 1) 256) (Int.tmod (rd t142 2) 256)) t152 _ A16.out).mono ?_); rintro e w' ⟨rfl, ⟨nd, rfl⟩⟩) | (go_at_call 35; (with_reducible refine (impl_MulG.calls k (Int.tmod (rd t142 0) 256) (Int.tmod (rd t142 1) 256) t153 _ A17.out).mono ?_); rintro e w' ⟨rfl, ⟨nd, rfl⟩⟩) | (go_at_call 35; (with_reducible refine (impl_MulG.calls k (Int.tmod (rd t142 0) 256) (Int.tmod (rd t142 2) 256) t154 _ A18.out).mono ?_); rintro e w' ⟨rfl, ⟨nd, rfl⟩⟩))
                    go_meet
                    case rel => exact ⟨_, (true), (by first | rfl | (simp; done) | (simp [*]; done)), H', ⟨by first | omega | exact Nat.le_refl _⟩, ⟨by repeat (first | (with_reducible first | exact HB.out | apply below_alloc | apply pw_below_drewN | apply below_drew1) | exact HB.out)⟩⟩
                · rw [if_neg c15] at H
                  have c15b0 : (t150 == t151) = false := beq_eq_false_iff_ne.mpr c15
                  have c15b1 : (t150 != t151) = true := bne_iff_ne.mpr c15
                  (first | rw [c15b0] | (simp only [i64_w, i32_w]; rw [c15b0]) | skip)
                  have H' := Aside0.mk H
                  clear H
                  go_wp2_with (first | ((with_reducible refine gate_callee (f := 35) rfl ?_); refine goesL_ (some 35) rfl rfl Try.func35 (by kernel_rfl) rfl #[.int .i64 (Int.tmod (rd t142 0) 256), .int .i64 (Int.tmod (rd t142 1) 256)] rfl (by (try simp only [List.map_toArray, List.map_cons, List.map_nil]); first | done | rfl | (simp only [List.length_drop, List.length_take]; rfl)) ?_; (with_reducible refine (impl_MulG.calls k (Int.tmod (rd t142 0) 256) (Int.tmod (rd t142 1) 256) t150 _ A13.out).mono ?_); rintro e w' ⟨rfl, ⟨nd, rfl⟩⟩; refine ⟨_, rfl, ?_⟩) | ((with_reducible refine gate_callee (f := 35) rfl ?_); refine goesL_ (some 38) rfl rfl Try.func35 (by kernel_rfl) rfl #[.int .i64 (Int.tmod (rd t142 1) 256), .int .i64 (Int.tmod (rd t142 0) 256)] rfl (by (try simp only [List.map_toArray, List.map_cons, List.map_nil]); first | done | rfl | (simp only [List.length_drop, List.length_take]; rfl)) ?_; (with_reducible refine (impl_MulG.calls k (Int.tmod (rd t142 1) 256) (Int.tmod (rd t142 0) 256) t151 _ A14.out).mono ?_); rintro e w' ⟨rfl, ⟨nd, rfl⟩⟩; refine ⟨_, rfl, ?_⟩))
                  go_meet
                  case rel => exact ⟨_, (true), (by first | rfl | (simp; done) | (simp [*]; done)), H', ⟨by first | omega | exact Nat.le_refl _⟩, ⟨by repeat (first | (with_reducible first | exact HB.out | apply below_alloc | apply pw_below_drewN | apply below_drew1) | exact HB.out)⟩⟩
              case rest =>
                clear HC10
                try clear c1
                try clear p1
                try clear q1
                try clear hx1
                try clear qi1
                try clear c2
                try clear p2
                try clear c3
                try clear c5
                try clear c5b0
                try clear c5b1
                try clear c6
                try clear c6b0
                try clear c6b1
                try clear c7
                try clear c7b0
                try clear c7b1
                try clear c8
                try clear c8b0
                try clear c8b1
                try clear c9
                try clear c9b0
                try clear c9b1
                try clear p14
                try clear q14
                try clear hx14
                try clear qi14
                try clear c15
                try clear c15b0
                try clear c15b1
                try clear c19
                try clear c19b0
                try clear c19b1
                try clear c23
                try clear c23b0
                try clear c23b1
                try clear hx145_0
                try clear hx146_0
                try clear hx147_0
                try clear hx148_0
                try clear hx149_0
                try clear p145
                try clear p146
                try clear p147
                try clear p148
                try clear p149
                try clear q145
                try clear q146
                try clear q147
                try clear q148
                try clear q149
                obtain ⟨kq, x76_9, rfl, HA, HJ9, HB⟩ := hcut
                cases kq with
                | zero => exact absurd HA.out (by simp [laws_FnField.j0])
                | succ kj9 =>
                  have H := HA.out
                  clear HA
                  simp only [laws_FnField.j0] at H
                  by_cases c25 : x76_9 = true
                  · subst c25
                    have H1 : (some false) = some r := by rw [if_pos rfl] at H; exact H
                    clear H
                    have H := H1
                    clear H1
                    obtain rfl := Option.some.inj H
                    go_wp2
                    go_ret
                    exact ⟨by first | rfl | (simp [errW_none, errW_some] <;> rfl) | (simp [*, errW_none, errW_some] <;> rfl), by repeat (first | (with_reducible first | exact HB.out | apply below_alloc | apply pw_below_drewN | apply below_drew1) | exact HB.out)⟩
                  · replace c25 := Bool.eq_false_iff.mpr c25
                    subst c25
                    have H1 : ((impl_PowG.f kj9 (Int.tmod (rd t142 0) 256) (Int.tmod (rd t142 3) 200)).bind fun t159 => ((impl_PowG.f kj9 (Int.tmod (rd t142 0) 256) (Int.tmod (rd t142 4) 200)).bind fun t160 => ((impl_MulG.f kj9 t159 t160).bind fun t161 => ((impl_PowG.f kj9 (Int.tmod (rd t142 0) 256) (wrap64 ((Int.tmod (rd t142 3) 200) + (Int.tmod (rd t142 4) 200)))).bind fun t162 => (if t161 = t162 then ((impl_MulG.f kj9 (Int.tmod (rd t142 0) 256) 1).bind fun t163 => (if t163 = (Int.tmod (rd t142 0) 256) then ((impl_MulG.f kj9 (Int.tmod (rd t142 0) 256) 0).bind fun t164 => (if t164 = 0 then (if (Int.tmod (rd t142 0) 256) = 0 then ((impl_InvG.f kj9 (Int.tmod (rd t142 0) 256)).bind fun t165 => (if t165 = 0 then ((impl_PowG.f kj9 2 8).bind fun t166 => (if t166 = 29 then ((impl_PowG.f kj9 (Int.tmod (rd t142 0) 256) (-1)).bind fun t167 => (if t167 = 0 then ((impl_PowG.f kj9 (Int.tmod (rd t142 0) 256) 0).bind fun t168 => (some (t168 == 1))) else (some false))) else (some false))) else ((impl_MulG.f kj9 (Int.tmod (rd t142 0) 256) t165).bind fun t169 => (if t169 = 1 then ((impl_PowG.f kj9 (Int.tmod (rd t142 0) 256) 255).bind fun t170 => (if t170 = 1 then ((impl_PowG.f kj9 2 8).bind fun t171 => (if t171 = 29 then ((impl_PowG.f kj9 (Int.tmod (rd t142 0) 256) (-1)).bind fun t172 => (if t172 = 0 then ((impl_PowG.f kj9 (Int.tmod (rd t142 0) 256) 0).bind fun t173 => (some (t173 == 1))) else (some false))) else (some false))) else (some false))) else (some false))))) else ((impl_InvG.f kj9 (Int.tmod (rd t142 0) 256)).bind fun t174 => ((impl_MulG.f kj9 (Int.tmod (rd t142 0) 256) t174).bind fun t175 => (if t175 = 1 then ((impl_PowG.f kj9 (Int.tmod (rd t142 0) 256) 255).bind fun t176 => (if t176 = 1 then ((impl_PowG.f kj9 2 8).bind fun t177 => (if t177 = 29 then ((impl_PowG.f kj9 (Int.tmod (rd t142 0) 256) (-1)).bind fun t178 => (if t178 = 0 then ((impl_PowG.f kj9 (Int.tmod (rd t142 0) 256) 0).bind fun t179 => (some (t179 == 1))) else (some false))) else (some false))) else (some false))) else (some false))))) else (some false))) else (some false))) else (some false)))))) = some r := by rw [if_neg (show ¬ (false = true) by decide)] at H; exact H
                    clear H
                    have H := H1
                    clear H1
                    replace H := Option.bind_eq_some_iff.mp H
                    obtain ⟨t159, A260, H⟩ := H
                    replace H : ((impl_PowG.f kj9 (Int.tmod (rd t142 0) 256) (Int.tmod (rd t142 4) 200)).bind fun t160 => ((impl_MulG.f kj9 t159 t160).bind fun t161 => ((impl_PowG.f kj9 (Int.tmod (rd t142 0) 256) (wrap64 ((Int.tmod (rd t142 3) 200) + (Int.tmod (rd t142 4) 200)))).bind fun t162 => (if t161 = t162 then ((impl_MulG.f kj9 (Int.tmod (rd t142 0) 256) 1).bind fun t163 => (if t163 = (Int.tmod (rd t142 0) 256) then ((impl_MulG.f kj9 (Int.tmod (rd t142 0) 256) 0).bind fun t164 => (if t164 = 0 then (if (Int.tmod (rd t142 0) 256) = 0 then ((impl_InvG.f kj9 (Int.tmod (rd t142 0) 256)).bind fun t165 => (if t165 = 0 then ((impl_PowG.f kj9 2 8).bind fun t166 => (if t166 = 29 then ((impl_PowG.f kj9 (Int.tmod (rd t142 0) 256) (-1)).bind fun t167 => (if t167 = 0 then ((impl_PowG.f kj9 (Int.tmod (rd t142 0) 256) 0).bind fun t168 => (some (t168 == 1))) else (some false))) else (some false))) else ((impl_MulG.f kj9 (Int.tmod (rd t142 0) 256) t165).bind fun t169 => (if t169 = 1 then ((impl_PowG.f kj9 (Int.tmod (rd t142 0) 256) 255).bind fun t170 => (if t170 = 1 then ((impl_PowG.f kj9 2 8).bind fun t171 => (if t171 = 29 then ((impl_PowG.f kj9 (Int.tmod (rd t142 0) 256) (-1)).bind fun t172 => (if t172 = 0 then ((impl_PowG.f kj9 (Int.tmod (rd t142 0) 256) 0).bind fun t173 => (some (t173 == 1))) else (some false))) else (some false))) else (some false))) else (some false))))) else ((impl_InvG.f kj9 (Int.tmod (rd t142 0) 256)).bind fun t174 => ((impl_MulG.f kj9 (Int.tmod (rd t142 0) 256) t174).bind fun t175 => (if t175 = 1 then ((impl_PowG.f kj9 (Int.tmod (rd t142 0) 256) 255).bind fun t176 => (if t176 = 1 then ((impl_PowG.f kj9 2 8).bind fun t177 => (if t177 = 29 then ((impl_PowG.f kj9 (Int.tmod (rd t142 0) 256) (-1)).bind fun t178 => (if t178 = 0 then ((impl_PowG.f kj9 (Int.tmod (rd t142 0) 256) 0).bind fun t179 => (some (t179 == 1))) else (some false))) else (some false))) else (some false))) else (some false))))) else (some false))) else (some false))) else (some false))))) = some r := H
                    have A26 := Aside0.mk A260
                    clear A260
                    replace H := Option.bind_eq_some_iff.mp H
                    obtain ⟨t160, A270, H⟩ := H
                    replace H : ((impl_MulG.f kj9 t159 t160).bind fun t161 => ((impl_PowG.f kj9 (Int.tmod (rd t142 0) 256) (wrap64 ((Int.tmod (rd t142 3) 200) + (Int.tmod (rd t142 4) 200)))).bind fun t162 => (if t161 = t162 then ((impl_MulG.f kj9 (Int.tmod (rd t142 0) 256) 1).bind fun t163 => (if t163 = (Int.tmod (rd t142 0) 256) then ((impl_MulG.f kj9 (Int.tmod (rd t142 0) 256) 0).bind fun t164 => (if t164 = 0 then (if (Int.tmod (rd t142 0) 256) = 0 then ((impl_InvG.f kj9 (Int.tmod (rd t142 0) 256)).bind fun t165 => (if t165 = 0 then ((impl_PowG.f kj9 2 8).bind fun t166 => (if t166 = 29 then ((impl_PowG.f kj9 (Int.tmod (rd t142 0) 256) (-1)).bind fun t167 => (if t167 = 0 then ((impl_PowG.f kj9 (Int.tmod (rd t142 0) 256) 0).bind fun t168 => (some (t168 == 1))) else (some false))) else (some false))) else ((impl_MulG.f kj9 (Int.tmod (rd t142 0) 256) t165).bind fun t169 => (if t169 = 1 then ((impl_PowG.f kj9 (Int.tmod (rd t142 0) 256) 255).bind fun t170 => (if t170 = 1 then ((impl_PowG.f kj9 2 8).bind fun t171 => (if t171 = 29 then ((impl_PowG.f kj9 (Int.tmod (rd t142 0) 256) (-1)).bind fun t172 => (if t172 = 0 then ((impl_PowG.f kj9 (Int.tmod (rd t142 0) 256) 0).bind fun t173 => (some (t173 == 1))) else (some false))) else (some false))) else (some false))) else (some false))))) else ((impl_InvG.f kj9 (Int.tmod (rd t142 0) 256)).bind fun t174 => ((impl_MulG.f kj9 (Int.tmod (rd t142 0) 256) t174).bind fun t175 => (if t175 = 1 then ((impl_PowG.f kj9 (Int.tmod (rd t142 0) 256) 255).bind fun t176 => (if t176 = 1 then ((impl_PowG.f kj9 2 8).bind fun t177 => (if t177 = 29 then ((impl_PowG.f kj9 (Int.tmod (rd t142 0) 256) (-1)).bind fun t178 => (if t178 = 0 then ((impl_PowG.f kj9 (Int.tmod (rd t142 0) 256) 0).bind fun t179 => (some (t179 == 1))) else (some false))) else (some false))) else (some false))) else (some false))))) else (some false))) else (some false))) else (some false)))) = some r := H
                    have A27 := Aside0.mk A270
                    clear A270
                    replace H := Option.bind_eq_some_iff.mp H
                    obtain ⟨t161, A280, H⟩ := H
                    replace H : ((impl_PowG.f kj9 (Int.tmod (rd t142 0) 256) (wrap64 ((Int.tmod (rd t142 3) 200) + (Int.tmod (rd t142 4) 200)))).bind fun t162 => (if t161 = t162 then ((impl_MulG.f kj9 (Int.tmod (rd t142 0) 256) 1).bind fun t163 => (if t163 = (Int.tmod (rd t142 0) 256) then ((impl_MulG.f kj9 (Int.tmod (rd t142 0) 256) 0).bind fun t164 => (if t164 = 0 then (if (Int.tmod (rd t142 0) 256) = 0 then ((impl_InvG.f kj9 (Int.tmod (rd t142 0) 256)).bind fun t165 => (if t165 = 0 then ((impl_PowG.f kj9 2 8).bind fun t166 => (if t166 = 29 then ((impl_PowG.f kj9 (Int.tmod (rd t142 0) 256) (-1)).bind fun t167 => (if t167 = 0 then ((impl_PowG.f kj9 (Int.tmod (rd t142 0) 256) 0).bind fun t168 => (some (t168 == 1))) else (some false))) else (some false))) else ((impl_MulG.f kj9 (Int.tmod (rd t142 0) 256) t165).bind fun t169 => (if t169 = 1 then ((impl_PowG.f kj9 (Int.tmod (rd t142 0) 256) 255).bind fun t170 => (if t170 = 1 then ((impl_PowG.f kj9 2 8).bind fun t171 => (if t171 = 29 then ((impl_PowG.f kj9 (Int.tmod (rd t142 0) 256) (-1)).bind fun t172 => (if t172 = 0 then ((impl_PowG.f kj9 (Int.tmod (rd t142 0) 256) 0).bind fun t173 => (some (t173 == 1))) else (some false))) else (some false))) else (some false))) else (some false))))) else ((impl_InvG.f kj9 (Int.tmod (rd t142 0) 256)).bind fun t174 => ((impl_MulG.f kj9 (Int.tmod (rd t142 0) 256) t174).bind fun t175 => (if t175 = 1 then ((impl_PowG.f kj9 (Int.tmod (rd t142 0) 256) 255).bind fun t176 => (if t176 = 1 then ((impl_PowG.f kj9 2 8).bind fun t177 => (if t177 = 29 then ((impl_PowG.f kj9 (Int.tmod (rd t142 0) 256) (-1)).bind fun t178 => (if t178 = 0 then ((impl_PowG.f kj9 (Int.tmod (rd t142 0) 256) 0).bind fun t179 => (some (t179 == 1))) else (some false))) else (some false))) else (some false))) else (some false))))) else (some false))) else (some false))) else (some false))) = some r := H
                    have A28 := Aside0.mk A280
                    clear A280
                    replace H := Option.bind_eq_some_iff.mp H
                    obtain ⟨t162, A290, H⟩ := H
                    replace H : (if t161 = t162 then ((impl_MulG.f kj9 (Int.tmod (rd t142 0) 256) 1).bind fun t163 => (if t163 = (Int.tmod (rd t142 0) 256) then ((impl_MulG.f kj9 (Int.tmod (rd t142 0) 256) 0).bind fun t164 => (if t164 = 0 then (if (Int.tmod (rd t142 0) 256) = 0 then ((impl_InvG.f kj9 (Int.tmod (rd t142 0) 256)).bind fun t165 => (if t165 = 0 then ((impl_PowG.f kj9 2 8).bind fun t166 => (if t166 = 29 then ((impl_PowG.f kj9 (Int.tmod (rd t142 0) 256) (-1)).bind fun t167 => (if t167 = 0 then ((impl_PowG.f kj9 (Int.tmod (rd t142 0) 256) 0).bind fun t168 => (some (t168 == 1))) else (some false))) else (some false))) else ((impl_MulG.f kj9 (Int.tmod (rd t142 0) 256) t165).bind fun t169 => (if t169 = 1 then ((impl_PowG.f kj9 (Int.tmod (rd t142 0) 256) 255).bind fun t170 => (if t170 = 1 then ((impl_PowG.f kj9 2 8).bind fun t171 => (if t171 = 29 then ((impl_PowG.f kj9 (Int.tmod (rd t142 0) 256) (-1)).bind fun t172 => (if t172 = 0 then ((impl_PowG.f kj9 (Int.tmod (rd t142 0) 256) 0).bind fun t173 => (some (t173 == 1))) else (some false))) else (some false))) else (some false))) else (some false))))) else ((impl_InvG.f kj9 (Int.tmod (rd t142 0) 256)).bind fun t174 => ((impl_MulG.f kj9 (Int.tmod (rd t142 0) 256) t174).bind fun t175 => (if t175 = 1 then ((impl_PowG.f kj9 (Int.tmod (rd t142 0) 256) 255).bind fun t176 => (if t176 = 1 then ((impl_PowG.f kj9 2 8).bind fun t177 => (if t177 = 29 then ((impl_PowG.f kj9 (Int.tmod (rd t142 0) 256) (-1)).bind fun t178 => (if t178 = 0 then ((impl_PowG.f kj9 (Int.tmod (rd t142 0) 256) 0).bind fun t179 => (some (t179 == 1))) else (some false))) else (some false))) else (some false))) else (some false))))) else (some false))) else (some false))) else (some false)) = some r := H
                    have A29 := Aside0.mk A290
                    clear A290
                    by_cases c30 : t161 = t162
                    · rw [if_pos c30] at H
                      have c30b0 : (t161 == t162) = true := beq_iff_eq.mpr c30
                      have c30b1 : (t161 != t162) = false := bne_eq_false_iff_eq.mpr c30
                      clear c30
                      replace H := Option.bind_eq_some_iff.mp H
                      obtain ⟨t163, A310, H⟩ := H
                      replace H : (if t163 = (Int.tmod (rd t142 0) 256) then ((impl_MulG.f kj9 (Int.tmod (rd t142 0) 256) 0).bind fun t164 => (if t164 = 0 then (if (Int.tmod (rd t142 0) 256) = 0 then ((impl_InvG.f kj9 (Int.tmod (rd t142 0) 256)).bind fun t165 => (if t165 = 0 then ((impl_PowG.f kj9 2 8).bind fun t166 => (if t166 = 29 then ((impl_PowG.f kj9 (Int.tmod (rd t142 0) 256) (-1)).bind fun t167 => (if t167 = 0 then ((impl_PowG.f kj9 (Int.tmod (rd t142 0) 256) 0).bind fun t168 => (some (t168 == 1))) else (some false))) else (some false))) else ((impl_MulG.f kj9 (Int.tmod (rd t142 0) 256) t165).bind fun t169 => (if t169 = 1 then ((impl_PowG.f kj9 (Int.tmod (rd t142 0) 256) 255).bind fun t170 => (if t170 = 1 then ((impl_PowG.f kj9 2 8).bind fun t171 => (if t171 = 29 then ((impl_PowG.f kj9 (Int.tmod (rd t142 0) 256) (-1)).bind fun t172 => (if t172 = 0 then ((impl_PowG.f kj9 (Int.tmod (rd t142 0) 256) 0).bind fun t173 => (some (t173 == 1))) else (some false))) else (some false))) else (some false))) else (some false))))) else ((impl_InvG.f kj9 (Int.tmod (rd t142 0) 256)).bind fun t174 => ((impl_MulG.f kj9 (Int.tmod (rd t142 0) 256) t174).bind fun t175 => (if t175 = 1 then ((impl_PowG.f kj9 (Int.tmod (rd t142 0) 256) 255).bind fun t176 => (if t176 = 1 then ((impl_PowG.f kj9 2 8).bind fun t177 => (if t177 = 29 then ((impl_PowG.f kj9 (Int.tmod (rd t142 0) 256) (-1)).bind fun t178 => (if t178 = 0 then ((impl_PowG.f kj9 (Int.tmod (rd t142 0) 256) 0).bind fun t179 => (some (t179 == 1))) else (some false))) else (some false))) else (some false))) else (some false))))) else (some false))) else (some false)) = some r := H
                      have A31 := Aside0.mk A310
                      clear A310
                      by_cases c32 : t163 = (Int.tmod (rd t142 0) 256)
                      · rw [if_pos c32] at H
                        have c32b0 : (t163 == (Int.tmod (rd t142 0) 256)) = true := beq_iff_eq.mpr c32
                        have c32b1 : (t163 != (Int.tmod (rd t142 0) 256)) = false := bne_eq_false_iff_eq.mpr c32
                        clear c32
                        replace H := Option.bind_eq_some_iff.mp H
                        obtain ⟨t164, A330, H⟩ := H
                        replace H : (if t164 = 0 then (if (Int.tmod (rd t142 0) 256) = 0 then ((impl_InvG.f kj9 (Int.tmod (rd t142 0) 256)).bind fun t165 => (if t165 = 0 then ((impl_PowG.f kj9 2 8).bind fun t166 => (if t166 = 29 then ((impl_PowG.f kj9 (Int.tmod (rd t142 0) 256) (-1)).bind fun t167 => (if t167 = 0 then ((impl_PowG.f kj9 (Int.tmod (rd t142 0) 256) 0).bind fun t168 => (some (t168 == 1))) else (some false))) else (some false))) else ((impl_MulG.f kj9 (Int.tmod (rd t142 0) 256) t165).bind fun t169 => (if t169 = 1 then ((impl_PowG.f kj9 (Int.tmod (rd t142 0) 256) 255).bind fun t170 => (if t170 = 1 then ((impl_PowG.f kj9 2 8).bind fun t171 => (if t171 = 29 then ((impl_PowG.f kj9 (Int.tmod (rd t142 0) 256) (-1)).bind fun t172 => (if t172 = 0 then ((impl_PowG.f kj9 (Int.tmod (rd t142 0) 256) 0).bind fun t173 => (some (t173 == 1))) else (some false))) else (some false))) else (some false))) else (some false))))) else ((impl_InvG.f kj9 (Int.tmod (rd t142 0) 256)).bind fun t174 => ((impl_MulG.f kj9 (Int.tmod (rd t142 0) 256) t174).bind fun t175 => (if t175 = 1 then ((impl_PowG.f kj9 (Int.tmod (rd t142 0) 256) 255).bind fun t176 => (if t176 = 1 then ((impl_PowG.f kj9 2 8).bind fun t177 => (if t177 = 29 then ((impl_PowG.f kj9 (Int.tmod (rd t142 0) 256) (-1)).bind fun t178 => (if t178 = 0 then ((impl_PowG.f kj9 (Int.tmod (rd t142 0) 256) 0).bind fun t179 => (some (t179 == 1))) else (some false))) else (some false))) else (some false))) else (some false))))) else (some false)) = some r := H
                        have A33 := Aside0.mk A330
                        clear A330
                        by_cases c34 : t164 = 0
                        · rw [if_pos c34] at H
                          have c34b0 : (t164 == 0) = true := beq_iff_eq.mpr c34
                          have c34b1 : (t164 != 0) = false := bne_eq_false_iff_eq.mpr c34
                          clear c34
                          by_cases c35 : (Int.tmod (rd t142 0) 256) = 0
                          · rw [if_pos c35] at H
                            have c35b0 : ((Int.tmod (rd t142 0) 256) == 0) = true := beq_iff_eq.mpr c35
                            have c35b1 : ((Int.tmod (rd t142 0) 256) != 0) = false := bne_eq_false_iff_eq.mpr c35
                            clear c35
                            replace H := Option.bind_eq_some_iff.mp H
                            obtain ⟨t165, A360, H⟩ := H
                            replace H : (if t165 = 0 then ((impl_PowG.f kj9 2 8).bind fun t166 => (if t166 = 29 then ((impl_PowG.f kj9 (Int.tmod (rd t142 0) 256) (-1)).bind fun t167 => (if t167 = 0 then ((impl_PowG.f kj9 (Int.tmod (rd t142 0) 256) 0).bind fun t168 => (some (t168 == 1))) else (some false))) else (some false))) else ((impl_MulG.f kj9 (Int.tmod (rd t142 0) 256) t165).bind fun t169 => (if t169 = 1 then ((impl_PowG.f kj9 (Int.tmod (rd t142 0) 256) 255).bind fun t170 => (if t170 = 1 then ((impl_PowG.f kj9 2 8).bind fun t171 => (if t171 = 29 then ((impl_PowG.f kj9 (Int.tmod (rd t142 0) 256) (-1)).bind fun t172 => (if t172 = 0 then ((impl_PowG.f kj9 (Int.tmod (rd t142 0) 256) 0).bind fun t173 => (some (t173 == 1))) else (some false))) else (some false))) else (some false))) else (some false)))) = some r := H
                            have A36 := Aside0.mk A360
                            clear A360
                            by_cases c37 : t165 = 0
                            · rw [if_pos c37] at H
                              have c37b0 : (t165 == 0) = true := beq_iff_eq.mpr c37
                              have c37b1 : (t165 != 0) = false := bne_eq_false_iff_eq.mpr c37
                              clear c37
                              replace H := Option.bind_eq_some_iff.mp H
                              obtain ⟨t166, A380, H⟩ := H
                              replace H : (if t166 = 29 then ((impl_PowG.f kj9 (Int.tmod (rd t142 0) 256) (-1)).bind fun t167 => (if t167 = 0 then ((impl_PowG.f kj9 (Int.tmod (rd t142 0) 256) 0).bind fun t168 => (some (t168 == 1))) else (some false))) else (some false)) = some r := H
                              have A38 := Aside0.mk A380
                              clear A380
                              by_cases c39 : t166 = 29
                              · rw [if_pos c39] at H
                                have c39b0 : (t166 == 29) = true := beq_iff_eq.mpr c39
                                have c39b1 : (t166 != 29) = false := bne_eq_false_iff_eq.mpr c39
                                clear c39
                                replace H := Option.bind_eq_some_iff.mp H
                                obtain ⟨t167, A400, H⟩ := H
                                replace H : (if t167 = 0 then ((impl_PowG.f kj9 (Int.tmod (rd t142 0) 256) 0).bind fun t168 => (some (t168 == 1))) else (some false)) = some r := H
                                have A40 := Aside0.mk A400
                                clear A400
                                by_cases c41 : t167 = 0
                                · rw [if_pos c41] at H
                                  have c41b0 : (t167 == 0) = true := beq_iff_eq.mpr c41
                                  have c41b1 : (t167 != 0) = false := bne_eq_false_iff_eq.mpr c41
                                  clear c41
                                  replace H := Option.bind_eq_some_iff.mp H
                                  obtain ⟨t168, A420, H⟩ := H
                                  replace H : (some (t168 == 1)) = some r := H
                                  have A42 := Aside0.mk A420
                                  clear A420
                                  obtain rfl := Option.some.inj H
                                  go_wp2_with (first | ((with_reducible refine gate_callee (f := 37) rfl ?_); refine goesL_ (some 79) rfl rfl Try.func37 (by kernel_rfl) rfl #[.int .i64 (Int.tmod (rd t142 0) 256), .int .i64 (Int.tmod (rd t142 3) 200)] rfl (by (try simp only [List.map_toArray, List.map_cons, List.map_nil]); first | done | rfl | (simp only [List.length_drop, List.length_take]; rfl)) ?_; (with_reducible refine (impl_PowG.calls kj9 (Int.tmod (rd t142 0) 256) (Int.tmod (rd t142 3) 200) t159 _ A26.out).mono ?_); rintro e w' ⟨rfl, ⟨nd, rfl⟩⟩; refine ⟨_, rfl, ?_⟩) | ((with_reducible refine gate_callee (f := 37) rfl ?_); refine goesL_ (some 82) rfl rfl Try.func37 (by kernel_rfl) rfl #[.int .i64 (Int.tmod (rd t142 0) 256), .int .i64 (Int.tmod (rd t142 4) 200)] rfl (by (try simp only [List.map_toArray, List.map_cons, List.map_nil]); first | done | rfl | (simp only [List.length_drop, List.length_take]; rfl)) ?_; (with_reducible refine (impl_PowG.calls kj9 (Int.tmod (rd t142 0) 256) (Int.tmod (rd t142 4) 200) t160 _ A27.out).mono ?_); rintro e w' ⟨rfl, ⟨nd, rfl⟩⟩; refine ⟨_, rfl, ?_⟩) | ((with_reducible refine gate_callee (f := 35) rfl ?_); refine goesL_ (some 83) rfl rfl Try.func35 (by kernel_rfl) rfl #[.int .i64 t159, .int .i64 t160] rfl (by (try simp only [List.map_toArray, List.map_cons, List.map_nil]); first | done | rfl | (simp only [List.length_drop, List.length_take]; rfl)) ?_; (with_reducible refine (impl_MulG.calls kj9 t159 t160 t161 _ A28.out).mono ?_); rintro e w' ⟨rfl, ⟨nd, rfl⟩⟩; refine ⟨_, rfl, ?_⟩) | ((with_reducible refine gate_callee (f := 37) rfl ?_); refine goesL_ (some 88) rfl rfl Try.func37 (by kernel_rfl) rfl #[.int .i64 (Int.tmod (rd t142 0) 256), .int .i64 (wrap64 ((Int.tmod (rd t142 3) 200) + (Int.tmod (rd t142 4) 200)))] rfl (by (try simp only [List.map_toArray, List.map_cons, List.map_nil]); first | done | rfl | (simp only [List.length_drop, List.length_take]; rfl)) ?_; (with_reducible refine (impl_PowG.calls kj9 (Int.tmod (rd t142 0) 256) (wrap64 ((Int.tmod (rd t142 3) 200) + (Int.tmod (rd t142 4) 200))) t162 _ A29.out).mono ?_); rintro e w' ⟨rfl, ⟨nd, rfl⟩⟩; refine ⟨_, rfl, ?_⟩) | ((with_reducible refine gate_callee (f := 35) rfl ?_); refine goesL_ (some 91) rfl rfl Try.func35 (by kernel_rfl) rfl #[.int .i64 (Int.tmod (rd t142 0) 256), .int .i64 1] rfl (by (try simp only [List.map_toArray, List.map_cons, List.map_nil]); first | done | rfl | (simp only [List.length_drop, List.length_take]; rfl)) ?_; (with_reducible refine (impl_MulG.calls kj9 (Int.tmod (rd t142 0) 256) 1 t163 _ A31.out).mono ?_); rintro e w' ⟨rfl, ⟨nd, rfl⟩⟩; refine ⟨_, rfl, ?_⟩) | (go_at_call 35; (with_reducible refine (impl_MulG.calls kj9 (Int.tmod (rd t142 0) 256) 0 t164 _ A33.out).mono ?_); rintro e w' ⟨rfl, ⟨nd, rfl⟩⟩) | (go_at_call 16; (with_reducible refine (impl_InvG.calls kj9 (Int.tmod (rd t142 0) 256) t165 _ A36.out).mono ?_); rintro e w' ⟨rfl, ⟨nd, rfl⟩⟩) | (go_at_call 37; (with_reducible refine (impl_PowG.calls kj9 2 8 t166 _ A38.out).mono ?_); rintro e w' ⟨rfl, ⟨nd, rfl⟩⟩) | (go_at_call 37; (with_reducible refine (impl_PowG.calls kj9 (Int.tmod (rd t142 0) 256) (-1) t167 _ A40.out).mono ?_); rintro e w' ⟨rfl, ⟨nd, rfl⟩⟩) | (go_at_call 37; (with_reducible refine (impl_PowG.calls kj9 (Int.tmod (rd t142 0) 256) 0 t168 _ A42.out).mono ?_); rintro e w' ⟨rfl, ⟨nd, rfl⟩⟩))
                                  go_ret
                                  exact ⟨by first | rfl | (simp [errW_none, errW_some] <;> rfl) | (simp [*, errW_none, errW_some] <;> rfl), by repeat (first | (with_reducible first | exact HB.out | apply below_alloc | apply pw_below_drewN | apply below_drew1) | exact HB.out)⟩
                                · rw [if_neg c41] at H
                                  have c41b0 : (t167 == 0) = false := beq_eq_false_iff_ne.mpr c41
                                  have c41b1 : (t167 != 0) = true := bne_iff_ne.mpr c41
                                  obtain rfl := Option.some.inj H
                                  go_wp2_with (first | ((with_reducible refine gate_callee (f := 37) rfl ?_); refine goesL_ (some 79) rfl rfl Try.func37 (by kernel_rfl) rfl #[.int .i64 (Int.tmod (rd t142 0) 256), .int .i64 (Int.tmod (rd t142 3) 200)] rfl (by (try simp only [List.map_toArray, List.map_cons, List.map_nil]); first | done | rfl | (simp only [List.length_drop, List.length_take]; rfl)) ?_; (with_reducible refine (impl_PowG.calls kj9 (Int.tmod (rd t142 0) 256) (Int.tmod (rd t142 3) 200) t159 _ A26.out).mono ?_); rintro e w' ⟨rfl, ⟨nd, rfl⟩⟩; refine ⟨_, rfl, ?_⟩) | ((with_reducible refine gate_callee (f := 37) rfl ?_); refine goesL_ (some 82) rfl rfl Try.func37 (by kernel_rfl) rfl #[.int .i64 (Int.tmod (rd t142 0) 256), .int .i64 (Int.tmod (rd t142 4) 200)] rfl (by (try simp only [List.map_toArray, List.map_cons, List.map_nil]); first | done | rfl | (simp only [List.length_drop, List.length_take]; rfl)) ?_; (with_reducible refine (impl_PowG.calls kj9 (Int.tmod (rd t142 0) 256) (Int.tmod (rd t142 4) 200) t160 _ A27.out).mono ?_); rintro e w' ⟨rfl, ⟨nd, rfl⟩⟩; refine ⟨_, rfl, ?_⟩) | ((with_reducible refine gate_callee (f := 35) rfl ?_); refine goesL_ (some 83) rfl rfl Try.func35 (by kernel_rfl) rfl #[.int .i64 t159, .int .i64 t160] rfl (by (try simp only [List.map_toArray, List.map_cons, List.map_nil]); first | done | rfl | (simp only [List.length_drop, List.length_take]; rfl)) ?_; (with_reducible refine (impl_MulG.calls kj9 t159 t160 t161 _ A28.out).mono ?_); rintro e w' ⟨rfl, ⟨nd, rfl⟩⟩; refine ⟨_, rfl, ?_⟩) | ((with_reducible refine gate_callee (f := 37) rfl ?_); refine goesL_ (some 88) rfl rfl Try.func37 (by kernel_rfl) rfl #[.int .i64 (Int.tmod (rd t142 0) 256), .int .i64 (wrap64 ((Int.tmod (rd t142 3) 200) + (Int.tmod (rd t142 4) 200)))] rfl (by (try simp only [List.map_toArray, List.map_cons, List.map_nil]); first | done | rfl | (simp only [List.length_drop, List.length_take]; rfl)) ?_; (with_reducible refine (impl_PowG.calls kj9 (Int.tmod (rd t142 0) 256) (wrap64 ((Int.tmod (rd t142 3) 200) + (Int.tmod (rd t142 4) 200))) t162 _ A29.out).mono ?_); rintro e w' ⟨rfl, ⟨nd, rfl⟩⟩; refine ⟨_, rfl, ?_⟩) | ((with_reducible refine gate_callee (f := 35) rfl ?_); refine goesL_ (some 91) rfl rfl Try.func35 (by kernel_rfl) rfl #[.int .i64 (Int.tmod (rd t142 0) 256), .int .i64 1] rfl (by (try simp only [List.map_toArray, List.map_cons, List.map_nil]); first | done | rfl | (simp only [List.length_drop, List.length_take]; rfl)) ?_; (with_reducible refine (impl_MulG.calls kj9 (Int.tmod (rd t142 0) 256) 1 t163 _ A31.out).mono ?_); rintro e w' ⟨rfl, ⟨nd, rfl⟩⟩; refine ⟨_, rfl, ?_⟩) | (go_at_call 35; (with_reducible refine (impl_MulG.calls kj9 (Int.tmod (rd t142 0) 256) 0 t164 _ A33.out).mono ?_); rintro e w' ⟨rfl, ⟨nd, rfl⟩⟩) | (go_at_call 16; (with_reducible refine (impl_InvG.calls kj9 (Int.tmod (rd t142 0) 256) t165 _ A36.out).mono ?_); rintro e w' ⟨rfl, ⟨nd, rfl⟩⟩) | (go_at_call 37; (with_reducible refine (impl_PowG.calls kj9 2 8 t166 _ A38.out).mono ?_); rintro e w' ⟨rfl, ⟨nd, rfl⟩⟩) | (go_at_call 37; (with_reducible refine (impl_PowG.calls kj9 (Int.tmod (rd t142 0) 256) (-1) t167 _ A40.out).mono ?_); rintro e w' ⟨rfl, ⟨nd, rfl⟩⟩))
                                  go_ret
                                  exact ⟨by first | rfl | (simp [errW_none, errW_some] <;> rfl) | (simp [*, errW_none, errW_some] <;> rfl), by repeat (first | (with_reducible first | exact HB.out | apply below_alloc | apply pw_below_drewN | apply below_drew1) | exact HB.out)⟩
                              · rw [if_neg c39] at H
                                have c39b0 : (t166 == 29) = false := beq_eq_false_iff_ne.mpr c39
                                have c39b1 : (t166 != 29) = true := bne_iff_ne.mpr c39
                                obtain rfl := Option.some.inj H
                                go_wp2_with (first | ((with_reducible refine gate_callee (f := 37) rfl ?_); refine goesL_ (some 79) rfl rfl Try.func37 (by kernel_rfl) rfl #[.int .i64 (Int.tmod (rd t142 0) 256), .int .i64 (Int.tmod (rd t142 3) 200)] rfl (by (try simp only [List.map_toArray, List.map_cons, List.map_nil]); first | done | rfl | (simp only [List.length_drop, List.length_take]; rfl)) ?_; (with_reducible refine (impl_PowG.calls kj9 (Int.tmod (rd t142 0) 256) (Int.tmod (rd t142 3) 200) t159 _ A26.out).mono ?_); rintro e w' ⟨rfl, ⟨nd, rfl⟩⟩; refine ⟨_, rfl, ?_⟩) | ((with_reducible refine gate_callee (f := 37) rfl ?_); refine goesL_ (some 82) rfl rfl Try.func37 (by kernel_rfl) rfl #[.int .i64 (Int.tmod (rd t142 0) 256), .int .i64 (Int.tmod (rd t142 4) 200)] rfl (by (try simp only [List.map_toArray, List.map_cons, List.map_nil]); first | done | rfl | (simp only [List.length_drop, List.length_take]; rfl)) ?_; (with_reducible refine (impl_PowG.calls kj9 (Int.tmod (rd t142 0) 256) (Int.tmod (rd t142 4) 200) t160 _ A27.out).mono ?_); rintro e w' ⟨rfl, ⟨nd, rfl⟩⟩; refine ⟨_, rfl, ?_⟩) | ((with_reducible refine gate_callee (f := 35) rfl ?_); refine goesL_ (some 83) rfl rfl Try.func35 (by kernel_rfl) rfl #[.int .i64 t159, .int .i64 t160] rfl (by (try simp only [List.map_toArray, List.map_cons, List.map_nil]); first | done | rfl | (simp only [List.length_drop, List.length_take]; rfl)) ?_; (with_reducible refine (impl_MulG.calls kj9 t159 t160 t161 _ A28.out).mono ?_); rintro e w' ⟨rfl, ⟨nd, rfl⟩⟩; refine ⟨_, rfl, ?_⟩) | ((with_reducible refine gate_callee (f := 37) rfl ?_); refine goesL_ (some 88) rfl rfl Try.func37 (by kernel_rfl) rfl #[.int .i64 (Int.tmod (rd t142 0) 256), .int .i64 (wrap64 ((Int.tmod (rd t142 3) 200) + (Int.tmod (rd t142 4) 200)))] rfl (by (try simp only [List.map_toArray, List.map_cons, List.map_nil]); first | done | rfl | (simp only [List.length_drop, List.length_take]; rfl)) ?_; (with_reducible refine (impl_PowG.calls kj9 (Int.tmod (rd t142 0) 256) (wrap64 ((Int.tmod (rd t142 3) 200) + (Int.tmod (rd t142 4) 200))) t162 _ A29.out).mono ?_); rintro e w' ⟨rfl, ⟨nd, rfl⟩⟩; refine ⟨_, rfl, ?_⟩) | ((with_reducible refine gate_callee (f := 35) rfl ?_); refine goesL_ (some 91) rfl rfl Try.func35 (by kernel_rfl) rfl #[.int .i64 (Int.tmod (rd t142 0) 256), .int .i64 1] rfl (by (try simp only [List.map_toArray, List.map_cons, List.map_nil]); first | done | rfl | (simp only [List.length_drop, List.length_take]; rfl)) ?_; (with_reducible refine (impl_MulG.calls kj9 (Int.tmod (rd t142 0) 256) 1 t163 _ A31.out).mono ?_); rintro e w' ⟨rfl, ⟨nd, rfl⟩⟩; refine ⟨_, rfl, ?_⟩) | (go_at_call 35; (with_reducible refine (impl_MulG.calls kj9 (Int.tmod (rd t142 0) 256) 0 t164 _ A33.out).mono ?_); rintro e w' ⟨rfl, ⟨nd, rfl⟩⟩) | (go_at_call 16; (with_reducible refine (impl_InvG.calls kj9 (Int.tmod (rd t142 0) 256) t165 _ A36.out).mono ?_); rintro e w' ⟨rfl, ⟨nd, rfl⟩⟩) | (go_at_call 37; (with_reducible refine (impl_PowG.calls kj9 2 8 t166 _ A38.out).mono ?_); rintro e w' ⟨rfl, ⟨nd, rfl⟩⟩))
                                go_ret
                                exact ⟨by first | rfl | (simp [errW_none, errW_some] <;> rfl) | (simp [*, errW_none, errW_some] <;> rfl), by repeat (first | (with_reducible first | exact HB.out | apply below_alloc | apply pw_below_drewN | apply below_drew1) | exact HB.out)⟩
                            · rw [if_neg c37] at H
                              have c37b0 : (t165 == 0) = false := beq_eq_false_iff_ne.mpr c37
                              have c37b1 : (t165 != 0) = true := bne_iff_ne.mpr c37
                              replace H := Option.bind_eq_some_iff.mp H
                              obtain ⟨t169, A430, H⟩ := H
                              replace H : (if t169 = 1 then ((impl_PowG.f kj9 (Int.tmod (rd t142 0) 256) 255).bind fun t170 => (if t170 = 1 then ((impl_PowG.f kj9 2 8).bind fun t171 => (if t171 = 29 then ((impl_PowG.f kj9 (Int.tmod (rd t142 0) 256) (-1)).bind fun t172 => (if t172 = 0 then ((impl_PowG.f kj9 (Int.tmod (rd t142 0) 256) 0).bind fun t173 => (some (t173 == 1))) else (some false))) else (some false))) else (some false))) else (some false)) = some r := H
                              have A43 := Aside0.mk A430
                              clear A430
                              by_cases c44 : t169 = 1
                              · rw [if_pos c44] at H
                                have c44b0 : (t169 == 1) = true := beq_iff_eq.mpr c44
                                have c44b1 : (t169 != 1) = false := bne_eq_false_iff_eq.mpr c44
                                clear c44
                                replace H := Option.bind_eq_some_iff.mp H
                                obtain ⟨t170, A450, H⟩ := H
                                replace H : (if t170 = 1 then ((impl_PowG.f kj9 2 8).bind fun t171 => (if t171 = 29 then ((impl_PowG.f kj9 (Int.tmod (rd t142 0) 256) (-1)).bind fun t172 => (if t172 = 0 then ((impl_PowG.f kj9 (Int.tmod (rd t142 0) 256) 0).bind fun t173 => (some (t173 == 1))) else (some false))) else (some false))) else (some false)) = some r := H
                                have A45 := Aside0.mk A450
                                clear A450
                                by_cases c46 : t170 = 1
                                · rw [if_pos c46] at H
                                  have c46b0 : (t170 == 1) = true := beq_iff_eq.mpr c46
                                  have c46b1 : (t170 != 1) = false := bne_eq_false_iff_eq.mpr c46
                                  clear c46
                                  replace H := Option.bind_eq_some_iff.mp H
                                  obtain ⟨t171, A470, H⟩ := H
                                  replace H : (if t171 = 29 then ((impl_PowG.f kj9 (Int.tmod (rd t142 0) 256) (-1)).bind fun t172 => (if t172 = 0 then ((impl_PowG.f kj9 (Int.tmod (rd t142 0) 256) 0).bind fun t173 => (some (t173 == 1))) else (some false))) else (some false)) = some r := H
                                  have A47 := Aside0.mk A470
                                  clear A470
                                  by_cases c48 : t171 = 29
                                  · rw [if_pos c48] at H
                                    have c48b0 : (t171 == 29) = true := beq_iff_eq.mpr c48
                                    have c48b1 : (t171 != 29) = false := bne_eq_false_iff_eq.mpr c48
                                    clear c48
                                    replace H := Option.bind_eq_some_iff.mp H
                                    obtain ⟨t172, A490, H⟩ := H
                                    replace H : (if t172 = 0 then ((impl_PowG.f kj9 (Int.tmod (rd t142 0) 256) 0).bind fun t173 => (some (t173 == 1))) else (some false)) = some r := H
                                    have A49 := Aside0.mk A490
                                    clear A490
                                    by_cases c50 : t172 = 0
                                    · rw [if_pos c50] at H
                                      have c50b0 : (t172 == 0) = true := beq_iff_eq.mpr c50
                                      have c50b1 : (t172 != 0) = false := bne_eq_false_iff_eq.mpr c50
                                      clear c50
                                      replace H := Option.bind_eq_some_iff.mp H
                                      obtain ⟨t173, A510, H⟩ := H
                                      replace H : (some (t173 == 1)) = some r := H
                                      have A51 := Aside0.mk A510
                                      clear A510
                                      obtain rfl := Option.some.inj H
                                      go_wp2_with (first | ((with_reducible refine gate_callee (f := 37) rfl ?_); refine goesL_ (some 79) rfl rfl Try.func37 (by kernel_rfl) rfl #[.int .i64 (Int.tmod (rd t142 0) 256), .int .i64 (Int.tmod (rd t142 3) 200)] rfl (by (try simp only [List.map_toArray, List.map_cons, List.map_nil]); first | done | rfl | (simp only [List.length_drop, List.length_take]; rfl)) ?_; (with_reducible refine (impl_PowG.calls kj9 (Int.tmod (rd t142 0) 256) (Int.tmod (rd t142 3) 200) t159 _ A26.out).mono ?_); rintro e w' ⟨rfl, ⟨nd, rfl⟩⟩; refine ⟨_, rfl, ?_⟩) | ((with_reducible refine gate_callee (f := 37) rfl ?_); refine goesL_ (some 82) rfl rfl Try.func37 (by kernel_rfl) rfl #[.int .i64 (Int.tmod (rd t142 0) 256), .int .i64 (Int.tmod (rd t142 4) 200)] rfl (by (try simp only [List.map_toArray, List.map_cons, List.map_nil]); first | done | rfl | (simp only [List.length_drop, List.length_take]; rfl)) ?_; (with_reducible refine (impl_PowG.calls kj9 (Int.tmod (rd t142 0) 256) (Int.tmod (rd t142 4) 200) t160 _ A27.out).mono ?_); rintro e w' ⟨rfl, ⟨nd, rfl⟩⟩; refine ⟨_, rfl, ?_⟩) | ((with_reducible refine gate_callee (f := 35) rfl ?_); refine goesL_ (some 83) rfl rfl Try.func35 (by kernel_rfl) rfl #[.int .i64 t159, .int .i64 t160] rfl (by (try simp only [List.map_toArray, List.map_cons, List.map_nil]); first | done | rfl | (simp only [List.length_drop, List.length_take]; rfl)) ?_; (with_reducible refine (impl_MulG.calls kj9 t159 t160 t161 _ A28.out).mono ?_); rintro e w' ⟨rfl, ⟨nd, rfl⟩⟩; refine ⟨_, rfl, ?_⟩) | ((with_reducible refine gate_callee (f := 37) rfl ?_); refine goesL_ (some 88) rfl rfl Try.func37 (by kernel_rfl) rfl #[.int .i64 (Int.tmod (rd t142 0) 256), .int .i64 (wrap64 ((Int.tmod (rd t142 3) 200) + (Int.tmod (rd t142 4) 200)))] rfl (by (try simp only [List.map_toArray, List.map_cons, List.map_nil]); first | done | rfl | (simp only [List.length_drop, List.length_take]; rfl)) ?_; (with_reducible refine (impl_PowG.calls kj9 (Int.tmod (rd t142 0) 256) (wrap64 ((Int.tmod (rd t142 3) 200) + (Int.tmod (rd t142 4) 200))) t162 _ A29.out).mono ?_); rintro e w' ⟨rfl, ⟨nd, rfl⟩⟩; refine ⟨_, rfl, ?_⟩) | ((with_reducible refine gate_callee (f := 35) rfl ?_); refine goesL_ (some 91) rfl rfl Try.func35 (by kernel_rfl) rfl #[.int .i64 (Int.tmod (rd t142 0) 256), .int .i64 1] rfl (by (try simp only [List.map_toArray, List.map_cons, List.map_nil]); first | done | rfl | (simp only [List.length_drop, List.length_take]; rfl)) ?_; (with_reducible refine (impl_MulG.calls kj9 (Int.tmod (rd t142 0) 256) 1 t163 _ A31.out).mono ?_); rintro e w' ⟨rfl, ⟨nd, rfl⟩⟩; refine ⟨_, rfl, ?_⟩) | (go_at_call 35; (with_reducible refine (impl_MulG.calls kj9 (Int.tmod (rd t142 0) 256) 0 t164 _ A33.out).mono ?_); rintro e w' ⟨rfl, ⟨nd, rfl⟩⟩) | (go_at_call 16; (with_reducible refine (impl_InvG.calls kj9 (Int.tmod (rd t142 0) 256) t165 _ A36.out).mono ?_); rintro e w' ⟨rfl, ⟨nd, rfl⟩⟩) | (go_at_call 35; (with_reducible refine (impl_MulG.calls kj9 (Int.tmod (rd t142 0) 256) t165 t169 _ A43.out).mono ?_); rintro e w' ⟨rfl, ⟨nd, rfl⟩⟩) | (go_at_call 37; (with_reducible refine (impl_PowG.calls kj9 (Int.tmod (rd t142 0) 256) 255 t170 _ A45.out).mono ?_); rintro e w' ⟨rfl, ⟨nd, rfl⟩⟩) | (go_at_call 37; (with_reducible refine (impl_PowG.calls kj9 2 8 t171 _ A47.out).mono ?_); rintro e w' ⟨rfl, ⟨nd, rfl⟩⟩) | (go_at_call 37; (with_reducible refine (impl_PowG.calls kj9 (Int.tmod (rd t142 0) 256) (-1) t172 _ A49.out).mono ?_); rintro e w' ⟨rfl, ⟨nd, rfl⟩⟩) | (go_at_call 37; (with_reducible refine (impl_PowG.calls kj9 (Int.tmod (rd t142 0) 256) 0 t173 _ A51.out).mono ?_); rintro e w' ⟨rfl, ⟨nd, rfl⟩⟩))
                                      go_ret
                                      exact ⟨by first | rfl | (simp [errW_none, errW_some] <;> rfl) | (simp [*, errW_none, errW_some] <;> rfl), by repeat (first | (with_reducible first | exact HB.out | apply below_alloc | apply pw_below_drewN | apply below_drew1) | exact HB.out)⟩
                                    · rw [if_neg c50] at H
                                      have c50b0 : (t172 == 0) = false := beq_eq_false_iff_ne.mpr c50
                                      have c50b1 : (t172 != 0) = true := bne_iff_ne.mpr c50
                                      obtain rfl := Option.some.inj H
                                      go_wp2_with (first | ((with_reducible refine gate_callee (f := 37) rfl ?_); refine goesL_ (some 79) rfl rfl Try.func37 (by kernel_rfl) rfl #[.int .i64 (Int.tmod (rd t142 0) 256), .int .i64 (Int.tmod (rd t142 3) 200)] rfl (by (try simp only [List.map_toArray, List.map_cons, List.map_nil]); first | done | rfl | (simp only [List.length_drop, List.length_take]; rfl)) ?_; (with_reducible refine (impl_PowG.calls kj9 (Int.tmod (rd t142 0) 256) (Int.tmod (rd t142 3) 200) t159 _ A26.out).mono ?_); rintro e w' ⟨rfl, ⟨nd, rfl⟩⟩; refine ⟨_, rfl, ?_⟩) | ((with_reducible refine gate_callee (f := 37) rfl ?_); refine goesL_ (some 82) rfl rfl Try.func37 (by kernel_rfl) rfl #[.int .i64 (Int.tmod (rd t142 0) 256), .int .i64 (Int.tmod (rd t142 4) 200)] rfl (by (try simp only [List.map_toArray, List.map_cons, List.map_nil]); first | done | rfl | (simp only [List.length_drop, List.length_take]; rfl)) ?_; (with_reducible refine (impl_PowG.calls kj9 (Int.tmod (rd t142 0) 256) (Int.tmod (rd t142 4) 200) t160 _ A27.out).mono ?_); rintro e w' ⟨rfl, ⟨nd, rfl⟩⟩; refine ⟨_, rfl, ?_⟩) | ((with_reducible refine gate_callee (f := 35) rfl ?_); refine goesL_ (some 83) rfl rfl Try.func35 (by kernel_rfl) rfl #[.int .i64 t159, .int .i64 t160] rfl (by (try simp only [List.map_toArray, List.map_cons, List.map_nil]); first | done | rfl | (simp only [List.length_drop, List.length_take]; rfl)) ?_; (with_reducible refine (impl_MulG.calls kj9 t159 t160 t161 _ A28.out).mono ?_); rintro e w' ⟨rfl, ⟨nd, rfl⟩⟩; refine ⟨_, rfl, ?_⟩) | ((with_reducible refine gate_callee (f := 37) rfl ?_); refine goesL_ (some 88) rfl rfl Try.func37 (by kernel_rfl) rfl #[.int .i64 (Int.tmod (rd t142 0) 256), .int .i64 (wrap64 ((Int.tmod (rd t142 3) 200) + (Int.tmod (rd t142 4) 200)))] rfl (by (try simp only [List.map_toArray, List.map_cons, List.map_nil]); first | done | rfl | (simp only [List.length_drop, List.length_take]; rfl)) ?_; (with_reducible refine (impl_PowG.calls kj9 (Int.tmod (rd t142 0) 256) (wrap64 ((Int.tmod (rd t142 3) 200) + (Int.tmod (rd t142 4) 200))) t162 _ A29.out).mono ?_); rintro e w' ⟨rfl, ⟨nd, rfl⟩⟩; refine ⟨_, rfl, ?_⟩) | ((with_reducible refine gate_callee (f := 35) rfl ?_); refine goesL_ (some 91) rfl rfl Try.func35 (by kernel_rfl) rfl #[.int .i64 (Int.tmod (rd t142 0) 256), .int .i64 1] rfl (by (try simp only [List.map_toArray, List.map_cons, List.map_nil]); first | done | rfl | (simp only [List.length_drop, List.length_take]; rfl)) ?_; (with_reducible refine (impl_MulG.calls kj9 (Int.tmod (rd t142 0) 256) 1 t163 _ A31.out).mono ?_); rintro e w' ⟨rfl, ⟨nd, rfl⟩⟩; refine ⟨_, rfl, ?_⟩) | (go_at_call 35; (with_reducible refine (impl_MulG.calls kj9 (Int.tmod (rd t142 0) 256) 0 t164 _ A33.out).mono ?_); rintro e w' ⟨rfl, ⟨nd, rfl⟩⟩) | (go_at_call 16; (with_reducible refine (impl_InvG.calls kj9 (Int.tmod (rd t142 0) 256) t165 _ A36.out).mono ?_); rintro e w' ⟨rfl, ⟨nd, rfl⟩⟩) | (go_at_call 35; (with_reducible refine (impl_MulG.calls kj9 (Int.tmod (rd t142 0) 256) t165 t169 _ A43.out).mono ?_); rintro e w' ⟨rfl, ⟨nd, rfl⟩⟩) | (go_at_call 37; (with_reducible refine (impl_PowG.calls kj9 (Int.tmod (rd t142 0) 256) 255 t170 _ A45.out).mono ?_); rintro e w' ⟨rfl, ⟨nd, rfl⟩⟩) | (go_at_call 37; (with_reducible refine (impl_PowG.calls kj9 2 8 t171 _ A47.out).mono ?_); rintro e w' ⟨rfl, ⟨nd, rfl⟩⟩) | (go_at_call 37; (with_reducible refine (impl_PowG.calls kj9 (Int.tmod (rd t142 0) 256) (-1) t172 _ A49.out).mono ?_); rintro e w' ⟨rfl, ⟨nd, rfl⟩⟩))
                                      go_ret
                                      exact ⟨by first | rfl | (simp [errW_none, errW_some] <;> rfl) | (simp [*, errW_none, errW_some] <;> rfl), by repeat (first | (with_reducible first | exact HB.out | apply below_alloc | apply pw_below_drewN | apply below_drew1) | exact HB.out)⟩
                                  · rw [if_neg c48] at H
                                    have c48b0 : (t171 == 29) = false := beq_eq_false_iff_ne.mpr c48
                                    have c48b1 : (t171 != 29) = true := bne_iff_ne.mpr c48
                                    obtain rfl := Option.some.inj H
                                    go_wp2_with (first | ((with_reducible refine gate_callee (f := 37) rfl ?_); refine goesL_ (some 79) rfl rfl Try.func37 (by kernel_rfl) rfl #[.int .i64 (Int.tmod (rd t142 0) 256), .int .i64 (Int.tmod (rd t142 3) 200)] rfl (by (try simp only [List.map_toArray, List.map_cons, List.map_nil]); first | done | rfl | (simp only [List.length_drop, List.length_take]; rfl)) ?_; (with_reducible refine (impl_PowG.calls kj9 (Int.tmod (rd t142 0) 256) (Int.tmod (rd t142 3) 200) t159 _ A26.out).mono ?_); rintro e w' ⟨rfl, ⟨nd, rfl⟩⟩; refine ⟨_, rfl, ?_⟩) | ((with_reducible refine gate_callee (f := 37) rfl ?_); refine goesL_ (some 82) rfl rfl Try.func37 (by kernel_rfl) rfl #[.int .i64 (Int.tmod (rd t142 0) 256), .int .i64 (Int.tmod (rd t142 4) 200)] rfl (by (try simp only [List.map_toArray, List.map_cons, List.map_nil]); first | done | rfl | (simp only [List.length_drop, List.length_take]; rfl)) ?_; (with_reducible refine (impl_PowG.calls kj9 (Int.tmod (rd t142 0) 256) (Int.tmod (rd t142 4) 200) t160 _ A27.out).mono ?_); rintro e w' ⟨rfl, ⟨nd, rfl⟩⟩; refine ⟨_, rfl, ?_⟩) | ((with_reducible refine gate_callee (f := 35) rfl ?_); refine goesL_ (some 83) rfl rfl Try.func35 (by kernel_rfl) rfl #[.int .i64 t159, .int .i64 t160] rfl (by (try simp only [List.map_toArray, List.map_cons, List.map_nil]); first | done | rfl | (simp only [List.length_drop, List.length_take]; rfl)) ?_; (with_reducible refine (impl_MulG.calls kj9 t159 t160 t161 _ A28.out).mono ?_); rintro e w' ⟨rfl, ⟨nd, rfl⟩⟩; refine ⟨_, rfl, ?_⟩) | ((with_reducible refine gate_callee (f := 37) rfl ?_); refine goesL_ (some 88) rfl rfl Try.func37 (by kernel_rfl) rfl #[.int .i64 (Int.tmod (rd t142 0) 256), .int .i64 (wrap64 ((Int.tmod (rd t142 3) 200) + (Int.tmod (rd t142 4) 200)))] rfl (by (try simp only [List.map_toArray, List.map_cons, List.map_nil]); first | done | rfl | (simp only [List.length_drop, List.length_take]; rfl)) ?_; (with_reducible refine (impl_PowG.calls kj9 (Int.tmod (rd t142 0) 256) (wrap64 ((Int.tmod (rd t142 3) 200) + (Int.tmod (rd t142 4) 200))) t162 _ A29.out).mono ?_); rintro e w' ⟨rfl, ⟨nd, rfl⟩⟩; refine ⟨_, rfl, ?_⟩) | ((with_reducible refine gate_callee (f := 35) rfl ?_); refine goesL_ (some 91) rfl rfl Try.func35 (by kernel_rfl) rfl #[.int .i64 (Int.tmod (rd t142 0) 256), .int .i64 1] rfl (by (try simp only [List.map_toArray, List.map_cons, List.map_nil]); first | done | rfl | (simp only [List.length_drop, List.length_take]; rfl)) ?_; (with_reducible refine (impl_MulG.calls kj9 (Int.tmod (rd t142 0) 256) 1 t163 _ A31.out).mono ?_); rintro e w' ⟨rfl, ⟨nd, rfl⟩⟩; refine ⟨_, rfl, ?_⟩) | (go_at_call 35; (with_reducible refine (impl_MulG.calls kj9 (Int.tmod (rd t142 0) 256) 0 t164 _ A33.out).mono ?_); rintro e w' ⟨rfl, ⟨nd, rfl⟩⟩) | (go_at_call 16; (with_reducible refine (impl_InvG.calls kj9 (Int.tmod (rd t142 0) 256) t165 _ A36.out).mono ?_); rintro e w' ⟨rfl, ⟨nd, rfl⟩⟩) | (go_at_call 35; (with_reducible refine (impl_MulG.calls kj9 (Int.tmod (rd t142 0) 256) t165 t169 _ A43.out).mono ?_); rintro e w' ⟨rfl, ⟨nd, rfl⟩⟩) | (go_at_call 37; (with_reducible refine (impl_PowG.calls kj9 (Int.tmod (rd t142 0) 256) 255 t170 _ A45.out).mono ?_); rintro e w' ⟨rfl, ⟨nd, rfl⟩⟩) | (go_at_call 37; (with_reducible refine (impl_PowG.calls kj9 2 8 t171 _ A47.out).mono ?_); rintro e w' ⟨rfl, ⟨nd, rfl⟩⟩))
                                    go_ret
                                    exact ⟨by first | rfl | (simp [errW_none, errW_some] <;> rfl) | (simp [*, errW_none, errW_some] <;> rfl), by repeat (first | (with_reducible first | exact HB.out | apply below_alloc | apply pw_below_drewN | apply below_drew1) | exact HB.out)⟩
                                · rw [if_neg c46] at H
                                  have c46b0 : (t170 == 1) = false := beq_eq_false_iff_ne.mpr c46
                                  have c46b1 : (t170 != 1) = true := bne_iff_ne.mpr c46
                                  obtain rfl := Option.some.inj H
                                  go_wp2_with (first | ((with_reducible refine gate_callee (f := 37) rfl ?_); refine goesL_ (some 79) rfl rfl Try.func37 (by kernel_rfl) rfl #[.int .i64 (Int.tmod (rd t142 0) 256), .int .i64 (Int.tmod (rd t142 3) 200)] rfl (by (try simp only [List.map_toArray, List.map_cons, List.map_nil]); first | done | rfl | (simp only [List.length_drop, List.length_take]; rfl)) ?_; (with_reducible refine (impl_PowG.calls kj9 (Int.tmod (rd t142 0) 256) (Int.tmod (rd t142 3) 200) t159 _ A26.out).mono ?_); rintro e w' ⟨rfl, ⟨nd, rfl⟩⟩; refine ⟨_, rfl, ?_⟩) | ((with_reducible refine gate_callee (f := 37) rfl ?_); refine goesL_ (some 82) rfl rfl Try.func37 (by kernel_rfl) rfl #[.int .i64 (Int.tmod (rd t142 0) 256), .int .i64 (Int.tmod (rd t142 4) 200)] rfl (by (try simp only [List.map_toArray, List.map_cons, List.map_nil]); first | done | rfl | (simp only [List.length_drop, List.length_take]; rfl)) ?_; (with_reducible refine (impl_PowG.calls kj9 (Int.tmod (rd t142 0) 256) (Int.tmod (rd t142 4) 200) t160 _ A27.out).mono ?_); rintro e w' ⟨rfl, ⟨nd, rfl⟩⟩; refine ⟨_, rfl, ?_⟩) | ((with_reducible refine gate_callee (f := 35) rfl ?_); refine goesL_ (some 83) rfl rfl Try.func35 (by kernel_rfl) rfl #[.int .i64 t159, .int .i64 t160] rfl (by (try simp only [List.map_toArray, List.map_cons, List.map_nil]); first | done | rfl | (simp only [List.length_drop, List.length_take]; rfl)) ?_; (with_reducible refine (impl_MulG.calls kj9 t159 t160 t161 _ A28.out).mono ?_); rintro e w' ⟨rfl, ⟨nd, rfl⟩⟩; refine ⟨_, rfl, ?_⟩) | ((with_reducible refine gate_callee (f := 37) rfl ?_); refine goesL_ (some 88) rfl rfl Try.func37 (by kernel_rfl) rfl #[.int .i64 (Int.tmod (rd t142 0) 256), .int .i64 (wrap64 ((Int.tmod (rd t142 3) 200) + (Int.tmod (rd t142 4) 200)))] rfl (by (try simp only [List.map_toArray, List.map_cons, List.map_nil]); first | done | rfl | (simp only [List.length_drop, List.length_take]; rfl)) ?_; (with_reducible refine (impl_PowG.calls kj9 (Int.tmod (rd t142 0) 256) (wrap64 ((Int.tmod (rd t142 3) 200) + (Int.tmod (rd t142 4) 200))) t162 _ A29.out).mono ?_); rintro e w' ⟨rfl, ⟨nd, rfl⟩⟩; refine ⟨_, rfl, ?_⟩) | ((with_reducible refine gate_callee (f := 35) rfl ?_); refine goesL_ (some 91) rfl rfl Try.func35 (by kernel_rfl) rfl #[.int .i64 (Int.tmod (rd t142 0) 256), .int .i64 1] rfl (by (try simp only [List.map_toArray, List.map_cons, List.map_nil]); first | done | rfl | (simp only [List.length_drop, List.length_take]; rfl)) ?_; (with_reducible refine (impl_MulG.calls kj9 (Int.tmod (rd t142 0) 256) 1 t163 _ A31.out).mono ?_); rintro e w' ⟨rfl, ⟨nd, rfl⟩⟩; refine ⟨_, rfl, ?_⟩) | (go_at_call 35; (with_reducible refine (impl_MulG.calls kj9 (Int.tmod (rd t142 0) 256) 0 t164 _ A33.out).mono ?_); rintro e w' ⟨rfl, ⟨nd, rfl⟩⟩) | (go_at_call 16; (with_reducible refine (impl_InvG.calls kj9 (Int.tmod (rd t142 0) 256) t165 _ A36.out).mono ?_); rintro e w' ⟨rfl, ⟨nd, rfl⟩⟩) | (go_at_call 35; (with_reducible refine (impl_MulG.calls kj9 (Int.tmod (rd t142 0) 256) t165 t169 _ A43.out).mono ?_); rintro e w' ⟨rfl, ⟨nd, rfl⟩⟩) | (go_at_call 37; (with_reducible refine (impl_PowG.calls kj9 (Int.tmod (rd t142 0) 256) 255 t170 _ A45.out).mono ?_); rintro e w' ⟨rfl, ⟨nd, rfl⟩⟩))
                                  go_ret
                                  exact ⟨by first | rfl | (simp [errW_none, errW_some] <;> rfl) | (simp [*, errW_none, errW_some] <;> rfl), by repeat (first | (with_reducible first | exact HB.out | apply below_alloc | apply pw_below_drewN | apply below_drew1) | exact HB.out)⟩
                              · rw [if_neg c44] at H
                                have c44b0 : (t169 == 1) = false := beq_eq_false_iff_ne.mpr c44
                                have c44b1 : (t169 != 1) = true := bne_iff_ne.mpr c44
                                obtain rfl := Option.some.inj H
                                go_wp2_with (first | ((with_reducible refine gate_callee (f := 37) rfl ?_); refine goesL_ (some 79) rfl rfl Try.func37 (by kernel_rfl) rfl #[.int .i64 (Int.tmod (rd t142 0) 256), .int .i64 (Int.tmod (rd t142 3) 200)] rfl (by (try simp only [List.map_toArray, List.map_cons, List.map_nil]); first | done | rfl | (simp only [List.length_drop, List.length_take]; rfl)) ?_; (with_reducible refine (impl_PowG.calls kj9 (Int.tmod (rd t142 0) 256) (Int.tmod (rd t142 3) 200) t159 _ A26.out).mono ?_); rintro e w' ⟨rfl, ⟨nd, rfl⟩⟩; refine ⟨_, rfl, ?_⟩) | ((with_reducible refine gate_callee (f := 37) rfl ?_); refine goesL_ (some 82) rfl rfl Try.func37 (by kernel_rfl) rfl #[.int .i64 (Int.tmod (rd t142 0) 256), .int .i64 (Int.tmod (rd t142 4) 200)] rfl (by (try simp only [List.map_toArray, List.map_cons, List.map_nil]); first | done | rfl | (simp only [List.length_drop, List.length_take]; rfl)) ?_; (with_reducible refine (impl_PowG.calls kj9 (Int.tmod (rd t142 0) 256) (Int.tmod (rd t142 4) 200) t160 _ A27.out).mono ?_); rintro e w' ⟨rfl, ⟨nd, rfl⟩⟩; refine ⟨_, rfl, ?_⟩) | ((with_reducible refine gate_callee (f := 35) rfl ?_); refine goesL_ (some 83) rfl rfl Try.func35 (by kernel_rfl) rfl #[.int .i64 t159, .int .i64 t160] rfl (by (try simp only [List.map_toArray, List.map_cons, List.map_nil]); first | done | rfl | (simp only [List.length_drop, List.length_take]; rfl)) ?_; (with_reducible refine (impl_MulG.calls kj9 t159 t160 t161 _ A28.out).mono ?_); rintro e w' ⟨rfl, ⟨nd, rfl⟩⟩; refine ⟨_, rfl, ?_⟩) | ((with_reducible refine gate_callee (f := 37) rfl ?_); refine goesL_ (some 88) rfl rfl Try.func37 (by kernel_rfl) rfl #[.int .i64 (Int.tmod (rd t142 0) 256), .int .i64 (wrap64 ((Int.tmod (rd t142 3) 200) + (Int.tmod (rd t142 4) 200)))] rfl (by (try simp only [List.map_toArray, List.map_cons, List.map_nil]); first | done | rfl | (simp only [List.length_drop, List.length_take]; rfl)) ?_; (with_reducible refine (impl_PowG.calls kj9 (Int.tmod (rd t142 0) 256) (wrap64 ((Int.tmod (rd t142 3) 200) + (Int.tmod (rd t142 4) 200))) t162 _ A29.out).mono ?_); rintro e w' ⟨rfl, ⟨nd, rfl⟩⟩; refine ⟨_, rfl, ?_⟩) | ((with_reducible refine gate_callee (f := 35) rfl ?_); refine goesL_ (some 91) rfl rfl Try.func35 (by kernel_rfl) rfl #[.int .i64 (Int.tmod (rd t142 0) 256), .int .i64 1] rfl (by (try simp only [List.map_toArray, List.map_cons, List.map_nil]); first | done | rfl | (simp only [List.length_drop, List.length_take]; rfl)) ?_; (with_reducible refine (impl_MulG.calls kj9 (Int.tmod (rd t142 0) 256) 1 t163 _ A31.out).mono ?_); rintro e w' ⟨rfl, ⟨nd, rfl⟩⟩; refine ⟨_, rfl, ?_⟩) | (go_at_call 35; (with_reducible refine (impl_MulG.calls kj9 (Int.tmod (rd t142 0) 256) 0 t164 _ A33.out).mono ?_); rintro e w' ⟨rfl, ⟨nd, rfl⟩⟩) | (go_at_call 16; (with_reducible refine (impl_InvG.calls kj9 (Int.tmod (rd t142 0) 256) t165 _ A36.out).mono ?_); rintro e w' ⟨rfl, ⟨nd, rfl⟩⟩) | (go_at_call 35; (with_reducible refine (impl_MulG.calls kj9 (Int.tmod (rd t142 0) 256) t165 t169 _ A43.out).mono ?_); rintro e w' ⟨rfl, ⟨nd, rfl⟩⟩))
                                go_ret
                                exact ⟨by first | rfl | (simp [errW_none, errW_some] <;> rfl) | (simp [*, errW_none, errW_some] <;> rfl), by repeat (first | (with_reducible first | exact HB.out | apply below_alloc | apply pw_below_drewN | apply below_drew1) | exact HB.out)⟩
                          · rw [if_neg c35] at H
                            have c35b0 : ((Int.tmod (rd t142 0) 256) == 0) = false := beq_eq_false_iff_ne.mpr c35
                            have c35b1 : ((Int.tmod (rd t142 0) 256) != 0) = true := bne_iff_ne.mpr c35
                            replace H := Option.bind_eq_some_iff.mp H
                            obtain ⟨t174, A520, H⟩ := H
                            replace H : ((impl_MulG.f kj9 (Int.tmod (rd t142 0) 256) t174).bind fun t175 => (if t175 = 1 then ((impl_PowG.f kj9 (Int.tmod (rd t142 0) 256) 255).bind fun t176 => (if t176 = 1 then ((impl_PowG.f kj9 2 8).bind fun t177 => (if t177 = 29 then ((impl_PowG.f kj9 (Int.tmod (rd t142 0) 256) (-1)).bind fun t178 => (if t178 = 0 then ((impl_PowG.f kj9 (Int.tmod (rd t142 0) 256) 0).bind fun t179 => (some (t179 == 1))) else (some false))) else (some false))) else (some false))) else (some false))) = some r := H
                            have A52 := Aside0.mk A520
                            clear A520
                            replace H := Option.bind_eq_some_iff.mp H
                            obtain ⟨t175, A530, H⟩ := H
                            replace H : (if t175 = 1 then ((impl_PowG.f kj9 (Int.tmod (rd t142 0) 256) 255).bind fun t176 => (if t176 = 1 then ((impl_PowG.f kj9 2 8).bind fun t177 => (if t177 = 29 then ((impl_PowG.f kj9 (Int.tmod (rd t142 0) 256) (-1)).bind fun t178 => (if t178 = 0 then ((impl_PowG.f kj9 (Int.tmod (rd t142 0) 256) 0).bind fun t179 => (some (t179 == 1))) else (some false))) else (some false))) else (some false))) else (some false)) = some r := H
                            have A53 := Aside0.mk A530
                            clear A530
                            by_cases c54 : t175 = 1
                            · rw [if_pos c54] at H
                              have c54b0 : (t175 == 1) = true := beq_iff_eq.mpr c54
                              have c54b1 : (t175 != 1) = false := bne_eq_false_iff_eq.mpr c54
                              clear c54
                              replace H := Option.bind_eq_some_iff.mp H
                              obtain ⟨t176, A550, H⟩ := H
                              replace H : (if t176 = 1 then ((impl_PowG.f kj9 2 8).bind fun t177 => (if t177 = 29 then ((impl_PowG.f kj9 (Int.tmod (rd t142 0) 256) (-1)).bind fun t178 => (if t178 = 0 then ((impl_PowG.f kj9 (Int.tmod (rd t142 0) 256) 0).bind fun t179 => (some (t179 == 1))) else (some false))) else (some false))) else (some false)) = some r := H
                              have A55 := Aside0.mk A550
                              clear A550
                              by_cases c56 : t176 = 1
                              · rw [if_pos c56] at H
                                have c56b0 : (t176 == 1) = true := beq_iff_eq.mpr c56
                                have c56b1 : (t176 != 1) = false := bne_eq_false_iff_eq.mpr c56
                                clear c56
                                replace H := Option.bind_eq_some_iff.mp H
                                obtain ⟨t177, A570, H⟩ := H
                                replace H : (if t177 = 29 then ((impl_PowG.f kj9 (Int.tmod (rd t142 0) 256) (-1)).bind fun t178 => (if t178 = 0 then ((impl_PowG.f kj9 (Int.tmod (rd t142 0) 256) 0).bind fun t179 => (some (t179 == 1))) else (some false))) else (some false)) = some r := H
                                have A57 := Aside0.mk A570
                                clear A570
                                by_cases c58 : t177 = 29
                                · rw [if_pos c58] at H
                                  have c58b0 : (t177 == 29) = true := beq_iff_eq.mpr c58
                                  have c58b1 : (t177 != 29) = false := bne_eq_false_iff_eq.mpr c58
                                  clear c58
                                  replace H := Option.bind_eq_some_iff.mp H
                                  obtain ⟨t178, A590, H⟩ := H
                                  replace H : (if t178 = 0 then ((impl_PowG.f kj9 (Int.tmod (rd t142 0) 256) 0).bind fun t179 => (some (t179 == 1))) else (some false)) = some r := H
                                  have A59 := Aside0.mk A590
                                  clear A590
                                  by_cases c60 : t178 = 0
                                  · rw [if_pos c60] at H
                                    have c60b0 : (t178 == 0) = true := beq_iff_eq.mpr c60
                                    have c60b1 : (t178 != 0) = false := bne_eq_false_iff_eq.mpr c60
                                    clear c60
                                    replace H := Option.bind_eq_some_iff.mp H
                                    obtain ⟨t179, A610, H⟩ := H
                                    replace H : (some (t179 == 1)) = some r := H
                                    have A61 := Aside0.mk A610
                                    clear A610
                                    obtain rfl := Option.some.inj H
                                    go_wp2_with (first | ((with_reducible refine gate_callee (f := 37) rfl ?_); refine goesL_ (some 79) rfl rfl Try.func37 (by kernel_rfl) rfl #[.int .i64 (Int.tmod (rd t142 0) 256), .int .i64 (Int.tmod (rd t142 3) 200)] rfl (by (try simp only [List.map_toArray, List.map_cons, List.map_nil]); first | done | rfl | (simp only [List.length_drop, List.length_take]; rfl)) ?_; (with_reducible refine (impl_PowG.calls kj9 (Int.tmod (rd t142 0) 256) (Int.tmod (rd t142 3) 200) t159 _ A26.out).mono ?_); rintro e w' ⟨rfl, ⟨nd, rfl⟩⟩; refine ⟨_, rfl, ?_⟩) | ((with_reducible refine gate_callee (f := 37) rfl ?_); refine goesL_ (some 82) rfl rfl Try.func37 (by kernel_rfl) rfl #[.int .i64 (Int.tmod (rd t142 0) 256), .int .i64 (Int.tmod (rd t142 4) 200)] rfl (by (try simp only [List.map_toArray, List.map_cons, List.map_nil]); first | done | rfl | (simp only [List.length_drop, List.length_take]; rfl)) ?_; (with_reducible refine (impl_PowG.calls kj9 (Int.tmod (rd t142 0) 256) (Int.tmod (rd t142 4) 200) t160 _ A27.out).mono ?_); rintro e w' ⟨rfl, ⟨nd, rfl⟩⟩; refine ⟨_, rfl, ?_⟩) | ((with_reducible refine gate_callee (f := 35) rfl ?_); refine goesL_ (some 83) rfl rfl Try.func35 (by kernel_rfl) rfl #[.int .i64 t159, .int .i64 t160] rfl (by (try simp only [List.map_toArray, List.map_cons, List.map_nil]); first | done | rfl | (simp only [List.length_drop, List.length_take]; rfl)) ?_; (with_reducible refine (impl_MulG.calls kj9 t159 t160 t161 _ A28.out).mono ?_); rintro e w' ⟨rfl, ⟨nd, rfl⟩⟩; refine ⟨_, rfl, ?_⟩) | ((with_reducible refine gate_callee (f := 37) rfl ?_); refine goesL_ (some 88) rfl rfl Try.func37 (by kernel_rfl) rfl #[.int .i64 (Int.tmod (rd t142 0) 256), .int .i64 (wrap64 ((Int.tmod (rd t142 3) 200) + (Int.tmod (rd t142 4) 200)))] rfl (by (try simp only [List.map_toArray, List.map_cons, List.map_nil]); first | done | rfl | (simp only [List.length_drop, List.length_take]; rfl)) ?_; (with_reducible refine (impl_PowG.calls kj9 (Int.tmod (rd t142 0) 256) (wrap64 ((Int.tmod (rd t142 3) 200) + (Int.tmod (rd t142 4) 200))) t162 _ A29.out).mono ?_); rintro e w' ⟨rfl, ⟨nd, rfl⟩⟩; refine ⟨_, rfl, ?_⟩) | ((with_reducible refine gate_callee (f := 35) rfl ?_); refine goesL_ (some 91) rfl rfl Try.func35 (by kernel_rfl) rfl #[.int .i64 (Int.tmod (rd t142 0) 256), .int .i64 1] rfl (by (try simp only [List.map_toArray, List.map_cons, List.map_nil]); first | done | rfl | (simp only [List.length_drop, List.length_take]; rfl)) ?_; (with_reducible refine (impl_MulG.calls kj9 (Int.tmod (rd t142 0) 256) 1 t163 _ A31.out).mono ?_); rintro e w' ⟨rfl, ⟨nd, rfl⟩⟩; refine ⟨_, rfl, ?_⟩) | (go_at_call 35; (with_reducible refine (impl_MulG.calls kj9 (Int.tmod (rd t142 0) 256) 0 t164 _ A33.out).mono ?_); rintro e w' ⟨rfl, ⟨nd, rfl⟩⟩) | (go_at_call 16; (with_reducible refine (impl_InvG.calls kj9 (Int.tmod (rd t142 0) 256) t174 _ A52.out).mono ?_); rintro e w' ⟨rfl, ⟨nd, rfl⟩⟩) | (go_at_call 35; (with_reducible refine (impl_MulG.calls kj9 (Int.tmod (rd t142 0) 256) t174 t175 _ A53.out).mono ?_); rintro e w' ⟨rfl, ⟨nd, rfl⟩⟩) | (go_at_call 37; (with_reducible refine (impl_PowG.calls kj9 (Int.tmod (rd t142 0) 256) 255 t176 _ A55.out).mono ?_); rintro e w' ⟨rfl, ⟨nd, rfl⟩⟩) | (go_at_call 37; (with_reducible refine (impl_PowG.calls kj9 2 8 t177 _ A57.out).mono ?_); rintro e w' ⟨rfl, ⟨nd, rfl⟩⟩) | (go_at_call 37; (with_reducible refine (impl_PowG.calls kj9 (Int.tmod (rd t142 0) 256) (-1) t178 _ A59.out).mono ?_); rintro e w' ⟨rfl, ⟨nd, rfl⟩⟩) | (go_at_call 37; (with_reducible refine (impl_PowG.calls kj9 (Int.tmod (rd t142 0) 256) 0 t179 _ A61.out).mono ?_); rintro e w' ⟨rfl, ⟨nd, rfl⟩⟩))
                                    go_ret
                                    exact ⟨by first | rfl | (simp [errW_none, errW_some] <;> rfl) | (simp [*, errW_none, errW_some] <;> rfl), by repeat (first | (with_reducible first | exact HB.out | apply below_alloc | apply pw_below_drewN | apply below_drew1) | exact HB.out)⟩
                                  · rw [if_neg c60] at H
                                    have c60b0 : (t178 == 0) = false := beq_eq_false_iff_ne.mpr c60
                                    have c60b1 : (t178 != 0) = true := bne_iff_ne.mpr c60
                                    obtain rfl := Option.some.inj H
                                    go_wp2_with (first | ((with_reducible refine gate_callee (f := 37) rfl ?_); refine goesL_ (some 79) rfl rfl Try.func37 (by kernel_rfl) rfl #[.int .i64 (Int.tmod (rd t142 0) 256), .int .i64 (Int.tmod (rd t142 3) 200)] rfl (by (try simp only [List.map_toArray, List.map_cons, List.map_nil]); first | done | rfl | (simp only [List.length_drop, List.length_take]; rfl)) ?_; (with_reducible refine (impl_PowG.calls kj9 (Int.tmod (rd t142 0) 256) (Int.tmod (rd t142 3) 200) t159 _ A26.out).mono ?_); rintro e w' ⟨rfl, ⟨nd, rfl⟩⟩; refine ⟨_, rfl, ?_⟩) | ((with_reducible refine gate_callee (f := 37) rfl ?_); refine goesL_ (some 82) rfl rfl Try.func37 (by kernel_rfl) rfl #[.int .i64 (Int.tmod (rd t142 0) 256), .int .i64 (Int.tmod (rd t142 4) 200)] rfl (by (try simp only [List.map_toArray, List.map_cons, List.map_nil]); first | done | rfl | (simp only [List.length_drop, List.length_take]; rfl)) ?_; (with_reducible refine (impl_PowG.calls kj9 (Int.tmod (rd t142 0) 256) (Int.tmod (rd t142 4) 200) t160 _ A27.out).mono ?_); rintro e w' ⟨rfl, ⟨nd, rfl⟩⟩; refine ⟨_, rfl, ?_⟩) | ((with_reducible refine gate_callee (f := 35) rfl ?_); refine goesL_ (some 83) rfl rfl Try.func35 (by kernel_rfl) rfl #[.int .i64 t159, .int .i64 t160] rfl (by (try simp only [List.map_toArray, List.map_cons, List.map_nil]); first | done | rfl | (simp only [List.length_drop, List.length_take]; rfl)) ?_; (with_reducible refine (impl_MulG.calls kj9 t159 t160 t161 _ A28.out).mono ?_); rintro e w' ⟨rfl, ⟨nd, rfl⟩⟩; refine ⟨_, rfl, ?_⟩) | ((with_reducible refine gate_callee (f := 37) rfl ?_); refine goesL_ (some 88) rfl rfl Try.func37 (by kernel_rfl) rfl #[.int .i64 (Int.tmod (rd t142 0) 256), .int .i64 (wrap64 ((Int.tmod (rd t142 3) 200) + (Int.tmod (rd t142 4) 200)))] rfl (by (try simp only [List.map_toArray, List.map_cons, List.map_nil]); first | done | rfl | (simp only [List.length_drop, List.length_take]; rfl)) ?_; (with_reducible refine (impl_PowG.calls kj9 (Int.tmod (rd t142 0) 256) (wrap64 ((Int.tmod (rd t142 3) 200) + (Int.tmod (rd t142 4) 200))) t162 _ A29.out).mono ?_); rintro e w' ⟨rfl, ⟨nd, rfl⟩⟩; refine ⟨_, rfl, ?_⟩) | ((with_reducible refine gate_callee (f := 35) rfl ?_); refine goesL_ (some 91) rfl rfl Try.func35 (by kernel_rfl) rfl #[.int .i64 (Int.tmod (rd t142 0) 256), .int .i64 1] rfl (by (try simp only [List.map_toArray, List.map_cons, List.map_nil]); first | done | rfl | (simp only [List.length_drop, List.length_take]; rfl)) ?_; (with_reducible refine (impl_MulG.calls kj9 (Int.tmod (rd t142 0) 256) 1 t163 _ A31.out).mono ?_); rintro e w' ⟨rfl, ⟨nd, rfl⟩⟩; refine ⟨_, rfl, ?_⟩) | (go_at_call 35; (with_reducible refine (impl_MulG.calls kj9 (Int.tmod (rd t142 0) 256) 0 t164 _ A33.out).mono ?_); rintro e w' ⟨rfl, ⟨nd, rfl⟩⟩) | (go_at_call 16; (with_reducible refine (impl_InvG.calls kj9 (Int.tmod (rd t142 0) 256) t174 _ A52.out).mono ?_); rintro e w' ⟨rfl, ⟨nd, rfl⟩⟩) | (go_at_call 35; (with_reducible refine (impl_MulG.calls kj9 (Int.tmod (rd t142 0) 256) t174 t175 _ A53.out).mono ?_); rintro e w' ⟨rfl, ⟨nd, rfl⟩⟩) | (go_at_call 37; (with_reducible refine (impl_PowG.calls kj9 (Int.tmod (rd t142 0) 256) 255 t176 _ A55.out).mono ?_); rintro e w' ⟨rfl, ⟨nd, rfl⟩⟩) | (go_at_call 37; (with_reducible refine (impl_PowG.calls kj9 2 8 t177 _ A57.out).mono ?_); rintro e w' ⟨rfl, ⟨nd, rfl⟩⟩) | (go_at_call 37; (with_reducible refine (impl_PowG.calls kj9 (Int.tmod (rd t142 0) 256) (-1) t178 _ A59.out).mono ?_); rintro e w' ⟨rfl, ⟨nd, rfl⟩⟩))
                                    go_ret
                                    exact ⟨by first | rfl | (simp [errW_none, errW_some] <;> rfl) | (simp [*, errW_none, errW_some] <;> rfl), by repeat (first | (with_reducible first | exact HB.out | apply below_alloc | apply pw_below_drewN | apply below_drew1) | exact HB.out)⟩
                                · rw [if_neg c58] at H
                                  have c58b0 : (t177 == 29) = false := beq_eq_false_iff_ne.mpr c58
                                  have c58b1 : (t177 != 29) = true := bne_iff_ne.mpr c58
                                  obtain rfl := Option.some.inj H
                                  go_wp2_with (first | ((with_reducible refine gate_callee (f := 37) rfl ?_); refine goesL_ (some 79) rfl rfl Try.func37 (by kernel_rfl) rfl #[.int .i64 (Int.tmod (rd t142 0) 256), .int .i64 (Int.tmod (rd t142 3) 200)] rfl (by (try simp only [List.map_toArray, List.map_cons, List.map_nil]); first | done | rfl | (simp only [List.length_drop, List.length_take]; rfl)) ?_; (with_reducible refine (impl_PowG.calls kj9 (Int.tmod (rd t142 0) 256) (Int.tmod (rd t142 3) 200) t159 _ A26.out).mono ?_); rintro e w' ⟨rfl, ⟨nd, rfl⟩⟩; refine ⟨_, rfl, ?_⟩) | ((with_reducible refine gate_callee (f := 37) rfl ?_); refine goesL_ (some 82) rfl rfl Try.func37 (by kernel_rfl) rfl #[.int .i64 (Int.tmod (rd t142 0) 256), .int .i64 (Int.tmod (rd t142 4) 200)] rfl (by (try simp only [List.map_toArray, List.map_cons, List.map_nil]); first | done | rfl | (simp only [List.length_drop, List.length_take]; rfl)) ?_; (with_reducible refine (impl_PowG.calls kj9 (Int.tmod (rd t142 0) 256) (Int.tmod (rd t142 4) 200) t160 _ A27.out).mono ?_); rintro e w' ⟨rfl, ⟨nd, rfl⟩⟩; refine ⟨_, rfl, ?_⟩) | ((with_reducible refine gate_callee (f := 35) rfl ?_); refine goesL_ (some 83) rfl rfl Try.func35 (by kernel_rfl) rfl #[.int .i64 t159, .int .i64 t160] rfl (by (try simp only [List.map_toArray, List.map_cons, List.map_nil]); first | done | rfl | (simp only [List.length_drop, List.length_take]; rfl)) ?_; (with_reducible refine (impl_MulG.calls kj9 t159 t160 t161 _ A28.out).mono ?_); rintro e w' ⟨rfl, ⟨nd, rfl⟩⟩; refine ⟨_, rfl, ?_⟩) | ((with_reducible refine gate_callee (f := 37) rfl ?_); refine goesL_ (some 88) rfl rfl Try.func37 (by kernel_rfl) rfl #[.int .i64 (Int.tmod (rd t142 0) 256), .int .i64 (wrap64 ((Int.tmod (rd t142 3) 200) + (Int.tmod (rd t142 4) 200)))] rfl (by (try simp only [List.map_toArray, List.map_cons, List.map_nil]); first | done | rfl | (simp only [List.length_drop, List.length_take]; rfl)) ?_; (with_reducible refine (impl_PowG.calls kj9 (Int.tmod (rd t142 0) 256) (wrap64 ((Int.tmod (rd t142 3) 200) + (Int.tmod (rd t142 4) 200))) t162 _ A29.out).mono ?_); rintro e w' ⟨rfl, ⟨nd, rfl⟩⟩; refine ⟨_, rfl, ?_⟩) | ((with_reducible refine gate_callee (f := 35) rfl ?_); refine goesL_ (some 91) rfl rfl Try.func35 (by kernel_rfl) rfl #[.int .i64 (Int.tmod (rd t142 0) 256), .int .i64 1] rfl (by (try simp only [List.map_toArray, List.map_cons, List.map_nil]); first | done | rfl | (simp only [List.length_drop, List.length_take]; rfl)) ?_; (with_reducible refine (impl_MulG.calls kj9 (Int.tmod (rd t142 0) 256) 1 t163 _ A31.out).mono ?_); rintro e w' ⟨rfl, ⟨nd, rfl⟩⟩; refine ⟨_, rfl, ?_⟩) | (go_at_call 35; (with_reducible refine (impl_MulG.calls kj9 (Int.tmod (rd t142 0) 256) 0 t164 _ A33.out).mono ?_); rintro e w' ⟨rfl, ⟨nd, rfl⟩⟩) | (go_at_call 16; (with_reducible refine (impl_InvG.calls kj9 (Int.tmod (rd t142 0) 256) t174 _ A52.out).mono ?_); rintro e w' ⟨rfl, ⟨nd, rfl⟩⟩) | (go_at_call 35; (with_reducible refine (impl_MulG.calls kj9 (Int.tmod (rd t142 0) 256) t174 t175 _ A53.out).mono ?_); rintro e w' ⟨rfl, ⟨nd, rfl⟩⟩) | (go_at_call 37; (with_reducible refine (impl_PowG.calls kj9 (Int.tmod (rd t142 0) 256) 255 t176 _ A55.out).mono ?_); rintro e w' ⟨rfl, ⟨nd, rfl⟩⟩) | (go_at_call 37; (with_reducible refine (impl_PowG.calls kj9 2 8 t177 _ A57.out).mono ?_); rintro e w' ⟨rfl, ⟨nd, rfl⟩⟩))
                                  go_ret
                                  exact ⟨by first | rfl | (simp [errW_none, errW_some] <;> rfl) | (simp [*, errW_none, errW_some] <;> rfl), by repeat (first | (with_reducible first | exact HB.out | apply below_alloc | apply pw_below_drewN | apply below_drew1) | exact HB.out)⟩
                              · rw [if_neg c56] at H
                                have c56b0 : (t176 == 1) = false := beq_eq_false_iff_ne.mpr c56
                                have c56b1 : (t176 != 1) = true := bne_iff_ne.mpr c56
                                obtain rfl := Option.some.inj H
                                go_wp2_with (first | ((with_reducible refine gate_callee (f := 37) rfl ?_); refine goesL_ (some 79) rfl rfl Try.func37 (by kernel_rfl) rfl #[.int .i64 (Int.tmod (rd t142 0) 256), .int .i64 (Int.tmod (rd t142 3) 200)] rfl (by (try simp only [List.map_toArray, List.map_cons, List.map_nil]); first | done | rfl | (simp only [List.length_drop, List.length_take]; rfl)) ?_; (with_reducible refine (impl_PowG.calls kj9 (Int.tmod (rd t142 0) 256) (Int.tmod (rd t142 3) 200) t159 _ A26.out).mono ?_); rintro e w' ⟨rfl, ⟨nd, rfl⟩⟩; refine ⟨_, rfl, ?_⟩) | ((with_reducible refine gate_callee (f := 37) rfl ?_); refine goesL_ (some 82) rfl rfl Try.func37 (by kernel_rfl) rfl #[.int .i64 (Int.tmod (rd t142 0) 256), .int .i64 (Int.tmod (rd t142 4) 200)] rfl (by (try simp only [List.map_toArray, List.map_cons, List.map_nil]); first | done | rfl | (simp only [List.length_drop, List.length_take]; rfl)) ?_; (with_reducible refine (impl_PowG.calls kj9 (Int.tmod (rd t142 0) 256) (Int.tmod (rd t142 4) 200) t160 _ A27.out).mono ?_); rintro e w' ⟨rfl, ⟨nd, rfl⟩⟩; refine ⟨_, rfl, ?_⟩) | ((with_reducible refine gate_callee (f := 35) rfl ?_); refine goesL_ (some 83) rfl rfl Try.func35 (by kernel_rfl) rfl #[.int .i64 t159, .int .i64 t160] rfl (by (try simp only [List.map_toArray, List.map_cons, List.map_nil]); first | done | rfl | (simp only [List.length_drop, List.length_take]; rfl)) ?_; (with_reducible refine (impl_MulG.calls kj9 t159 t160 t161 _ A28.out).mono ?_); rintro e w' ⟨rfl, ⟨nd, rfl⟩⟩; refine ⟨_, rfl, ?_⟩) | ((with_reducible refine gate_callee (f := 37) rfl ?_); refine goesL_ (some 88) rfl rfl Try.func37 (by kernel_rfl) rfl #[.int .i64 (Int.tmod (rd t142 0) 256), .int .i64 (wrap64 ((Int.tmod (rd t142 3) 200) + (Int.tmod (rd t142 4) 200)))] rfl (by (try simp only [List.map_toArray, List.map_cons, List.map_nil]); first | done | rfl | (simp only [List.length_drop, List.length_take]; rfl)) ?_; (with_reducible refine (impl_PowG.calls kj9 (Int.tmod (rd t142 0) 256) (wrap64 ((Int.tmod (rd t142 3) 200) + (Int.tmod (rd t142 4) 200))) t162 _ A29.out).mono ?_); rintro e w' ⟨rfl, ⟨nd, rfl⟩⟩; refine ⟨_, rfl, ?_⟩) | ((with_reducible refine gate_callee (f := 35) rfl ?_); refine goesL_ (some 91) rfl rfl Try.func35 (by kernel_rfl) rfl #[.int .i64 (Int.tmod (rd t142 0) 256), .int .i64 1] rfl (by (try simp only [List.map_toArray, List.map_cons, List.map_nil]); first | done | rfl | (simp only [List.length_drop, List.length_take]; rfl)) ?_; (with_reducible refine (impl_MulG.calls kj9 (Int.tmod (rd t142 0) 256) 1 t163 _ A31.out).mono ?_); rintro e w' ⟨rfl, ⟨nd, rfl⟩⟩; refine ⟨_, rfl, ?_⟩) | (go_at_call 35; (with_reducible refine (impl_MulG.calls kj9 (Int.tmod (rd t142 0) 256) 0 t164 _ A33.out).mono ?_); rintro e w' ⟨rfl, ⟨nd, rfl⟩⟩) | (go_at_call 16; (with_reducible refine (impl_InvG.calls kj9 (Int.tmod (rd t142 0) 256) t174 _ A52.out).mono ?_); rintro e w' ⟨rfl, ⟨nd, rfl⟩⟩) | (go_at_call 35; (with_reducible refine (impl_MulG.calls kj9 (Int.tmod (rd t142 0) 256) t174 t175 _ A53.out).mono ?_); rintro e w' ⟨rfl, ⟨nd, rfl⟩⟩) | (go_at_call 37; (with_reducible refine (impl_PowG.calls kj9 (Int.tmod (rd t142 0) 256) 255 t176 _ A55.out).mono ?_); rintro e w' ⟨rfl, ⟨nd, rfl⟩⟩))
                                go_ret
                                exact ⟨by first | rfl | (simp [errW_none, errW_some] <;> rfl) | (simp [*, errW_none, errW_some] <;> rfl), by repeat (first | (with_reducible first | exact HB.out | apply below_alloc | apply pw_below_drewN | apply below_drew1) | exact HB.out)⟩
                            · rw [if_neg c54] at H
                              have c54b0 : (t175 == 1) = false := beq_eq_false_iff_ne.mpr c54
                              have c54b1 : (t175 != 1) = true := bne_iff_ne.mpr c54
                              obtain rfl := Option.some.inj H
                              go_wp2_with (first | ((with_reducible refine gate_callee (f := 37) rfl ?_); refine goesL_ (some 79) rfl rfl Try.func37 (by kernel_rfl) rfl #[.int .i64 (Int.tmod (rd t142 0) 256), .int .i64 (Int.tmod (rd t142 3) 200)] rfl (by (try simp only [List.map_toArray, List.map_cons, List.map_nil]); first | done | rfl | (simp only [List.length_drop, List.length_take]; rfl)) ?_; (with_reducible refine (impl_PowG.calls kj9 (Int.tmod (rd t142 0) 256) (Int.tmod (rd t142 3) 200) t159 _ A26.out).mono ?_); rintro e w' ⟨rfl, ⟨nd, rfl⟩⟩; refine ⟨_, rfl, ?_⟩) | ((with_reducible refine gate_callee (f := 37) rfl ?_); refine goesL_ (some 82) rfl rfl Try.func37 (by kernel_rfl) rfl #[.int .i64 (Int.tmod (rd t142 0) 256), .int .i64 (Int.tmod (rd t142 4) 200)] rfl (by (try simp only [List.map_toArray, List.map_cons, List.map_nil]); first | done | rfl | (simp only [List.length_drop, List.length_take]; rfl)) ?_; (with_reducible refine (impl_PowG.calls kj9 (Int.tmod (rd t142 0) 256) (Int.tmod (rd t142 4) 200) t160 _ A27.out).mono ?_); rintro e w' ⟨rfl, ⟨nd, rfl⟩⟩; refine ⟨_, rfl, ?_⟩) | ((with_reducible refine gate_callee (f := 35) rfl ?_); refine goesL_ (some 83) rfl rfl Try.func35 (by kernel_rfl) rfl #[.int .i64 t159, .int .i64 t160] rfl (by (try simp only [List.map_toArray, List.map_cons, List.map_nil]); first | done | rfl | (simp only [List.length_drop, List.length_take]; rfl)) ?_; (with_reducible refine (impl_MulG.calls kj9 t159 t160 t161 _ A28.out).mono ?_); rintro e w' ⟨rfl, ⟨nd, rfl⟩⟩; refine ⟨_, rfl, ?_⟩) | ((with_reducible refine gate_callee (f := 37) rfl ?_); refine goesL_ (some 88) rfl rfl Try.func37 (by kernel_rfl) rfl #[.int .i64 (Int.tmod (rd t142 0) 256), .int .i64 (wrap64 ((Int.tmod (rd t142 3) 200) + (Int.tmod (rd t142 4) 200)))] rfl (by (try simp only [List.map_toArray, List.map_cons, List.map_nil]); first | done | rfl | (simp only [List.length_drop, List.length_take]; rfl)) ?_; (with_reducible refine (impl_PowG.calls kj9 (Int.tmod (rd t142 0) 256) (wrap64 ((Int.tmod (rd t142 3) 200) + (Int.tmod (rd t142 4) 200))) t162 _ A29.out).mono ?_); rintro e w' ⟨rfl, ⟨nd, rfl⟩⟩; refine ⟨_, rfl, ?_⟩) | ((with_reducible refine gate_callee (f := 35) rfl ?_); refine goesL_ (some 91) rfl rfl Try.func35 (by kernel_rfl) rfl #[.int .i64 (Int.tmod (rd t142 0) 256), .int .i64 1] rfl (by (try simp only [List.map_toArray, List.map_cons, List.map_nil]); first | done | rfl | (simp only [List.length_drop, List.length_take]; rfl)) ?_; (with_reducible refine (impl_MulG.calls kj9 (Int.tmod (rd t142 0) 256) 1 t163 _ A31.out).mono ?_); rintro e w' ⟨rfl, ⟨nd, rfl⟩⟩; refine ⟨_, rfl, ?_⟩) | (go_at_call 35; (with_reducible refine (impl_MulG.calls kj9 (Int.tmod (rd t142 0) 256) 0 t164 _ A33.out).mono ?_); rintro e w' ⟨rfl, ⟨nd, rfl⟩⟩) | (go_at_call 16; (with_reducible refine (impl_InvG.calls kj9 (Int.tmod (rd t142 0) 256) t174 _ A52.out).mono ?_); rintro e w' ⟨rfl, ⟨nd, rfl⟩⟩) | (go_at_call 35; (with_reducible refine (impl_MulG.calls kj9 (Int.tmod (rd t142 0) 256) t174 t175 _ A53.out).mono ?_); rintro e w' ⟨rfl, ⟨nd, rfl⟩⟩))
                              go_ret
                              exact ⟨by first | rfl | (simp [errW_none, errW_some] <;> rfl) | (simp [*, errW_none, errW_some] <;> rfl), by repeat (first | (with_reducible first | exact HB.out | apply below_alloc | apply pw_below_drewN | apply below_drew1) | exact HB.out)⟩
                        · rw [if_neg c34] at H
                          have c34b0 : (t164 == 0) = false := beq_eq_false_iff_ne.mpr c34
                          have c34b1 : (t164 != 0) = true := bne_iff_ne.mpr c34
                          obtain rfl := Option.some.inj H
                          go_wp2_with (first | ((with_reducible refine gate_callee (f := 37) rfl ?_); refine goesL_ (some 79) rfl rfl Try.func37 (by kernel_rfl) rfl #[.int .i64 (Int.tmod (rd t142 0) 256), .int .i64 (Int.tmod (rd t142 3) 200)] rfl (by (try simp only [List.map_toArray, List.map_cons, List.map_nil]); first | done | rfl | (simp only [List.length_drop, List.length_take]; rfl)) ?_; (with_reducible refine (impl_PowG.calls kj9 (Int.tmod (rd t142 0) 256) (Int.tmod (rd t142 3) 200) t159 _ A26.out).mono ?_); rintro e w' ⟨rfl, ⟨nd, rfl⟩⟩; refine ⟨_, rfl, ?_⟩) | ((with_reducible refine gate_callee (f := 37) rfl ?_); refine goesL_ (some 82) rfl rfl Try.func37 (by kernel_rfl) rfl #[.int .i64 (Int.tmod (rd t142 0) 256), .int .i64 (Int.tmod (rd t142 4) 200)] rfl (by (try simp only [List.map_toArray, List.map_cons, List.map_nil]); first | done | rfl | (simp only [List.length_drop, List.length_take]; rfl)) ?_; (with_reducible refine (impl_PowG.calls kj9 (Int.tmod (rd t142 0) 256) (Int.tmod (rd t142 4) 200) t160 _ A27.out).mono ?_); rintro e w' ⟨rfl, ⟨nd, rfl⟩⟩; refine ⟨_, rfl, ?_⟩) | ((with_reducible refine gate_callee (f := 35) rfl ?_); refine goesL_ (some 83) rfl rfl Try.func35 (by kernel_rfl) rfl #[.int .i64 t159, .int .i64 t160] rfl (by (try simp only [List.map_toArray, List.map_cons, List.map_nil]); first | done | rfl | (simp only [List.length_drop, List.length_take]; rfl)) ?_; (with_reducible refine (impl_MulG.calls kj9 t159 t160 t161 _ A28.out).mono ?_); rintro e w' ⟨rfl, ⟨nd, rfl⟩⟩; refine ⟨_, rfl, ?_⟩) | ((with_reducible refine gate_callee (f := 37) rfl ?_); refine goesL_ (some 88) rfl rfl Try.func37 (by kernel_rfl) rfl #[.int .i64 (Int.tmod (rd t142 0) 256), .int .i64 (wrap64 ((Int.tmod (rd t142 3) 200) + (Int.tmod (rd t142 4) 200)))] rfl (by (try simp only [List.map_toArray, List.map_cons, List.map_nil]); first | done | rfl | (simp only [List.length_drop, List.length_take]; rfl)) ?_; (with_reducible refine (impl_PowG.calls kj9 (Int.tmod (rd t142 0) 256) (wrap64 ((Int.tmod (rd t142 3) 200) + (Int.tmod (rd t142 4) 200))) t162 _ A29.out).mono ?_); rintro e w' ⟨rfl, ⟨nd, rfl⟩⟩; refine ⟨_, rfl, ?_⟩) | ((with_reducible refine gate_callee (f := 35) rfl ?_); refine goesL_ (some 91) rfl rfl Try.func35 (by kernel_rfl) rfl #[.int .i64 (Int.tmod (rd t142 0) 256), .int .i64 1] rfl (by (try simp only [List.map_toArray, List.map_cons, List.map_nil]); first | done | rfl | (simp only [List.length_drop, List.length_take]; rfl)) ?_; (with_reducible refine (impl_MulG.calls kj9 (Int.tmod (rd t142 0) 256) 1 t163 _ A31.out).mono ?_); rintro e w' ⟨rfl, ⟨nd, rfl⟩⟩; refine ⟨_, rfl, ?_⟩) | (go_at_call 35; (with_reducible refine (impl_MulG.calls kj9 (Int.tmod (rd t142 0) 256) 0 t164 _ A33.out).mono ?_); rintro e w' ⟨rfl, ⟨nd, rfl⟩⟩))
                          go_ret
                          exact ⟨by first | rfl | (simp [errW_none, errW_some] <;> rfl) | (simp [*, errW_none, errW_some] <;> rfl), by repeat (first | (with_reducible first | exact HB.out | apply below_alloc | apply pw_below_drewN | apply below_drew1) | exact HB.out)⟩
                      · rw [if_neg c32] at H
                        have c32b0 : (t163 == (Int.tmod (rd t142 0) 256)) = false := beq_eq_false_iff_ne.mpr c32
                        have c32b1 : (t163 != (Int.tmod (rd t142 0) 256)) = true := bne_iff_ne.mpr c32
                        obtain rfl := Option.some.inj H
                        go_wp2_with (first | ((with_reducible refine gate_callee (f := 37) rfl ?_); refine goesL_ (some 79) rfl rfl Try.func37 (by kernel_rfl) rfl #[.int .i64 (Int.tmod (rd t142 0) 256), .int .i64 (Int.tmod (rd t142 3) 200)] rfl (by (try simp only [List.map_toArray, List.map_cons, List.map_nil]); first | done | rfl | (simp only [List.length_drop, List.length_take]; rfl)) ?_; (with_reducible refine (impl_PowG.calls kj9 (Int.tmod (rd t142 0) 256) (Int.tmod (rd t142 3) 200) t159 _ A26.out).mono ?_); rintro e w' ⟨rfl, ⟨nd, rfl⟩⟩; refine ⟨_, rfl, ?_⟩) | ((with_reducible refine gate_callee (f := 37) rfl ?_); refine goesL_ (some 82) rfl rfl Try.func37 (by kernel_rfl) rfl #[.int .i64 (Int.tmod (rd t142 0) 256), .int .i64 (Int.tmod (rd t142 4) 200)] rfl (by (try simp only [List.map_toArray, List.map_cons, List.map_nil]); first | done | rfl | (simp only [List.length_drop, List.length_take]; rfl)) ?_; (with_reducible refine (impl_PowG.calls kj9 (Int.tmod (rd t142 0) 256) (Int.tmod (rd t142 4) 200) t160 _ A27.out).mono ?_); rintro e w' ⟨rfl, ⟨nd, rfl⟩⟩; refine ⟨_, rfl, ?_⟩) | ((with_reducible refine gate_callee (f := 35) rfl ?_); refine goesL_ (some 83) rfl rfl Try.func35 (by kernel_rfl) rfl #[.int .i64 t159, .int .i64 t160] rfl (by (try simp only [List.map_toArray, List.map_cons, List.map_nil]); first | done | rfl | (simp only [List.length_drop, List.length_take]; rfl)) ?_; (with_reducible refine (impl_MulG.calls kj9 t159 t160 t161 _ A28.out).mono ?_); rintro e w' ⟨rfl, ⟨nd, rfl⟩⟩; refine ⟨_, rfl, ?_⟩) | ((with_reducible refine gate_callee (f := 37) rfl ?_); refine goesL_ (some 88) rfl rfl Try.func37 (by kernel_rfl) rfl #[.int .i64 (Int.tmod (rd t142 0) 256), .int .i64 (wrap64 ((Int.tmod (rd t142 3) 200) + (Int.tmod (rd t142 4) 200)))] rfl (by (try simp only [List.map_toArray, List.map_cons, List.map_nil]); first | done | rfl | (simp only [List.length_drop, List.length_take]; rfl)) ?_; (with_reducible refine (impl_PowG.calls kj9 (Int.tmod (rd t142 0) 256) (wrap64 ((Int.tmod (rd t142 3) 200) + (Int.tmod (rd t142 4) 200))) t162 _ A29.out).mono ?_); rintro e w' ⟨rfl, ⟨nd, rfl⟩⟩; refine ⟨_, rfl, ?_⟩) | ((with_reducible refine gate_callee (f := 35) rfl ?_); refine goesL_ (some 91) rfl rfl Try.func35 (by kernel_rfl) rfl #[.int .i64 (Int.tmod (rd t142 0) 256), .int .i64 1] rfl (by (try simp only [List.map_toArray, List.map_cons, List.map_nil]); first | done | rfl | (simp only [List.length_drop, List.length_take]; rfl)) ?_; (with_reducible refine (impl_MulG.calls kj9 (Int.tmod (rd t142 0) 256) 1 t163 _ A31.out).mono ?_); rintro e w' ⟨rfl, ⟨nd, rfl⟩⟩; refine ⟨_, rfl, ?_⟩))
                        go_ret
                        exact ⟨by first | rfl | (simp [errW_none, errW_some] <;> rfl) | (simp [*, errW_none, errW_some] <;> rfl), by repeat (first | (with_reducible first | exact HB.out | apply below_alloc | apply pw_below_drewN | apply below_drew1) | exact HB.out)⟩
                    · rw [if_neg c30] at H
                      have c30b0 : (t161 == t162) = false := beq_eq_false_iff_ne.mpr c30
                      have c30b1 : (t161 != t162) = true := bne_iff_ne.mpr c30
                      obtain rfl := Option.some.inj H
                      go_wp2_with (first | ((with_reducible refine gate_callee (f := 37) rfl ?_); refine goesL_ (some 79) rfl rfl Try.func37 (by kernel_rfl) rfl #[.int .i64 (Int.tmod (rd t142 0) 256), .int .i64 (Int.tmod (rd t142 3) 200)] rfl (by (try simp only [List.map_toArray, List.map_cons, List.map_nil]); first | done | rfl | (simp only [List.length_drop, List.length_take]; rfl)) ?_; (with_reducible refine (impl_PowG.calls kj9 (Int.tmod (rd t142 0) 256) (Int.tmod (rd t142 3) 200) t159 _ A26.out).mono ?_); rintro e w' ⟨rfl, ⟨nd, rfl⟩⟩; refine ⟨_, rfl, ?_⟩) | ((with_reducible refine gate_callee (f := 37) rfl ?_); refine goesL_ (some 82) rfl rfl Try.func37 (by kernel_rfl) rfl #[.int .i64 (Int.tmod (rd t142 0) 256), .int .i64 (Int.tmod (rd t142 4) 200)] rfl (by (try simp only [List.map_toArray, List.map_cons, List.map_nil]); first | done | rfl | (simp only [List.length_drop, List.length_take]; rfl)) ?_; (with_reducible refine (impl_PowG.calls kj9 (Int.tmod (rd t142 0) 256) (Int.tmod (rd t142 4) 200) t160 _ A27.out).mono ?_); rintro e w' ⟨rfl, ⟨nd, rfl⟩⟩; refine ⟨_, rfl, ?_⟩) | ((with_reducible refine gate_callee (f := 35) rfl ?_); refine goesL_ (some 83) rfl rfl Try.func35 (by kernel_rfl) rfl #[.int .i64 t159, .int .i64 t160] rfl (by (try simp only [List.map_toArray, List.map_cons, List.map_nil]); first | done | rfl | (simp only [List.length_drop, List.length_take]; rfl)) ?_; (with_reducible refine (impl_MulG.calls kj9 t159 t160 t161 _ A28.out).mono ?_); rintro e w' ⟨rfl, ⟨nd, rfl⟩⟩; refine ⟨_, rfl, ?_⟩) | ((with_reducible refine gate_callee (f := 37) rfl ?_); refine goesL_ (some 88) rfl rfl Try.func37 (by kernel_rfl) rfl #[.int .i64 (Int.tmod (rd t142 0) 256), .int .i64 (wrap64 ((Int.tmod (rd t142 3) 200) + (Int.tmod (rd t142 4) 200)))] rfl (by (try simp only [List.map_toArray, List.map_cons, List.map_nil]); first | done | rfl | (simp only [List.length_drop, List.length_take]; rfl)) ?_; (with_reducible refine (impl_PowG.calls kj9 (Int.tmod (rd t142 0) 256) (wrap64 ((Int.tmod (rd t142 3) 200) + (Int.tmod (rd t142 4) 200))) t162 _ A29.out).mono ?_); rintro e w' ⟨rfl, ⟨nd, rfl⟩⟩; refine ⟨_, rfl, ?_⟩))
                      go_ret
                      exact ⟨by first | rfl | (simp [errW_none, errW_some] <;> rfl) | (simp [*, errW_none, errW_some] <;> rfl), by repeat (first | (with_reducible first | exact HB.out | apply below_alloc | apply pw_below_drewN | apply below_drew1) | exact HB.out)⟩
            · rw [if_neg c9] at H
              exact absurd H (by simp)
          · rw [if_neg c8] at H
            exact absurd H (by simp)
        · rw [if_neg c7] at H
          exact absurd H (by simp)
      · rw [if_neg c6] at H
        exact absurd H (by simp)
    · rw [if_neg c5] at H
      exact absurd H (by simp)

/-- THE ONE PURE STATEMENT of laws_FnField: yours. -/
def laws_FnField.Pure : Prop := ∀ (l0 : List Int), l0.length ≤ maxLen → l0.length * 1 ≤ 140737488351232 → (∀ x ∈ l0, (Lit.int .u8 x).wf = true) → ∃ k, laws_FnField.f k l0 = some true
theorem laws_FnField.walk (P : laws_FnField.Pure) (a0 : Option Addr) (len0 cap0 : Nat) (z0 : List Int) (w : World) (w0 : (a0 = none ∧ len0 = 0 ∧ cap0 = 0 ∧ z0 = []) ∨ ∃ x, a0 = some x ∧ len0 ≤ cap0 ∧ cap0 ≤ maxLen ∧ z0.length = cap0 ∧ (∀ i, i < z0.length → w.cell? (x.add i) = some (.int .u8 (z0.getD i 0))) ∧ ∀ n ∈ z0, (Lit.int .u8 n).wf = true) (y0 : len0 * 1 ≤ 140737488351232) :
    Calls Try.prog 9 #[.slice a0 len0 cap0] w fun e w' => e = .returned (.bool true) ∧ Below w.heap.size w w' := by
  obtain ⟨l0, rfl, hr0, hm0, hw0, hc0⟩ := ReadsInt.ofRowC w0
  obtain ⟨k, h⟩ := P l0 hm0 y0 hw0
  refine (laws_FnField.calls k _ _ l0 true w (Kd.C_of_reads (d := (0 : Int)) (h1 := fun _ => rfl) hr0) hc0 h).mono ?_
  rintro e w' ⟨rfl, hd⟩
  exact ⟨rfl, hd⟩

end Go.Proofs.Ytilhajijfbpcjaa.XFnField
