/- What the functions of a law compute, and that their calls compute it: written by a program of this session (xprint.py), which turns the kit print at a few places. -/
import Derived.Test.YtcpcphdhaboekaaXFnCodesx0
import Derived.Test.YtcpcphdhaboekaaXFnCodesx4
namespace Go.Proofs.Ytcpcphdhaboekaa.XFnCodes
open Go.RowKit Go.Proofs.YtcpcphdhaboekaaT.PrintWords Go.Proofs.YtcpcphdhaboekaaT.PrintLast Go.Proofs.YtcpcphdhaboekaaT.PrintMore
attribute [local go_sem] max2_int min2_int max_two min_two max_three min_three max_four min_four   -- for this text's walks alone
set_option linter.unusedVariables false
set_option linter.unusedSimpArgs false

/-! ### spec_MatrixOk: function 51 -/
mutual
def spec_MatrixOk.l0 : Nat → List (List Int) → Int → Option (Bool)
 | 0, _, _ => none
 | k + 1, x0, x3 => if x3 < (x0.length : Int) then (if 0 ≤ x3 then (if 0 < (x0.length : Int) then (if ((rd_L3 x0 x3).length : Int) = ((rd_L3 x0 0).length : Int) then ((spec_l01In.f ((rd_L3 x0 x3).length : Int) 1 8).bind fun t234 => (spec_MatrixOk.j1 k x0 x3 (!t234))) else (spec_MatrixOk.j1 k x0 x3 true)) else (none)) else (none)) else ((spec_l01In.f (x0.length : Int) 1 8).bind fun t230 => (some t230))
def spec_MatrixOk.j1 : Nat → List (List Int) → Int → Bool → Option (Bool)
 | 0, _, _, _ => none
 | k + 1, x0, x3, x29 => if x29 = true then (some false) else (spec_MatrixOk.l1 k x0 x3 0)
def spec_MatrixOk.l1 : Nat → List (List Int) → Int → Int → Option (Bool)
 | 0, _, _, _ => none
 | k + 1, x0, x3, x4 => if 0 ≤ x3 then (if x3 < (x0.length : Int) then (if x4 < ((rd_L3 x0 x3).length : Int) then (if 0 ≤ x4 then ((spec_l01In.f (rd (rd_L3 x0 x3) x4) 0 255).bind fun t238 => (if t238 = true then (spec_MatrixOk.l1 k x0 x3 (wrap64 (x4 + 1))) else (some false))) else (none)) else (spec_MatrixOk.l0 k x0 (wrap64 (x3 + 1)))) else (none)) else (none)
end
def spec_MatrixOk.f (k : Nat) (l0 : List (List Int)) : Option (Bool) := spec_MatrixOk.l0 k l0 0
theorem spec_MatrixOk.mono_l : ∀ k, (∀ y0 y1, LeO (spec_MatrixOk.l0 k y0 y1) (spec_MatrixOk.l0 (k + 1) y0 y1)) ∧ (∀ y0 y1 y2, LeO (spec_MatrixOk.j1 k y0 y1 y2) (spec_MatrixOk.j1 (k + 1) y0 y1 y2)) ∧ (∀ y0 y1 y2, LeO (spec_MatrixOk.l1 k y0 y1 y2) (spec_MatrixOk.l1 (k + 1) y0 y1 y2))
 | 0 => ⟨fun _ _ r h => by simp [spec_MatrixOk.l0] at h, fun _ _ _ r h => by simp [spec_MatrixOk.j1] at h, fun _ _ _ r h => by simp [spec_MatrixOk.l1] at h⟩
 | k + 1 => by
  obtain ⟨ih0, ih1, ih2⟩ := spec_MatrixOk.mono_l k
  refine ⟨?_, ?_, ?_⟩
  ·intro y0 y1
   unfold spec_MatrixOk.l0
   repeat' first
   | (with_reducible exact LeO.refl _)
   | (with_reducible refine LeO.ite ?_ ?_)
   | (with_reducible refine LeO.bind ?_ (fun _ => ?_))
   | exact ih0 _ _
   | exact ih1 _ _ _
   | exact ih2 _ _ _
   | exact LeO.none _
   | refine LeO.ite ?_ ?_
   | refine LeO.bind ?_ (fun _ => ?_)
  ·intro y0 y1 y2
   unfold spec_MatrixOk.j1
   repeat' first
   | (with_reducible exact LeO.refl _)
   | (with_reducible refine LeO.ite ?_ ?_)
   | (with_reducible refine LeO.bind ?_ (fun _ => ?_))
   | exact ih0 _ _
   | exact ih1 _ _ _
   | exact ih2 _ _ _
   | exact LeO.none _
   | refine LeO.ite ?_ ?_
   | refine LeO.bind ?_ (fun _ => ?_)
  ·intro y0 y1 y2
   unfold spec_MatrixOk.l1
   repeat' first
   | (with_reducible exact LeO.refl _)
   | (with_reducible refine LeO.ite ?_ ?_)
   | (with_reducible refine LeO.bind ?_ (fun _ => ?_))
   | exact ih0 _ _
   | exact ih1 _ _ _
   | exact ih2 _ _ _
   | exact LeO.none _
   | refine LeO.ite ?_ ?_
   | refine LeO.bind ?_ (fun _ => ?_)
theorem spec_MatrixOk.mono : ∀ a0 k, LeO (spec_MatrixOk.f k a0) (spec_MatrixOk.f (k + 1) a0) := by
 intro a0 k
 obtain ⟨ih0, ih1, ih2⟩ := spec_MatrixOk.mono_l k
 unfold spec_MatrixOk.f
 repeat' first
   | (with_reducible exact LeO.refl _)
   | (with_reducible refine LeO.ite ?_ ?_)
   | (with_reducible refine LeO.bind ?_ (fun _ => ?_))
   | exact ih0 _ _
   | exact ih1 _ _ _
   | exact ih2 _ _ _
   | exact LeO.none _
   | refine LeO.ite ?_ ?_
   | refine LeO.bind ?_ (fun _ => ?_)
set_option maxHeartbeats 8000000 in
set_option maxRecDepth 100000 in
theorem spec_MatrixOk.calls (k : Nat) (A0 : Option Addr) (c0 : Nat) (l0 : List (List Int)) (r : Bool) (w : World) (hr0 : Kd.C (Kd.slice 3 (Kd.int .i64)) w A0 l0.length l0) (hc0 : l0.length ≤ c0) (h : spec_MatrixOk.f k l0 = some r) :
  Calls Try.prog 51 #[.slice A0 l0.length c0] w fun e w' => e = .returned (.bool r) ∧ Drawn0 w w' := by
 have HR0 := Aside0.mk hr0
 have HC0 := Aside0.mk hc0
 clear hr0 hc0
 have H : (spec_MatrixOk.l0 k l0 0) = some r := h
 clear h
 have H' := Aside0.mk H
 clear H
 go_enter Try.func51, Try.ntmps51
 go_wp2
 repeat (go_quiet (fail); try go_wp2)
 go_loopg [3] k (fun kq v3 w' => ∃ (x3_1 : Int), v3 = .int .i64 x3_1 ∧ Aside0 (spec_MatrixOk.l0 kq l0 x3_1 = some r) ∧ Aside0 (kq ≤ k) ∧ Drawn0 w w')
 case atStart => exact ⟨(0), (by first | rfl | (simp; done) | (simp [*]; done)), H', ⟨Nat.le_refl _⟩, by repeat (first | exact Drawn0.refl _ | apply Drawn0.step)⟩
 case round =>
  clear H'
  obtain ⟨x3_1, rfl, HA, HK1, ⟨m1, rfl⟩⟩ := hrel
  cases gk with
  | zero => exact absurd HA.out (by simp [spec_MatrixOk.l0])
  | succ k1 =>
   have H := HA.out
   clear HA
   simp only [spec_MatrixOk.l0] at H
   by_cases c2 : x3_1 < (l0.length : Int)
   ·rw [if_pos c2] at H
    have c2b0 : decide (x3_1 < (l0.length : Int)) = true := decide_eq_true c2
    clear c2
    have HC3 := Aside0.mk H
    clear H
    go_upto_region 4 with (fail)
    repeat (go_quiet (fail); go_upto_region 4 with (fail))
    go_cut [29] (fun v29 wc => ∃ (kq : Nat) (x29_2 : Bool), v29 = .bool x29_2 ∧ Aside0 (spec_MatrixOk.j1 kq l0 x3_1 x29_2 = some r) ∧ Aside0 (kq ≤ k1) ∧ Drawn0 w wc)
    case first =>
     have H := HC3.out
     clear HC3
     by_cases c4 : 0 ≤ x3_1
     ·rw [if_pos c4] at H
      have c4b0 : decide (0 ≤ x3_1) = true := decide_eq_true c4
      clear c4
      (first | rw [c4b0] | (simp only [i64_w, i32_w]; rw [c4b0]) | rw [c4b1] | skip)
      by_cases c5 : 0 < (l0.length : Int)
      ·rw [if_pos c5] at H
       have c5b0 : decide (0 < (l0.length : Int)) = true := decide_eq_true c5
       have c5b1 : decide (0 < l0.length) = true := decide_eq_true (by omega)
       clear c5
       by_cases c6 : ((rd_L3 l0 x3_1).length : Int) = ((rd_L3 l0 0).length : Int)
       ·rw [if_pos c6] at H
        have c6b0 : (((rd_L3 l0 x3_1).length : Int) == ((rd_L3 l0 0).length : Int)) = true := beq_iff_eq.mpr c6
        have c6b1 : (((rd_L3 l0 x3_1).length : Int) != ((rd_L3 l0 0).length : Int)) = false := bne_eq_false_iff_eq.mpr c6
        have c6b2 : ((rd_L3 l0 x3_1).length == (rd_L3 l0 0).length) = true := by first | simpa using c6 | (simp at c6 ⊢; omega)
        clear c6
        replace H := Option.bind_eq_some_iff.mp H
        obtain ⟨t234, A70, H⟩ := H
        replace H : (spec_MatrixOk.j1 k1 l0 x3_1 (!t234)) = some r := H
        have A7 := Aside0.mk A70
        clear A70
        have H' := Aside0.mk H
        clear H
        have p231 : 0 ≤ (x3_1 : Int) := of_decide_eq_true (by assumption)
        have q231 : x3_1 < (l0.length : Int) := of_decide_eq_true (by assumption)
        obtain ⟨ad231, A231_0, c231_0, e231, hx231_0, hl231_0, hi231_0⟩ := at_L3 HR0.out x3_1 p231 q231
        cases e231
        have HR231_0 := Aside0.mk hi231_0
        have HC231_0 := Aside0.mk hl231_0
        clear hi231_0 hl231_0
        replace p231 := eq_true p231
        replace q231 := eq_true q231
        have p232 : 0 ≤ (0 : Int) := (by omega)
        have q232 : 0 < (l0.length : Int) := of_decide_eq_true (by assumption)
        obtain ⟨ad232, A232_0, c232_0, e232, hx232_0, hl232_0, hi232_0⟩ := at_L3 HR0.out 0 p232 q232
        obtain rfl : ad231 = ad232 := (by injection e232)
        have qi232 : (0 < l0.length) = True := eq_true (by omega)
        (try rw [show ((0 : Int)).toNat = 0 from rfl] at hx232_0)
        (try rw [Addr.add_zero'] at hx232_0)
        have HR232_0 := Aside0.mk hi232_0
        have HC232_0 := Aside0.mk hl232_0
        clear hi232_0 hl232_0
        replace p232 := eq_true p232
        replace q232 := eq_true q232
        have p233 : 0 ≤ (x3_1 : Int) := of_decide_eq_true (by assumption)
        have q233 : x3_1 < (l0.length : Int) := of_decide_eq_true (by assumption)
        obtain ⟨ad233, A233_0, c233_0, e233, hx233_0, hl233_0, hi233_0⟩ := at_L3 HR0.out x3_1 p233 q233
        obtain rfl : ad231 = ad233 := (by injection e233)
        have HR233_0 := Aside0.mk hi233_0
        have HC233_0 := Aside0.mk hl233_0
        clear hi233_0 hl233_0
        replace p233 := eq_true p233
        replace q233 := eq_true q233
        have ea_ := Option.some.inj (hx231_0.symm.trans hx233_0)
        injection ea_ with ea_ en_ ec_
        subst ea_
        subst ec_
        clear en_
        go_wp2_with (first | (go_at_call 69; (with_reducible refine (spec_l01In.calls ((rd_L3 l0 x3_1).length : Int) 1 8 t234 _ A7.out).mono ?_); rintro e w' ⟨rfl, ⟨nd, rfl⟩⟩; (try first | exact ⟨rfl, _, World.drewN_drewN _ _ _⟩ | exact ⟨rfl, _, Eq.trans (World.drewN_drewN _ _ _) (congrArg (World.drewN _) (Nat.add_assoc _ _ _))⟩)))
        repeat (go_quiet (first | (go_at_call 69; (with_reducible refine (spec_l01In.calls ((rd_L3 l0 x3_1).length : Int) 1 8 t234 _ A7.out).mono ?_); rintro e w' ⟨rfl, ⟨nd, rfl⟩⟩; (try first | exact ⟨rfl, _, World.drewN_drewN _ _ _⟩ | exact ⟨rfl, _, Eq.trans (World.drewN_drewN _ _ _) (congrArg (World.drewN _) (Nat.add_assoc _ _ _))⟩))); try go_wp2_with (first | (go_at_call 69; (with_reducible refine (spec_l01In.calls ((rd_L3 l0 x3_1).length : Int) 1 8 t234 _ A7.out).mono ?_); rintro e w' ⟨rfl, ⟨nd, rfl⟩⟩; (try first | exact ⟨rfl, _, World.drewN_drewN _ _ _⟩ | exact ⟨rfl, _, Eq.trans (World.drewN_drewN _ _ _) (congrArg (World.drewN _) (Nat.add_assoc _ _ _))⟩))))
        go_meet
        case rel => exact ⟨_, (!t234), (by first | rfl | (simp; done) | (simp [*]; done)), H', ⟨by have := HK1.out; first | omega | exact Nat.le_refl _⟩, by repeat (first | exact Drawn0.refl _ | apply Drawn0.step)⟩
       ·rw [if_neg c6] at H
        have c6b0 : (((rd_L3 l0 x3_1).length : Int) == ((rd_L3 l0 0).length : Int)) = false := beq_eq_false_iff_ne.mpr c6
        have c6b1 : (((rd_L3 l0 x3_1).length : Int) != ((rd_L3 l0 0).length : Int)) = true := bne_iff_ne.mpr c6
        have c6b2 : ((rd_L3 l0 x3_1).length == (rd_L3 l0 0).length) = false := by first | simpa using c6 | (simp at c6 ⊢; omega)
        have H' := Aside0.mk H
        clear H
        have p231 : 0 ≤ (x3_1 : Int) := of_decide_eq_true (by assumption)
        have q231 : x3_1 < (l0.length : Int) := of_decide_eq_true (by assumption)
        obtain ⟨ad231, A231_0, c231_0, e231, hx231_0, hl231_0, hi231_0⟩ := at_L3 HR0.out x3_1 p231 q231
        cases e231
        have HR231_0 := Aside0.mk hi231_0
        have HC231_0 := Aside0.mk hl231_0
        clear hi231_0 hl231_0
        replace p231 := eq_true p231
        replace q231 := eq_true q231
        have p232 : 0 ≤ (0 : Int) := (by omega)
        have q232 : 0 < (l0.length : Int) := of_decide_eq_true (by assumption)
        obtain ⟨ad232, A232_0, c232_0, e232, hx232_0, hl232_0, hi232_0⟩ := at_L3 HR0.out 0 p232 q232
        obtain rfl : ad231 = ad232 := (by injection e232)
        have qi232 : (0 < l0.length) = True := eq_true (by omega)
        (try rw [show ((0 : Int)).toNat = 0 from rfl] at hx232_0)
        (try rw [Addr.add_zero'] at hx232_0)
        have HR232_0 := Aside0.mk hi232_0
        have HC232_0 := Aside0.mk hl232_0
        clear hi232_0 hl232_0
        replace p232 := eq_true p232
        replace q232 := eq_true q232
        go_wp2
        repeat (go_quiet (fail); try go_wp2)
        go_meet
        case rel => exact ⟨_, (true), (by first | rfl | (simp; done) | (simp [*]; done)), H', ⟨by have := HK1.out; first | omega | exact Nat.le_refl _⟩, by repeat (first | exact Drawn0.refl _ | apply Drawn0.step)⟩
      ·rw [if_neg c5] at H
       exact absurd H (by simp)
     ·rw [if_neg c4] at H
      exact absurd H (by simp)
    case rest =>
     clear HC3
     obtain ⟨kq, x29_2, rfl, HA, HJ2, ⟨mc2, rfl⟩⟩ := hcut
     cases kq with
     | zero => exact absurd HA.out (by simp [spec_MatrixOk.j1])
     | succ kj2 =>
      have H := HA.out
      clear HA
      simp only [spec_MatrixOk.j1] at H
      by_cases c8 : x29_2 = true
      ·subst c8
       have H1 : (some false) = some r := by rw [if_pos rfl] at H; exact H
       clear H
       have H := H1
       clear H1
       obtain rfl := Option.some.inj H
       go_wp2
       repeat (go_quiet (fail); try go_wp2)
       go_ret
       exact ⟨by first | rfl | (simp; done) | (simp [*]; done), by repeat (first | exact Drawn0.refl _ | apply Drawn0.step)⟩
      ·replace c8 := Bool.eq_false_iff.mpr c8
       subst c8
       have H1 : (spec_MatrixOk.l1 kj2 l0 x3_1 0) = some r := by rw [if_neg (show ¬ (false = true) by decide)] at H; exact H
       clear H
       have H := H1
       clear H1
       have H' := Aside0.mk H
       clear H
       go_wp2
       repeat (go_quiet (fail); try go_wp2)
       go_loopg [4] kj2 (fun kq v4 w' => ∃ (x4_3 : Int), v4 = .int .i64 x4_3 ∧ Aside0 (spec_MatrixOk.l1 kq l0 x3_1 x4_3 = some r) ∧ Aside0 (kq ≤ kj2) ∧ Drawn0 w w')
       case atStart => exact ⟨(0), (by first | rfl | (simp; done) | (simp [*]; done)), H', ⟨Nat.le_refl _⟩, by repeat (first | exact Drawn0.refl _ | apply Drawn0.step)⟩
       case round =>
        clear H'
        obtain ⟨x4_3, rfl, HA, HK3, ⟨m3, rfl⟩⟩ := hrel
        cases gk with
        | zero => exact absurd HA.out (by simp [spec_MatrixOk.l1])
        | succ k3 =>
         have H := HA.out
         clear HA
         simp only [spec_MatrixOk.l1] at H
         by_cases c9 : 0 ≤ x3_1
         ·rw [if_pos c9] at H
          have c9b0 : decide (0 ≤ x3_1) = true := decide_eq_true c9
          clear c9
          by_cases c10 : x3_1 < (l0.length : Int)
          ·rw [if_pos c10] at H
           have c10b0 : decide (x3_1 < (l0.length : Int)) = true := decide_eq_true c10
           clear c10
           by_cases c11 : x4_3 < ((rd_L3 l0 x3_1).length : Int)
           ·rw [if_pos c11] at H
            have c11b0 : decide (x4_3 < ((rd_L3 l0 x3_1).length : Int)) = true := decide_eq_true c11
            clear c11
            by_cases c12 : 0 ≤ x4_3
            ·rw [if_pos c12] at H
             have c12b0 : decide (0 ≤ x4_3) = true := decide_eq_true c12
             clear c12
             replace H := Option.bind_eq_some_iff.mp H
             obtain ⟨t238, A130, H⟩ := H
             replace H : (if t238 = true then (spec_MatrixOk.l1 k3 l0 x3_1 (wrap64 (x4_3 + 1))) else (some false)) = some r := H
             have A13 := Aside0.mk A130
             clear A130
             by_cases c14 : t238 = true
             ·subst c14
              have H1 : (spec_MatrixOk.l1 k3 l0 x3_1 (wrap64 (x4_3 + 1))) = some r := by rw [if_pos rfl] at H; exact H
              clear H
              have H := H1
              clear H1
              have H' := Aside0.mk H
              clear H
              have p235 : 0 ≤ (x3_1 : Int) := of_decide_eq_true (by assumption)
              have q235 : x3_1 < (l0.length : Int) := of_decide_eq_true (by assumption)
              obtain ⟨ad235, A235_0, c235_0, e235, hx235_0, hl235_0, hi235_0⟩ := at_L3 HR0.out x3_1 p235 q235
              cases e235
              have HR235_0 := Aside0.mk hi235_0
              have HC235_0 := Aside0.mk hl235_0
              clear hi235_0 hl235_0
              replace p235 := eq_true p235
              replace q235 := eq_true q235
              have p236 : 0 ≤ (x3_1 : Int) := of_decide_eq_true (by assumption)
              have q236 : x3_1 < (l0.length : Int) := of_decide_eq_true (by assumption)
              obtain ⟨ad236, A236_0, c236_0, e236, hx236_0, hl236_0, hi236_0⟩ := at_L3 HR0.out x3_1 p236 q236
              obtain rfl : ad235 = ad236 := (by injection e236)
              have HR236_0 := Aside0.mk hi236_0
              have HC236_0 := Aside0.mk hl236_0
              clear hi236_0 hl236_0
              replace p236 := eq_true p236
              replace q236 := eq_true q236
              have ea_ := Option.some.inj (hx235_0.symm.trans hx236_0)
              injection ea_ with ea_ en_ ec_
              subst ea_
              subst ec_
              clear en_
              have p237 : 0 ≤ (x4_3 : Int) := of_decide_eq_true (by assumption)
              have q237 : x4_3 < ((rd_L3 l0 x3_1).length : Int) := of_decide_eq_true (by assumption)
              obtain ⟨ad237, e237, hx237_0⟩ := Kd.at_int HR236_0.out x4_3 p237 q237
              cases e237
              replace p237 := eq_true p237
              replace q237 := eq_true q237
              go_wp2_with (first | (go_at_call 69; (with_reducible refine (spec_l01In.calls (rd (rd_L3 l0 x3_1) x4_3) 0 255 true _ A13.out).mono ?_); rintro e w' ⟨rfl, ⟨nd, rfl⟩⟩; (try first | exact ⟨rfl, _, World.drewN_drewN _ _ _⟩ | exact ⟨rfl, _, Eq.trans (World.drewN_drewN _ _ _) (congrArg (World.drewN _) (Nat.add_assoc _ _ _))⟩)))
              repeat (go_quiet (first | (go_at_call 69; (with_reducible refine (spec_l01In.calls (rd (rd_L3 l0 x3_1) x4_3) 0 255 true _ A13.out).mono ?_); rintro e w' ⟨rfl, ⟨nd, rfl⟩⟩; (try first | exact ⟨rfl, _, World.drewN_drewN _ _ _⟩ | exact ⟨rfl, _, Eq.trans (World.drewN_drewN _ _ _) (congrArg (World.drewN _) (Nat.add_assoc _ _ _))⟩))); try go_wp2_with (first | (go_at_call 69; (with_reducible refine (spec_l01In.calls (rd (rd_L3 l0 x3_1) x4_3) 0 255 true _ A13.out).mono ?_); rintro e w' ⟨rfl, ⟨nd, rfl⟩⟩; (try first | exact ⟨rfl, _, World.drewN_drewN _ _ _⟩ | exact ⟨rfl, _, Eq.trans (World.drewN_drewN _ _ _) (congrArg (World.drewN _) (Nat.add_assoc _ _ _))⟩))))
              go_roundg k3
              case measure => have := HK1.out; have := HJ2.out; have := HK3.out; omega
              case rel => exact ⟨(wrap64 (x4_3 + 1)), (by first | rfl | (simp; done) | (simp [*]; done)), H', ⟨by have := HK1.out; have := HJ2.out; have := HK3.out; omega⟩, by repeat (first | exact Drawn0.refl _ | apply Drawn0.step)⟩
             ·replace c14 := Bool.eq_false_iff.mpr c14
              subst c14
              have H1 : (some false) = some r := by rw [if_neg (show ¬ (false = true) by decide)] at H; exact H
              clear H
              have H := H1
              clear H1
              obtain rfl := Option.some.inj H
              have p235 : 0 ≤ (x3_1 : Int) := of_decide_eq_true (by assumption)
              have q235 : x3_1 < (l0.length : Int) := of_decide_eq_true (by assumption)
              obtain ⟨ad235, A235_0, c235_0, e235, hx235_0, hl235_0, hi235_0⟩ := at_L3 HR0.out x3_1 p235 q235
              cases e235
              have HR235_0 := Aside0.mk hi235_0
              have HC235_0 := Aside0.mk hl235_0
              clear hi235_0 hl235_0
              replace p235 := eq_true p235
              replace q235 := eq_true q235
              have p236 : 0 ≤ (x3_1 : Int) := of_decide_eq_true (by assumption)
              have q236 : x3_1 < (l0.length : Int) := of_decide_eq_true (by assumption)
              obtain ⟨ad236, A236_0, c236_0, e236, hx236_0, hl236_0, hi236_0⟩ := at_L3 HR0.out x3_1 p236 q236
              obtain rfl : ad235 = ad236 := (by injection e236)
              have HR236_0 := Aside0.mk hi236_0
              have HC236_0 := Aside0.mk hl236_0
              clear hi236_0 hl236_0
              replace p236 := eq_true p236
              replace q236 := eq_true q236
              have ea_ := Option.some.inj (hx235_0.symm.trans hx236_0)
              injection ea_ with ea_ en_ ec_
              subst ea_
              subst ec_
              clear en_
              have p237 : 0 ≤ (x4_3 : Int) := of_decide_eq_true (by assumption)
              have q237 : x4_3 < ((rd_L3 l0 x3_1).length : Int) := of_decide_eq_true (by assumption)
              obtain ⟨ad237, e237, hx237_0⟩ := Kd.at_int HR236_0.out x4_3 p237 q237
              cases e237
              replace p237 := eq_true p237
              replace q237 := eq_true q237
              go_wp2_with (first | (go_at_call 69; (with_reducible refine (spec_l01In.calls (rd (rd_L3 l0 x3_1) x4_3) 0 255 false _ A13.out).mono ?_); rintro e w' ⟨rfl, ⟨nd, rfl⟩⟩; (try first | exact ⟨rfl, _, World.drewN_drewN _ _ _⟩ | exact ⟨rfl, _, Eq.trans (World.drewN_drewN _ _ _) (congrArg (World.drewN _) (Nat.add_assoc _ _ _))⟩)))
              repeat (go_quiet (first | (go_at_call 69; (with_reducible refine (spec_l01In.calls (rd (rd_L3 l0 x3_1) x4_3) 0 255 false _ A13.out).mono ?_); rintro e w' ⟨rfl, ⟨nd, rfl⟩⟩; (try first | exact ⟨rfl, _, World.drewN_drewN _ _ _⟩ | exact ⟨rfl, _, Eq.trans (World.drewN_drewN _ _ _) (congrArg (World.drewN _) (Nat.add_assoc _ _ _))⟩))); try go_wp2_with (first | (go_at_call 69; (with_reducible refine (spec_l01In.calls (rd (rd_L3 l0 x3_1) x4_3) 0 255 false _ A13.out).mono ?_); rintro e w' ⟨rfl, ⟨nd, rfl⟩⟩; (try first | exact ⟨rfl, _, World.drewN_drewN _ _ _⟩ | exact ⟨rfl, _, Eq.trans (World.drewN_drewN _ _ _) (congrArg (World.drewN _) (Nat.add_assoc _ _ _))⟩))))
              go_ret
              exact ⟨by first | rfl | (simp; done) | (simp [*]; done), by repeat (first | exact Drawn0.refl _ | apply Drawn0.step)⟩
            ·rw [if_neg c12] at H
             exact absurd H (by simp)
           ·rw [if_neg c11] at H
            have c11b0 : decide (x4_3 < ((rd_L3 l0 x3_1).length : Int)) = false := decide_eq_false c11
            clear c11
            have H' := Aside0.mk H
            clear H
            have p235 : 0 ≤ (x3_1 : Int) := of_decide_eq_true (by assumption)
            have q235 : x3_1 < (l0.length : Int) := of_decide_eq_true (by assumption)
            obtain ⟨ad235, A235_0, c235_0, e235, hx235_0, hl235_0, hi235_0⟩ := at_L3 HR0.out x3_1 p235 q235
            cases e235
            have HR235_0 := Aside0.mk hi235_0
            have HC235_0 := Aside0.mk hl235_0
            clear hi235_0 hl235_0
            replace p235 := eq_true p235
            replace q235 := eq_true q235
            go_wp2
            repeat (go_quiet (fail); try go_wp2)
            go_roundg k3
            case measure => have := HK1.out; have := HJ2.out; have := HK3.out; omega
            case rel => exact ⟨(wrap64 (x3_1 + 1)), (by first | rfl | (simp; done) | (simp [*]; done)), H', ⟨by have := HK1.out; have := HJ2.out; have := HK3.out; omega⟩, by repeat (first | exact Drawn0.refl _ | apply Drawn0.step)⟩
          ·rw [if_neg c10] at H
           exact absurd H (by simp)
         ·rw [if_neg c9] at H
          exact absurd H (by simp)
   ·rw [if_neg c2] at H
    have c2b0 : decide (x3_1 < (l0.length : Int)) = false := decide_eq_false c2
    clear c2
    replace H := Option.bind_eq_some_iff.mp H
    obtain ⟨t230, A150, H⟩ := H
    replace H : (some t230) = some r := H
    have A15 := Aside0.mk A150
    clear A150
    obtain rfl := Option.some.inj H
    go_wp2_with (first | (go_at_call 69; (with_reducible refine (spec_l01In.calls (l0.length : Int) 1 8 t230 _ A15.out).mono ?_); rintro e w' ⟨rfl, ⟨nd, rfl⟩⟩; (try first | exact ⟨rfl, _, World.drewN_drewN _ _ _⟩ | exact ⟨rfl, _, Eq.trans (World.drewN_drewN _ _ _) (congrArg (World.drewN _) (Nat.add_assoc _ _ _))⟩)))
    repeat (go_quiet (first | (go_at_call 69; (with_reducible refine (spec_l01In.calls (l0.length : Int) 1 8 t230 _ A15.out).mono ?_); rintro e w' ⟨rfl, ⟨nd, rfl⟩⟩; (try first | exact ⟨rfl, _, World.drewN_drewN _ _ _⟩ | exact ⟨rfl, _, Eq.trans (World.drewN_drewN _ _ _) (congrArg (World.drewN _) (Nat.add_assoc _ _ _))⟩))); try go_wp2_with (first | (go_at_call 69; (with_reducible refine (spec_l01In.calls (l0.length : Int) 1 8 t230 _ A15.out).mono ?_); rintro e w' ⟨rfl, ⟨nd, rfl⟩⟩; (try first | exact ⟨rfl, _, World.drewN_drewN _ _ _⟩ | exact ⟨rfl, _, Eq.trans (World.drewN_drewN _ _ _) (congrArg (World.drewN _) (Nat.add_assoc _ _ _))⟩))))
    go_ret
    exact ⟨by first | rfl | (simp; done) | (simp [*]; done), by repeat (first | exact Drawn0.refl _ | apply Drawn0.step)⟩

/-! ### spec_l05Mod: function 71 -/
def spec_l05Mod.f (a0 : Int) : Option (Int) := if (Int.tmod a0 256) < 0 then (some (wrap64 ((Int.tmod a0 256) + 256))) else (some (Int.tmod a0 256))
set_option maxHeartbeats 8000000 in
set_option maxRecDepth 100000 in
theorem spec_l05Mod.calls (a0 : Int) (r : Int) (w : World) (h : spec_l05Mod.f a0 = some r) :
  Calls Try.prog 71 #[.int .i64 a0] w fun e w' => e = .returned (.int .i64 r) ∧ Drawn0 w w' := by
 have H : (if (Int.tmod a0 256) < 0 then (some (wrap64 ((Int.tmod a0 256) + 256))) else (some (Int.tmod a0 256))) = some r := h
 clear h
 by_cases c2 : (Int.tmod a0 256) < 0
 ·rw [if_pos c2] at H
  have c2b0 : decide ((Int.tmod a0 256) < 0) = true := decide_eq_true c2
  clear c2
  obtain rfl := Option.some.inj H
  go_enter Try.func71, Try.ntmps71
  go_wp2
  go_ret
  exact ⟨by first | rfl | (simp; done) | (simp [*]; done), by repeat (first | exact Drawn0.refl _ | apply Drawn0.step)⟩
 ·rw [if_neg c2] at H
  have c2b0 : decide ((Int.tmod a0 256) < 0) = false := decide_eq_false c2
  clear c2
  obtain rfl := Option.some.inj H
  go_enter Try.func71, Try.ntmps71
  go_wp2
  go_ret
  exact ⟨by first | rfl | (simp; done) | (simp [*]; done), by repeat (first | exact Drawn0.refl _ | apply Drawn0.step)⟩

/-! ### spec_MulG: function 70 -/
def spec_MulG.l0 : Nat → Int → Int → Int → Option (Int)
 | 0, _, _, _ => none
 | k + 1, x0, x1, x5 => if x1 > 0 then (if (Int.tmod x1 2) = 1 then (if (wrap64 (2 * x0)) ≥ 256 then (spec_MulG.l0 k (Go.bits .xor .i64 (wrap64 (2 * x0)) 285) (wrap64 (Int.tdiv x1 2)) (Go.bits .xor .i64 x5 x0)) else (spec_MulG.l0 k (wrap64 (2 * x0)) (wrap64 (Int.tdiv x1 2)) (Go.bits .xor .i64 x5 x0))) else (if (wrap64 (2 * x0)) ≥ 256 then (spec_MulG.l0 k (Go.bits .xor .i64 (wrap64 (2 * x0)) 285) (wrap64 (Int.tdiv x1 2)) x5) else (spec_MulG.l0 k (wrap64 (2 * x0)) (wrap64 (Int.tdiv x1 2)) x5))) else (some x5)
def spec_MulG.f (k : Nat) (a0 : Int) (a1 : Int) : Option (Int) := (spec_l05Mod.f a0).bind fun t239 => ((spec_l05Mod.f a1).bind fun t240 => (spec_MulG.l0 k t239 t240 0))
theorem spec_MulG.mono_l : ∀ k, (∀ y0 y1 y2, LeO (spec_MulG.l0 k y0 y1 y2) (spec_MulG.l0 (k + 1) y0 y1 y2))
 | 0 => fun _ _ _ r h => by simp [spec_MulG.l0] at h
 | k + 1 => by
  have ih0 := spec_MulG.mono_l k
  ·intro y0 y1 y2
   unfold spec_MulG.l0
   repeat' first
   | (with_reducible exact LeO.refl _)
   | (with_reducible refine LeO.ite ?_ ?_)
   | (with_reducible refine LeO.bind ?_ (fun _ => ?_))
   | exact ih0 _ _ _
   | exact LeO.none _
   | refine LeO.ite ?_ ?_
   | refine LeO.bind ?_ (fun _ => ?_)
theorem spec_MulG.mono : ∀ a0 a1 k, LeO (spec_MulG.f k a0 a1) (spec_MulG.f (k + 1) a0 a1) := by
 intro a0 a1 k
 have ih0 := spec_MulG.mono_l k
 unfold spec_MulG.f
 repeat' first
   | (with_reducible exact LeO.refl _)
   | (with_reducible refine LeO.ite ?_ ?_)
   | (with_reducible refine LeO.bind ?_ (fun _ => ?_))
   | exact ih0 _ _ _
   | exact LeO.none _
   | refine LeO.ite ?_ ?_
   | refine LeO.bind ?_ (fun _ => ?_)
set_option maxHeartbeats 8000000 in
set_option maxRecDepth 100000 in
theorem spec_MulG.calls (k : Nat) (a0 : Int) (a1 : Int) (r : Int) (w : World) (h : spec_MulG.f k a0 a1 = some r) :
  Calls Try.prog 70 #[.int .i64 a0, .int .i64 a1] w fun e w' => e = .returned (.int .i64 r) ∧ Drawn0 w w' := by
 have H : ((spec_l05Mod.f a0).bind fun t239 => ((spec_l05Mod.f a1).bind fun t240 => (spec_MulG.l0 k t239 t240 0))) = some r := h
 clear h
 replace H := Option.bind_eq_some_iff.mp H
 obtain ⟨t239, A30, H⟩ := H
 replace H : ((spec_l05Mod.f a1).bind fun t240 => (spec_MulG.l0 k t239 t240 0)) = some r := H
 have A3 := Aside0.mk A30
 clear A30
 replace H := Option.bind_eq_some_iff.mp H
 obtain ⟨t240, A40, H⟩ := H
 replace H : (spec_MulG.l0 k t239 t240 0) = some r := H
 have A4 := Aside0.mk A40
 clear A40
 have H' := Aside0.mk H
 clear H
 go_enter Try.func70, Try.ntmps70
 go_wp2_with (first | ((with_reducible refine gate_callee (f := 71) rfl ?_); refine goesL_ (some 7) rfl rfl Try.func71 (by kernel_rfl) rfl #[.int .i64 a0] rfl (by (try simp only [List.map_toArray, List.map_cons, List.map_nil]); first | done | rfl) ?_; (with_reducible refine (spec_l05Mod.calls a0 t239 _ A3.out).mono ?_); rintro e w' ⟨rfl, ⟨nd, rfl⟩⟩; refine ⟨_, rfl, ?_⟩) | ((with_reducible refine gate_callee (f := 71) rfl ?_); refine goesL_ (some 9) rfl rfl Try.func71 (by kernel_rfl) rfl #[.int .i64 a1] rfl (by (try simp only [List.map_toArray, List.map_cons, List.map_nil]); first | done | rfl) ?_; (with_reducible refine (spec_l05Mod.calls a1 t240 _ A4.out).mono ?_); rintro e w' ⟨rfl, ⟨nd, rfl⟩⟩; refine ⟨_, rfl, ?_⟩))
 go_loopg [0, 1, 5] k (fun kq v0 v1 v5 w' => ∃ (x0_1 : Int) (x1_1 : Int) (x5_1 : Int), v0 = .int .i64 x0_1 ∧ v1 = .int .i64 x1_1 ∧ v5 = .int .i64 x5_1 ∧ Aside0 (spec_MulG.l0 kq x0_1 x1_1 x5_1 = some r) ∧ Aside0 (kq ≤ k) ∧ Drawn0 w w')
 case atStart => exact ⟨(t239), (t240), (0), (by first | rfl | (simp; done) | (simp [*]; done)), (by first | rfl | (simp; done) | (simp [*]; done)), (by first | rfl | (simp; done) | (simp [*]; done)), H', ⟨Nat.le_refl _⟩, by repeat (first | exact Drawn0.refl _ | apply Drawn0.step)⟩
 case round =>
  clear H'
  obtain ⟨x0_1, x1_1, x5_1, rfl, rfl, rfl, HA, HK1, ⟨m1, rfl⟩⟩ := hrel
  cases gk with
  | zero => exact absurd HA.out (by simp [spec_MulG.l0])
  | succ k1 =>
   have H := HA.out
   clear HA
   simp only [spec_MulG.l0] at H
   by_cases c5 : x1_1 > 0
   ·rw [if_pos c5] at H
    have c5b0 : decide (0 < x1_1) = true := decide_eq_true c5
    clear c5
    by_cases c6 : (Int.tmod x1_1 2) = 1
    ·rw [if_pos c6] at H
     have c6b0 : ((Int.tmod x1_1 2) == 1) = true := beq_iff_eq.mpr c6
     have c6b1 : ((Int.tmod x1_1 2) != 1) = false := bne_eq_false_iff_eq.mpr c6
     clear c6
     by_cases c7 : (wrap64 (2 * x0_1)) ≥ 256
     ·rw [if_pos c7] at H
      have c7b0 : decide (256 ≤ (wrap64 (2 * x0_1))) = true := decide_eq_true c7
      clear c7
      have H' := Aside0.mk H
      clear H
      go_wp2
      go_roundg k1
      case measure => have := HK1.out; omega
      case rel => exact ⟨(Go.bits .xor .i64 (wrap64 (2 * x0_1)) 285), (wrap64 (Int.tdiv x1_1 2)), (Go.bits .xor .i64 x5_1 x0_1), (by first | rfl | (simp; done) | (simp [*]; done)), (by first | rfl | (simp; done) | (simp [*]; done)), (by first | rfl | (simp; done) | (simp [*]; done)), H', ⟨by have := HK1.out; omega⟩, by repeat (first | exact Drawn0.refl _ | apply Drawn0.step)⟩
     ·rw [if_neg c7] at H
      have c7b0 : decide (256 ≤ (wrap64 (2 * x0_1))) = false := decide_eq_false c7
      clear c7
      have H' := Aside0.mk H
      clear H
      go_wp2
      go_roundg k1
      case measure => have := HK1.out; omega
      case rel => exact ⟨(wrap64 (2 * x0_1)), (wrap64 (Int.tdiv x1_1 2)), (Go.bits .xor .i64 x5_1 x0_1), (by first | rfl | (simp; done) | (simp [*]; done)), (by first | rfl | (simp; done) | (simp [*]; done)), (by first | rfl | (simp; done) | (simp [*]; done)), H', ⟨by have := HK1.out; omega⟩, by repeat (first | exact Drawn0.refl _ | apply Drawn0.step)⟩
    ·rw [if_neg c6] at H
     have c6b0 : ((Int.tmod x1_1 2) == 1) = false := beq_eq_false_iff_ne.mpr c6
     have c6b1 : ((Int.tmod x1_1 2) != 1) = true := bne_iff_ne.mpr c6
     by_cases c8 : (wrap64 (2 * x0_1)) ≥ 256
     ·rw [if_pos c8] at H
      have c8b0 : decide (256 ≤ (wrap64 (2 * x0_1))) = true := decide_eq_true c8
      clear c8
      have H' := Aside0.mk H
      clear H
      go_wp2
      go_roundg k1
      case measure => have := HK1.out; omega
      case rel => exact ⟨(Go.bits .xor .i64 (wrap64 (2 * x0_1)) 285), (wrap64 (Int.tdiv x1_1 2)), (x5_1), (by first | rfl | (simp; done) | (simp [*]; done)), (by first | rfl | (simp; done) | (simp [*]; done)), (by first | rfl | (simp; done) | (simp [*]; done)), H', ⟨by have := HK1.out; omega⟩, by repeat (first | exact Drawn0.refl _ | apply Drawn0.step)⟩
     ·rw [if_neg c8] at H
      have c8b0 : decide (256 ≤ (wrap64 (2 * x0_1))) = false := decide_eq_false c8
      clear c8
      have H' := Aside0.mk H
      clear H
      go_wp2
      go_roundg k1
      case measure => have := HK1.out; omega
      case rel => exact ⟨(wrap64 (2 * x0_1)), (wrap64 (Int.tdiv x1_1 2)), (x5_1), (by first | rfl | (simp; done) | (simp [*]; done)), (by first | rfl | (simp; done) | (simp [*]; done)), (by first | rfl | (simp; done) | (simp [*]; done)), H', ⟨by have := HK1.out; omega⟩, by repeat (first | exact Drawn0.refl _ | apply Drawn0.step)⟩
   ·rw [if_neg c5] at H
    have c5b0 : decide (0 < x1_1) = false := decide_eq_false c5
    clear c5
    obtain rfl := Option.some.inj H
    go_wp2
    go_ret
    exact ⟨by first | rfl | (simp; done) | (simp [*]; done), by repeat (first | exact Drawn0.refl _ | apply Drawn0.step)⟩

/-! ### spec_MulText: function 52 -/
def spec_MulText.l0 : Nat → Int → List Int → Int → Option (ByteArray)
 | 0, _, _, _ => none
 | k + 1, x0, x5, x6 => if x6 < (x5.length : Int) then (if 0 ≤ x6 then ((spec_MulG.f k x0 (wrap64 (rd x5 x6))).bind fun t245 => (spec_MulText.l0 k x0 (x5.set (x6 : Int).toNat ((t245) % 256)) (wrap64 (x6 + 1)))) else (none)) else (some (strOfNums x5))
def spec_MulText.f (k : Nat) (a0 : Int) (a1 : ByteArray) : Option (ByteArray) := if a1.size ≤ 140737488355328 then (spec_MulText.l0 k a0 (bytesOf a1) 0) else (none)
theorem spec_MulText.mono_l : ∀ k, (∀ y0 y1 y2, LeO (spec_MulText.l0 k y0 y1 y2) (spec_MulText.l0 (k + 1) y0 y1 y2))
 | 0 => fun _ _ _ r h => by simp [spec_MulText.l0] at h
 | k + 1 => by
  have ih0 := spec_MulText.mono_l k
  ·intro y0 y1 y2
   unfold spec_MulText.l0
   repeat' first
   | (with_reducible exact LeO.refl _)
   | (with_reducible refine LeO.ite ?_ ?_)
   | (with_reducible refine LeO.bind ?_ (fun _ => ?_))
   | exact ih0 _ _ _
   | exact spec_MulG.mono _ _ _
   | exact LeO.none _
   | refine LeO.ite ?_ ?_
   | refine LeO.bind ?_ (fun _ => ?_)
theorem spec_MulText.mono : ∀ a0 a1 k, LeO (spec_MulText.f k a0 a1) (spec_MulText.f (k + 1) a0 a1) := by
 intro a0 a1 k
 have ih0 := spec_MulText.mono_l k
 unfold spec_MulText.f
 repeat' first
   | (with_reducible exact LeO.refl _)
   | (with_reducible refine LeO.ite ?_ ?_)
   | (with_reducible refine LeO.bind ?_ (fun _ => ?_))
   | exact ih0 _ _ _
   | exact spec_MulG.mono _ _ _
   | exact LeO.none _
   | refine LeO.ite ?_ ?_
   | refine LeO.bind ?_ (fun _ => ?_)
set_option maxHeartbeats 8000000 in
set_option maxRecDepth 100000 in
theorem spec_MulText.calls (k : Nat) (a0 : Int) (a1 : ByteArray) (r : ByteArray) (w : World) (h : spec_MulText.f k a0 a1 = some r) :
  Calls Try.prog 52 #[.int .i64 a0, .string a1] w fun e w' => e = .returned (.string r) ∧ Below w.heap.size w w' := by
 have HB := Aside0.mk (Below.refl w.heap.size w)
 have H : (if a1.size ≤ 140737488355328 then (spec_MulText.l0 k a0 (bytesOf a1) 0) else (none)) = some r := h
 clear h
 by_cases c3 : a1.size ≤ 140737488355328
 ·rw [if_pos c3] at H
  have c3b0 := eq_true c3
  have c3b1 : decide (a1.size ≤ 140737488355328) = true := decide_eq_true c3
  clear c3
  obtain ⟨y241, hy241⟩ : ∃ y_ : List Int, y_ = (bytesOf a1) := ⟨_, rfl⟩
  replace H : (spec_MulText.l0 k a0 y241 0) = some r := by first | (rw [hy241]; with_reducible exact H) | (have H2_ := (Option.bind_some _ _).symm.trans H; rw [hy241]; with_reducible exact H2_) | (have H2_ := (Option.bind_some _ _).symm.trans H; with_reducible exact H2_) | with_reducible exact H | (rw [hy241]; exact H) | exact H
  have Ny241 := Aside0.mk hy241
  clear hy241
  have H' := Aside0.mk H
  clear H
  go_enter Try.func52, Try.ntmps52
  go_wp2_with (first | ((with_reducible refine gate_dst (N := 8) rfl ?_); refine Kf.R_conv (Kd.int .u8) _ 5 rfl (N := 8) rfl 9 22 _ rfl a1 rfl Try.underlying9 Try.underlying22 Try.underlying5 (ok := fun _ => True) trivial (of_decide_eq_true (by assumption)) (Below.refl _ _) (Nat.le_refl _) ?_; intro v242 w4 ho5 hb hg_ hnew_; clear hg_ hnew_; (first | rw [← Ny241.out] at ho5 | (simp only [Int.reduceToNat] at ho5; rw [← Ny241.out] at ho5)); have n0_ := Aside0.mk (Kf.R_lower ho5 (below_size (by repeat (first | exact HB.out | apply below_alloc | apply pw_below_drewN | apply below_drew1)))); have n1_ := Aside0.mk (below_step (by repeat (first | exact HB.out | apply below_alloc | apply pw_below_drewN | apply below_drew1)) hb); clear HB; have HO243 := n0_; have HB := n1_; clear n0_ n1_; clear hb ho5))
  go_loopg [6] k (fun kq v6 w' => ∃ (x5_1 : List Int) (x6_1 : Int), v6 = .int .i64 x6_1 ∧ Aside0 (spec_MulText.l0 kq a0 x5_1 x6_1 = some r) ∧ Aside0 (kq ≤ k) ∧ Aside0 (Kf.R (Kd.int .u8) 5 w' w.heap.size (fun _ => True) v242 x5_1) ∧ Aside0 (Below w.heap.size w w'))
  case atStart => exact ⟨(y241), (0), (by first | rfl | (simp; done) | (simp [*]; done)), H', ⟨Nat.le_refl _⟩, ⟨by exact HO243.out⟩, ⟨by repeat (first | exact HB.out | apply below_alloc | apply pw_below_drewN | apply below_drew1)⟩⟩
  case round =>
   clear H'
   obtain ⟨x5_1, x6_1, rfl, HA, HK1, HO_5, HB⟩ := hrel
   cases gk with
   | zero => exact absurd HA.out (by simp [spec_MulText.l0])
   | succ k1 =>
    have H := HA.out
    clear HA
    simp only [spec_MulText.l0] at H
    by_cases c6 : x6_1 < (x5_1.length : Int)
    ·rw [if_pos c6] at H
     have c6b0 : decide (x6_1 < (x5_1.length : Int)) = true := decide_eq_true c6
     clear c6
     by_cases c7 : 0 ≤ x6_1
     ·rw [if_pos c7] at H
      have c7b0 : decide (0 ≤ x6_1) = true := decide_eq_true c7
      clear c7
      replace H := Option.bind_eq_some_iff.mp H
      obtain ⟨t245, A80, H⟩ := H
      replace H : (spec_MulText.l0 k1 a0 (x5_1.set (x6_1 : Int).toNat ((t245) % 256)) (wrap64 (x6_1 + 1))) = some r := H
      have A8 := Aside0.mk A80
      clear A80
      obtain ⟨y246, hy246⟩ : ∃ y_ : List Int, y_ = (x5_1.set (x6_1 : Int).toNat ((t245) % 256)) := ⟨_, rfl⟩
      replace H : (spec_MulText.l0 k1 a0 y246 (wrap64 (x6_1 + 1))) = some r := by first | (rw [hy246]; with_reducible exact H) | (have H2_ := (Option.bind_some _ _).symm.trans H; rw [hy246]; with_reducible exact H2_) | (have H2_ := (Option.bind_some _ _).symm.trans H; with_reducible exact H2_) | with_reducible exact H | (rw [hy246]; exact H) | exact H
      have Ny246 := Aside0.mk hy246
      clear hy246
      have H' := Aside0.mk H
      clear H
      obtain ⟨Ao10, co10, eo10⟩ := Kf.R_slice HO_5.out
      subst eo10
      have p244 : 0 ≤ (x6_1 : Int) := of_decide_eq_true (by assumption)
      have q244 : x6_1 < (x5_1.length : Int) := of_decide_eq_true (by assumption)
      obtain ⟨ad244, e244, hx244_0⟩ := Kd.at_int (Kf.R_reads' HO_5.out).2.2 x6_1 p244 q244
      cases e244
      replace p244 := eq_true p244
      replace q244 := eq_true q244
      go_wp2_with (first | ((with_reducible refine gate_callee (f := 70) rfl ?_); refine goesL_ (some 23) rfl rfl Try.func70 (by kernel_rfl) rfl #[.int .i64 a0, .int .i64 (wrap64 (rd x5_1 x6_1))] rfl (by (try simp only [List.map_toArray, List.map_cons, List.map_nil]); first | done | rfl) ?_; (with_reducible refine (spec_MulG.calls k1 a0 (wrap64 (rd x5_1 x6_1)) t245 _ A8.out).mono ?_); rintro e w' ⟨rfl, ⟨nd, rfl⟩⟩; refine ⟨_, rfl, ?_⟩; (try (rw [drewN_self wr]; generalize hq_ : World.drewN wr _ = wr; have n0_ : Aside0 (Kf.R (Kd.int .u8) 5 wr w.heap.size (fun _ => True) (.slice (some ad244) x5_1.length co10) x5_1) := ⟨by rw [← hq_]; exact (by exact HO_5.out)⟩; have n1_ : Aside0 (Below w.heap.size w wr) := ⟨by rw [← hq_]; exact (by repeat (first | exact HB.out | apply below_alloc | apply pw_below_drewN | apply below_drew1))⟩; clear HO_5 HB hq_; have HO_5 := n0_; have HB := n1_; clear n0_ n1_)); have p9 : 0 ≤ (x6_1 : Int) := of_decide_eq_true (by assumption); have q9 : (x6_1 : Int) < ((x5_1.length : Int) : Int) := of_decide_eq_true (by assumption); obtain ⟨go9, co9, eo9, gb9, gl9, cl9, HG9⟩ := Kf.R_form HO_5.out (by omega); (first | cases eo9 | (injection eo9 with ea_ en_ ec_; (first | subst ea_ | (injection ea_ with ea_; subst ea_)); subst ec_; clear en_)); have GB9 := Aside0.mk gb9; have GG9 := Aside0.mk HG9; clear gb9 gl9 HG9; (first | simp only [add_plain] at hx244_0 | skip); obtain ⟨hx9_0, hf9_0⟩ := Kf.R_celln 0 HO_5.out (x6_1 : Int) p9 q9; replace p9 := eq_true p9; replace q9 := eq_true q9; obtain ⟨hy11_, hz11_⟩ := Kf.R_celln 0 HO_5.out (x6_1 : Int) (of_decide_eq_true (by assumption)) (of_decide_eq_true (by assumption)); have HP11 := Kf.R_putg HO_5.out (x6_1 : Int) ((t245) % 256)) | ((with_reducible refine gate_store (t := 5) (p := 25) rfl ?_); refine store_event (t := 5) (p := 25) (v := ?vo_w12) (w1 := (wr.setCell ⟨go9, (x6_1 : Int).toNat, none⟩ (.int .u8 ((t245) % 256)))) ?hg ?ho ?hn ?hr ?_; (case ho => rfl); (case hg => rfl); (case hn => rfl); (case hr => first | (go_simp; done) | (go_simp; rfl)); intro w12 hw; have hg : wr.grownBy w12 (some go9) := (by rw [hw]; exact HP11.2); have hp_ : Kf.R (Kd.int .u8) 5 w12 w.heap.size (fun _ => True) (.slice (some ⟨go9, 0, none⟩) x5_1.length co10) y246 := (by rw [hw, Ny246.out]; exact HP11.1); clear HP11; have n0_ := Aside0.mk (hp_); have n1_ := Aside0.mk ((by rw [hw]; exact below_set (HB.out) GB9.out : Below w.heap.size w w12)); clear HO_5; clear HB; have HO_5 := n0_; have HB := n1_; clear n0_ n1_; clear hg hw hp_))
      go_roundg k1
      case measure => have := HK1.out; omega
      case rel => exact ⟨(y246), (wrap64 (x6_1 + 1)), (by first | rfl | (simp; done) | (simp [*]; done)), H', ⟨by have := HK1.out; omega⟩, ⟨by exact HO_5.out⟩, ⟨by repeat (first | exact HB.out | apply below_alloc | apply pw_below_drewN | apply below_drew1)⟩⟩
     ·rw [if_neg c7] at H
      exact absurd H (by simp)
    ·rw [if_neg c6] at H
     have c6b0 : decide (x6_1 < (x5_1.length : Int)) = false := decide_eq_false c6
     clear c6
     obtain rfl := Option.some.inj H
     obtain ⟨Ao13, co13, eo13⟩ := Kf.R_slice HO_5.out
     subst eo13
     have hcv14 := Kf.own_string (P := Try.prog) Try.underlying22 Try.underlying5 Try.underlying9 HO_5.out
     go_wp2
     go_ret
     exact ⟨by first | rfl | (simp [errW_none, errW_some] <;> rfl) | (simp [*, errW_none, errW_some] <;> rfl), by repeat (first | exact HB.out | apply below_alloc | apply pw_below_drewN | apply below_drew1)⟩
 ·rw [if_neg c3] at H
  exact absurd H (by simp)

end Go.Proofs.Ytcpcphdhaboekaa.XFnCodes
