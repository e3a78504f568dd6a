/- What the functions of a law compute, and that their calls compute it: written by a program of this session (xprint.py), which turns the kit print at a few places. -/
import Derived.Test.YtnkldnkolcighaaXFnExactCutActsx0
import Derived.Test.YtnkldnkolcighaaXFnExactCutActsx12
import Derived.Test.YtnkldnkolcighaaXFnExactCutActsx14
namespace Go.Proofs.Ytnkldnkolcighaa.XFnExactCutActs
open Go.RowKit Go.Proofs.YtnkldnkolcighaaT.PrintWords Go.Proofs.YtnkldnkolcighaaT.PrintLast Go.Proofs.YtnkldnkolcighaaT.PrintMore
attribute [local go_sem] max2_int min2_int max_two min_two max_three min_three max_four min_four str_geq str_gtr   -- for this text's walks alone
set_option linter.unusedVariables false
set_option linter.unusedSimpArgs false

/-! ### impl_DoActs: function 25 -/
def impl_DoActs.l0 : Nat → List (S41) → List (S41) → Int → Int → List (S67) → Option ((List (S67)) × Int)
 | 0, _, _, _, _, _ => none
 | k + 1, x1, x13, x14, x15, x294000 => if x15 < x14 then (if 0 ≤ x15 then (if x15 < (x13.length : Int) then ((impl_DoAct.f k x294000 ((rd_T41 x13 x15).f0) ((rd_T41 x13 x15).f1) ((rd_T41 x13 x15).f2) ((rd_T41 x13 x15).f3)).bind fun bt296 => (if bt296.2 = true then (impl_DoActs.l0 k x1 x13 x14 (wrap64 (x15 + 1)) bt296.1) else (some (x294000, x15)))) else (none)) else (none)) else (some (x294000, (x1.length : Int)))
def impl_DoActs.f (k : Nat) (l0_0 : List (S67)) (l1 : List (S41)) : Option ((List (S67)) × Int) := (impl_copyDisk.f l0_0).bind fun t290 => (impl_DoActs.l0 k l1 l1 (l1.length : Int) 0 t290)
theorem impl_DoActs.mono_l : ∀ k, (∀ y0 y1 y2 y3 y4, LeO (impl_DoActs.l0 k y0 y1 y2 y3 y4) (impl_DoActs.l0 (k + 1) y0 y1 y2 y3 y4))
 | 0 => fun _ _ _ _ _ r h => by simp [impl_DoActs.l0] at h
 | k + 1 => by
  have ih0 := impl_DoActs.mono_l k
  intro y0 y1 y2 y3 y4
  unfold impl_DoActs.l0
  repeat' first
  | (with_reducible exact LeO.refl _)
  | (with_reducible refine LeO.ite ?_ ?_)
  | (with_reducible refine LeO.bind ?_ (fun _ => ?_))
  | exact ih0 _ _ _ _ _
  | exact impl_DoAct.mono _ _ _ _ _ _
  | exact LeO.none _
  | refine LeO.ite ?_ ?_
  | refine LeO.bind ?_ (fun _ => ?_)
theorem impl_DoActs.mono : ∀ a0 a1 k, LeO (impl_DoActs.f k a0 a1) (impl_DoActs.f (k + 1) a0 a1) := by
 intro a0 a1 k
 have ih0 := impl_DoActs.mono_l k
 unfold impl_DoActs.f
 repeat' first
   | (with_reducible exact LeO.refl _)
   | (with_reducible refine LeO.ite ?_ ?_)
   | (with_reducible refine LeO.bind ?_ (fun _ => ?_))
   | exact ih0 _ _ _ _ _
   | exact impl_DoAct.mono _ _ _ _ _ _
   | exact LeO.none _
   | refine LeO.ite ?_ ?_
   | refine LeO.bind ?_ (fun _ => ?_)
set_option maxHeartbeats 8000000 in
set_option maxRecDepth 100000 in
theorem impl_DoActs.calls (k : Nat) (A0_0 : Option Addr) (c0_0 : Nat) (l0_0 : List (S67)) (A1 : Option Addr) (c1 : Nat) (l1 : List (S41)) (r1 : List (S67)) (r2 : Int) (w : World) (hr0_0 : Kd.C k67 w A0_0 l0_0.length l0_0) (hc0_0 : l0_0.length ≤ c0_0) (hr1 : Kd.C k41 w A1 l1.length l1) (hc1 : l1.length ≤ c1) (h : impl_DoActs.f k l0_0 l1 = some (r1, r2)) :
  Calls Try.prog 25 #[.agg #[.slice A0_0 l0_0.length c0_0], .slice A1 l1.length c1] w fun e w' => ∃ v0_ : Value, e = .returned (.tuple #[.agg #[v0_], .int .i64 r2]) ∧ Kd.R k67 67 w' w.heap.size (fun _ => True) v0_ r1 ∧ Below w.heap.size w w' := by
 have hu30 := Try.underlying30
 have hu41 := Try.underlying41
 have HR0_0 := AM hr0_0
 have HC0_0 := AM hc0_0
 clear hr0_0 hc0_0
 have HR1 := AM hr1
 have HC1 := AM hc1
 clear hr1 hc1
 have HB := AM (Below.refl w.heap.size w)
 have H : ((impl_copyDisk.f l0_0).bind fun t290 => (impl_DoActs.l0 k l1 l1 (l1.length : Int) 0 t290)) = some (r1, r2) := h
 clear h
 replace H := bm H
 obtain ⟨t290, A30, H⟩ := H
 replace H : (impl_DoActs.l0 k l1 l1 (l1.length : Int) 0 t290) = some (r1, r2) := H
 have A3 := AM A30
 clear A30
 have H' := AM H
 clear H
 go_enter Try.func25, Try.ntmps25
 go_wp2_with (first | ((with_reducible refine gd 2 rfl ?_); refine bx (N := 2) (cs := #[.slice A0_0 l0_0.length c0_0]) (t := 30) ?_; intro gb288 hg w4 hbox hb; have BK288 := AM (hbox); have GW288 := AM (bs hg HB); have GE288 := AM (bs hg HB); replace HB := bq HB hb; clear hb hbox hg) | ((with_reducible refine gd 4 rfl ?_); refine bx (N := 4) (cs := #[.slice none 0 0]) (t := 30) ?_; intro gb289 hg w5 hbox hb; have BK289 := AM (hbox); have GW289 := AM (bt hg hS); have GE289 := AM (bt hg hS); replace HB := AM (below_step (hS) hb); have NB288_289 := AM (nl hg (bk BK288)); have NB289_288 := AM (ng hg (bk BK288)); replace BK288 := bw BK288 hb; clear hb hbox hg; have hnb6 := NB288_289.out; have hnc6 := NB289_288.out; have hcz7_0 := bv BK288 0 (.slice A0_0 l0_0.length c0_0); have hfz7_0 := bz BK288 0) | ((with_reducible refine gc 48 rfl ?_); refine goesL_ (some 12) rfl rfl Try.func48 (by kernel_rfl) rfl #[.agg #[.slice A0_0 l0_0.length c0_0]] rfl am ?_; (with_reducible refine (impl_copyDisk.calls _ _ l0_0 t290 _ ?side1 ?side2 A3.out).mono ?_); (case side1 => repeat (first | exact (Kd.C_below HR0_0.out HB.out) | (with_reducible first | refine cA ?_ _ | refine cN ?_ _ | refine cD ?_))); (case side2 => exact HC0_0.out); rintro e w8 ⟨v291, rfl, ho0, hb⟩; refine ⟨_, rfl, ?_⟩; have HO292 := AM (Kd.R_lower ho0 (below_size (hS))); replace BK288 := bw BK288 hb; replace BK289 := bw BK289 hb; replace HB := AM (below_step (hS) hb); (try clear hb); (try clear ho0)) | ((with_reducible refine gd 6 rfl ?_); refine bx (N := 6) (cs := #[.slice none 0 0]) (t := 30) ?_; intro gb293 hg w9 hbox hb; replace HO292 := AM (Kd.R_below (by exact HO292.out) hb); have BK293 := AM (hbox); have GW293 := AM (bt hg hS); have GE293 := AM (bt hg hS); replace HB := AM (below_step (hS) hb); have NB288_293 := AM (nl hg (bk BK288)); have NB293_288 := AM (ng hg (bk BK288)); replace BK288 := bw BK288 hb; have NB289_293 := AM (nl hg (bk BK289)); have NB293_289 := AM (ng hg (bk BK289)); replace BK289 := bw BK289 hb; clear hb hbox hg; obtain ⟨Ao10, co10, eo10⟩ := Kd.R_slice HO292.out; subst eo10; have hnb11 := NB293_288.out; have hnc11 := NB288_293.out; have hnb12 := NB293_289.out; have hnc12 := NB289_293.out; have hcz13_0 := bv BK293 0 (.slice none 0 0); have hfz13_0 := bz BK293 0))
 go_loopg [15] k (fun kq v15 w' => ∃ (x15_1 : Int) (x294000_1 : List (S67)) (u294000 : Value), v15 = .int .i64 x15_1 ∧ Aside0 (impl_DoActs.l0 kq l1 l1 (l1.length : Int) x15_1 x294000_1 = some (r1, r2)) ∧ Aside0 (kq ≤ k) ∧ Aside0 (Kd.R k67 67 w' w.heap.size (fun _ => True) u294000 x294000_1) ∧ Aside0 (w'.heap[gb288]? = some (.cells #[(.slice A0_0 l0_0.length c0_0)] 30 (0, 0))) ∧ Aside0 (w'.heap[gb289]? = some (.cells #[(.slice none 0 0)] 30 (0, 0))) ∧ Aside0 (w'.heap[gb293]? = some (.cells #[u294000] 30 (0, 0))) ∧ Aside0 (Below w.heap.size w w'))
 case atStart => exact ⟨(0), (t290), (.slice Ao10 t290.length co10), sf, H', ⟨Nat.le_refl _⟩, ⟨by exact Kd.R_mono (Kd.R_far (p := ⟨gb293, 0, none⟩) (Kd.R_types HO292.out BK293.out (by decide)) (fun _ hk => hk.2) (.slice Ao10 t290.length co10)) (fun _ hk => trivial)⟩, ⟨be⟩, ⟨be⟩, ⟨by (with_reducible repeat first | apply aN | apply aD | apply aA); refine blk_put (cs := #[.slice none 0 0]) ?_ 0 _ rfl; exact bk BK293⟩, ⟨hS⟩⟩
 clear H'
 obtain ⟨x15_1, x294000_1, u294000, rfl, HA, HK1, HO_294000, BK288, BK289, BK293, HB⟩ := hrel
 cases gk with
 | zero => exact absurd HA.out (by simp [impl_DoActs.l0])
 | succ k1 =>
  have H := HA.out
  clear HA
  simp only [impl_DoActs.l0] at H
  by_cases c14 : x15_1 < (l1.length : Int)
  ·rw [if_pos c14] at H
   have c14b0 : decide (x15_1 < (l1.length : Int)) = true := decide_eq_true c14
   clear c14
   by_cases c15 : 0 ≤ x15_1
   ·rw [if_pos c15] at H
    have c15b0 : decide (0 ≤ x15_1) = true := decide_eq_true c15
    clear c15
    by_cases c16 : x15_1 < (l1.length : Int)
    ·rw [if_pos c16] at H
     have c16b0 : decide (x15_1 < (l1.length : Int)) = true := decide_eq_true c16
     clear c16
     replace H := bm H
     obtain ⟨⟨t296, t299⟩, A170, H⟩ := H
     replace H : (if t299 = true then (impl_DoActs.l0 k1 l1 l1 (l1.length : Int) (wrap64 (x15_1 + 1)) t296) else (some (x294000_1, x15_1))) = some (r1, r2) := H
     have A17 := AM A170
     clear A170
     by_cases c18 : t299 = true
     ·subst c18
      have H1 : (impl_DoActs.l0 k1 l1 l1 (l1.length : Int) (wrap64 (x15_1 + 1)) t296) = some (r1, r2) := by rw [if_pos rfl] at H; exact H
      clear H
      have H := H1
      clear H1
      have H' := AM H
      clear H
      have p294 : 0 ≤ (x15_1 : Int) := od
      have q294 : x15_1 < (l1.length : Int) := od
      obtain ⟨ad294, e294, hx294_0, hx294_1, hx294_2, hx294_3⟩ := at_T41 HR1.out x15_1 p294 q294
      cases e294
      replace hx294_0 := cl HB hx294_0
      replace hx294_1 := cl HB hx294_1
      replace hx294_2 := cl HB hx294_2
      replace hx294_3 := cl HB hx294_3
      replace p294 := eq_true p294
      replace q294 := eq_true q294
      go_wp2_with (first | ((with_reducible refine gd 8 rfl ?_); refine bx (N := 8) (cs := #[.int .i64 0, .string (⟨#[]⟩ : ByteArray), .string (⟨#[]⟩ : ByteArray), .string (⟨#[]⟩ : ByteArray)]) (t := 41) ?_; intro gb295 hg w19 hbox hb; replace HO_294000 := AM (Kd.R_below (by exact HO_294000.out) hb); have BK295 := AM (hbox); have GW295 := AM (bt hg hS); have GE295 := AM (bt hg hS); replace HB := AM (below_step (hS) hb); have NB288_295 := AM (nl hg (bk BK288)); have NB295_288 := AM (ng hg (bk BK288)); replace BK288 := bw BK288 hb; have NB289_295 := AM (nl hg (bk BK289)); have NB295_289 := AM (ng hg (bk BK289)); replace BK289 := bw BK289 hb; have NB293_295 := AM (nl hg (bk BK293)); have NB295_293 := AM (ng hg (bk BK293)); replace BK293 := bw BK293 hb; clear hb hbox hg; have hnb20 := NB295_288.out; have hnc20 := NB288_295.out; have hnb21 := NB295_289.out; have hnc21 := NB289_295.out; have hnb22 := NB295_293.out; have hnc22 := NB293_295.out; have hcz23_0 := bv BK295 0 (.int .i64 0); have hcz23_1 := bv BK295 1 (.string (⟨#[]⟩ : ByteArray)); have hcz23_2 := bv BK295 2 (.string (⟨#[]⟩ : ByteArray)); have hcz23_3 := bv BK295 3 (.string (⟨#[]⟩ : ByteArray)); have hfz23_0 := bz BK295 0; have hfz23_1 := bz BK295 1; have hfz23_2 := bz BK295 2; have hfz23_3 := bz BK295 3; have hnb24 := NB293_288.out; have hnc24 := NB288_293.out; have hnb25 := NB293_289.out; have hnc25 := NB289_293.out; have hcz26_0 := bv BK293 0 (u294000); have hfz26_0 := bz BK293 0; obtain ⟨Ao27, co27, eo27⟩ := Kd.R_slice HO_294000.out; subst eo27) | ((with_reducible refine gc 19 rfl ?_); refine goesL_ (some 23) rfl rfl Try.func19 (by kernel_rfl) rfl #[.agg #[.slice Ao27 x294000_1.length co27], .agg #[.int .i64 ((rd_T41 l1 x15_1).f0), .string ((rd_T41 l1 x15_1).f1), .string ((rd_T41 l1 x15_1).f2), .string ((rd_T41 l1 x15_1).f3)]] rfl am ?_; (with_reducible refine (impl_DoAct.calls k1 _ _ x294000_1 ((rd_T41 l1 x15_1).f0) ((rd_T41 l1 x15_1).f1) ((rd_T41 l1 x15_1).f2) ((rd_T41 l1 x15_1).f3) t296 true _ ?side1 ?side2 A17.out).mono ?_); (case side1 => refine (Kd.R_reads' (e := 67) (base := w.heap.size) (ok := fun k_ => True) (n := x294000_1.length) (c := co27) ?_).2.2; exact (by exact (Kd.R_mono (Kd.R_far (p := ⟨gb295, 3, none⟩) (Kd.R_far (p := ⟨gb295, 2, none⟩) (Kd.R_far (p := ⟨gb295, 1, none⟩) (Kd.R_far (p := ⟨gb295, 0, none⟩) (Kd.R_types HO_294000.out BK295.out (by decide)) (fun _ hk => hk.2) (.int .i64 ((rd_T41 l1 x15_1).f0))) (fun _ hk => hk.2) (.string ((rd_T41 l1 x15_1).f1))) (fun _ hk => hk.2) (.string ((rd_T41 l1 x15_1).f2))) (fun _ hk => hk.2) (.string ((rd_T41 l1 x15_1).f3))) (fun _ h_ => h_.1)))); (case side2 => exact (Kd.R_reads' HO_294000.out).2.1); rintro e w28 ⟨v297, rfl, ho0, hb⟩; refine ⟨_, rfl, ?_⟩; have n0_ := AM (Kd.R_elder' (by exact (Kd.R_mono (Kd.R_far (p := ⟨gb295, 3, none⟩) (Kd.R_far (p := ⟨gb295, 2, none⟩) (Kd.R_far (p := ⟨gb295, 1, none⟩) (Kd.R_far (p := ⟨gb295, 0, none⟩) (Kd.R_types HO_294000.out BK295.out (by decide)) (fun _ hk => hk.2) (.int .i64 ((rd_T41 l1 x15_1).f0))) (fun _ hk => hk.2) (.string ((rd_T41 l1 x15_1).f1))) (fun _ hk => hk.2) (.string ((rd_T41 l1 x15_1).f2))) (fun _ hk => hk.2) (.string ((rd_T41 l1 x15_1).f3))) (fun _ h_ => h_.1))) (Kd.R_base ho0) hb); have n1_ := AM (Kd.R_lower (Kd.R_new' ho0 (Kd.R_lt (by exact (Kd.R_mono (Kd.R_far (p := ⟨gb295, 3, none⟩) (Kd.R_far (p := ⟨gb295, 2, none⟩) (Kd.R_far (p := ⟨gb295, 1, none⟩) (Kd.R_far (p := ⟨gb295, 0, none⟩) (Kd.R_types HO_294000.out BK295.out (by decide)) (fun _ hk => hk.2) (.int .i64 ((rd_T41 l1 x15_1).f0))) (fun _ hk => hk.2) (.string ((rd_T41 l1 x15_1).f1))) (fun _ hk => hk.2) (.string ((rd_T41 l1 x15_1).f2))) (fun _ hk => hk.2) (.string ((rd_T41 l1 x15_1).f3))) (fun _ h_ => h_.1))))) (below_size (hS))); have n2_ := AM (blk_below (g := gb288) (o := .cells #[.slice A0_0 l0_0.length c0_0] 30 (0, 0)) (be) hb); have n3_ := AM (blk_below (g := gb289) (o := .cells #[.slice none 0 0] 30 (0, 0)) (be) hb); have n4_ := AM (blk_below (g := gb293) (o := .cells #[.slice Ao27 x294000_1.length co27] 30 (0, 0)) (be) hb); have n5_ := AM (blk_below (g := gb295) (o := .cells #[.int .i64 ((rd_T41 l1 x15_1).f0), .string ((rd_T41 l1 x15_1).f1), .string ((rd_T41 l1 x15_1).f2), .string ((rd_T41 l1 x15_1).f3)] 41 (0, 0)) (by (with_reducible repeat first | apply aN | apply aD | apply aA); refine blk_put (cs := #[.int .i64 ((rd_T41 l1 x15_1).f0), .string ((rd_T41 l1 x15_1).f1), .string ((rd_T41 l1 x15_1).f2), .string (⟨#[]⟩ : ByteArray)]) ?_ 3 _ rfl; (with_reducible repeat first | apply aN | apply aD | apply aA); refine blk_put (cs := #[.int .i64 ((rd_T41 l1 x15_1).f0), .string ((rd_T41 l1 x15_1).f1), .string (⟨#[]⟩ : ByteArray), .string (⟨#[]⟩ : ByteArray)]) ?_ 2 _ rfl; (with_reducible repeat first | apply aN | apply aD | apply aA); refine blk_put (cs := #[.int .i64 ((rd_T41 l1 x15_1).f0), .string (⟨#[]⟩ : ByteArray), .string (⟨#[]⟩ : ByteArray), .string (⟨#[]⟩ : ByteArray)]) ?_ 1 _ rfl; (with_reducible repeat first | apply aN | apply aD | apply aA); refine blk_put (cs := #[.int .i64 0, .string (⟨#[]⟩ : ByteArray), .string (⟨#[]⟩ : ByteArray), .string (⟨#[]⟩ : ByteArray)]) ?_ 0 _ rfl; exact bk BK295) hb); have n6_ := AM (below_step (hS) hb); clear HO_294000; clear BK288; clear BK289; clear BK293; clear BK295; clear HB; have HO_294000 := n0_; have HO298 := n1_; have BK288 := n2_; have BK289 := n3_; have BK293 := n4_; have BK295 := n5_; have HB := n6_; clear n0_ n1_ n2_ n3_ n4_ n5_ n6_; (try clear hb); (try clear hk); (try clear ho0)) | ((with_reducible refine gd 9 rfl ?_); refine bx (N := 9) (cs := #[.slice none 0 0]) (t := 30) ?_; intro gb300 hg w29 hbox hb; replace HO_294000 := AM (Kd.R_below (by exact HO_294000.out) hb); replace HO298 := AM (Kd.R_below (by exact HO298.out) hb); have BK300 := AM (hbox); have GW300 := AM (bt hg hS); have GE300 := AM (bt hg hS); replace HB := AM (below_step (hS) hb); have NB288_300 := AM (nl hg (bk BK288)); have NB300_288 := AM (ng hg (bk BK288)); replace BK288 := bw BK288 hb; have NB289_300 := AM (nl hg (bk BK289)); have NB300_289 := AM (ng hg (bk BK289)); replace BK289 := bw BK289 hb; have NB293_300 := AM (nl hg (bk BK293)); have NB300_293 := AM (ng hg (bk BK293)); replace BK293 := bw BK293 hb; have NB295_300 := AM (nl hg (bk BK295)); have NB300_295 := AM (ng hg (bk BK295)); replace BK295 := bw BK295 hb; clear hb hbox hg; obtain ⟨Ao30, co30, eo30⟩ := Kd.R_slice HO298.out; subst eo30; have hnb31 := NB300_288.out; have hnc31 := NB288_300.out; have hnb32 := NB300_289.out; have hnc32 := NB289_300.out; have hnb33 := NB300_293.out; have hnc33 := NB293_300.out; have hnb34 := NB300_295.out; have hnc34 := NB295_300.out; have hcz35_0 := bv BK300 0 (.slice none 0 0); have hfz35_0 := bz BK300 0; have hcz36_0 := bv BK293 0 (.slice Ao27 x294000_1.length co27); have hfz36_0 := bz BK293 0))
      go_roundg k1
      case measure => have := HK1.out; omega
      case rel => exact ⟨(wrap64 (x15_1 + 1)), (t296), (.slice Ao30 t296.length co30), sf, H', ⟨by have := HK1.out; omega⟩, ⟨by exact Kd.R_mono (Kd.R_far (p := ⟨gb293, 0, none⟩) (Kd.R_far (p := ⟨gb300, 0, none⟩) (Kd.R_types (Kd.R_types HO298.out BK300.out (by decide)) BK293.out (by decide)) (fun _ hk => hk.1.2) (.slice Ao30 t296.length co30)) (fun _ hk => hk.2) (.slice Ao30 t296.length co30)) (fun _ hk => trivial)⟩, ⟨be⟩, ⟨be⟩, ⟨by (with_reducible repeat first | apply aN | apply aD | apply aA); refine blk_put (cs := #[.slice Ao27 x294000_1.length co27]) ?_ 0 _ rfl; (with_reducible repeat first | apply aN | apply aD | apply aA); refine blk_far ?_ NB293_300.out _; exact bk BK293⟩, ⟨hS⟩⟩
     replace c18 := Bool.eq_false_iff.mpr c18
     subst c18
     have H1 : (some (x294000_1, x15_1)) = some (r1, r2) := by rw [if_neg (show ¬ (false = true) by decide)] at H; exact H
     clear H
     have H := H1
     clear H1
     simp only [Option.some.injEq, Prod.mk.injEq] at H
     obtain ⟨rfl, rfl⟩ := H
     have p294 : 0 ≤ (x15_1 : Int) := od
     have q294 : x15_1 < (l1.length : Int) := od
     obtain ⟨ad294, e294, hx294_0, hx294_1, hx294_2, hx294_3⟩ := at_T41 HR1.out x15_1 p294 q294
     cases e294
     replace hx294_0 := cl HB hx294_0
     replace hx294_1 := cl HB hx294_1
     replace hx294_2 := cl HB hx294_2
     replace hx294_3 := cl HB hx294_3
     replace p294 := eq_true p294
     replace q294 := eq_true q294
     go_wp2_with (first | ((with_reducible refine gd 8 rfl ?_); refine bx (N := 8) (cs := #[.int .i64 0, .string (⟨#[]⟩ : ByteArray), .string (⟨#[]⟩ : ByteArray), .string (⟨#[]⟩ : ByteArray)]) (t := 41) ?_; intro gb295 hg w37 hbox hb; replace HO_294000 := AM (Kd.R_below (by exact HO_294000.out) hb); have BK295 := AM (hbox); have GW295 := AM (bt hg hS); have GE295 := AM (bt hg hS); replace HB := AM (below_step (hS) hb); have NB288_295 := AM (nl hg (bk BK288)); have NB295_288 := AM (ng hg (bk BK288)); replace BK288 := bw BK288 hb; have NB289_295 := AM (nl hg (bk BK289)); have NB295_289 := AM (ng hg (bk BK289)); replace BK289 := bw BK289 hb; have NB293_295 := AM (nl hg (bk BK293)); have NB295_293 := AM (ng hg (bk BK293)); replace BK293 := bw BK293 hb; clear hb hbox hg; have hnb38 := NB295_288.out; have hnc38 := NB288_295.out; have hnb39 := NB295_289.out; have hnc39 := NB289_295.out; have hnb40 := NB295_293.out; have hnc40 := NB293_295.out; have hcz41_0 := bv BK295 0 (.int .i64 0); have hcz41_1 := bv BK295 1 (.string (⟨#[]⟩ : ByteArray)); have hcz41_2 := bv BK295 2 (.string (⟨#[]⟩ : ByteArray)); have hcz41_3 := bv BK295 3 (.string (⟨#[]⟩ : ByteArray)); have hfz41_0 := bz BK295 0; have hfz41_1 := bz BK295 1; have hfz41_2 := bz BK295 2; have hfz41_3 := bz BK295 3; have hnb42 := NB293_288.out; have hnc42 := NB288_293.out; have hnb43 := NB293_289.out; have hnc43 := NB289_293.out; have hcz44_0 := bv BK293 0 (u294000); have hfz44_0 := bz BK293 0; obtain ⟨Ao45, co45, eo45⟩ := Kd.R_slice HO_294000.out; subst eo45) | ((with_reducible refine gc 19 rfl ?_); refine goesL_ (some 23) rfl rfl Try.func19 (by kernel_rfl) rfl #[.agg #[.slice Ao45 x294000_1.length co45], .agg #[.int .i64 ((rd_T41 l1 x15_1).f0), .string ((rd_T41 l1 x15_1).f1), .string ((rd_T41 l1 x15_1).f2), .string ((rd_T41 l1 x15_1).f3)]] rfl am ?_; (with_reducible refine (impl_DoAct.calls k1 _ _ x294000_1 ((rd_T41 l1 x15_1).f0) ((rd_T41 l1 x15_1).f1) ((rd_T41 l1 x15_1).f2) ((rd_T41 l1 x15_1).f3) t296 false _ ?side1 ?side2 A17.out).mono ?_); (case side1 => refine (Kd.R_reads' (e := 67) (base := w.heap.size) (ok := fun k_ => True) (n := x294000_1.length) (c := co45) ?_).2.2; exact (by exact (Kd.R_mono (Kd.R_far (p := ⟨gb295, 3, none⟩) (Kd.R_far (p := ⟨gb295, 2, none⟩) (Kd.R_far (p := ⟨gb295, 1, none⟩) (Kd.R_far (p := ⟨gb295, 0, none⟩) (Kd.R_types HO_294000.out BK295.out (by decide)) (fun _ hk => hk.2) (.int .i64 ((rd_T41 l1 x15_1).f0))) (fun _ hk => hk.2) (.string ((rd_T41 l1 x15_1).f1))) (fun _ hk => hk.2) (.string ((rd_T41 l1 x15_1).f2))) (fun _ hk => hk.2) (.string ((rd_T41 l1 x15_1).f3))) (fun _ h_ => h_.1)))); (case side2 => exact (Kd.R_reads' HO_294000.out).2.1); rintro e w46 ⟨v297, rfl, ho0, hb⟩; refine ⟨_, rfl, ?_⟩; have n0_ := AM (Kd.R_elder' (by exact (Kd.R_mono (Kd.R_far (p := ⟨gb295, 3, none⟩) (Kd.R_far (p := ⟨gb295, 2, none⟩) (Kd.R_far (p := ⟨gb295, 1, none⟩) (Kd.R_far (p := ⟨gb295, 0, none⟩) (Kd.R_types HO_294000.out BK295.out (by decide)) (fun _ hk => hk.2) (.int .i64 ((rd_T41 l1 x15_1).f0))) (fun _ hk => hk.2) (.string ((rd_T41 l1 x15_1).f1))) (fun _ hk => hk.2) (.string ((rd_T41 l1 x15_1).f2))) (fun _ hk => hk.2) (.string ((rd_T41 l1 x15_1).f3))) (fun _ h_ => h_.1))) (Kd.R_base ho0) hb); have n1_ := AM (Kd.R_lower (Kd.R_new' ho0 (Kd.R_lt (by exact (Kd.R_mono (Kd.R_far (p := ⟨gb295, 3, none⟩) (Kd.R_far (p := ⟨gb295, 2, none⟩) (Kd.R_far (p := ⟨gb295, 1, none⟩) (Kd.R_far (p := ⟨gb295, 0, none⟩) (Kd.R_types HO_294000.out BK295.out (by decide)) (fun _ hk => hk.2) (.int .i64 ((rd_T41 l1 x15_1).f0))) (fun _ hk => hk.2) (.string ((rd_T41 l1 x15_1).f1))) (fun _ hk => hk.2) (.string ((rd_T41 l1 x15_1).f2))) (fun _ hk => hk.2) (.string ((rd_T41 l1 x15_1).f3))) (fun _ h_ => h_.1))))) (below_size (hS))); have n2_ := AM (blk_below (g := gb288) (o := .cells #[.slice A0_0 l0_0.length c0_0] 30 (0, 0)) (be) hb); have n3_ := AM (blk_below (g := gb289) (o := .cells #[.slice none 0 0] 30 (0, 0)) (be) hb); have n4_ := AM (blk_below (g := gb293) (o := .cells #[.slice Ao45 x294000_1.length co45] 30 (0, 0)) (be) hb); have n5_ := AM (blk_below (g := gb295) (o := .cells #[.int .i64 ((rd_T41 l1 x15_1).f0), .string ((rd_T41 l1 x15_1).f1), .string ((rd_T41 l1 x15_1).f2), .string ((rd_T41 l1 x15_1).f3)] 41 (0, 0)) (by (with_reducible repeat first | apply aN | apply aD | apply aA); refine blk_put (cs := #[.int .i64 ((rd_T41 l1 x15_1).f0), .string ((rd_T41 l1 x15_1).f1), .string ((rd_T41 l1 x15_1).f2), .string (⟨#[]⟩ : ByteArray)]) ?_ 3 _ rfl; (with_reducible repeat first | apply aN | apply aD | apply aA); refine blk_put (cs := #[.int .i64 ((rd_T41 l1 x15_1).f0), .string ((rd_T41 l1 x15_1).f1), .string (⟨#[]⟩ : ByteArray), .string (⟨#[]⟩ : ByteArray)]) ?_ 2 _ rfl; (with_reducible repeat first | apply aN | apply aD | apply aA); refine blk_put (cs := #[.int .i64 ((rd_T41 l1 x15_1).f0), .string (⟨#[]⟩ : ByteArray), .string (⟨#[]⟩ : ByteArray), .string (⟨#[]⟩ : ByteArray)]) ?_ 1 _ rfl; (with_reducible repeat first | apply aN | apply aD | apply aA); refine blk_put (cs := #[.int .i64 0, .string (⟨#[]⟩ : ByteArray), .string (⟨#[]⟩ : ByteArray), .string (⟨#[]⟩ : ByteArray)]) ?_ 0 _ rfl; exact bk BK295) hb); have n6_ := AM (below_step (hS) hb); clear HO_294000; clear BK288; clear BK289; clear BK293; clear BK295; clear HB; have HO_294000 := n0_; have HO298 := n1_; have BK288 := n2_; have BK289 := n3_; have BK293 := n4_; have BK295 := n5_; have HB := n6_; clear n0_ n1_ n2_ n3_ n4_ n5_ n6_; (try clear hb); (try clear hk); (try clear ho0)) | ((with_reducible refine gd 9 rfl ?_); refine bx (N := 9) (cs := #[.slice none 0 0]) (t := 30) ?_; intro gb300 hg w47 hbox hb; replace HO_294000 := AM (Kd.R_below (by exact HO_294000.out) hb); replace HO298 := AM (Kd.R_below (by exact HO298.out) hb); have BK300 := AM (hbox); have GW300 := AM (bt hg hS); have GE300 := AM (bt hg hS); replace HB := AM (below_step (hS) hb); have NB288_300 := AM (nl hg (bk BK288)); have NB300_288 := AM (ng hg (bk BK288)); replace BK288 := bw BK288 hb; have NB289_300 := AM (nl hg (bk BK289)); have NB300_289 := AM (ng hg (bk BK289)); replace BK289 := bw BK289 hb; have NB293_300 := AM (nl hg (bk BK293)); have NB300_293 := AM (ng hg (bk BK293)); replace BK293 := bw BK293 hb; have NB295_300 := AM (nl hg (bk BK295)); have NB300_295 := AM (ng hg (bk BK295)); replace BK295 := bw BK295 hb; clear hb hbox hg; obtain ⟨Ao48, co48, eo48⟩ := Kd.R_slice HO298.out; subst eo48; have hnb49 := NB300_288.out; have hnc49 := NB288_300.out; have hnb50 := NB300_289.out; have hnc50 := NB289_300.out; have hnb51 := NB300_293.out; have hnc51 := NB293_300.out; have hnb52 := NB300_295.out; have hnc52 := NB295_300.out; have hcz53_0 := bv BK300 0 (.slice none 0 0); have hfz53_0 := bz BK300 0; have hcz54_0 := bv BK293 0 (.slice Ao45 x294000_1.length co45); have hfz54_0 := bz BK293 0; have hnb55 := NB289_288.out; have hnc55 := NB288_289.out; have hcz56_0 := bv BK289 0 (.slice none 0 0); have hfz56_0 := bz BK289 0))
     refine bodyPost_ret (results_ct rfl _ _ gb289 30 #[.slice Ao45 x294000_1.length co45] (0, 0) _ rfl (by (with_reducible repeat first | apply aN | apply aD | apply aA); refine blk_put (cs := #[.slice none 0 0]) ?_ 0 _ rfl; (with_reducible repeat first | apply aN | apply aD | apply aA); refine blk_far ?_ NB289_300.out _; exact bk BK289) Try.underlying30 rfl (by kernel_rfl)) rfl ?_
     exact ⟨_, er, by exact Kd.R_mono (Kd.R_far (p := ⟨gb289, 0, none⟩) (Kd.R_far (p := ⟨gb300, 0, none⟩) (Kd.R_types (Kd.R_types HO_294000.out BK300.out (by decide)) BK289.out (by decide)) (fun _ hk => hk.1.2) (.slice Ao48 t296.length co48)) (fun _ hk => hk.2) (.slice Ao45 x294000_1.length co45)) (fun _ hk => trivial), hS⟩
    rw [if_neg c16] at H
    exact absurd H (by simp)
   rw [if_neg c15] at H
   exact absurd H (by simp)
  rw [if_neg c14] at H
  have c14b0 : decide (x15_1 < (l1.length : Int)) = false := decide_eq_false c14
  clear c14
  simp only [Option.some.injEq, Prod.mk.injEq] at H
  obtain ⟨rfl, rfl⟩ := H
  have hnb57 := NB293_288.out
  have hnc57 := NB288_293.out
  have hnb58 := NB293_289.out
  have hnc58 := NB289_293.out
  have hcz59_0 := bv BK293 0 (u294000)
  have hfz59_0 := bz BK293 0
  obtain ⟨Ao60, co60, eo60⟩ := Kd.R_slice HO_294000.out
  subst eo60
  have hnb61 := NB289_288.out
  have hnc61 := NB288_289.out
  have hcz62_0 := bv BK289 0 (.slice none 0 0)
  have hfz62_0 := bz BK289 0
  go_wp2
  refine bodyPost_ret (results_ct rfl _ _ gb289 30 #[.slice Ao60 x294000_1.length co60] (0, 0) _ rfl (by (with_reducible repeat first | apply aN | apply aD | apply aA); refine blk_put (cs := #[.slice none 0 0]) ?_ 0 _ rfl; exact bk BK289) Try.underlying30 rfl (by kernel_rfl)) rfl ?_
  exact ⟨_, er, by exact Kd.R_mono (Kd.R_far (p := ⟨gb289, 0, none⟩) (Kd.R_types HO_294000.out BK289.out (by decide)) (fun _ hk => hk.2) (.slice Ao60 x294000_1.length co60)) (fun _ hk => trivial), hS⟩

/-! ### impl_LoseDisk: function 58 -/
theorem addr0 (g j : Nat) : (⟨g, 0, none⟩ : Addr).add j = ⟨g, j, none⟩ := by
  unfold Addr.add
  split
  · rename_i h; subst h; rfl
  rw [Nat.zero_add]
def impl_LoseDisk.n (l1 : List Int) (x : S67) (i : Int) : Int := mx x.f2 (mn (if i < (l1.length : Int) then rd l1 i else 0) (x.f1.size : Int))
def impl_LoseDisk.l0 : Nat → List Int → Nat → List S67 → Int → Option (List S67 × Bool)
  | 0, _, _, _, _ => none
  | k + 1, l1, m, x, i => if i < (m : Int) then (if 0 ≤ i ∧ 0 ≤ impl_LoseDisk.n l1 (rd_T67 x i) i ∧ impl_LoseDisk.n l1 (rd_T67 x i) i ≤ ((rd_T67 x i).f1.size : Int) then impl_LoseDisk.l0 k l1 m (x.set i.toNat ⟨(rd_T67 x i).f0, (rd_T67 x i).f1.extract 0 (impl_LoseDisk.n l1 (rd_T67 x i) i).toNat, impl_LoseDisk.n l1 (rd_T67 x i) i⟩) (wrap64 (i + 1)) else none) else some (x, true)
def impl_LoseDisk.f (k : Nat) (l0_0 : List S67) (l1 : List Int) : Option (List S67 × Bool) := (impl_DiskOk.f k l0_0).bind fun t => if t = true then ((impl_copyDisk.f l0_0).bind fun y => impl_LoseDisk.l0 k l1 y.length y 0) else some ([], false)
theorem impl_LoseDisk.mono_l : ∀ k l m x i, LeO (impl_LoseDisk.l0 k l m x i) (impl_LoseDisk.l0 (k + 1) l m x i)
  | 0 => fun _ _ _ _ r h => by simp [impl_LoseDisk.l0] at h
  | k + 1 => by
    have ih := impl_LoseDisk.mono_l k
    intro l m x i
    unfold impl_LoseDisk.l0
    refine LeO.ite ?_ (LeO.refl _)
    exact LeO.ite (ih _ _ _ _) (LeO.refl _)
theorem impl_LoseDisk.mono : ∀ a0 a1 k, LeO (impl_LoseDisk.f k a0 a1) (impl_LoseDisk.f (k + 1) a0 a1) := by
  intro a0 a1 k
  unfold impl_LoseDisk.f
  refine LeO.bind (impl_DiskOk.mono _ _) (fun _ => ?_)
  refine LeO.ite ?_ (LeO.refl _)
  exact LeO.bind (LeO.refl _) (fun _ => impl_LoseDisk.mono_l k _ _ _ _)
set_option maxHeartbeats 8000000 in
set_option maxRecDepth 100000 in
theorem impl_LoseDisk.calls (k : Nat) (A0_0 : Option Addr) (c0_0 : Nat) (l0_0 : List (S67)) (A1 : Option Addr) (c1 : Nat) (l1 : List Int) (r1 : List (S67)) (r2 : Bool) (w : World) (hr0_0 : Kd.C k67 w A0_0 l0_0.length l0_0) (hc0_0 : l0_0.length ≤ c0_0) (hr1 : Kd.C (Kd.int .i64) w A1 l1.length l1) (hc1 : l1.length ≤ c1) (h : impl_LoseDisk.f k l0_0 l1 = some (r1, r2)) :
    Calls Try.prog 58 #[.agg #[.slice A0_0 l0_0.length c0_0], .slice A1 l1.length c1] w fun e w' => ∃ v0_ : Value, e = .returned (.tuple #[.agg #[v0_], .bool r2]) ∧ Kd.R k67 67 w' w.heap.size (fun _ => True) v0_ r1 ∧ Below w.heap.size w w' := by
  have hu30 := Try.underlying30
  have hu67 := Try.underlying67
  have HR0 := AM hr0_0
  have HC0 := AM hc0_0
  have HR1 := AM hr1
  have HC1 := AM hc1
  clear hr0_0 hc0_0 hr1 hc1
  have HB := AM (Below.refl w.heap.size w)
  unfold impl_LoseDisk.f at h
  obtain ⟨t, e1, h⟩ := Option.bind_eq_some_iff.mp h
  have E1 := AM e1
  clear e1
  have hNB24 : True := trivial
  go_enter Try.func58, Try.ntmps58
  go_upto_if 12 with (first | ((with_reducible refine gd 2 rfl ?_); refine bx (N := 2) (cs := #[.slice A0_0 l0_0.length c0_0]) (t := 30) ?_; intro gb2 hg w2 hbox hb; have n0_ := bq HB hb; have n1_ := AM hbox; have n2_ := AM (bs hg HB); clear HB; have HB := n0_; have BK2 := n1_; have GE2 := n2_; have hcz2 := bv BK2 0 (.slice A0_0 l0_0.length c0_0); clear hb hbox hg n0_ n1_ n2_) | ((with_reducible refine gd 4 rfl ?_); refine bx (N := 4) (cs := #[.slice none 0 0]) (t := 30) ?_; intro gb4 hg w4 hbox hb; have n0_ := bq HB hb; have n1_ := AM hbox; have n2_ := AM (bs hg HB); have n3_ := AM (blk_below (g := gb2) (o := .cells #[.slice A0_0 l0_0.length c0_0] 30 (0, 0)) BK2.out hb); have n4_ := AM ((by rw [hg]; exact Nat.ne_of_lt (blk_lt BK2.out)) : gb2 ≠ gb4); clear HB BK2 hcz2; have HB := n0_; have BK4 := n1_; have GE4 := n2_; have BK2 := n3_; have NE := n4_; have hcz2 := bv BK2 0 (.slice A0_0 l0_0.length c0_0); clear hb hbox hg n0_ n1_ n2_ n3_ n4_) | ((with_reducible refine gc 42 rfl ?_); refine goesL_ (some 11) rfl rfl Try.func42 (by kernel_rfl) rfl #[.agg #[.slice A0_0 l0_0.length c0_0]] rfl am ?_; (with_reducible refine (impl_DiskOk.calls k A0_0 c0_0 l0_0 t _ (Kd.C_below HR0.out (hB HB)) HC0.out E1.out).mono ?_); rintro e w11 ⟨rfl, hb⟩; refine ⟨_, rfl, ?_⟩; replace HB := bq HB hb; replace BK2 := bw BK2 hb; replace BK4 := bw BK4 hb; clear hcz2 hb))
  cases t with
  | false =>
    rw [if_neg (by decide), Option.some.injEq, Prod.mk.injEq] at h
    obtain ⟨rfl, rfl⟩ := h
    have hcz4_0 := bv BK4 0 (.slice none 0 0)
    have hfz4_0 := bz BK4 0
    go_wp2
    refine bodyPost_ret (results_ct rfl _ _ gb4 30 #[.slice none 0 0] (0, 0) _ rfl (by (with_reducible repeat first | apply aN | apply aD | apply aA); refine blk_put (cs := #[.slice none 0 0]) ?_ 0 _ rfl; exact bk BK4) Try.underlying30 rfl (by kernel_rfl)) rfl ?_
    exact ⟨_, by first | rfl | (simp [errW_none, errW_some] <;> rfl), Kd.R_nil _ _ _ _ _, hS⟩
  | true =>
    rw [if_pos rfl] at h
    obtain ⟨y, e2, h⟩ := Option.bind_eq_some_iff.mp h
    have E2 := AM e2
    have HH := AM h
    clear e2 h
    have hcz2 := bv BK2 0 (.slice A0_0 l0_0.length c0_0)
    go_wp2_with (first | ((with_reducible refine gc 48 rfl ?_); refine goesL_ (some 15) rfl rfl Try.func48 (by kernel_rfl) rfl #[.agg #[.slice A0_0 l0_0.length c0_0]] rfl am ?_; (with_reducible refine (impl_copyDisk.calls A0_0 c0_0 l0_0 y _ (Kd.C_below HR0.out (hB HB)) HC0.out E2.out).mono ?_); rintro e w15 ⟨v0, rfl, ho, hb⟩; obtain ⟨Ao, co, rfl⟩ := Kd.R_slice ho; refine ⟨_, rfl, ?_⟩; replace BK2 := bw BK2 hb; replace BK4 := bw BK4 hb; have HO := AM (Kd.R_lower ho (below_size (hB HB))); replace HB := bq HB hb; clear hcz2 hb ho) | ((with_reducible refine gd 6 rfl ?_); refine bx (N := 6) (cs := #[.slice none 0 0]) (t := 30) ?_; intro gb6 hg w6 hbox hb; have n0_ := bq HB hb; have n1_ := AM hbox; have n2_ := AM (bs hg HB); have n3_ := bw BK2 hb; have n4_ := bw BK4 hb; have n5_ := AM ((by rw [hg]; exact Nat.ne_of_lt (blk_lt BK2.out)) : gb2 ≠ gb6); have n6_ := AM ((by rw [hg]; exact Nat.ne_of_lt (blk_lt BK4.out)) : gb4 ≠ gb6); have n7_ := AM (Kd.R_below HO.out hb); clear HB BK2 BK4 HO; have HB := n0_; have BK6 := n1_; have GE6 := n2_; have BK2 := n3_; have BK4 := n4_; have NE2 := n5_; have NE4 := n6_; have HO := n7_; have hcz6_0 := bv BK6 0 (.slice none 0 0); have hfz6_0 := bz BK6 0; clear hb hbox hg n0_ n1_ n2_ n3_ n4_ n5_ n6_ n7_))
    go_loopg [19] k (fun kq v19 w' => ∃ (x : List S67) (i : Int), v19 = .int .i64 i ∧ Aside0 (impl_LoseDisk.l0 kq l1 y.length x i = some (r1, r2)) ∧ Aside0 (kq ≤ k) ∧ Aside0 (Kd.R k67 67 w' w.heap.size (fun _ => True) (.slice Ao y.length co) x) ∧ Aside0 (w'.heap[gb4]? = some (.cells #[.slice none 0 0] 30 (0, 0))) ∧ Aside0 (w'.heap[gb6]? = some (.cells #[.slice Ao y.length co] 30 (0, 0))) ∧ Aside0 (Below w.heap.size w w'))
    case atStart => exact ⟨y, 0, sf, HH, ⟨Nat.le_refl _⟩, ⟨by (with_reducible repeat (first | apply Kd.R_alloc | apply Kd.R_drewN | apply Kd.R_drew)); exact Kd.R_mono (Kd.R_far (p := ⟨gb6, 0, none⟩) (Kd.R_types HO.out BK6.out (by decide)) (fun _ hk => hk.2) (.slice Ao y.length co)) (fun _ hk => trivial)⟩, ⟨by (with_reducible repeat first | apply aN | apply aD | apply aA); refine blk_far ?_ NE4.out _; exact bk BK4⟩, ⟨by (with_reducible repeat first | apply aN | apply aD | apply aA); refine blk_put (cs := #[.slice none 0 0]) ?_ 0 _ rfl; exact bk BK6⟩, ⟨hS⟩⟩
    obtain ⟨x, i, rfl, HA, HK1, HO, BK4, BK6, HB⟩ := hrel
    cases gk with
    | zero => exact absurd HA.out (by simp [impl_LoseDisk.l0])
    | succ k1 =>
      have H := HA.out
      clear HA
      simp only [impl_LoseDisk.l0] at H
      have HXY := AM (Kd.R_reads' HO.out).1
      by_cases c1 : i < (y.length : Int)
      · rw [if_pos c1] at H
        by_cases c2 : 0 ≤ i ∧ 0 ≤ impl_LoseDisk.n l1 (rd_T67 x i) i ∧ impl_LoseDisk.n l1 (rd_T67 x i) i ≤ ((rd_T67 x i).f1.size : Int)
        · rw [if_pos c2] at H
          have c1b0 : decide (i < (y.length : Int)) = true := decide_eq_true c1
          obtain ⟨gx, cx, eo, gbx, glx, clx, HGx⟩ := Kd.R_form HO.out (by have := HXY.out; omega)
          injection eo with ea en ec
          subst ea
          subst ec
          clear en
          have HH1 := AM H
          have GX := AM gbx
          have GL := AM glx
          clear H gbx glx
          obtain ⟨ad, e, hx0, hx1, hx2⟩ := at_T67 (Kd.R_reads' HO.out).2.2 i c2.1 (by have := HXY.out; omega)
          cases e
          rw [addr0] at hx0 hx1 hx2
          dsimp only at hx1 hx2
          have p1 := eq_true c2.1
          have q1 := eq_true c1
          have hcz6_0 := bv BK6 0 (.slice (some ⟨gx, 0, none⟩) y.length co)
          go_upto_if 27 with (first | ((with_reducible refine gd 8 rfl ?_); refine bx (N := 8) (cs := #[.string (⟨#[]⟩ : ByteArray), .string (⟨#[]⟩ : ByteArray), .int .i64 0]) (t := 67) ?_; intro gb8 hg w8 hbox hb; have n0_ := bq HB hb; have n1_ := AM hbox; have n2_ := AM (bs hg HB); have n3_ := bw BK4 hb; have n4_ := bw BK6 hb; have n5_ := AM ((by rw [hg]; exact Nat.ne_of_lt (blk_lt BK4.out)) : gb4 ≠ gb8); have n6_ := AM ((by rw [hg]; exact Nat.ne_of_lt (blk_lt BK6.out)) : gb6 ≠ gb8); have n7_ := AM (Kd.R_below (Kd.R_elderB HO.out gb8 (Nat.le_of_eq hg.symm)) hb); clear HB BK4 BK6 HO hcz6_0; have HB := n0_; have BK8 := n1_; have GE8 := n2_; have BK4 := n3_; have BK6 := n4_; have NE48 := n5_; have NE68 := n6_; have HO := n7_; have hcz8_0 := bv BK8 0 (.string (⟨#[]⟩ : ByteArray)); have hcz8_1 := bv BK8 1 (.string (⟨#[]⟩ : ByteArray)); have hcz8_2 := bv BK8 2 (.int .i64 0); have hfz8_0 := bz BK8 0; have hfz8_1 := bz BK8 1; have hfz8_2 := bz BK8 2; clear hb hbox hg n0_ n1_ n2_ n3_ n4_ n5_ n6_ n7_))
          (try simp only [Act.put, qT, q0, qS])
          have HX0 := AM hx0
          have HX1 := AM hx1
          have HX2 := AM hx2
          have C2 := AM c2
          clear c2
          go_cut [9] (fun v9 wc => ∃ (z : Int), v9 = .int .i64 z ∧ Aside0 (z = if i < (l1.length : Int) then rd l1 i else 0) ∧ Aside0 (Kd.R k67 67 wc w.heap.size (fun k_ => k_ ≠ gb8) (.slice (some ⟨gx, 0, none⟩) y.length co) x) ∧ Aside0 (wc.heap[gb4]? = some (.cells #[.slice none 0 0] 30 (0, 0))) ∧ Aside0 (wc.heap[gb6]? = some (.cells #[.slice (some ⟨gx, 0, none⟩) y.length co] 30 (0, 0))) ∧ Aside0 (wc.heap[gb8]? = some (.cells #[.string (rd_T67 x i).f0, .string (rd_T67 x i).f1, .int .i64 (rd_T67 x i).f2] 67 (0, 0))) ∧ Aside0 (Below w.heap.size w wc))
          case first =>
            by_cases c3 : i < (l1.length : Int)
            · have c3b0 : decide (i < (l1.length : Int)) = true := decide_eq_true c3
              obtain ⟨ad1, ee, hy0⟩ := Kd.at_int HR1.out i (of_eq_true p1) c3
              cases ee
              have q3 := eq_true c3
              have hn1 : ad1.block ≠ gb8 := Nat.ne_of_lt (Nat.lt_of_lt_of_le (by have := World.block_lt_of_cell? _ _ hy0; first | rwa [add_block] at this | exact this) GE8.out)
              replace hy0 := pw_cell_below HB.out hy0
              replace hy0 := (cell_far (p := ⟨gb8, 0, none⟩) (by first | (rw [add_block]; exact hn1) | (show (Addr.add _ _).block ≠ _; rw [add_block]; exact hn1) | exact hn1) (.string (rd_T67 x i).f0)).trans hy0
              replace hy0 := (cell_far (p := ⟨gb8, 1, none⟩) (by first | (rw [add_block]; exact hn1) | (show (Addr.add _ _).block ≠ _; rw [add_block]; exact hn1) | exact hn1) (.string (rd_T67 x i).f1)).trans hy0
              replace hy0 := (cell_far (p := ⟨gb8, 2, none⟩) (by first | (rw [add_block]; exact hn1) | (show (Addr.add _ _).block ≠ _; rw [add_block]; exact hn1) | exact hn1) (.int .i64 (rd_T67 x i).f2)).trans hy0
              have C3 := AM c3
              clear hn1 c3
              (first | rw [c3b0] | (simp only [i64_w, i32_w]; rw [c3b0]) | skip)
              go_wp2
              go_meet
              case rel => exact ⟨_, rfl, ⟨(if_pos (by have := C3.out; omega)).symm⟩, ⟨by (with_reducible repeat (first | apply Kd.R_alloc | apply Kd.R_drewN | apply Kd.R_drew)); exact Kd.R_mono (Kd.R_far (p := ⟨gb8, 2, none⟩) (Kd.R_far (p := ⟨gb8, 1, none⟩) (Kd.R_far (p := ⟨gb8, 0, none⟩) HO.out (fun _ hk => hk.2) (.string (rd_T67 x i).f0)) (fun _ hk => hk.2) (.string (rd_T67 x i).f1)) (fun _ hk => hk.2) (.int .i64 (rd_T67 x i).f2)) (fun _ hk => hk.2)⟩, ⟨by (with_reducible repeat first | apply aN | apply aD | apply aA); refine blk_far ?_ NE48.out _; refine blk_far ?_ NE48.out _; refine blk_far ?_ NE48.out _; exact BK4.out⟩, ⟨by (with_reducible repeat first | apply aN | apply aD | apply aA); refine blk_far ?_ NE68.out _; refine blk_far ?_ NE68.out _; refine blk_far ?_ NE68.out _; exact BK6.out⟩, ⟨by (with_reducible repeat first | apply aN | apply aD | apply aA); refine blk_put (cs := #[.string (rd_T67 x i).f0, .string (rd_T67 x i).f1, .int .i64 0]) ?_ 2 _ rfl; refine blk_put (cs := #[.string (rd_T67 x i).f0, .string (⟨#[]⟩ : ByteArray), .int .i64 0]) ?_ 1 _ rfl; refine blk_put (cs := #[.string (⟨#[]⟩ : ByteArray), .string (⟨#[]⟩ : ByteArray), .int .i64 0]) ?_ 0 _ rfl; exact BK8.out⟩, ⟨hS⟩⟩
            have c3b0 : decide (i < (l1.length : Int)) = false := decide_eq_false c3
            have C3 := AM c3
            clear c3
            (first | rw [c3b0] | (simp only [i64_w, i32_w]; rw [c3b0]) | skip)
            go_wp2
            go_meet
            case rel => exact ⟨_, rfl, ⟨(if_neg (by have := C3.out; omega)).symm⟩, ⟨by (with_reducible repeat (first | apply Kd.R_alloc | apply Kd.R_drewN | apply Kd.R_drew)); exact Kd.R_mono (Kd.R_far (p := ⟨gb8, 2, none⟩) (Kd.R_far (p := ⟨gb8, 1, none⟩) (Kd.R_far (p := ⟨gb8, 0, none⟩) HO.out (fun _ hk => hk.2) (.string (rd_T67 x i).f0)) (fun _ hk => hk.2) (.string (rd_T67 x i).f1)) (fun _ hk => hk.2) (.int .i64 (rd_T67 x i).f2)) (fun _ hk => hk.2)⟩, ⟨by (with_reducible repeat first | apply aN | apply aD | apply aA); refine blk_far ?_ NE48.out _; refine blk_far ?_ NE48.out _; refine blk_far ?_ NE48.out _; exact BK4.out⟩, ⟨by (with_reducible repeat first | apply aN | apply aD | apply aA); refine blk_far ?_ NE68.out _; refine blk_far ?_ NE68.out _; refine blk_far ?_ NE68.out _; exact BK6.out⟩, ⟨by (with_reducible repeat first | apply aN | apply aD | apply aA); refine blk_put (cs := #[.string (rd_T67 x i).f0, .string (rd_T67 x i).f1, .int .i64 0]) ?_ 2 _ rfl; refine blk_put (cs := #[.string (rd_T67 x i).f0, .string (⟨#[]⟩ : ByteArray), .int .i64 0]) ?_ 1 _ rfl; refine blk_put (cs := #[.string (⟨#[]⟩ : ByteArray), .string (⟨#[]⟩ : ByteArray), .int .i64 0]) ?_ 0 _ rfl; exact BK8.out⟩, ⟨hS⟩⟩
          case rest =>
            obtain ⟨z, rfl, HZ, HO, BK4, BK6, BK8, HB⟩ := hcut
            have hcz8_1 := bv BK8 1 (.string (rd_T67 x i).f1)
            have hcz8_2 := bv BK8 2 (.int .i64 (rd_T67 x i).f2)
            have hcz6_0 := bv BK6 0 (.slice (some ⟨gx, 0, none⟩) y.length co)
            have cN0 : 0 ≤ (if (rd_T67 x i).f2 < (if ((rd_T67 x i).f1.size : Int) < z then ((rd_T67 x i).f1.size : Int) else z) then (if ((rd_T67 x i).f1.size : Int) < z then ((rd_T67 x i).f1.size : Int) else z) else (rd_T67 x i).f2) := by have h_ := C2.out.2.1; unfold impl_LoseDisk.n at h_; rw [← HZ.out] at h_; exact h_
            have cN1 : (if (rd_T67 x i).f2 < (if ((rd_T67 x i).f1.size : Int) < z then ((rd_T67 x i).f1.size : Int) else z) then (if ((rd_T67 x i).f1.size : Int) < z then ((rd_T67 x i).f1.size : Int) else z) else (rd_T67 x i).f2) ≤ ((rd_T67 x i).f1.size : Int) := by have h_ := C2.out.2.2; unfold impl_LoseDisk.n at h_; rw [← HZ.out] at h_; exact h_
            go_upto_region 11 with (first | done)
            generalize hN : (if (rd_T67 x i).f2 < (if ((rd_T67 x i).f1.size : Int) < z then ((rd_T67 x i).f1.size : Int) else z) then (if ((rd_T67 x i).f1.size : Int) < z then ((rd_T67 x i).f1.size : Int) else z) else (rd_T67 x i).f2) = N at cN0 cN1 ⊢
            have HN := AM hN
            clear hN
            generalize (if ((rd_T67 x i).f1.size : Int) < z then ((rd_T67 x i).f1.size : Int) else z) = M_
            replace cN0 := eq_true cN0
            replace cN1 := eq_true cN1
            replace HO := AM (Kd.R_drew HO.out)
            replace BK4 := AM (blk_drew BK4.out)
            replace BK6 := AM (blk_drew BK6.out)
            replace BK8 := AM (blk_drew BK8.out)
            replace HB := AM (below_drew1 HB.out)
            clear hcz8_1 hcz8_2 hcz6_0
            refine start_ (n := 17) (S := fun w' => w'.cell? ⟨gb6, 0, none⟩ = some (.slice (some ⟨gx, 0, none⟩) y.length co) ∧ w'.cell? ⟨gb8, 1, none⟩ = some (.string (rd_T67 x i).f1)) (ds := [16]) #[false, false, false, false, false, false, false, false, false, false, false, false, false, false, false, false, false] (by kernel_rfl) rfl rfl ⟨bc BK6 0, bc BK8 1⟩ (fun hHeld => ?_)
            generalize wc.drew = wd at HO BK4 BK6 BK8 HB hHeld ⊢
            obtain ⟨gx2, cx2, eo2, gbx2, glx2, clx2, HGX⟩ := Kd.R_form HO.out (by have := HXY.out; have := of_eq_true p1; have := of_eq_true q1; omega)
            injection eo2 with ea2 en2 ec2
            injection ea2 with ea2
            injection ea2 with ea2
            subst ea2
            clear en2 ec2 gbx2 glx2
            obtain ⟨ad2, e2, hx0, hx1, hx2⟩ := at_T67 (Kd.R_reads' HO.out).2.2 i (of_eq_true p1) (by have := HXY.out; have := of_eq_true p1; have := of_eq_true q1; omega)
            cases e2
            rw [addr0] at hx0 hx1 hx2
            dsimp only at hx1 hx2
            have hfx1 := blk_frozen HGX (i.toNat * 3 + 1)
            have hfx2 := blk_frozen HGX (i.toNat * 3 + 2)
            have N6 : gb6 ≠ gx := blk_ne BK6.out HGX (by decide)
            have N8 : gb8 ≠ gx := fun e_ => (HO.out.1 _ rfl) e_.symm
            refine pure_ (i := 0) (N := some 40) (v := ?_) (a' := ?_) #[true, false, false, false, false, false, false, false, false, false, false, false, false, false, false, false, false] rfl rfl (by kernel_rfl) (fun _ _ _ h => h) (Or.inl ⟨by rfl, ?_⟩) ?_ ?_
            rotate_left
            · intro w'
              go_simp
              with_reducible rfl
            rotate_left
            · simp only [Act.put, qT, q0, qS, i64_w, i32_w]
              rfl
            refine pure_ (i := 2) (N := some 42) (v := ?_) (a' := ?_) #[true, false, true, false, false, false, false, false, false, false, false, false, false, false, false, false, false] rfl rfl (by kernel_rfl) (fun _ _ _ h => h) (Or.inl ⟨by rfl, ?_⟩) ?_ ?_
            rotate_left
            · intro w'
              go_simp
              with_reducible rfl
            rotate_left
            · simp only [Act.put, qT, q0, qS, i64_w, i32_w]
              rfl
            refine pure_ (i := 3) (N := some 43) (v := ?_) (a' := ?_) #[true, false, true, true, false, false, false, false, false, false, false, false, false, false, false, false, false] rfl rfl (by kernel_rfl) (fun _ _ _ h => h) (Or.inl ⟨by rfl, ?_⟩) ?_ ?_
            rotate_left
            · intro w'
              go_simp
              with_reducible rfl
            rotate_left
            · simp only [Act.put, qT, q0, qS, i64_w, i32_w]
              rfl
            refine pure_ (i := 5) (N := some 45) (v := ?_) (a' := ?_) #[true, false, true, true, false, true, false, false, false, false, false, false, false, false, false, false, false] rfl rfl (by kernel_rfl) (fun _ _ _ h => h) (Or.inl ⟨by rfl, ?_⟩) ?_ ?_
            rotate_left
            · intro w'
              go_simp
              with_reducible rfl
            rotate_left
            · simp only [Act.put, qT, q0, qS, i64_w, i32_w]
              rfl
            refine pure_ (i := 6) (N := some 46) (v := ?_) (a' := ?_) #[true, false, true, true, false, true, true, false, false, false, false, false, false, false, false, false, false] rfl rfl (by kernel_rfl) (fun _ _ _ h => h) (Or.inl ⟨by rfl, ?_⟩) ?_ ?_
            rotate_left
            · intro w'
              go_simp
              with_reducible rfl
            rotate_left
            · simp only [Act.put, qT, q0, qS, i64_w, i32_w]
              rfl
            refine pure_ (i := 8) (N := some 48) (v := ?_) (a' := ?_) #[true, false, true, true, false, true, true, false, true, false, false, false, false, false, false, false, false] rfl rfl (by kernel_rfl) (fun _ _ _ h => h) (Or.inl ⟨by rfl, ?_⟩) ?_ ?_
            rotate_left
            · intro w'
              go_simp
              with_reducible rfl
            rotate_left
            · simp only [Act.put, qT, q0, qS, i64_w, i32_w]
              rfl
            refine pure_ (i := 10) (N := some 50) (v := ?_) (a' := ?_) #[true, false, true, true, false, true, true, false, true, false, true, false, false, false, false, false, false] rfl rfl (by kernel_rfl) (fun _ _ _ h => h) (Or.inl ⟨by rfl, ?_⟩) ?_ ?_
            rotate_left
            · intro w'
              go_simp
              with_reducible rfl
            rotate_left
            · simp only [Act.put, qT, q0, qS, i64_w, i32_w]
              rfl
            refine take_ (i := 1) (N := some 41) (v := ?_) (a' := ?_) #[true, true, true, true, false, true, true, false, true, false, true, false, false, false, false, false, false] rfl rfl (by kernel_rfl) (fun _ _ _ h => h) (Or.inl ⟨by rfl, ?_⟩) hHeld ?_ ?_
            rotate_left
            · rintro w' ⟨s0, s1⟩
              go_simp
              with_reducible rfl
            rotate_left
            · simp only [Act.put, qT, q0, qS, i64_w, i32_w]
              rfl
            refine take_ (i := 4) (N := some 44) (v := ?_) (a' := ?_) #[true, true, true, true, true, true, true, false, true, false, true, false, false, false, false, false, false] rfl rfl (by kernel_rfl) (fun _ _ _ h => h) (Or.inl ⟨by rfl, ?_⟩) hHeld ?_ ?_
            rotate_left
            · rintro w' ⟨s0, s1⟩
              go_simp
              with_reducible rfl
            rotate_left
            · simp only [Act.put, qT, q0, qS, i64_w, i32_w]
              rfl
            refine take_ (i := 7) (N := some 47) (v := ?_) (a' := ?_) #[true, true, true, true, true, true, true, true, true, false, true, false, false, false, false, false, false] rfl rfl (by kernel_rfl) (fun _ _ _ h => h) (Or.inl ⟨by rfl, ?_⟩) hHeld ?_ ?_
            rotate_left
            · rintro w' ⟨s0, s1⟩
              go_simp
              with_reducible rfl
            rotate_left
            · simp only [Act.put, qT, q0, qS, i64_w, i32_w]
              rfl
            refine pure_ (i := 9) (N := some 49) (v := ?_) (a' := ?_) #[true, true, true, true, true, true, true, true, true, true, true, false, false, false, false, false, false] rfl rfl (by kernel_rfl) (fun _ _ _ h => h) (Or.inl ⟨by rfl, ?_⟩) ?_ ?_
            rotate_left
            · intro w'
              go_simp
              with_reducible rfl
            rotate_left
            · simp only [Act.put, qT, q0, qS, i64_w, i32_w]
              rfl
            refine pure_ (i := 11) (N := some 51) (v := ?_) (a' := ?_) #[true, true, true, true, true, true, true, true, true, true, true, true, false, false, false, false, false] rfl rfl (by kernel_rfl) (fun _ _ _ h => h) (Or.inl ⟨by rfl, ?_⟩) ?_ ?_
            rotate_left
            · intro w'
              go_simp
              with_reducible rfl
            rotate_left
            · simp only [Act.put, qT, q0, qS, i64_w, i32_w]
              rfl
            refine pure_ (i := 12) (N := some 52) (v := ?_) (a' := ?_) #[true, true, true, true, true, true, true, true, true, true, true, true, true, false, false, false, false] rfl rfl (by kernel_rfl) (fun _ _ _ h => h) (Or.inl ⟨by rfl, ?_⟩) ?_ ?_
            rotate_left
            · intro w'
              go_simp
              with_reducible rfl
            rotate_left
            · simp only [Act.put, qT, q0, qS, i64_w, i32_w]
              rfl
            refine one_ (i := 13) (N := none) #[true, true, true, true, true, true, true, true, true, true, true, true, true, true, false, false, false] rfl rfl (by kernel_rfl) (by decide) (fun K hK => ?_)
            refine skip_ (w1 := ?_) (by rfl) rfl ?_ ?_
            rotate_left
            · go_simp
              rfl
            refine hK.out _ _ ⟨((cell_far (p := ⟨gx, i.toNat * 3 + 1, none⟩) (show gb6 ≠ gx from N6) _).trans hHeld.1), ((cell_far (p := ⟨gx, i.toNat * 3 + 1, none⟩) (show gb8 ≠ gx from N8) _).trans hHeld.2)⟩ (fun hHeld => ?_)
            clear hK K
            refine pure_ (i := 14) (N := some 53) (v := ?_) (a' := ?_) #[true, true, true, true, true, true, true, true, true, true, true, true, true, true, true, false, false] rfl rfl (by kernel_rfl) (fun _ _ _ h => h) (Or.inl ⟨by rfl, ?_⟩) ?_ ?_
            rotate_left
            · intro w'
              go_simp
              with_reducible rfl
            rotate_left
            · simp only [Act.put, qT, q0, qS, i64_w, i32_w]
              rfl
            refine pure_ (i := 15) (N := some 54) (v := ?_) (a' := ?_) #[true, true, true, true, true, true, true, true, true, true, true, true, true, true, true, true, false] rfl rfl (by kernel_rfl) (fun _ _ _ h => h) (Or.inl ⟨by rfl, ?_⟩) ?_ ?_
            rotate_left
            · intro w'
              go_simp
              with_reducible rfl
            rotate_left
            · simp only [Act.put, qT, q0, qS, i64_w, i32_w]
              rfl
            refine last_ (i := 16) (N := none) #[true, true, true, true, true, true, true, true, true, true, true, true, true, true, true, true, true] rfl rfl (by kernel_rfl) (by decide) (fun K hK => ?_)
            refine skip_ (w1 := ?_) (by rfl) rfl ?_ ?_
            rotate_left
            · go_simp
              rfl
            refine hK.out _ _ ?_
            clear hK K
            refine done_ (by kernel_rfl) ?_
            have N4 : gb4 ≠ gx := blk_ne BK4.out HGX (by decide)
            have EN : impl_LoseDisk.n l1 (rd_T67 x i) i = N := by unfold impl_LoseDisk.n; rw [← HZ.out]; exact HN.out
            have H' := HH1.out
            rw [EN] at H'
            have SEG := AM (Kd.R_mono (ok' := fun _ => True) (Kd.R_seg HO.out i (of_eq_true p1) (of_eq_true q1) (c := [.string (rd_T67 x i).f0, .string (rd_T67 x i).f1, .int .i64 (rd_T67 x i).f2]) (seg := [.string ((rd_T67 x i).f1.extract 0 N.toNat), .int .i64 N]) (j := 1) rfl (by
              intro j u hj
              rcases j with _ | _ | _ | j
              · simp at hj; subst hj; exact hx0
              · simp at hj; subst hj; exact hx1
              · simp at hj; subst hj; exact hx2
              simp at hj) (show 1 + 2 ≤ 3 by decide) (x' := ⟨(rd_T67 x i).f0, (rd_T67 x i).f1.extract 0 N.toNat, N⟩) (okp := fun k_ => k_ ≠ gb8 ∧ k_ ≠ gx) (k67_mkM wd _ _ ⟨(rd_T67 x i).f0, (rd_T67 x i).f1.extract 0 N.toNat, N⟩) (fun _ hk => hk)).1 (fun _ _ => trivial))
            have HL := AM H'
            clear H'
            (try simp only [Exit.inBlock, Exit.then])
            go_wp2
            go_roundg k1
            case measure => have := HK1.out; omega
            case rel => exact ⟨_, (wrap64 (i + 1)), sf, HL, ⟨by have := HK1.out; omega⟩, ⟨by (with_reducible repeat (first | apply Kd.R_alloc | apply Kd.R_drewN | apply Kd.R_drew)); exact SEG.out⟩, ⟨by (with_reducible repeat first | apply aN | apply aD | apply aA); refine blk_far ?_ N4 _; refine blk_far ?_ N4 _; exact BK4.out⟩, ⟨by (with_reducible repeat first | apply aN | apply aD | apply aA); refine blk_far ?_ N6 _; refine blk_far ?_ N6 _; exact BK6.out⟩, ⟨by repeat (first | (with_reducible first | exact HB.out | apply bA | apply bN | apply bD | refine below_set ?_ GX.out) | exact HB.out)⟩⟩
        rw [if_neg c2] at H
        exact absurd H (by simp)
      rw [if_neg c1] at H
      have c1b0 : decide (i < (y.length : Int)) = false := decide_eq_false c1
      simp only [Option.some.injEq, Prod.mk.injEq] at H
      obtain ⟨rfl, rfl⟩ := H
      have hcz6_0 := bv BK6 0 (.slice Ao y.length co)
      have hcz4_0 := bv BK4 0 (.slice none 0 0)
      have hfz4_0 := bz BK4 0
      go_wp2
      refine bodyPost_ret (results_ct rfl _ _ gb4 30 #[.slice Ao y.length co] (0, 0) _ rfl (by (with_reducible repeat first | apply aN | apply aD | apply aA); refine blk_put (cs := #[.slice none 0 0]) ?_ 0 _ rfl; exact bk BK4) Try.underlying30 rfl (by kernel_rfl)) rfl ?_
      exact ⟨_, by first | rfl | (simp [errW_none, errW_some] <;> rfl), by (with_reducible repeat (first | apply Kd.R_alloc | apply Kd.R_drewN | apply Kd.R_drew)); exact Kd.R_mono (Kd.R_far (p := ⟨gb4, 0, none⟩) (Kd.R_types HO.out BK4.out (by decide)) (fun _ hk => hk.2) (.slice Ao y.length co)) (fun _ hk => trivial), hS⟩



end Go.Proofs.Ytnkldnkolcighaa.XFnExactCutActs
