/- What the functions of a law compute, and that their calls compute it: written by a program of this session (xprint.py), which turns the kit print at a few places. -/
import Derived.Test.YtnkldnkolcighaaXFnActsx0
import Derived.Test.YtnkldnkolcighaaXFnActsx2
import Derived.Test.YtnkldnkolcighaaXFnActsx3
namespace Go.Proofs.Ytnkldnkolcighaa.XFnActs
open Go.RowKit Go.Proofs.YtnkldnkolcighaaQ.PrintWords Go.Proofs.YtnkldnkolcighaaQ.PrintLast Go.Proofs.YtnkldnkolcighaaQ.PrintMore
attribute [local go_sem] max2_int min2_int max_two min_two max_three min_three max_four min_four str_geq str_gtr   -- for this text's walks alone
set_option linter.unusedVariables false
set_option linter.unusedSimpArgs false

/-! ### impl_DoAct: function 19 -/
-- impl_DiskOk impl_fileAt
theorem act_t0 {p : Prop} (h : p := by
  cases u with
  | false =>
    go_wp2_with (first | ((with_reducible refine gate_ (.store 30 (.tmp 4) (.tmp 126)) rfl ?_); refine blk_store_event rfl rfl 30 (.tmp 4) (.tmp 126) rfl gb4 0 (by rfl) (.agg #[.slice none 0 0]) (by rfl) #[.slice none 0 0] 30 BK4.out [.slice none 0 0] rfl (by kernel_rfl) (show 0 + 1 ≤ 1 by decide) (by intro q hq; simp at hq; first | (subst hq; rfl) | (rcases hq with rfl | rfl | rfl <;> rfl)) #[.slice none 0 0] rfl ?_; intro w126 hbox hg; clear hcz7_0; replace HB := AM (HB.out.grown hg (below_size (hB HB)) (fun k hk => by injection hk with hk; have := GE4.out; omega)); replace BK7 := AM (blk_grown BK7.out hg (fun e => (Ne.symm NE4_7.out) (Option.some.inj e))); replace HO := AM (Kd.R_mono (Kd.R_grown (Kd.R_types HO.out BK4.out (by decide)) hg (fun k hk e => hk.2 (Option.some.inj e))) (fun _ hk => hk.1)); replace BK4 := AM (hbox); clear hg hbox; have hcz7_0 := bv BK7 0 (.slice A7 Y.length c7)))
    refine bodyPost_ret (results_ct rfl _ _ gb4 30 #[.slice none 0 0] (0, 0) _ rfl BK4.out Try.underlying30 rfl (by kernel_rfl)) rfl ?_
    exact ⟨_, rfl, Kd.R_nil _ _ _ _ _, HB.out⟩
  | true =>
    go_wp2_with (first | ((with_reducible refine gate_ (.store 30 (.tmp 4) (.tmp 127)) rfl ?_); refine blk_store_event rfl rfl 30 (.tmp 4) (.tmp 127) rfl gb4 0 (by rfl) (.agg #[.slice A7 Y.length c7]) (by rfl) #[.slice none 0 0] 30 BK4.out [.slice A7 Y.length c7] rfl (by kernel_rfl) (show 0 + 1 ≤ 1 by decide) (by intro q hq; simp at hq; first | (subst hq; rfl) | (rcases hq with rfl | rfl | rfl <;> rfl)) #[.slice A7 Y.length c7] rfl ?_; intro w127 hbox hg; clear hcz7_0; replace HB := AM (HB.out.grown hg (below_size (hB HB)) (fun k hk => by injection hk with hk; have := GE4.out; omega)); replace BK7 := AM (blk_grown BK7.out hg (fun e => (Ne.symm NE4_7.out) (Option.some.inj e))); replace HO := AM (Kd.R_mono (Kd.R_grown (Kd.R_types HO.out BK4.out (by decide)) hg (fun k hk e => hk.2 (Option.some.inj e))) (fun _ hk => hk.1)); replace BK4 := AM (hbox); clear hg hbox; have hcz7_0 := bv BK7 0 (.slice A7 Y.length c7)))
    refine bodyPost_ret (results_ct rfl _ _ gb4 30 #[.slice A7 Y.length c7] (0, 0) _ rfl BK4.out Try.underlying30 rfl (by kernel_rfl)) rfl ?_
    exact ⟨_, rfl, Kd.R_mono HO.out (fun _ _ => trivial), HB.out⟩) : p := h
theorem act_t1 {p : Prop} (h : p := by
  go_enter Try.func19, Try.ntmps19
  go_wp2_with (first | ((with_reducible refine gd 2 rfl ?_); refine bx (N := 2) (cs := #[.slice (some ad) l.length c0_0]) (t := 30) ?_; intro gb2 hg w2 hbox hb; have BK2 := AM (hbox); have GE2 := AM (bs hg HB); replace HB := bq HB hb; clear hb hbox hg; have hcz2_0 := bv BK2 0 (.slice (some ad) l.length c0_0); have hxx0 := cl HB HX0.out; have hxx1 := cl HB HX1.out; have hxx2 := cl HB HX2.out) | ((with_reducible refine gd 3 rfl ?_); refine bx (N := 3) (cs := #[.int .i64 (3), .string nm, .string tx, .string nw]) (t := 41) ?_; intro gb3 hg w3 hbox hb; clear hcz2_0 hxx0 hxx1 hxx2; replace BK2 := bw BK2 hb; have BK3 := AM (hbox); have GE3 := AM (bs hg HB); replace HB := bq HB hb; clear hb hbox hg; have hcz2_0 := bv BK2 0 (.slice (some ad) l.length c0_0); have hcz3_0 := bv BK3 0 (.int .i64 (3)); have hcz3_1 := bv BK3 1 (.string nm); have hcz3_2 := bv BK3 2 (.string tx); have hcz3_3 := bv BK3 3 (.string nw); have hxx0 := cl HB HX0.out; have hxx1 := cl HB HX1.out; have hxx2 := cl HB HX2.out) | ((with_reducible refine gd 4 rfl ?_); refine bx (N := 4) (cs := #[.slice none 0 0]) (t := 30) ?_; intro gb4 hg w4 hbox hb; clear hcz2_0 hcz3_0 hcz3_1 hcz3_2 hcz3_3 hxx0 hxx1 hxx2; replace BK3 := bw BK3 hb; have BK4 := AM (hbox); have GE4 := AM (bs hg HB); replace HB := bq HB hb; have NE2_4 := AM ((by rw [hg]; exact Nat.ne_of_lt (blk_lt BK2.out) : gb2 ≠ gb4)); replace BK2 := bw BK2 hb; clear hb hbox hg; have hcz2_0 := bv BK2 0 (.slice (some ad) l.length c0_0); have hcz3_0 := bv BK3 0 (.int .i64 (3)); have hcz3_1 := bv BK3 1 (.string nm); have hcz3_2 := bv BK3 2 (.string tx); have hcz3_3 := bv BK3 3 (.string nw); have hxx0 := cl HB HX0.out; have hxx1 := cl HB HX1.out; have hxx2 := cl HB HX2.out) | ((with_reducible refine gc 39 rfl ?_); refine gl 13 Try.func39 #[.agg #[.slice (some ad) l.length c0_0], .string nm] ?_; (with_reducible refine (impl_fileAt.calls _ _ l nm _ _ (Kd.C_below HR.out HB.out) HCC.out HK.out).mono ?_); rintro e w13 ⟨rfl, hb⟩; refine ⟨_, rfl, ?_⟩; clear hcz2_0 hcz3_0 hcz3_1 hcz3_2 hcz3_3 hxx0 hxx1 hxx2; replace HB := bq HB hb; replace BK2 := bw BK2 hb; replace BK3 := bw BK3 hb; replace BK4 := bw BK4 hb; clear hb; have hcz2_0 := bv BK2 0 (.slice (some ad) l.length c0_0); have hcz3_0 := bv BK3 0 (.int .i64 (3)); have hcz3_1 := bv BK3 1 (.string nm); have hcz3_2 := bv BK3 2 (.string tx); have hcz3_3 := bv BK3 3 (.string nw); have hxx0 := cl HB HX0.out; have hxx1 := cl HB HX1.out; have hxx2 := cl HB HX2.out) | ((with_reducible refine gc 42 rfl ?_); refine gl 15 Try.func42 #[.agg #[.slice (some ad) l.length c0_0]] ?_; (with_reducible refine (impl_DiskOk.calls k _ _ l _ _ (Kd.C_below HR.out HB.out) HCC.out HOK.out).mono ?_); rintro e w15 ⟨rfl, hb⟩; refine ⟨_, rfl, ?_⟩; clear hcz2_0 hcz3_0 hcz3_1 hcz3_2 hcz3_3 hxx0 hxx1 hxx2; replace HB := bq HB hb; replace BK2 := bw BK2 hb; replace BK3 := bw BK3 hb; replace BK4 := bw BK4 hb; clear hb; have hcz2_0 := bv BK2 0 (.slice (some ad) l.length c0_0); have hcz3_0 := bv BK3 0 (.int .i64 (3)); have hcz3_1 := bv BK3 1 (.string nm); have hcz3_2 := bv BK3 2 (.string tx); have hcz3_3 := bv BK3 3 (.string nw); have hxx0 := cl HB HX0.out; have hxx1 := cl HB HX1.out; have hxx2 := cl HB HX2.out) | ((with_reducible refine gc 48 rfl ?_); refine gl 43 Try.func48 #[.agg #[.slice (some ad) l.length c0_0]] ?_; (with_reducible refine (impl_copyDisk.calls _ _ l l _ (Kd.C_below HR.out HB.out) HCC.out HCP.out).mono ?_); rintro e w43 ⟨v0, rfl, ho, hb⟩; refine ⟨_, rfl, ?_⟩; clear hcz2_0 hcz3_0 hcz3_1 hcz3_2 hcz3_3 hxx0 hxx1 hxx2; obtain ⟨Ao, co, rfl⟩ := Kd.R_slice ho; replace BK2 := bw BK2 hb; replace BK3 := bw BK3 hb; replace BK4 := bw BK4 hb; have HO := AM (Kd.R_lower ho (below_size (hB HB))); replace HB := bq HB hb; clear hb ho; have hcz2_0 := bv BK2 0 (.slice (some ad) l.length c0_0); have hcz3_0 := bv BK3 0 (.int .i64 (3)); have hcz3_1 := bv BK3 1 (.string nm); have hcz3_2 := bv BK3 2 (.string tx); have hcz3_3 := bv BK3 3 (.string nw); have hxx0 := cl HB HX0.out; have hxx1 := cl HB HX1.out; have hxx2 := cl HB HX2.out) | ((with_reducible refine gd 7 rfl ?_); refine bx (N := 7) (cs := #[.slice none 0 0]) (t := 30) ?_; intro gb7 hg w7 hbox hb; clear hcz2_0 hcz3_0 hcz3_1 hcz3_2 hcz3_3 hxx0 hxx1 hxx2; replace BK3 := bw BK3 hb; replace HO := AM (Kd.R_below HO.out hb); have BK7 := AM (hbox); have GE7 := AM (bs hg HB); replace HB := bq HB hb; have NE2_7 := AM ((by rw [hg]; exact Nat.ne_of_lt (blk_lt BK2.out) : gb2 ≠ gb7)); replace BK2 := bw BK2 hb; have NE4_7 := AM ((by rw [hg]; exact Nat.ne_of_lt (blk_lt BK4.out) : gb4 ≠ gb7)); replace BK4 := bw BK4 hb; clear hb hbox hg; have hcz2_0 := bv BK2 0 (.slice (some ad) l.length c0_0); have hcz3_0 := bv BK3 0 (.int .i64 (3)); have hcz3_1 := bv BK3 1 (.string nm); have hcz3_2 := bv BK3 2 (.string tx); have hcz3_3 := bv BK3 3 (.string nw); have hcz7_0 := bv BK7 0 (.slice none 0 0); have hxx0 := cl HB HX0.out; have hxx1 := cl HB HX1.out; have hxx2 := cl HB HX2.out) | ((with_reducible refine gate_ (.store 30 (.tmp 7) (.tmp 43)) rfl ?_); refine blk_store_event rfl rfl 30 (.tmp 7) (.tmp 43) rfl gb7 0 (by rfl) (.agg #[.slice Ao l.length co]) (by rfl) #[.slice none 0 0] 30 BK7.out [.slice Ao l.length co] rfl (by kernel_rfl) (show 0 + 1 ≤ 1 by decide) (by intro q hq; simp at hq; first | (subst hq; rfl) | (rcases hq with rfl | rfl | rfl <;> rfl)) #[.slice Ao l.length co] rfl ?_; intro w7a hbox hg; clear hcz2_0 hcz3_0 hcz3_1 hcz3_2 hcz3_3 hcz7_0 hxx0 hxx1 hxx2; replace HB := AM (HB.out.grown hg (below_size (hB HB)) (fun k hk => by injection hk with hk; have := GE7.out; omega)); replace BK2 := AM (blk_grown BK2.out hg (fun e => NE2_7.out (Option.some.inj e))); replace BK3 := AM (blk_grown BK3.out hg (fun e => (blk_ne BK3.out BK7.out (by decide)) (Option.some.inj e))); replace BK4 := AM (blk_grown BK4.out hg (fun e => NE4_7.out (Option.some.inj e))); replace HO := AM (Kd.R_mono (Kd.R_grown (Kd.R_types HO.out BK7.out (by decide)) hg (fun k hk e => hk.2 (Option.some.inj e))) (fun _ hk => hk.1)); replace BK7 := AM (hbox); clear hg hbox; have hcz2_0 := bv BK2 0 (.slice (some ad) l.length c0_0); have hcz3_0 := bv BK3 0 (.int .i64 (3)); have hcz3_1 := bv BK3 1 (.string nm); have hcz3_2 := bv BK3 2 (.string tx); have hcz3_3 := bv BK3 3 (.string nw); have hcz7_0 := bv BK7 0 (.slice Ao l.length co); have hxx0 := cl HB HX0.out; have hxx1 := cl HB HX1.out; have hxx2 := cl HB HX2.out) | ((with_reducible refine gd 9 rfl ?_); refine bx (N := 9) (cs := #[.string (⟨#[]⟩ : ByteArray), .string (⟨#[]⟩ : ByteArray), .int .i64 0]) (t := 67) ?_; intro gb9 hg w9 hbox hb; clear hcz2_0 hcz3_0 hcz3_1 hcz3_2 hcz3_3 hcz7_0 hxx0 hxx1 hxx2; replace BK2 := bw BK2 hb; replace BK3 := bw BK3 hb; replace BK4 := bw BK4 hb; replace BK7 := bw BK7 hb; replace HO := AM (Kd.R_below (Kd.R_elderB HO.out gb9 (Nat.le_of_eq hg.symm)) hb); have BK9 := AM (hbox); have GE9 := AM (bs hg HB); replace HB := bq HB hb; clear hb hbox hg; have hcz2_0 := bv BK2 0 (.slice (some ad) l.length c0_0); have hcz3_0 := bv BK3 0 (.int .i64 (3)); have hcz3_1 := bv BK3 1 (.string nm); have hcz3_2 := bv BK3 2 (.string tx); have hcz3_3 := bv BK3 3 (.string nw); have hcz7_0 := bv BK7 0 (.slice Ao l.length co); have hcz9_0 := bv BK9 0 (.string (⟨#[]⟩ : ByteArray)); have hcz9_1 := bv BK9 1 (.string (⟨#[]⟩ : ByteArray)); have hcz9_2 := bv BK9 2 (.int .i64 0); have hxx0 := cl HB HX0.out; have hxx1 := cl HB HX1.out; have hxx2 := cl HB HX2.out) | ((with_reducible refine gate_ (.store 67 (.tmp 9) (.tmp 87)) rfl ?_); refine blk_store_event rfl rfl 67 (.tmp 9) (.tmp 87) rfl gb9 0 (by rfl) (.agg #[.string x.f0, .string x.f1, .int .i64 x.f2]) (by rfl) #[.string (⟨#[]⟩ : ByteArray), .string (⟨#[]⟩ : ByteArray), .int .i64 0] 67 BK9.out [.string x.f0, .string x.f1, .int .i64 x.f2] rfl (by kernel_rfl) (show 0 + 3 ≤ 3 by decide) (by intro q hq; simp at hq; first | (subst hq; rfl) | (rcases hq with rfl | rfl | rfl <;> rfl)) #[.string x.f0, .string x.f1, .int .i64 x.f2] rfl ?_; intro w9a hbox hg; clear hcz2_0 hcz3_0 hcz3_1 hcz3_2 hcz3_3 hcz7_0 hcz9_0 hcz9_1 hcz9_2 hxx0 hxx1 hxx2; replace HB := AM (HB.out.grown hg (below_size (hB HB)) (fun k hk => by injection hk with hk; have := GE9.out; omega)); replace BK2 := AM (blk_grown BK2.out hg (fun e => (blk_ne BK2.out BK9.out (by decide)) (Option.some.inj e))); replace BK3 := AM (blk_grown BK3.out hg (fun e => (blk_ne BK3.out BK9.out (by decide)) (Option.some.inj e))); replace BK4 := AM (blk_grown BK4.out hg (fun e => (blk_ne BK4.out BK9.out (by decide)) (Option.some.inj e))); replace BK7 := AM (blk_grown BK7.out hg (fun e => (blk_ne BK7.out BK9.out (by decide)) (Option.some.inj e))); replace HO := AM (Kd.R_grown HO.out hg (fun k hk e => hk.2 (Option.some.inj e))); replace BK9 := AM (hbox); clear hg hbox; have hcz2_0 := bv BK2 0 (.slice (some ad) l.length c0_0); have hcz3_0 := bv BK3 0 (.int .i64 (3)); have hcz3_1 := bv BK3 1 (.string nm); have hcz3_2 := bv BK3 2 (.string tx); have hcz3_3 := bv BK3 3 (.string nw); have hcz7_0 := bv BK7 0 (.slice Ao l.length co); have hcz9_0 := bv BK9 0 (.string x.f0); have hcz9_1 := bv BK9 1 (.string x.f1); have hcz9_2 := bv BK9 2 (.int .i64 x.f2); have hxx0 := cl HB HX0.out; have hxx1 := cl HB HX1.out; have hxx2 := cl HB HX2.out) | ((with_reducible refine gate_ (.store 30 (.tmp 4) (.tmp 101)) rfl ?_); refine blk_store_event rfl rfl 30 (.tmp 4) (.tmp 101) rfl gb4 0 (by rfl) (.agg #[.slice none 0 0]) (by rfl) #[.slice none 0 0] 30 BK4.out [.slice none 0 0] rfl (by kernel_rfl) (show 0 + 1 ≤ 1 by decide) (by intro q hq; simp at hq; first | (subst hq; rfl) | (rcases hq with rfl | rfl | rfl <;> rfl)) #[.slice none 0 0] rfl ?_; intro w101 hbox hg; clear hcz2_0 hcz3_0 hcz3_1 hcz3_2 hcz3_3 hcz7_0 hcz9_0 hcz9_1 hcz9_2 hxx0 hxx1 hxx2; replace HB := AM (HB.out.grown hg (below_size (hB HB)) (fun k hk => by injection hk with hk; have := GE4.out; omega)); replace BK2 := AM (blk_grown BK2.out hg (fun e => NE2_4.out (Option.some.inj e))); replace BK3 := AM (blk_grown BK3.out hg (fun e => (blk_ne BK3.out BK4.out (by decide)) (Option.some.inj e))); replace BK7 := AM (blk_grown BK7.out hg (fun e => (Ne.symm NE4_7.out) (Option.some.inj e))); replace BK9 := AM (blk_grown BK9.out hg (fun e => (blk_ne BK9.out BK4.out (by decide)) (Option.some.inj e))); replace HO := AM (Kd.R_mono (Kd.R_grown (Kd.R_types HO.out BK4.out (by decide)) hg (fun k hk e => hk.2 (Option.some.inj e))) (fun _ hk => hk.1)); replace BK4 := AM (hbox); clear hg hbox; have hcz2_0 := bv BK2 0 (.slice (some ad) l.length c0_0); have hcz3_0 := bv BK3 0 (.int .i64 (3)); have hcz3_1 := bv BK3 1 (.string nm); have hcz3_2 := bv BK3 2 (.string tx); have hcz3_3 := bv BK3 3 (.string nw); have hcz7_0 := bv BK7 0 (.slice Ao l.length co); have hcz9_0 := bv BK9 0 (.string x.f0); have hcz9_1 := bv BK9 1 (.string x.f1); have hcz9_2 := bv BK9 2 (.int .i64 x.f2)))
  refine bodyPost_ret (results_ct rfl _ _ gb4 30 #[.slice none 0 0] (0, 0) _ rfl BK4.out Try.underlying30 rfl (by kernel_rfl)) rfl ?_
  exact ⟨_, rfl, Kd.R_nil _ _ _ _ _, HB.out⟩) : p := h
theorem act_t2 {p : Prop} (h : p := by
  go_enter Try.func19, Try.ntmps19
  go_wp2_with (first | ((with_reducible refine gd 2 rfl ?_); refine bx (N := 2) (cs := #[.slice A0_0 l.length c0_0]) (t := 30) ?_; intro gb2 hg w2 hbox hb; have BK2 := AM (hbox); have GE2 := AM (bs hg HB); replace HB := bq HB hb; clear hb hbox hg; have hcz2_0 := bv BK2 0 (.slice A0_0 l.length c0_0)) | ((with_reducible refine gd 3 rfl ?_); refine bx (N := 3) (cs := #[.int .i64 kd, .string nm, .string tx, .string nw]) (t := 41) ?_; intro gb3 hg w3 hbox hb; clear hcz2_0; replace BK2 := bw BK2 hb; have BK3 := AM (hbox); have GE3 := AM (bs hg HB); replace HB := bq HB hb; clear hb hbox hg; have hcz2_0 := bv BK2 0 (.slice A0_0 l.length c0_0); have hcz3_0 := bv BK3 0 (.int .i64 kd); have hcz3_1 := bv BK3 1 (.string nm); have hcz3_2 := bv BK3 2 (.string tx); have hcz3_3 := bv BK3 3 (.string nw)) | ((with_reducible refine gd 4 rfl ?_); refine bx (N := 4) (cs := #[.slice none 0 0]) (t := 30) ?_; intro gb4 hg w4 hbox hb; clear hcz2_0 hcz3_0 hcz3_1 hcz3_2 hcz3_3; replace BK3 := bw BK3 hb; have BK4 := AM (hbox); have GE4 := AM (bs hg HB); replace HB := bq HB hb; have NE2_4 := AM ((by rw [hg]; exact Nat.ne_of_lt (blk_lt BK2.out) : gb2 ≠ gb4)); replace BK2 := bw BK2 hb; clear hb hbox hg; have hcz2_0 := bv BK2 0 (.slice A0_0 l.length c0_0); have hcz3_0 := bv BK3 0 (.int .i64 kd); have hcz3_1 := bv BK3 1 (.string nm); have hcz3_2 := bv BK3 2 (.string tx); have hcz3_3 := bv BK3 3 (.string nw)) | ((with_reducible refine gc 39 rfl ?_); refine gl 13 Try.func39 #[.agg #[.slice A0_0 l.length c0_0], .string nm] ?_; (with_reducible refine (impl_fileAt.calls _ _ l nm _ _ (Kd.C_below HR.out HB.out) HCC.out HK.out).mono ?_); rintro e w13 ⟨rfl, hb⟩; refine ⟨_, rfl, ?_⟩; clear hcz2_0 hcz3_0 hcz3_1 hcz3_2 hcz3_3; replace HB := bq HB hb; replace BK2 := bw BK2 hb; replace BK3 := bw BK3 hb; replace BK4 := bw BK4 hb; clear hb; have hcz2_0 := bv BK2 0 (.slice A0_0 l.length c0_0); have hcz3_0 := bv BK3 0 (.int .i64 kd); have hcz3_1 := bv BK3 1 (.string nm); have hcz3_2 := bv BK3 2 (.string tx); have hcz3_3 := bv BK3 3 (.string nw)) | ((with_reducible refine gc 42 rfl ?_); refine gl 15 Try.func42 #[.agg #[.slice A0_0 l.length c0_0]] ?_; (with_reducible refine (impl_DiskOk.calls k _ _ l _ _ (Kd.C_below HR.out HB.out) HCC.out HOK.out).mono ?_); rintro e w15 ⟨rfl, hb⟩; refine ⟨_, rfl, ?_⟩; clear hcz2_0 hcz3_0 hcz3_1 hcz3_2 hcz3_3; replace HB := bq HB hb; replace BK2 := bw BK2 hb; replace BK3 := bw BK3 hb; replace BK4 := bw BK4 hb; clear hb; have hcz2_0 := bv BK2 0 (.slice A0_0 l.length c0_0); have hcz3_0 := bv BK3 0 (.int .i64 kd); have hcz3_1 := bv BK3 1 (.string nm); have hcz3_2 := bv BK3 2 (.string tx); have hcz3_3 := bv BK3 3 (.string nw)) | ((with_reducible refine gate_ (.store 30 (.tmp 4) (.tmp 41)) rfl ?_); refine blk_store_event rfl rfl 30 (.tmp 4) (.tmp 41) rfl gb4 0 (by rfl) (.agg #[.slice none 0 0]) (by rfl) #[.slice none 0 0] 30 BK4.out [.slice none 0 0] rfl (by kernel_rfl) (show 0 + 1 ≤ 1 by decide) (by intro q hq; simp at hq; first | (subst hq; rfl) | (rcases hq with rfl | rfl | rfl <;> rfl)) #[.slice none 0 0] rfl ?_; intro w41 hbox hg; clear hcz2_0 hcz3_0 hcz3_1 hcz3_2 hcz3_3; replace HB := AM (HB.out.grown hg (below_size (hB HB)) (fun k hk => by injection hk with hk; have := GE4.out; omega)); replace BK2 := AM (blk_grown BK2.out hg (fun e => NE2_4.out (Option.some.inj e))); replace BK3 := AM (blk_grown BK3.out hg (fun e => (blk_ne BK3.out BK4.out (by decide)) (Option.some.inj e))); replace BK4 := AM (hbox); clear hg hbox; have hcz2_0 := bv BK2 0 (.slice A0_0 l.length c0_0); have hcz3_0 := bv BK3 0 (.int .i64 kd); have hcz3_1 := bv BK3 1 (.string nm); have hcz3_2 := bv BK3 2 (.string tx); have hcz3_3 := bv BK3 3 (.string nw)))
  refine bodyPost_ret (results_ct rfl _ _ gb4 30 #[.slice none 0 0] (0, 0) _ rfl BK4.out Try.underlying30 rfl (by kernel_rfl)) rfl ?_
  exact ⟨_, rfl, Kd.R_nil _ _ _ _ _, HB.out⟩) : p := h
theorem act_t3 {p : Prop} (h : p := by
  go_enter Try.func19, Try.ntmps19
  go_wp2_with (first | ((with_reducible refine gd 2 rfl ?_); refine bx (N := 2) (cs := #[.slice A0_0 l.length c0_0]) (t := 30) ?_; intro gb2 hg w2 hbox hb; have BK2 := AM (hbox); have GE2 := AM (bs hg HB); replace HB := bq HB hb; clear hb hbox hg; have hcz2_0 := bv BK2 0 (.slice A0_0 l.length c0_0)) | ((with_reducible refine gd 3 rfl ?_); refine bx (N := 3) (cs := #[.int .i64 (3), .string nm, .string tx, .string nw]) (t := 41) ?_; intro gb3 hg w3 hbox hb; clear hcz2_0; replace BK2 := bw BK2 hb; have BK3 := AM (hbox); have GE3 := AM (bs hg HB); replace HB := bq HB hb; clear hb hbox hg; have hcz2_0 := bv BK2 0 (.slice A0_0 l.length c0_0); have hcz3_0 := bv BK3 0 (.int .i64 (3)); have hcz3_1 := bv BK3 1 (.string nm); have hcz3_2 := bv BK3 2 (.string tx); have hcz3_3 := bv BK3 3 (.string nw)) | ((with_reducible refine gd 4 rfl ?_); refine bx (N := 4) (cs := #[.slice none 0 0]) (t := 30) ?_; intro gb4 hg w4 hbox hb; clear hcz2_0 hcz3_0 hcz3_1 hcz3_2 hcz3_3; replace BK3 := bw BK3 hb; have BK4 := AM (hbox); have GE4 := AM (bs hg HB); replace HB := bq HB hb; have NE2_4 := AM ((by rw [hg]; exact Nat.ne_of_lt (blk_lt BK2.out) : gb2 ≠ gb4)); replace BK2 := bw BK2 hb; clear hb hbox hg; have hcz2_0 := bv BK2 0 (.slice A0_0 l.length c0_0); have hcz3_0 := bv BK3 0 (.int .i64 (3)); have hcz3_1 := bv BK3 1 (.string nm); have hcz3_2 := bv BK3 2 (.string tx); have hcz3_3 := bv BK3 3 (.string nw)) | ((with_reducible refine gc 39 rfl ?_); refine gl 13 Try.func39 #[.agg #[.slice A0_0 l.length c0_0], .string nm] ?_; (with_reducible refine (impl_fileAt.calls _ _ l nm _ _ (Kd.C_below HR.out HB.out) HCC.out HK.out).mono ?_); rintro e w13 ⟨rfl, hb⟩; refine ⟨_, rfl, ?_⟩; clear hcz2_0 hcz3_0 hcz3_1 hcz3_2 hcz3_3; replace HB := bq HB hb; replace BK2 := bw BK2 hb; replace BK3 := bw BK3 hb; replace BK4 := bw BK4 hb; clear hb; have hcz2_0 := bv BK2 0 (.slice A0_0 l.length c0_0); have hcz3_0 := bv BK3 0 (.int .i64 (3)); have hcz3_1 := bv BK3 1 (.string nm); have hcz3_2 := bv BK3 2 (.string tx); have hcz3_3 := bv BK3 3 (.string nw)) | ((with_reducible refine gc 42 rfl ?_); refine gl 15 Try.func42 #[.agg #[.slice A0_0 l.length c0_0]] ?_; (with_reducible refine (impl_DiskOk.calls k _ _ l _ _ (Kd.C_below HR.out HB.out) HCC.out HOK.out).mono ?_); rintro e w15 ⟨rfl, hb⟩; refine ⟨_, rfl, ?_⟩; clear hcz2_0 hcz3_0 hcz3_1 hcz3_2 hcz3_3; replace HB := bq HB hb; replace BK2 := bw BK2 hb; replace BK3 := bw BK3 hb; replace BK4 := bw BK4 hb; clear hb; have hcz2_0 := bv BK2 0 (.slice A0_0 l.length c0_0); have hcz3_0 := bv BK3 0 (.int .i64 (3)); have hcz3_1 := bv BK3 1 (.string nm); have hcz3_2 := bv BK3 2 (.string tx); have hcz3_3 := bv BK3 3 (.string nw)) | ((with_reducible refine gate_ (.store 30 (.tmp 4) (.tmp 41)) rfl ?_); refine blk_store_event rfl rfl 30 (.tmp 4) (.tmp 41) rfl gb4 0 (by rfl) (.agg #[.slice none 0 0]) (by rfl) #[.slice none 0 0] 30 BK4.out [.slice none 0 0] rfl (by kernel_rfl) (show 0 + 1 ≤ 1 by decide) (by intro q hq; simp at hq; first | (subst hq; rfl) | (rcases hq with rfl | rfl | rfl <;> rfl)) #[.slice none 0 0] rfl ?_; intro w41 hbox hg; clear hcz2_0 hcz3_0 hcz3_1 hcz3_2 hcz3_3; replace HB := AM (HB.out.grown hg (below_size (hB HB)) (fun k hk => by injection hk with hk; have := GE4.out; omega)); replace BK2 := AM (blk_grown BK2.out hg (fun e => NE2_4.out (Option.some.inj e))); replace BK3 := AM (blk_grown BK3.out hg (fun e => (blk_ne BK3.out BK4.out (by decide)) (Option.some.inj e))); replace BK4 := AM (hbox); clear hg hbox; have hcz2_0 := bv BK2 0 (.slice A0_0 l.length c0_0); have hcz3_0 := bv BK3 0 (.int .i64 (3)); have hcz3_1 := bv BK3 1 (.string nm); have hcz3_2 := bv BK3 2 (.string tx); have hcz3_3 := bv BK3 3 (.string nw)))
  refine bodyPost_ret (results_ct rfl _ _ gb4 30 #[.slice none 0 0] (0, 0) _ rfl BK4.out Try.underlying30 rfl (by kernel_rfl)) rfl ?_
  exact ⟨_, rfl, Kd.R_nil _ _ _ _ _, HB.out⟩) : p := h
set_option maxHeartbeats 8000000 in
set_option maxRecDepth 100000 in
/-- no right disk -/
theorem act_no0 (k : Nat) (A0_0 : Option Addr) (c0_0 : Nat) (l : List S67) (kd : Int) (nm tx nw : ByteArray) (K : Int) (w : World) (hr : Kd.C k67 w A0_0 l.length l) (hc : l.length ≤ c0_0) (hok : impl_DiskOk.f k l = some false) (hat : impl_fileAt.f l nm = some K) :
    Calls Try.prog 19 #[.agg #[.slice A0_0 l.length c0_0], .agg #[.int .i64 kd, .string nm, .string tx, .string nw]] w (ActPost [] false w) := by
  have hu30 := Try.underlying30
  have hu41 := Try.underlying41
  have hu67 := Try.underlying67
  have hu28 := Try.underlying28
  have HR := AM hr
  have HCC := AM hc
  have HOK := AM hok
  have HK := AM hat
  clear hr hc hok hat
  have HB := AM (Below.refl w.heap.size w)
  exact act_t2

set_option maxHeartbeats 8000000 in
set_option maxRecDepth 100000 in
/-- a name to go to, and no move -/
theorem act_no1 (k : Nat) (A0_0 : Option Addr) (c0_0 : Nat) (l : List S67) (kd : Int) (nm tx nw : ByteArray) (K : Int) (w : World) (hr : Kd.C k67 w A0_0 l.length l) (hc : l.length ≤ c0_0) (hok : impl_DiskOk.f k l = some true) (hat : impl_fileAt.f l nm = some K) (k3 : ¬ kd = 3) (ht : ¬ nw.toList = ([] : List UInt8)) :
    Calls Try.prog 19 #[.agg #[.slice A0_0 l.length c0_0], .agg #[.int .i64 kd, .string nm, .string tx, .string nw]] w (ActPost [] false w) := by
  have hu30 := Try.underlying30
  have hu41 := Try.underlying41
  have hu67 := Try.underlying67
  have hu28 := Try.underlying28
  have HR := AM hr
  have HCC := AM hc
  have HOK := AM hok
  have HK := AM hat
  clear hr hc hok hat
  have hk3_0 : (kd == 3) = false := by simpa using k3
  have hk3_1 : (kd != 3) = true := by simpa using k3
  clear k3
  have hht_0 : (nw.toList == ([] : List UInt8)) = false := beq_eq_false_iff_ne.mpr ht
  have hht_1 : (nw.toList != ([] : List UInt8)) = true := bne_iff_ne.mpr ht
  clear ht
  have HB := AM (Below.refl w.heap.size w)
  exact act_t2

set_option maxHeartbeats 8000000 in
set_option maxRecDepth 100000 in
/-- a text, and a move -/
theorem act_no2a (k : Nat) (A0_0 : Option Addr) (c0_0 : Nat) (l : List S67) (nm tx nw : ByteArray) (K : Int) (w : World) (hr : Kd.C k67 w A0_0 l.length l) (hc : l.length ≤ c0_0) (hok : impl_DiskOk.f k l = some true) (hat : impl_fileAt.f l nm = some K) (hx : ¬ tx.toList = ([] : List UInt8)) :
    Calls Try.prog 19 #[.agg #[.slice A0_0 l.length c0_0], .agg #[.int .i64 (3), .string nm, .string tx, .string nw]] w (ActPost [] false w) := by
  have hu30 := Try.underlying30
  have hu41 := Try.underlying41
  have hu67 := Try.underlying67
  have hu28 := Try.underlying28
  have HR := AM hr
  have HCC := AM hc
  have HOK := AM hok
  have HK := AM hat
  clear hr hc hok hat
  have hhx_0 : (tx.toList == ([] : List UInt8)) = false := beq_eq_false_iff_ne.mpr hx
  have hhx_1 : (tx.toList != ([] : List UInt8)) = true := bne_iff_ne.mpr hx
  clear hx
  have HB := AM (Below.refl w.heap.size w)
  exact act_t3

set_option maxHeartbeats 8000000 in
set_option maxRecDepth 100000 in
/-- a text, and no add -/
theorem act_no2b (k : Nat) (A0_0 : Option Addr) (c0_0 : Nat) (l : List S67) (kd : Int) (nm tx nw : ByteArray) (K : Int) (w : World) (hr : Kd.C k67 w A0_0 l.length l) (hc : l.length ≤ c0_0) (hok : impl_DiskOk.f k l = some true) (hat : impl_fileAt.f l nm = some K) (k3 : ¬ kd = 3) (k1 : ¬ kd = 1) (ht : nw.toList = ([] : List UInt8)) (hx : ¬ tx.toList = ([] : List UInt8)) :
    Calls Try.prog 19 #[.agg #[.slice A0_0 l.length c0_0], .agg #[.int .i64 kd, .string nm, .string tx, .string nw]] w (ActPost [] false w) := by
  have hu30 := Try.underlying30
  have hu41 := Try.underlying41
  have hu67 := Try.underlying67
  have hu28 := Try.underlying28
  have HR := AM hr
  have HCC := AM hc
  have HOK := AM hok
  have HK := AM hat
  clear hr hc hok hat
  have hk3_0 : (kd == 3) = false := by simpa using k3
  have hk3_1 : (kd != 3) = true := by simpa using k3
  clear k3
  have hk1_0 : (kd == 1) = false := by simpa using k1
  have hk1_1 : (kd != 1) = true := by simpa using k1
  clear k1
  have hht_0 : (nw.toList == ([] : List UInt8)) = true := beq_iff_eq.mpr ht
  have hht_1 : (nw.toList != ([] : List UInt8)) = false := bne_eq_false_iff_eq.mpr ht
  clear ht
  have hhx_0 : (tx.toList == ([] : List UInt8)) = false := beq_eq_false_iff_ne.mpr hx
  have hhx_1 : (tx.toList != ([] : List UInt8)) = true := bne_iff_ne.mpr hx
  clear hx
  have HB := AM (Below.refl w.heap.size w)
  exact act_t2

set_option maxHeartbeats 8000000 in
set_option maxRecDepth 100000 in
/-- a move of what is not there -/
theorem act_no3a (k : Nat) (A0_0 : Option Addr) (c0_0 : Nat) (l : List S67) (nm tx nw : ByteArray) (w : World) (hr : Kd.C k67 w A0_0 l.length l) (hc : l.length ≤ c0_0) (hok : impl_DiskOk.f k l = some true) (hat : impl_fileAt.f l nm = some (-1)) (hx : tx.toList = ([] : List UInt8)) :
    Calls Try.prog 19 #[.agg #[.slice A0_0 l.length c0_0], .agg #[.int .i64 (3), .string nm, .string tx, .string nw]] w (ActPost [] false w) := by
  have hu30 := Try.underlying30
  have hu41 := Try.underlying41
  have hu67 := Try.underlying67
  have hu28 := Try.underlying28
  have HR := AM hr
  have HCC := AM hc
  have HOK := AM hok
  have HK := AM hat
  clear hr hc hok hat
  have hhx_0 : (tx.toList == ([] : List UInt8)) = true := beq_iff_eq.mpr hx
  have hhx_1 : (tx.toList != ([] : List UInt8)) = false := bne_eq_false_iff_eq.mpr hx
  clear hx
  have HB := AM (Below.refl w.heap.size w)
  exact act_t3

set_option maxHeartbeats 8000000 in
set_option maxRecDepth 100000 in
/-- no add, and it is not there -/
theorem act_no3b (k : Nat) (A0_0 : Option Addr) (c0_0 : Nat) (l : List S67) (kd : Int) (nm tx nw : ByteArray) (w : World) (hr : Kd.C k67 w A0_0 l.length l) (hc : l.length ≤ c0_0) (hok : impl_DiskOk.f k l = some true) (hat : impl_fileAt.f l nm = some (-1)) (k3 : ¬ kd = 3) (k1 : ¬ kd = 1) (ht : nw.toList = ([] : List UInt8)) (hx : tx.toList = ([] : List UInt8)) :
    Calls Try.prog 19 #[.agg #[.slice A0_0 l.length c0_0], .agg #[.int .i64 kd, .string nm, .string tx, .string nw]] w (ActPost [] false w) := by
  have hu30 := Try.underlying30
  have hu41 := Try.underlying41
  have hu67 := Try.underlying67
  have hu28 := Try.underlying28
  have HR := AM hr
  have HCC := AM hc
  have HOK := AM hok
  have HK := AM hat
  clear hr hc hok hat
  have hk3_0 : (kd == 3) = false := by simpa using k3
  have hk3_1 : (kd != 3) = true := by simpa using k3
  clear k3
  have hk1_0 : (kd == 1) = false := by simpa using k1
  have hk1_1 : (kd != 1) = true := by simpa using k1
  clear k1
  have hht_0 : (nw.toList == ([] : List UInt8)) = true := beq_iff_eq.mpr ht
  have hht_1 : (nw.toList != ([] : List UInt8)) = false := bne_eq_false_iff_eq.mpr ht
  clear ht
  have hhx_0 : (tx.toList == ([] : List UInt8)) = true := beq_iff_eq.mpr hx
  have hhx_1 : (tx.toList != ([] : List UInt8)) = false := bne_eq_false_iff_eq.mpr hx
  clear hx
  have HB := AM (Below.refl w.heap.size w)
  exact act_t2

set_option maxHeartbeats 8000000 in
set_option maxRecDepth 100000 in
/-- an addition -/
theorem act_add0 (k : Nat) (A0_0 : Option Addr) (c0_0 : Nat) (l : List S67) (nm tx nw : ByteArray) (w : World) (hr : Kd.C k67 w A0_0 l.length l) (hc : l.length ≤ c0_0) (hok : impl_DiskOk.f k l = some true) (hat : impl_fileAt.f l nm = some (-1)) (ht : nw.toList = ([] : List UInt8)) (hs : (⟨#[]⟩ : ByteArray).size + tx.size ≤ 9223372036854775807) (hl : l.length ≤ 100000) (Y : List S67) (hY : Y = putL l ⟨nm, (⟨#[]⟩ : ByteArray) ++ tx, 0⟩) (u : Bool) (hu : impl_DiskOk.f k Y = some u) :
    Calls Try.prog 19 #[.agg #[.slice A0_0 l.length c0_0], .agg #[.int .i64 (1), .string nm, .string tx, .string nw]] w (ActPost (if u = true then Y else []) u w) := by
  have hu30 := Try.underlying30
  have hu41 := Try.underlying41
  have hu67 := Try.underlying67
  have hu28 := Try.underlying28
  have HY := AM hY
  have HU := AM hu
  have HLN := AM hl
  have HCP := AM (show impl_copyDisk.f l = some l by unfold impl_copyDisk.f; rw [if_pos (by omega)])
  clear hY hu hl
  have HR := AM hr
  have HCC := AM hc
  have HOK := AM hok
  have HK := AM hat
  clear hr hc hok hat
  have hht_0 : (nw.toList == ([] : List UInt8)) = true := beq_iff_eq.mpr ht
  have hht_1 : (nw.toList != ([] : List UInt8)) = false := bne_eq_false_iff_eq.mpr ht
  clear ht
  have hs1 : decide ((⟨#[]⟩ : ByteArray).size + tx.size ≤ 9223372036854775807) = true := decide_eq_true hs
  have hs2 : (9223372036854775807 < (⟨#[]⟩ : ByteArray).size + tx.size) = False := eq_false (Nat.not_lt.2 hs)
  have HB := AM (Below.refl w.heap.size w)
  go_enter Try.func19, Try.ntmps19
  go_upto_if 125 with (first | ((with_reducible refine gd 2 rfl ?_); refine bx (N := 2) (cs := #[.slice A0_0 l.length c0_0]) (t := 30) ?_; intro gb2 hg w2 hbox hb; have BK2 := AM (hbox); have GE2 := AM (bs hg HB); replace HB := bq HB hb; clear hb hbox hg; have hcz2_0 := bv BK2 0 (.slice A0_0 l.length c0_0)) | ((with_reducible refine gd 3 rfl ?_); refine bx (N := 3) (cs := #[.int .i64 (1), .string nm, .string tx, .string nw]) (t := 41) ?_; intro gb3 hg w3 hbox hb; clear hcz2_0; replace BK2 := bw BK2 hb; have BK3 := AM (hbox); have GE3 := AM (bs hg HB); replace HB := bq HB hb; clear hb hbox hg; have hcz2_0 := bv BK2 0 (.slice A0_0 l.length c0_0); have hcz3_0 := bv BK3 0 (.int .i64 (1)); have hcz3_1 := bv BK3 1 (.string nm); have hcz3_2 := bv BK3 2 (.string tx); have hcz3_3 := bv BK3 3 (.string nw)) | ((with_reducible refine gd 4 rfl ?_); refine bx (N := 4) (cs := #[.slice none 0 0]) (t := 30) ?_; intro gb4 hg w4 hbox hb; clear hcz2_0 hcz3_0 hcz3_1 hcz3_2 hcz3_3; replace BK3 := bw BK3 hb; have BK4 := AM (hbox); have GE4 := AM (bs hg HB); replace HB := bq HB hb; have NE2_4 := AM ((by rw [hg]; exact Nat.ne_of_lt (blk_lt BK2.out) : gb2 ≠ gb4)); replace BK2 := bw BK2 hb; clear hb hbox hg; have hcz2_0 := bv BK2 0 (.slice A0_0 l.length c0_0); have hcz3_0 := bv BK3 0 (.int .i64 (1)); have hcz3_1 := bv BK3 1 (.string nm); have hcz3_2 := bv BK3 2 (.string tx); have hcz3_3 := bv BK3 3 (.string nw)) | ((with_reducible refine gc 39 rfl ?_); refine gl 13 Try.func39 #[.agg #[.slice A0_0 l.length c0_0], .string nm] ?_; (with_reducible refine (impl_fileAt.calls _ _ l nm _ _ (Kd.C_below HR.out HB.out) HCC.out HK.out).mono ?_); rintro e w13 ⟨rfl, hb⟩; refine ⟨_, rfl, ?_⟩; clear hcz2_0 hcz3_0 hcz3_1 hcz3_2 hcz3_3; replace HB := bq HB hb; replace BK2 := bw BK2 hb; replace BK3 := bw BK3 hb; replace BK4 := bw BK4 hb; clear hb; have hcz2_0 := bv BK2 0 (.slice A0_0 l.length c0_0); have hcz3_0 := bv BK3 0 (.int .i64 (1)); have hcz3_1 := bv BK3 1 (.string nm); have hcz3_2 := bv BK3 2 (.string tx); have hcz3_3 := bv BK3 3 (.string nw)) | ((with_reducible refine gc 42 rfl ?_); refine gl 15 Try.func42 #[.agg #[.slice A0_0 l.length c0_0]] ?_; (with_reducible refine (impl_DiskOk.calls k _ _ l _ _ (Kd.C_below HR.out HB.out) HCC.out HOK.out).mono ?_); rintro e w15 ⟨rfl, hb⟩; refine ⟨_, rfl, ?_⟩; clear hcz2_0 hcz3_0 hcz3_1 hcz3_2 hcz3_3; replace HB := bq HB hb; replace BK2 := bw BK2 hb; replace BK3 := bw BK3 hb; replace BK4 := bw BK4 hb; clear hb; have hcz2_0 := bv BK2 0 (.slice A0_0 l.length c0_0); have hcz3_0 := bv BK3 0 (.int .i64 (1)); have hcz3_1 := bv BK3 1 (.string nm); have hcz3_2 := bv BK3 2 (.string tx); have hcz3_3 := bv BK3 3 (.string nw)) | ((with_reducible refine gc 48 rfl ?_); refine gl 43 Try.func48 #[.agg #[.slice A0_0 l.length c0_0]] ?_; (with_reducible refine (impl_copyDisk.calls _ _ l l _ (Kd.C_below HR.out HB.out) HCC.out HCP.out).mono ?_); rintro e w43 ⟨v0, rfl, ho, hb⟩; refine ⟨_, rfl, ?_⟩; clear hcz2_0 hcz3_0 hcz3_1 hcz3_2 hcz3_3; obtain ⟨Ao, co, rfl⟩ := Kd.R_slice ho; replace BK2 := bw BK2 hb; replace BK3 := bw BK3 hb; replace BK4 := bw BK4 hb; have HO := AM (Kd.R_lower ho (below_size (hB HB))); replace HB := bq HB hb; clear hb ho; have hcz2_0 := bv BK2 0 (.slice A0_0 l.length c0_0); have hcz3_0 := bv BK3 0 (.int .i64 (1)); have hcz3_1 := bv BK3 1 (.string nm); have hcz3_2 := bv BK3 2 (.string tx); have hcz3_3 := bv BK3 3 (.string nw)) | ((with_reducible refine gd 7 rfl ?_); refine bx (N := 7) (cs := #[.slice none 0 0]) (t := 30) ?_; intro gb7 hg w7 hbox hb; clear hcz2_0 hcz3_0 hcz3_1 hcz3_2 hcz3_3; replace BK3 := bw BK3 hb; replace HO := AM (Kd.R_below HO.out hb); have BK7 := AM (hbox); have GE7 := AM (bs hg HB); replace HB := bq HB hb; have NE2_7 := AM ((by rw [hg]; exact Nat.ne_of_lt (blk_lt BK2.out) : gb2 ≠ gb7)); replace BK2 := bw BK2 hb; have NE4_7 := AM ((by rw [hg]; exact Nat.ne_of_lt (blk_lt BK4.out) : gb4 ≠ gb7)); replace BK4 := bw BK4 hb; clear hb hbox hg; have hcz2_0 := bv BK2 0 (.slice A0_0 l.length c0_0); have hcz3_0 := bv BK3 0 (.int .i64 (1)); have hcz3_1 := bv BK3 1 (.string nm); have hcz3_2 := bv BK3 2 (.string tx); have hcz3_3 := bv BK3 3 (.string nw); have hcz7_0 := bv BK7 0 (.slice none 0 0)) | ((with_reducible refine gate_ (.store 30 (.tmp 7) (.tmp 43)) rfl ?_); refine blk_store_event rfl rfl 30 (.tmp 7) (.tmp 43) rfl gb7 0 (by rfl) (.agg #[.slice Ao l.length co]) (by rfl) #[.slice none 0 0] 30 BK7.out [.slice Ao l.length co] rfl (by kernel_rfl) (show 0 + 1 ≤ 1 by decide) (by intro q hq; simp at hq; first | (subst hq; rfl) | (rcases hq with rfl | rfl | rfl <;> rfl)) #[.slice Ao l.length co] rfl ?_; intro w7a hbox hg; clear hcz2_0 hcz3_0 hcz3_1 hcz3_2 hcz3_3 hcz7_0; replace HB := AM (HB.out.grown hg (below_size (hB HB)) (fun k hk => by injection hk with hk; have := GE7.out; omega)); replace BK2 := AM (blk_grown BK2.out hg (fun e => NE2_7.out (Option.some.inj e))); replace BK3 := AM (blk_grown BK3.out hg (fun e => (blk_ne BK3.out BK7.out (by decide)) (Option.some.inj e))); replace BK4 := AM (blk_grown BK4.out hg (fun e => NE4_7.out (Option.some.inj e))); replace HO := AM (Kd.R_mono (Kd.R_grown (Kd.R_types HO.out BK7.out (by decide)) hg (fun k hk e => hk.2 (Option.some.inj e))) (fun _ hk => hk.1)); replace BK7 := AM (hbox); clear hg hbox; have hcz2_0 := bv BK2 0 (.slice A0_0 l.length c0_0); have hcz3_0 := bv BK3 0 (.int .i64 (1)); have hcz3_1 := bv BK3 1 (.string nm); have hcz3_2 := bv BK3 2 (.string tx); have hcz3_3 := bv BK3 3 (.string nw); have hcz7_0 := bv BK7 0 (.slice Ao l.length co)) | ((with_reducible refine gd 8 rfl ?_); refine bx (N := 8) (cs := #[.string (⟨#[]⟩ : ByteArray), .string (⟨#[]⟩ : ByteArray), .int .i64 0]) (t := 67) ?_; intro gb8 hg w8 hbox hb; clear hcz2_0 hcz3_0 hcz3_1 hcz3_2 hcz3_3 hcz7_0; replace BK2 := bw BK2 hb; replace BK3 := bw BK3 hb; replace BK4 := bw BK4 hb; replace BK7 := bw BK7 hb; replace HO := AM (Kd.R_below (Kd.R_elderB HO.out gb8 (Nat.le_of_eq hg.symm)) hb); have BK8 := AM (hbox); have GE8 := AM (bs hg HB); replace HB := bq HB hb; clear hb hbox hg; have hcz2_0 := bv BK2 0 (.slice A0_0 l.length c0_0); have hcz3_0 := bv BK3 0 (.int .i64 (1)); have hcz3_1 := bv BK3 1 (.string nm); have hcz3_2 := bv BK3 2 (.string tx); have hcz3_3 := bv BK3 3 (.string nw); have hcz7_0 := bv BK7 0 (.slice Ao l.length co); have hcz8_0 := bv BK8 0 (.string (⟨#[]⟩ : ByteArray)); have hcz8_1 := bv BK8 1 (.string (⟨#[]⟩ : ByteArray)); have hcz8_2 := bv BK8 2 (.int .i64 0)) | ((with_reducible refine gate_ (.store 67 (.tmp 8) (.tmp 51)) rfl ?_); refine blk_store_event rfl rfl 67 (.tmp 8) (.tmp 51) rfl gb8 0 (by rfl) (.agg #[.string nm, .string (⟨#[]⟩ : ByteArray), .int .i64 0]) (by rfl) #[.string (⟨#[]⟩ : ByteArray), .string (⟨#[]⟩ : ByteArray), .int .i64 0] 67 BK8.out [.string nm, .string (⟨#[]⟩ : ByteArray), .int .i64 0] rfl (by kernel_rfl) (show 0 + 3 ≤ 3 by decide) (by intro q hq; simp at hq; first | (subst hq; rfl) | (rcases hq with rfl | rfl | rfl <;> rfl)) #[.string nm, .string (⟨#[]⟩ : ByteArray), .int .i64 0] rfl ?_; intro w8a hbox hg; clear hcz2_0 hcz3_0 hcz3_1 hcz3_2 hcz3_3 hcz7_0 hcz8_0 hcz8_1 hcz8_2; replace HB := AM (HB.out.grown hg (below_size (hB HB)) (fun k hk => by injection hk with hk; have := GE8.out; omega)); replace BK2 := AM (blk_grown BK2.out hg (fun e => (blk_ne BK2.out BK8.out (by decide)) (Option.some.inj e))); replace BK3 := AM (blk_grown BK3.out hg (fun e => (blk_ne BK3.out BK8.out (by decide)) (Option.some.inj e))); replace BK4 := AM (blk_grown BK4.out hg (fun e => (blk_ne BK4.out BK8.out (by decide)) (Option.some.inj e))); replace BK7 := AM (blk_grown BK7.out hg (fun e => (blk_ne BK7.out BK8.out (by decide)) (Option.some.inj e))); replace HO := AM (Kd.R_grown HO.out hg (fun k hk e => hk.2 (Option.some.inj e))); replace BK8 := AM (hbox); clear hg hbox; have hcz2_0 := bv BK2 0 (.slice A0_0 l.length c0_0); have hcz3_0 := bv BK3 0 (.int .i64 (1)); have hcz3_1 := bv BK3 1 (.string nm); have hcz3_2 := bv BK3 2 (.string tx); have hcz3_3 := bv BK3 3 (.string nw); have hcz7_0 := bv BK7 0 (.slice Ao l.length co); have hcz8_0 := bv BK8 0 (.string nm); have hcz8_1 := bv BK8 1 (.string (⟨#[]⟩ : ByteArray)); have hcz8_2 := bv BK8 2 (.int .i64 0)) | ((with_reducible refine gate_ (.store 9 (.tmp 64) (.tmp 63)) rfl ?_); refine blk_store_event rfl rfl 9 (.tmp 64) (.tmp 63) rfl gb8 1 (by rfl) (.string ((⟨#[]⟩ : ByteArray) ++ tx)) (by rfl) #[.string nm, .string (⟨#[]⟩ : ByteArray), .int .i64 0] 67 BK8.out [.string ((⟨#[]⟩ : ByteArray) ++ tx)] rfl (by kernel_rfl) (show 1 + 1 ≤ 3 by decide) (by intro q hq; simp at hq; first | (subst hq; rfl) | (rcases hq with rfl | rfl | rfl <;> rfl)) #[.string nm, .string ((⟨#[]⟩ : ByteArray) ++ tx), .int .i64 0] rfl ?_; intro w8c hbox hg; clear hcz2_0 hcz3_0 hcz3_1 hcz3_2 hcz3_3 hcz7_0 hcz8_0 hcz8_1 hcz8_2; replace HB := AM (HB.out.grown hg (below_size (hB HB)) (fun k hk => by injection hk with hk; have := GE8.out; omega)); replace BK2 := AM (blk_grown BK2.out hg (fun e => (blk_ne BK2.out BK8.out (by decide)) (Option.some.inj e))); replace BK3 := AM (blk_grown BK3.out hg (fun e => (blk_ne BK3.out BK8.out (by decide)) (Option.some.inj e))); replace BK4 := AM (blk_grown BK4.out hg (fun e => (blk_ne BK4.out BK8.out (by decide)) (Option.some.inj e))); replace BK7 := AM (blk_grown BK7.out hg (fun e => (blk_ne BK7.out BK8.out (by decide)) (Option.some.inj e))); replace HO := AM (Kd.R_grown HO.out hg (fun k hk e => hk.2 (Option.some.inj e))); replace BK8 := AM (hbox); clear hg hbox; have hcz2_0 := bv BK2 0 (.slice A0_0 l.length c0_0); have hcz3_0 := bv BK3 0 (.int .i64 (1)); have hcz3_1 := bv BK3 1 (.string nm); have hcz3_2 := bv BK3 2 (.string tx); have hcz3_3 := bv BK3 3 (.string nw); have hcz7_0 := bv BK7 0 (.slice Ao l.length co); have hcz8_0 := bv BK8 0 (.string nm); have hcz8_1 := bv BK8 1 (.string ((⟨#[]⟩ : ByteArray) ++ tx)); have hcz8_2 := bv BK8 2 (.int .i64 0)) | ((with_reducible refine gc 49 rfl ?_); refine gl 66 Try.func49 #[.pointer (some ⟨gb7, 0, none⟩), .agg #[.string nm, .string ((⟨#[]⟩ : ByteArray) ++ tx), .int .i64 0]] ?_; (with_reducible refine (impl_putFile.calls gb7 (.slice Ao l.length co) l nm (((⟨#[]⟩ : ByteArray) ++ tx)) 0 w.heap.size _ BK7.out GE7.out (Kd.R_mono HO.out (fun _ _ => trivial)) HB.out.size HLN.out).mono ?_); rintro e w66 ⟨v7, rfl, hD7, hr, hk, hb⟩; refine ⟨_, rfl, ?_⟩; clear hcz2_0 hcz3_0 hcz3_1 hcz3_2 hcz3_3 hcz7_0 hcz8_0 hcz8_1 hcz8_2; rw [← HY.out] at hr; obtain ⟨A7, c7, rfl⟩ := Kd.R_slice hr; replace HB := AM (HB.out.trans hb); replace BK4 := AM (hk.blk BK4.out NE4_7.out (Kd.R_ne HO.out BK4.out (by decide))); replace BK7 := AM hD7; replace HO := AM hr; clear hb hk hD7 hr BK2 BK3 BK8; have hcz7_0 := bv BK7 0 (.slice A7 Y.length c7)) | ((with_reducible refine gc 42 rfl ?_); refine gl 124 Try.func42 #[.agg #[.slice A7 Y.length c7]] ?_; (with_reducible refine (impl_DiskOk.calls k _ _ Y u _ (Kd.R_reads' HO.out).2.2 (Kd.R_reads' HO.out).2.1 HU.out).mono ?_); rintro e w124 ⟨rfl, hb⟩; refine ⟨_, rfl, ?_⟩; clear hcz7_0; replace HB := bq HB hb; replace BK4 := bw BK4 hb; replace BK7 := bw BK7 hb; replace HO := AM (Kd.R_below HO.out hb); clear hb; have hcz7_0 := bv BK7 0 (.slice A7 Y.length c7)))
  exact act_t0

set_option maxHeartbeats 8000000 in
set_option maxRecDepth 100000 in
/-- an addition to what is there -/
theorem act_add1 (k : Nat) (A0_0 : Option Addr) (c0_0 : Nat) (l : List S67) (nm tx nw : ByteArray) (j : Nat) (hj : j < l.length) (w : World) (hr : Kd.C k67 w A0_0 l.length l) (hc : l.length ≤ c0_0) (hok : impl_DiskOk.f k l = some true) (hat : impl_fileAt.f l nm = some ((j : Int))) (ht : nw.toList = ([] : List UInt8)) (hs : (rd_T67 l (j : Int)).f1.size + tx.size ≤ 9223372036854775807) (hl : l.length ≤ 100000) (Y : List S67) (hY : Y = putL l ⟨(rd_T67 l (j : Int)).f0, (rd_T67 l (j : Int)).f1 ++ tx, (rd_T67 l (j : Int)).f2⟩) (u : Bool) (hu : impl_DiskOk.f k Y = some u) :
    Calls Try.prog 19 #[.agg #[.slice A0_0 l.length c0_0], .agg #[.int .i64 (1), .string nm, .string tx, .string nw]] w (ActPost (if u = true then Y else []) u w) := by
  have hu30 := Try.underlying30
  have hu41 := Try.underlying41
  have hu67 := Try.underlying67
  have hu28 := Try.underlying28
  obtain ⟨x, hx⟩ : ∃ x, x = rd_T67 l (j : Int) := ⟨_, rfl⟩
  obtain ⟨ad, e, hx0, hx1, hx2⟩ := at_T67 hr (j : Int) (by omega) (by omega)
  cases e
  rw [Int.toNat_natCast] at hx0 hx1 hx2
  rw [← hx] at hx0 hx1 hx2 hs hY
  have HX0 := AM hx0
  have HX1 := AM hx1
  have HX2 := AM hx2
  have HXX := AM hx
  clear hx0 hx1 hx2 hx
  have p1 := eq_true (show 0 ≤ (j : Int) by omega)
  have q1 := eq_true (show (j : Int) < (l.length : Int) by omega)
  have HY := AM hY
  have HU := AM hu
  have HLN := AM hl
  have HCP := AM (show impl_copyDisk.f l = some l by unfold impl_copyDisk.f; rw [if_pos (by omega)])
  clear hY hu hl
  have HR := AM hr
  have HCC := AM hc
  have HOK := AM hok
  have HK := AM hat
  clear hr hc hok hat
  have hht_0 : (nw.toList == ([] : List UInt8)) = true := beq_iff_eq.mpr ht
  have hht_1 : (nw.toList != ([] : List UInt8)) = false := bne_eq_false_iff_eq.mpr ht
  clear ht
  have hs1 : decide (x.f1.size + tx.size ≤ 9223372036854775807) = true := decide_eq_true hs
  have hs2 : (9223372036854775807 < x.f1.size + tx.size) = False := eq_false (Nat.not_lt.2 hs)
  have HB := AM (Below.refl w.heap.size w)
  go_enter Try.func19, Try.ntmps19
  go_upto_if 125 with (first | ((with_reducible refine gd 2 rfl ?_); refine bx (N := 2) (cs := #[.slice (some ad) l.length c0_0]) (t := 30) ?_; intro gb2 hg w2 hbox hb; have BK2 := AM (hbox); have GE2 := AM (bs hg HB); replace HB := bq HB hb; clear hb hbox hg; have hcz2_0 := bv BK2 0 (.slice (some ad) l.length c0_0); have hxx0 := cl HB HX0.out; have hxx1 := cl HB HX1.out; have hxx2 := cl HB HX2.out) | ((with_reducible refine gd 3 rfl ?_); refine bx (N := 3) (cs := #[.int .i64 (1), .string nm, .string tx, .string nw]) (t := 41) ?_; intro gb3 hg w3 hbox hb; clear hcz2_0 hxx0 hxx1 hxx2; replace BK2 := bw BK2 hb; have BK3 := AM (hbox); have GE3 := AM (bs hg HB); replace HB := bq HB hb; clear hb hbox hg; have hcz2_0 := bv BK2 0 (.slice (some ad) l.length c0_0); have hcz3_0 := bv BK3 0 (.int .i64 (1)); have hcz3_1 := bv BK3 1 (.string nm); have hcz3_2 := bv BK3 2 (.string tx); have hcz3_3 := bv BK3 3 (.string nw); have hxx0 := cl HB HX0.out; have hxx1 := cl HB HX1.out; have hxx2 := cl HB HX2.out) | ((with_reducible refine gd 4 rfl ?_); refine bx (N := 4) (cs := #[.slice none 0 0]) (t := 30) ?_; intro gb4 hg w4 hbox hb; clear hcz2_0 hcz3_0 hcz3_1 hcz3_2 hcz3_3 hxx0 hxx1 hxx2; replace BK3 := bw BK3 hb; have BK4 := AM (hbox); have GE4 := AM (bs hg HB); replace HB := bq HB hb; have NE2_4 := AM ((by rw [hg]; exact Nat.ne_of_lt (blk_lt BK2.out) : gb2 ≠ gb4)); replace BK2 := bw BK2 hb; clear hb hbox hg; have hcz2_0 := bv BK2 0 (.slice (some ad) l.length c0_0); have hcz3_0 := bv BK3 0 (.int .i64 (1)); have hcz3_1 := bv BK3 1 (.string nm); have hcz3_2 := bv BK3 2 (.string tx); have hcz3_3 := bv BK3 3 (.string nw); have hxx0 := cl HB HX0.out; have hxx1 := cl HB HX1.out; have hxx2 := cl HB HX2.out) | ((with_reducible refine gc 39 rfl ?_); refine gl 13 Try.func39 #[.agg #[.slice (some ad) l.length c0_0], .string nm] ?_; (with_reducible refine (impl_fileAt.calls _ _ l nm _ _ (Kd.C_below HR.out HB.out) HCC.out HK.out).mono ?_); rintro e w13 ⟨rfl, hb⟩; refine ⟨_, rfl, ?_⟩; clear hcz2_0 hcz3_0 hcz3_1 hcz3_2 hcz3_3 hxx0 hxx1 hxx2; replace HB := bq HB hb; replace BK2 := bw BK2 hb; replace BK3 := bw BK3 hb; replace BK4 := bw BK4 hb; clear hb; have hcz2_0 := bv BK2 0 (.slice (some ad) l.length c0_0); have hcz3_0 := bv BK3 0 (.int .i64 (1)); have hcz3_1 := bv BK3 1 (.string nm); have hcz3_2 := bv BK3 2 (.string tx); have hcz3_3 := bv BK3 3 (.string nw); have hxx0 := cl HB HX0.out; have hxx1 := cl HB HX1.out; have hxx2 := cl HB HX2.out) | ((with_reducible refine gc 42 rfl ?_); refine gl 15 Try.func42 #[.agg #[.slice (some ad) l.length c0_0]] ?_; (with_reducible refine (impl_DiskOk.calls k _ _ l _ _ (Kd.C_below HR.out HB.out) HCC.out HOK.out).mono ?_); rintro e w15 ⟨rfl, hb⟩; refine ⟨_, rfl, ?_⟩; clear hcz2_0 hcz3_0 hcz3_1 hcz3_2 hcz3_3 hxx0 hxx1 hxx2; replace HB := bq HB hb; replace BK2 := bw BK2 hb; replace BK3 := bw BK3 hb; replace BK4 := bw BK4 hb; clear hb; have hcz2_0 := bv BK2 0 (.slice (some ad) l.length c0_0); have hcz3_0 := bv BK3 0 (.int .i64 (1)); have hcz3_1 := bv BK3 1 (.string nm); have hcz3_2 := bv BK3 2 (.string tx); have hcz3_3 := bv BK3 3 (.string nw); have hxx0 := cl HB HX0.out; have hxx1 := cl HB HX1.out; have hxx2 := cl HB HX2.out) | ((with_reducible refine gc 48 rfl ?_); refine gl 43 Try.func48 #[.agg #[.slice (some ad) l.length c0_0]] ?_; (with_reducible refine (impl_copyDisk.calls _ _ l l _ (Kd.C_below HR.out HB.out) HCC.out HCP.out).mono ?_); rintro e w43 ⟨v0, rfl, ho, hb⟩; refine ⟨_, rfl, ?_⟩; clear hcz2_0 hcz3_0 hcz3_1 hcz3_2 hcz3_3 hxx0 hxx1 hxx2; obtain ⟨Ao, co, rfl⟩ := Kd.R_slice ho; replace BK2 := bw BK2 hb; replace BK3 := bw BK3 hb; replace BK4 := bw BK4 hb; have HO := AM (Kd.R_lower ho (below_size (hB HB))); replace HB := bq HB hb; clear hb ho; have hcz2_0 := bv BK2 0 (.slice (some ad) l.length c0_0); have hcz3_0 := bv BK3 0 (.int .i64 (1)); have hcz3_1 := bv BK3 1 (.string nm); have hcz3_2 := bv BK3 2 (.string tx); have hcz3_3 := bv BK3 3 (.string nw); have hxx0 := cl HB HX0.out; have hxx1 := cl HB HX1.out; have hxx2 := cl HB HX2.out) | ((with_reducible refine gd 7 rfl ?_); refine bx (N := 7) (cs := #[.slice none 0 0]) (t := 30) ?_; intro gb7 hg w7 hbox hb; clear hcz2_0 hcz3_0 hcz3_1 hcz3_2 hcz3_3 hxx0 hxx1 hxx2; replace BK3 := bw BK3 hb; replace HO := AM (Kd.R_below HO.out hb); have BK7 := AM (hbox); have GE7 := AM (bs hg HB); replace HB := bq HB hb; have NE2_7 := AM ((by rw [hg]; exact Nat.ne_of_lt (blk_lt BK2.out) : gb2 ≠ gb7)); replace BK2 := bw BK2 hb; have NE4_7 := AM ((by rw [hg]; exact Nat.ne_of_lt (blk_lt BK4.out) : gb4 ≠ gb7)); replace BK4 := bw BK4 hb; clear hb hbox hg; have hcz2_0 := bv BK2 0 (.slice (some ad) l.length c0_0); have hcz3_0 := bv BK3 0 (.int .i64 (1)); have hcz3_1 := bv BK3 1 (.string nm); have hcz3_2 := bv BK3 2 (.string tx); have hcz3_3 := bv BK3 3 (.string nw); have hcz7_0 := bv BK7 0 (.slice none 0 0); have hxx0 := cl HB HX0.out; have hxx1 := cl HB HX1.out; have hxx2 := cl HB HX2.out) | ((with_reducible refine gate_ (.store 30 (.tmp 7) (.tmp 43)) rfl ?_); refine blk_store_event rfl rfl 30 (.tmp 7) (.tmp 43) rfl gb7 0 (by rfl) (.agg #[.slice Ao l.length co]) (by rfl) #[.slice none 0 0] 30 BK7.out [.slice Ao l.length co] rfl (by kernel_rfl) (show 0 + 1 ≤ 1 by decide) (by intro q hq; simp at hq; first | (subst hq; rfl) | (rcases hq with rfl | rfl | rfl <;> rfl)) #[.slice Ao l.length co] rfl ?_; intro w7a hbox hg; clear hcz2_0 hcz3_0 hcz3_1 hcz3_2 hcz3_3 hcz7_0 hxx0 hxx1 hxx2; replace HB := AM (HB.out.grown hg (below_size (hB HB)) (fun k hk => by injection hk with hk; have := GE7.out; omega)); replace BK2 := AM (blk_grown BK2.out hg (fun e => NE2_7.out (Option.some.inj e))); replace BK3 := AM (blk_grown BK3.out hg (fun e => (blk_ne BK3.out BK7.out (by decide)) (Option.some.inj e))); replace BK4 := AM (blk_grown BK4.out hg (fun e => NE4_7.out (Option.some.inj e))); replace HO := AM (Kd.R_mono (Kd.R_grown (Kd.R_types HO.out BK7.out (by decide)) hg (fun k hk e => hk.2 (Option.some.inj e))) (fun _ hk => hk.1)); replace BK7 := AM (hbox); clear hg hbox; have hcz2_0 := bv BK2 0 (.slice (some ad) l.length c0_0); have hcz3_0 := bv BK3 0 (.int .i64 (1)); have hcz3_1 := bv BK3 1 (.string nm); have hcz3_2 := bv BK3 2 (.string tx); have hcz3_3 := bv BK3 3 (.string nw); have hcz7_0 := bv BK7 0 (.slice Ao l.length co); have hxx0 := cl HB HX0.out; have hxx1 := cl HB HX1.out; have hxx2 := cl HB HX2.out) | ((with_reducible refine gd 8 rfl ?_); refine bx (N := 8) (cs := #[.string (⟨#[]⟩ : ByteArray), .string (⟨#[]⟩ : ByteArray), .int .i64 0]) (t := 67) ?_; intro gb8 hg w8 hbox hb; clear hcz2_0 hcz3_0 hcz3_1 hcz3_2 hcz3_3 hcz7_0 hxx0 hxx1 hxx2; replace BK2 := bw BK2 hb; replace BK3 := bw BK3 hb; replace BK4 := bw BK4 hb; replace BK7 := bw BK7 hb; replace HO := AM (Kd.R_below (Kd.R_elderB HO.out gb8 (Nat.le_of_eq hg.symm)) hb); have BK8 := AM (hbox); have GE8 := AM (bs hg HB); replace HB := bq HB hb; clear hb hbox hg; have hcz2_0 := bv BK2 0 (.slice (some ad) l.length c0_0); have hcz3_0 := bv BK3 0 (.int .i64 (1)); have hcz3_1 := bv BK3 1 (.string nm); have hcz3_2 := bv BK3 2 (.string tx); have hcz3_3 := bv BK3 3 (.string nw); have hcz7_0 := bv BK7 0 (.slice Ao l.length co); have hcz8_0 := bv BK8 0 (.string (⟨#[]⟩ : ByteArray)); have hcz8_1 := bv BK8 1 (.string (⟨#[]⟩ : ByteArray)); have hcz8_2 := bv BK8 2 (.int .i64 0); have hxx0 := cl HB HX0.out; have hxx1 := cl HB HX1.out; have hxx2 := cl HB HX2.out) | ((with_reducible refine gate_ (.store 67 (.tmp 8) (.tmp 51)) rfl ?_); refine blk_store_event rfl rfl 67 (.tmp 8) (.tmp 51) rfl gb8 0 (by rfl) (.agg #[.string nm, .string (⟨#[]⟩ : ByteArray), .int .i64 0]) (by rfl) #[.string (⟨#[]⟩ : ByteArray), .string (⟨#[]⟩ : ByteArray), .int .i64 0] 67 BK8.out [.string nm, .string (⟨#[]⟩ : ByteArray), .int .i64 0] rfl (by kernel_rfl) (show 0 + 3 ≤ 3 by decide) (by intro q hq; simp at hq; first | (subst hq; rfl) | (rcases hq with rfl | rfl | rfl <;> rfl)) #[.string nm, .string (⟨#[]⟩ : ByteArray), .int .i64 0] rfl ?_; intro w8a hbox hg; clear hcz2_0 hcz3_0 hcz3_1 hcz3_2 hcz3_3 hcz7_0 hcz8_0 hcz8_1 hcz8_2 hxx0 hxx1 hxx2; replace HB := AM (HB.out.grown hg (below_size (hB HB)) (fun k hk => by injection hk with hk; have := GE8.out; omega)); replace BK2 := AM (blk_grown BK2.out hg (fun e => (blk_ne BK2.out BK8.out (by decide)) (Option.some.inj e))); replace BK3 := AM (blk_grown BK3.out hg (fun e => (blk_ne BK3.out BK8.out (by decide)) (Option.some.inj e))); replace BK4 := AM (blk_grown BK4.out hg (fun e => (blk_ne BK4.out BK8.out (by decide)) (Option.some.inj e))); replace BK7 := AM (blk_grown BK7.out hg (fun e => (blk_ne BK7.out BK8.out (by decide)) (Option.some.inj e))); replace HO := AM (Kd.R_grown HO.out hg (fun k hk e => hk.2 (Option.some.inj e))); replace BK8 := AM (hbox); clear hg hbox; have hcz2_0 := bv BK2 0 (.slice (some ad) l.length c0_0); have hcz3_0 := bv BK3 0 (.int .i64 (1)); have hcz3_1 := bv BK3 1 (.string nm); have hcz3_2 := bv BK3 2 (.string tx); have hcz3_3 := bv BK3 3 (.string nw); have hcz7_0 := bv BK7 0 (.slice Ao l.length co); have hcz8_0 := bv BK8 0 (.string nm); have hcz8_1 := bv BK8 1 (.string (⟨#[]⟩ : ByteArray)); have hcz8_2 := bv BK8 2 (.int .i64 0); have hxx0 := cl HB HX0.out; have hxx1 := cl HB HX1.out; have hxx2 := cl HB HX2.out) | ((with_reducible refine gate_ (.store 67 (.tmp 8) (.tmp 58)) rfl ?_); refine blk_store_event rfl rfl 67 (.tmp 8) (.tmp 58) rfl gb8 0 (by rfl) (.agg #[.string x.f0, .string x.f1, .int .i64 x.f2]) (by rfl) #[.string nm, .string (⟨#[]⟩ : ByteArray), .int .i64 0] 67 BK8.out [.string x.f0, .string x.f1, .int .i64 x.f2] rfl (by kernel_rfl) (show 0 + 3 ≤ 3 by decide) (by intro q hq; simp at hq; first | (subst hq; rfl) | (rcases hq with rfl | rfl | rfl <;> rfl)) #[.string x.f0, .string x.f1, .int .i64 x.f2] rfl ?_; intro w8b hbox hg; clear hcz2_0 hcz3_0 hcz3_1 hcz3_2 hcz3_3 hcz7_0 hcz8_0 hcz8_1 hcz8_2 hxx0 hxx1 hxx2; replace HB := AM (HB.out.grown hg (below_size (hB HB)) (fun k hk => by injection hk with hk; have := GE8.out; omega)); replace BK2 := AM (blk_grown BK2.out hg (fun e => (blk_ne BK2.out BK8.out (by decide)) (Option.some.inj e))); replace BK3 := AM (blk_grown BK3.out hg (fun e => (blk_ne BK3.out BK8.out (by decide)) (Option.some.inj e))); replace BK4 := AM (blk_grown BK4.out hg (fun e => (blk_ne BK4.out BK8.out (by decide)) (Option.some.inj e))); replace BK7 := AM (blk_grown BK7.out hg (fun e => (blk_ne BK7.out BK8.out (by decide)) (Option.some.inj e))); replace HO := AM (Kd.R_grown HO.out hg (fun k hk e => hk.2 (Option.some.inj e))); replace BK8 := AM (hbox); clear hg hbox; have hcz2_0 := bv BK2 0 (.slice (some ad) l.length c0_0); have hcz3_0 := bv BK3 0 (.int .i64 (1)); have hcz3_1 := bv BK3 1 (.string nm); have hcz3_2 := bv BK3 2 (.string tx); have hcz3_3 := bv BK3 3 (.string nw); have hcz7_0 := bv BK7 0 (.slice Ao l.length co); have hcz8_0 := bv BK8 0 (.string x.f0); have hcz8_1 := bv BK8 1 (.string x.f1); have hcz8_2 := bv BK8 2 (.int .i64 x.f2); have hxx0 := cl HB HX0.out; have hxx1 := cl HB HX1.out; have hxx2 := cl HB HX2.out) | ((with_reducible refine gate_ (.store 9 (.tmp 64) (.tmp 63)) rfl ?_); refine blk_store_event rfl rfl 9 (.tmp 64) (.tmp 63) rfl gb8 1 (by rfl) (.string (x.f1 ++ tx)) (by rfl) #[.string x.f0, .string x.f1, .int .i64 x.f2] 67 BK8.out [.string (x.f1 ++ tx)] rfl (by kernel_rfl) (show 1 + 1 ≤ 3 by decide) (by intro q hq; simp at hq; first | (subst hq; rfl) | (rcases hq with rfl | rfl | rfl <;> rfl)) #[.string x.f0, .string (x.f1 ++ tx), .int .i64 x.f2] rfl ?_; intro w8c hbox hg; clear hcz2_0 hcz3_0 hcz3_1 hcz3_2 hcz3_3 hcz7_0 hcz8_0 hcz8_1 hcz8_2 hxx0 hxx1 hxx2; replace HB := AM (HB.out.grown hg (below_size (hB HB)) (fun k hk => by injection hk with hk; have := GE8.out; omega)); replace BK2 := AM (blk_grown BK2.out hg (fun e => (blk_ne BK2.out BK8.out (by decide)) (Option.some.inj e))); replace BK3 := AM (blk_grown BK3.out hg (fun e => (blk_ne BK3.out BK8.out (by decide)) (Option.some.inj e))); replace BK4 := AM (blk_grown BK4.out hg (fun e => (blk_ne BK4.out BK8.out (by decide)) (Option.some.inj e))); replace BK7 := AM (blk_grown BK7.out hg (fun e => (blk_ne BK7.out BK8.out (by decide)) (Option.some.inj e))); replace HO := AM (Kd.R_grown HO.out hg (fun k hk e => hk.2 (Option.some.inj e))); replace BK8 := AM (hbox); clear hg hbox; have hcz2_0 := bv BK2 0 (.slice (some ad) l.length c0_0); have hcz3_0 := bv BK3 0 (.int .i64 (1)); have hcz3_1 := bv BK3 1 (.string nm); have hcz3_2 := bv BK3 2 (.string tx); have hcz3_3 := bv BK3 3 (.string nw); have hcz7_0 := bv BK7 0 (.slice Ao l.length co); have hcz8_0 := bv BK8 0 (.string x.f0); have hcz8_1 := bv BK8 1 (.string (x.f1 ++ tx)); have hcz8_2 := bv BK8 2 (.int .i64 x.f2); have hxx0 := cl HB HX0.out; have hxx1 := cl HB HX1.out; have hxx2 := cl HB HX2.out) | ((with_reducible refine gc 49 rfl ?_); refine gl 66 Try.func49 #[.pointer (some ⟨gb7, 0, none⟩), .agg #[.string x.f0, .string (x.f1 ++ tx), .int .i64 x.f2]] ?_; (with_reducible refine (impl_putFile.calls gb7 (.slice Ao l.length co) l x.f0 ((x.f1 ++ tx)) x.f2 w.heap.size _ BK7.out GE7.out (Kd.R_mono HO.out (fun _ _ => trivial)) HB.out.size HLN.out).mono ?_); rintro e w66 ⟨v7, rfl, hD7, hr, hk, hb⟩; refine ⟨_, rfl, ?_⟩; clear hcz2_0 hcz3_0 hcz3_1 hcz3_2 hcz3_3 hcz7_0 hcz8_0 hcz8_1 hcz8_2 hxx0 hxx1 hxx2; rw [← HY.out] at hr; obtain ⟨A7, c7, rfl⟩ := Kd.R_slice hr; replace HB := AM (HB.out.trans hb); replace BK4 := AM (hk.blk BK4.out NE4_7.out (Kd.R_ne HO.out BK4.out (by decide))); replace BK7 := AM hD7; replace HO := AM hr; clear hb hk hD7 hr BK2 BK3 BK8; have hcz7_0 := bv BK7 0 (.slice A7 Y.length c7)) | ((with_reducible refine gc 42 rfl ?_); refine gl 124 Try.func42 #[.agg #[.slice A7 Y.length c7]] ?_; (with_reducible refine (impl_DiskOk.calls k _ _ Y u _ (Kd.R_reads' HO.out).2.2 (Kd.R_reads' HO.out).2.1 HU.out).mono ?_); rintro e w124 ⟨rfl, hb⟩; refine ⟨_, rfl, ?_⟩; clear hcz7_0; replace HB := bq HB hb; replace BK4 := bw BK4 hb; replace BK7 := bw BK7 hb; replace HO := AM (Kd.R_below HO.out hb); clear hb; have hcz7_0 := bv BK7 0 (.slice A7 Y.length c7)))
  exact act_t0

set_option maxHeartbeats 8000000 in
set_option maxRecDepth 100000 in
/-- a file dropped -/
theorem act_drop (k : Nat) (A0_0 : Option Addr) (c0_0 : Nat) (l : List S67) (nm tx nw : ByteArray) (j : Nat) (hj : j < l.length) (w : World) (hr : Kd.C k67 w A0_0 l.length l) (hc : l.length ≤ c0_0) (hok : impl_DiskOk.f k l = some true) (hat : impl_fileAt.f l nm = some ((j : Int))) (ht : nw.toList = ([] : List UInt8)) (hx : tx.toList = ([] : List UInt8)) (hl : l.length ≤ 100000) (Y : List S67) (hY : Y = l.take j ++ l.drop (j + 1)) (u : Bool) (hu : impl_DiskOk.f k Y = some u) :
    Calls Try.prog 19 #[.agg #[.slice A0_0 l.length c0_0], .agg #[.int .i64 (4), .string nm, .string tx, .string nw]] w (ActPost (if u = true then Y else []) u w) := by
  have hu30 := Try.underlying30
  have hu41 := Try.underlying41
  have hu67 := Try.underlying67
  have hu28 := Try.underlying28
  have HJ := AM hj
  have hjb : (j : Int) ≤ 100000 := by omega
  have p1 := eq_true (show 0 ≤ (j : Int) by omega)
  have q2 : ((j : Int) < 0) = False := eq_false (by omega)
  have HL := AM hY
  have HU := AM hu
  have HLN := AM hl
  have HCP := AM (show impl_copyDisk.f l = some l by unfold impl_copyDisk.f; rw [if_pos (by omega)])
  clear hY hu hl
  have HR := AM hr
  have HCC := AM hc
  have HOK := AM hok
  have HK := AM hat
  clear hr hc hok hat
  have hht_0 : (nw.toList == ([] : List UInt8)) = true := beq_iff_eq.mpr ht
  have hht_1 : (nw.toList != ([] : List UInt8)) = false := bne_eq_false_iff_eq.mpr ht
  clear ht
  have hhx_0 : (tx.toList == ([] : List UInt8)) = true := beq_iff_eq.mpr hx
  have hhx_1 : (tx.toList != ([] : List UInt8)) = false := bne_eq_false_iff_eq.mpr hx
  clear hx
  have HB := AM (Below.refl w.heap.size w)
  go_enter Try.func19, Try.ntmps19
  go_upto_if 125 with (first | ((with_reducible refine gd 2 rfl ?_); refine bx (N := 2) (cs := #[.slice A0_0 l.length c0_0]) (t := 30) ?_; intro gb2 hg w2 hbox hb; have BK2 := AM (hbox); have GE2 := AM (bs hg HB); replace HB := bq HB hb; clear hb hbox hg; have hcz2_0 := bv BK2 0 (.slice A0_0 l.length c0_0)) | ((with_reducible refine gd 3 rfl ?_); refine bx (N := 3) (cs := #[.int .i64 (4), .string nm, .string tx, .string nw]) (t := 41) ?_; intro gb3 hg w3 hbox hb; clear hcz2_0; replace BK2 := bw BK2 hb; have BK3 := AM (hbox); have GE3 := AM (bs hg HB); replace HB := bq HB hb; clear hb hbox hg; have hcz2_0 := bv BK2 0 (.slice A0_0 l.length c0_0); have hcz3_0 := bv BK3 0 (.int .i64 (4)); have hcz3_1 := bv BK3 1 (.string nm); have hcz3_2 := bv BK3 2 (.string tx); have hcz3_3 := bv BK3 3 (.string nw)) | ((with_reducible refine gd 4 rfl ?_); refine bx (N := 4) (cs := #[.slice none 0 0]) (t := 30) ?_; intro gb4 hg w4 hbox hb; clear hcz2_0 hcz3_0 hcz3_1 hcz3_2 hcz3_3; replace BK3 := bw BK3 hb; have BK4 := AM (hbox); have GE4 := AM (bs hg HB); replace HB := bq HB hb; have NE2_4 := AM ((by rw [hg]; exact Nat.ne_of_lt (blk_lt BK2.out) : gb2 ≠ gb4)); replace BK2 := bw BK2 hb; clear hb hbox hg; have hcz2_0 := bv BK2 0 (.slice A0_0 l.length c0_0); have hcz3_0 := bv BK3 0 (.int .i64 (4)); have hcz3_1 := bv BK3 1 (.string nm); have hcz3_2 := bv BK3 2 (.string tx); have hcz3_3 := bv BK3 3 (.string nw)) | ((with_reducible refine gc 39 rfl ?_); refine gl 13 Try.func39 #[.agg #[.slice A0_0 l.length c0_0], .string nm] ?_; (with_reducible refine (impl_fileAt.calls _ _ l nm _ _ (Kd.C_below HR.out HB.out) HCC.out HK.out).mono ?_); rintro e w13 ⟨rfl, hb⟩; refine ⟨_, rfl, ?_⟩; clear hcz2_0 hcz3_0 hcz3_1 hcz3_2 hcz3_3; replace HB := bq HB hb; replace BK2 := bw BK2 hb; replace BK3 := bw BK3 hb; replace BK4 := bw BK4 hb; clear hb; have hcz2_0 := bv BK2 0 (.slice A0_0 l.length c0_0); have hcz3_0 := bv BK3 0 (.int .i64 (4)); have hcz3_1 := bv BK3 1 (.string nm); have hcz3_2 := bv BK3 2 (.string tx); have hcz3_3 := bv BK3 3 (.string nw)) | ((with_reducible refine gc 42 rfl ?_); refine gl 15 Try.func42 #[.agg #[.slice A0_0 l.length c0_0]] ?_; (with_reducible refine (impl_DiskOk.calls k _ _ l _ _ (Kd.C_below HR.out HB.out) HCC.out HOK.out).mono ?_); rintro e w15 ⟨rfl, hb⟩; refine ⟨_, rfl, ?_⟩; clear hcz2_0 hcz3_0 hcz3_1 hcz3_2 hcz3_3; replace HB := bq HB hb; replace BK2 := bw BK2 hb; replace BK3 := bw BK3 hb; replace BK4 := bw BK4 hb; clear hb; have hcz2_0 := bv BK2 0 (.slice A0_0 l.length c0_0); have hcz3_0 := bv BK3 0 (.int .i64 (4)); have hcz3_1 := bv BK3 1 (.string nm); have hcz3_2 := bv BK3 2 (.string tx); have hcz3_3 := bv BK3 3 (.string nw)) | ((with_reducible refine gc 48 rfl ?_); refine gl 43 Try.func48 #[.agg #[.slice A0_0 l.length c0_0]] ?_; (with_reducible refine (impl_copyDisk.calls _ _ l l _ (Kd.C_below HR.out HB.out) HCC.out HCP.out).mono ?_); rintro e w43 ⟨v0, rfl, ho, hb⟩; refine ⟨_, rfl, ?_⟩; clear hcz2_0 hcz3_0 hcz3_1 hcz3_2 hcz3_3; obtain ⟨Ao, co, rfl⟩ := Kd.R_slice ho; replace BK2 := bw BK2 hb; replace BK3 := bw BK3 hb; replace BK4 := bw BK4 hb; have HO := AM (Kd.R_lower ho (below_size (hB HB))); replace HB := bq HB hb; clear hb ho; have hcz2_0 := bv BK2 0 (.slice A0_0 l.length c0_0); have hcz3_0 := bv BK3 0 (.int .i64 (4)); have hcz3_1 := bv BK3 1 (.string nm); have hcz3_2 := bv BK3 2 (.string tx); have hcz3_3 := bv BK3 3 (.string nw)) | ((with_reducible refine gd 7 rfl ?_); refine bx (N := 7) (cs := #[.slice none 0 0]) (t := 30) ?_; intro gb7 hg w7 hbox hb; clear hcz2_0 hcz3_0 hcz3_1 hcz3_2 hcz3_3; replace BK3 := bw BK3 hb; replace HO := AM (Kd.R_below HO.out hb); have BK7 := AM (hbox); have GE7 := AM (bs hg HB); replace HB := bq HB hb; have NE2_7 := AM ((by rw [hg]; exact Nat.ne_of_lt (blk_lt BK2.out) : gb2 ≠ gb7)); replace BK2 := bw BK2 hb; have NE4_7 := AM ((by rw [hg]; exact Nat.ne_of_lt (blk_lt BK4.out) : gb4 ≠ gb7)); replace BK4 := bw BK4 hb; clear hb hbox hg; have hcz2_0 := bv BK2 0 (.slice A0_0 l.length c0_0); have hcz3_0 := bv BK3 0 (.int .i64 (4)); have hcz3_1 := bv BK3 1 (.string nm); have hcz3_2 := bv BK3 2 (.string tx); have hcz3_3 := bv BK3 3 (.string nw); have hcz7_0 := bv BK7 0 (.slice none 0 0)) | ((with_reducible refine gate_ (.store 30 (.tmp 7) (.tmp 43)) rfl ?_); refine blk_store_event rfl rfl 30 (.tmp 7) (.tmp 43) rfl gb7 0 (by rfl) (.agg #[.slice Ao l.length co]) (by rfl) #[.slice none 0 0] 30 BK7.out [.slice Ao l.length co] rfl (by kernel_rfl) (show 0 + 1 ≤ 1 by decide) (by intro q hq; simp at hq; first | (subst hq; rfl) | (rcases hq with rfl | rfl | rfl <;> rfl)) #[.slice Ao l.length co] rfl ?_; intro w7a hbox hg; clear hcz2_0 hcz3_0 hcz3_1 hcz3_2 hcz3_3 hcz7_0; replace HB := AM (HB.out.grown hg (below_size (hB HB)) (fun k hk => by injection hk with hk; have := GE7.out; omega)); replace BK2 := AM (blk_grown BK2.out hg (fun e => NE2_7.out (Option.some.inj e))); replace BK3 := AM (blk_grown BK3.out hg (fun e => (blk_ne BK3.out BK7.out (by decide)) (Option.some.inj e))); replace BK4 := AM (blk_grown BK4.out hg (fun e => NE4_7.out (Option.some.inj e))); replace HO := AM (Kd.R_mono (Kd.R_grown (Kd.R_types HO.out BK7.out (by decide)) hg (fun k hk e => hk.2 (Option.some.inj e))) (fun _ hk => hk.1)); replace BK7 := AM (hbox); clear hg hbox; have hcz2_0 := bv BK2 0 (.slice A0_0 l.length c0_0); have hcz3_0 := bv BK3 0 (.int .i64 (4)); have hcz3_1 := bv BK3 1 (.string nm); have hcz3_2 := bv BK3 2 (.string tx); have hcz3_3 := bv BK3 3 (.string nw); have hcz7_0 := bv BK7 0 (.slice Ao l.length co)) | ((with_reducible refine gc 50 rfl ?_); refine gl 121 Try.func50 #[.slice Ao l.length co, .int .i64 (j : Int), .int .i64 ((j : Int) + 1)] ?_; (with_reducible refine (delR w.heap.size j (.slice Ao l.length co) l _ ((j : Int) + 1) rfl HO.out HJ.out).mono ?_); rintro e w121 ⟨v9, rfl, hr, hg, hat⟩; refine ⟨_, rfl, ?_⟩; clear hcz2_0 hcz3_0 hcz3_1 hcz3_2 hcz3_3 hcz7_0; rw [← HL.out] at hr; obtain ⟨A9, c9, rfl⟩ := Kd.R_slice hr; replace HB := AM (HB.out.grown hg (below_size (hB HB)) (fun k hk => Kd.R_base HO.out k hk)); replace BK2 := AM (blk_grown BK2.out hg (Kd.R_ne HO.out BK2.out (by decide))); replace BK3 := AM (blk_grown BK3.out hg (Kd.R_ne HO.out BK3.out (by decide))); replace BK4 := AM (blk_grown BK4.out hg (Kd.R_ne HO.out BK4.out (by decide))); replace BK7 := AM (blk_grown BK7.out hg (Kd.R_ne HO.out BK7.out (by decide))); replace HO := AM (hr); clear hg hat hr; have hcz2_0 := bv BK2 0 (.slice A0_0 l.length c0_0); have hcz3_0 := bv BK3 0 (.int .i64 (4)); have hcz3_1 := bv BK3 1 (.string nm); have hcz3_2 := bv BK3 2 (.string tx); have hcz3_3 := bv BK3 3 (.string nw); have hcz7_0 := bv BK7 0 (.slice Ao l.length co)) | ((with_reducible refine gate_ (.store 28 (.tmp 122) (.tmp 121)) rfl ?_); refine blk_store_event rfl rfl 28 (.tmp 122) (.tmp 121) rfl gb7 0 (by rfl) (.slice A9 Y.length c9) (by rfl) #[.slice Ao l.length co] 30 BK7.out [.slice A9 Y.length c9] rfl (by kernel_rfl) (show 0 + 1 ≤ 1 by decide) (by intro q hq; simp at hq; first | (subst hq; rfl) | (rcases hq with rfl | rfl | rfl <;> rfl)) #[.slice A9 Y.length c9] rfl ?_; intro w122 hbox hg; clear hcz2_0 hcz3_0 hcz3_1 hcz3_2 hcz3_3 hcz7_0; replace HB := AM (HB.out.grown hg (below_size (hB HB)) (fun k hk => by injection hk with hk; have := GE7.out; omega)); replace BK2 := AM (blk_grown BK2.out hg (fun e => NE2_7.out (Option.some.inj e))); replace BK3 := AM (blk_grown BK3.out hg (fun e => (blk_ne BK3.out BK7.out (by decide)) (Option.some.inj e))); replace BK4 := AM (blk_grown BK4.out hg (fun e => NE4_7.out (Option.some.inj e))); replace HO := AM (Kd.R_mono (Kd.R_grown (Kd.R_types HO.out BK7.out (by decide)) hg (fun k hk e => hk.2 (Option.some.inj e))) (fun _ hk => hk.1)); replace BK7 := AM (hbox); clear hg hbox; have hcz2_0 := bv BK2 0 (.slice A0_0 l.length c0_0); have hcz3_0 := bv BK3 0 (.int .i64 (4)); have hcz3_1 := bv BK3 1 (.string nm); have hcz3_2 := bv BK3 2 (.string tx); have hcz3_3 := bv BK3 3 (.string nw); have hcz7_0 := bv BK7 0 (.slice A9 Y.length c9)) | ((with_reducible refine gc 42 rfl ?_); refine gl 124 Try.func42 #[.agg #[.slice A9 Y.length c9]] ?_; (with_reducible refine (impl_DiskOk.calls k _ _ Y u _ (Kd.R_reads' HO.out).2.2 (Kd.R_reads' HO.out).2.1 HU.out).mono ?_); rintro e w124 ⟨rfl, hb⟩; refine ⟨_, rfl, ?_⟩; clear hcz7_0; replace HB := bq HB hb; replace BK4 := bw BK4 hb; replace BK7 := bw BK7 hb; replace HO := AM (Kd.R_below HO.out hb); clear hb; have hcz7_0 := bv BK7 0 (.slice A9 Y.length c9)))
  cases u with
  | false =>
    go_wp2_with (first | ((with_reducible refine gate_ (.store 30 (.tmp 4) (.tmp 126)) rfl ?_); refine blk_store_event rfl rfl 30 (.tmp 4) (.tmp 126) rfl gb4 0 (by rfl) (.agg #[.slice none 0 0]) (by rfl) #[.slice none 0 0] 30 BK4.out [.slice none 0 0] rfl (by kernel_rfl) (show 0 + 1 ≤ 1 by decide) (by intro q hq; simp at hq; first | (subst hq; rfl) | (rcases hq with rfl | rfl | rfl <;> rfl)) #[.slice none 0 0] rfl ?_; intro w126 hbox hg; clear hcz7_0; replace HB := AM (HB.out.grown hg (below_size (hB HB)) (fun k hk => by injection hk with hk; have := GE4.out; omega)); replace BK7 := AM (blk_grown BK7.out hg (fun e => (Ne.symm NE4_7.out) (Option.some.inj e))); replace HO := AM (Kd.R_mono (Kd.R_grown (Kd.R_types HO.out BK4.out (by decide)) hg (fun k hk e => hk.2 (Option.some.inj e))) (fun _ hk => hk.1)); replace BK4 := AM (hbox); clear hg hbox; have hcz7_0 := bv BK7 0 (.slice A9 Y.length c9)))
    refine bodyPost_ret (results_ct rfl _ _ gb4 30 #[.slice none 0 0] (0, 0) _ rfl BK4.out Try.underlying30 rfl (by kernel_rfl)) rfl ?_
    exact ⟨_, rfl, Kd.R_nil _ _ _ _ _, HB.out⟩
  | true =>
    go_wp2_with (first | ((with_reducible refine gate_ (.store 30 (.tmp 4) (.tmp 127)) rfl ?_); refine blk_store_event rfl rfl 30 (.tmp 4) (.tmp 127) rfl gb4 0 (by rfl) (.agg #[.slice A9 Y.length c9]) (by rfl) #[.slice none 0 0] 30 BK4.out [.slice A9 Y.length c9] rfl (by kernel_rfl) (show 0 + 1 ≤ 1 by decide) (by intro q hq; simp at hq; first | (subst hq; rfl) | (rcases hq with rfl | rfl | rfl <;> rfl)) #[.slice A9 Y.length c9] rfl ?_; intro w127 hbox hg; clear hcz7_0; replace HB := AM (HB.out.grown hg (below_size (hB HB)) (fun k hk => by injection hk with hk; have := GE4.out; omega)); replace BK7 := AM (blk_grown BK7.out hg (fun e => (Ne.symm NE4_7.out) (Option.some.inj e))); replace HO := AM (Kd.R_mono (Kd.R_grown (Kd.R_types HO.out BK4.out (by decide)) hg (fun k hk e => hk.2 (Option.some.inj e))) (fun _ hk => hk.1)); replace BK4 := AM (hbox); clear hg hbox; have hcz7_0 := bv BK7 0 (.slice A9 Y.length c9)))
    refine bodyPost_ret (results_ct rfl _ _ gb4 30 #[.slice A9 Y.length c9] (0, 0) _ rfl BK4.out Try.underlying30 rfl (by kernel_rfl)) rfl ?_
    exact ⟨_, rfl, Kd.R_mono HO.out (fun _ _ => trivial), HB.out⟩

set_option maxHeartbeats 8000000 in
set_option maxRecDepth 100000 in
/-- no act -/
theorem act_none (k : Nat) (A0_0 : Option Addr) (c0_0 : Nat) (l : List S67) (kd : Int) (nm tx nw : ByteArray) (j : Nat) (hj : j < l.length) (w : World) (hr : Kd.C k67 w A0_0 l.length l) (hc : l.length ≤ c0_0) (hok : impl_DiskOk.f k l = some true) (hat : impl_fileAt.f l nm = some ((j : Int))) (k1 : ¬ kd = 1) (k2 : ¬ kd = 2) (k3 : ¬ kd = 3) (k4 : ¬ kd = 4) (ht : nw.toList = ([] : List UInt8)) (hx : tx.toList = ([] : List UInt8)) (hl : l.length ≤ 100000) :
    Calls Try.prog 19 #[.agg #[.slice A0_0 l.length c0_0], .agg #[.int .i64 kd, .string nm, .string tx, .string nw]] w (ActPost [] false w) := by
  have hu30 := Try.underlying30
  have hu41 := Try.underlying41
  have hu67 := Try.underlying67
  have hu28 := Try.underlying28
  have p1 := eq_true (show 0 ≤ (j : Int) by omega)
  have q2 : ((j : Int) < 0) = False := eq_false (by omega)
  have HCP := AM (show impl_copyDisk.f l = some l by unfold impl_copyDisk.f; rw [if_pos (by omega)])
  have HR := AM hr
  have HCC := AM hc
  have HOK := AM hok
  have HK := AM hat
  clear hr hc hok hat
  have hk1_0 : (kd == 1) = false := by simpa using k1
  have hk1_1 : (kd != 1) = true := by simpa using k1
  clear k1
  have hk2_0 : (kd == 2) = false := by simpa using k2
  have hk2_1 : (kd != 2) = true := by simpa using k2
  clear k2
  have hk3_0 : (kd == 3) = false := by simpa using k3
  have hk3_1 : (kd != 3) = true := by simpa using k3
  clear k3
  have hk4_0 : (kd == 4) = false := by simpa using k4
  have hk4_1 : (kd != 4) = true := by simpa using k4
  clear k4
  have hht_0 : (nw.toList == ([] : List UInt8)) = true := beq_iff_eq.mpr ht
  have hht_1 : (nw.toList != ([] : List UInt8)) = false := bne_eq_false_iff_eq.mpr ht
  clear ht
  have hhx_0 : (tx.toList == ([] : List UInt8)) = true := beq_iff_eq.mpr hx
  have hhx_1 : (tx.toList != ([] : List UInt8)) = false := bne_eq_false_iff_eq.mpr hx
  clear hx
  have HB := AM (Below.refl w.heap.size w)
  go_enter Try.func19, Try.ntmps19
  go_wp2_with (first | ((with_reducible refine gd 2 rfl ?_); refine bx (N := 2) (cs := #[.slice A0_0 l.length c0_0]) (t := 30) ?_; intro gb2 hg w2 hbox hb; have BK2 := AM (hbox); have GE2 := AM (bs hg HB); replace HB := bq HB hb; clear hb hbox hg; have hcz2_0 := bv BK2 0 (.slice A0_0 l.length c0_0)) | ((with_reducible refine gd 3 rfl ?_); refine bx (N := 3) (cs := #[.int .i64 kd, .string nm, .string tx, .string nw]) (t := 41) ?_; intro gb3 hg w3 hbox hb; clear hcz2_0; replace BK2 := bw BK2 hb; have BK3 := AM (hbox); have GE3 := AM (bs hg HB); replace HB := bq HB hb; clear hb hbox hg; have hcz2_0 := bv BK2 0 (.slice A0_0 l.length c0_0); have hcz3_0 := bv BK3 0 (.int .i64 kd); have hcz3_1 := bv BK3 1 (.string nm); have hcz3_2 := bv BK3 2 (.string tx); have hcz3_3 := bv BK3 3 (.string nw)) | ((with_reducible refine gd 4 rfl ?_); refine bx (N := 4) (cs := #[.slice none 0 0]) (t := 30) ?_; intro gb4 hg w4 hbox hb; clear hcz2_0 hcz3_0 hcz3_1 hcz3_2 hcz3_3; replace BK3 := bw BK3 hb; have BK4 := AM (hbox); have GE4 := AM (bs hg HB); replace HB := bq HB hb; have NE2_4 := AM ((by rw [hg]; exact Nat.ne_of_lt (blk_lt BK2.out) : gb2 ≠ gb4)); replace BK2 := bw BK2 hb; clear hb hbox hg; have hcz2_0 := bv BK2 0 (.slice A0_0 l.length c0_0); have hcz3_0 := bv BK3 0 (.int .i64 kd); have hcz3_1 := bv BK3 1 (.string nm); have hcz3_2 := bv BK3 2 (.string tx); have hcz3_3 := bv BK3 3 (.string nw)) | ((with_reducible refine gc 39 rfl ?_); refine gl 13 Try.func39 #[.agg #[.slice A0_0 l.length c0_0], .string nm] ?_; (with_reducible refine (impl_fileAt.calls _ _ l nm _ _ (Kd.C_below HR.out HB.out) HCC.out HK.out).mono ?_); rintro e w13 ⟨rfl, hb⟩; refine ⟨_, rfl, ?_⟩; clear hcz2_0 hcz3_0 hcz3_1 hcz3_2 hcz3_3; replace HB := bq HB hb; replace BK2 := bw BK2 hb; replace BK3 := bw BK3 hb; replace BK4 := bw BK4 hb; clear hb; have hcz2_0 := bv BK2 0 (.slice A0_0 l.length c0_0); have hcz3_0 := bv BK3 0 (.int .i64 kd); have hcz3_1 := bv BK3 1 (.string nm); have hcz3_2 := bv BK3 2 (.string tx); have hcz3_3 := bv BK3 3 (.string nw)) | ((with_reducible refine gc 42 rfl ?_); refine gl 15 Try.func42 #[.agg #[.slice A0_0 l.length c0_0]] ?_; (with_reducible refine (impl_DiskOk.calls k _ _ l _ _ (Kd.C_below HR.out HB.out) HCC.out HOK.out).mono ?_); rintro e w15 ⟨rfl, hb⟩; refine ⟨_, rfl, ?_⟩; clear hcz2_0 hcz3_0 hcz3_1 hcz3_2 hcz3_3; replace HB := bq HB hb; replace BK2 := bw BK2 hb; replace BK3 := bw BK3 hb; replace BK4 := bw BK4 hb; clear hb; have hcz2_0 := bv BK2 0 (.slice A0_0 l.length c0_0); have hcz3_0 := bv BK3 0 (.int .i64 kd); have hcz3_1 := bv BK3 1 (.string nm); have hcz3_2 := bv BK3 2 (.string tx); have hcz3_3 := bv BK3 3 (.string nw)) | ((with_reducible refine gc 48 rfl ?_); refine gl 43 Try.func48 #[.agg #[.slice A0_0 l.length c0_0]] ?_; (with_reducible refine (impl_copyDisk.calls _ _ l l _ (Kd.C_below HR.out HB.out) HCC.out HCP.out).mono ?_); rintro e w43 ⟨v0, rfl, ho, hb⟩; refine ⟨_, rfl, ?_⟩; clear hcz2_0 hcz3_0 hcz3_1 hcz3_2 hcz3_3; obtain ⟨Ao, co, rfl⟩ := Kd.R_slice ho; replace BK2 := bw BK2 hb; replace BK3 := bw BK3 hb; replace BK4 := bw BK4 hb; have HO := AM (Kd.R_lower ho (below_size (hB HB))); replace HB := bq HB hb; clear hb ho; have hcz2_0 := bv BK2 0 (.slice A0_0 l.length c0_0); have hcz3_0 := bv BK3 0 (.int .i64 kd); have hcz3_1 := bv BK3 1 (.string nm); have hcz3_2 := bv BK3 2 (.string tx); have hcz3_3 := bv BK3 3 (.string nw)) | ((with_reducible refine gd 7 rfl ?_); refine bx (N := 7) (cs := #[.slice none 0 0]) (t := 30) ?_; intro gb7 hg w7 hbox hb; clear hcz2_0 hcz3_0 hcz3_1 hcz3_2 hcz3_3; replace BK3 := bw BK3 hb; replace HO := AM (Kd.R_below HO.out hb); have BK7 := AM (hbox); have GE7 := AM (bs hg HB); replace HB := bq HB hb; have NE2_7 := AM ((by rw [hg]; exact Nat.ne_of_lt (blk_lt BK2.out) : gb2 ≠ gb7)); replace BK2 := bw BK2 hb; have NE4_7 := AM ((by rw [hg]; exact Nat.ne_of_lt (blk_lt BK4.out) : gb4 ≠ gb7)); replace BK4 := bw BK4 hb; clear hb hbox hg; have hcz2_0 := bv BK2 0 (.slice A0_0 l.length c0_0); have hcz3_0 := bv BK3 0 (.int .i64 kd); have hcz3_1 := bv BK3 1 (.string nm); have hcz3_2 := bv BK3 2 (.string tx); have hcz3_3 := bv BK3 3 (.string nw); have hcz7_0 := bv BK7 0 (.slice none 0 0)) | ((with_reducible refine gate_ (.store 30 (.tmp 7) (.tmp 43)) rfl ?_); refine blk_store_event rfl rfl 30 (.tmp 7) (.tmp 43) rfl gb7 0 (by rfl) (.agg #[.slice Ao l.length co]) (by rfl) #[.slice none 0 0] 30 BK7.out [.slice Ao l.length co] rfl (by kernel_rfl) (show 0 + 1 ≤ 1 by decide) (by intro q hq; simp at hq; first | (subst hq; rfl) | (rcases hq with rfl | rfl | rfl <;> rfl)) #[.slice Ao l.length co] rfl ?_; intro w7a hbox hg; clear hcz2_0 hcz3_0 hcz3_1 hcz3_2 hcz3_3 hcz7_0; replace HB := AM (HB.out.grown hg (below_size (hB HB)) (fun k hk => by injection hk with hk; have := GE7.out; omega)); replace BK2 := AM (blk_grown BK2.out hg (fun e => NE2_7.out (Option.some.inj e))); replace BK3 := AM (blk_grown BK3.out hg (fun e => (blk_ne BK3.out BK7.out (by decide)) (Option.some.inj e))); replace BK4 := AM (blk_grown BK4.out hg (fun e => NE4_7.out (Option.some.inj e))); replace HO := AM (Kd.R_mono (Kd.R_grown (Kd.R_types HO.out BK7.out (by decide)) hg (fun k hk e => hk.2 (Option.some.inj e))) (fun _ hk => hk.1)); replace BK7 := AM (hbox); clear hg hbox; have hcz2_0 := bv BK2 0 (.slice A0_0 l.length c0_0); have hcz3_0 := bv BK3 0 (.int .i64 kd); have hcz3_1 := bv BK3 1 (.string nm); have hcz3_2 := bv BK3 2 (.string tx); have hcz3_3 := bv BK3 3 (.string nw); have hcz7_0 := bv BK7 0 (.slice Ao l.length co)) | ((with_reducible refine gate_ (.store 30 (.tmp 4) (.tmp 46)) rfl ?_); refine blk_store_event rfl rfl 30 (.tmp 4) (.tmp 46) rfl gb4 0 (by rfl) (.agg #[.slice none 0 0]) (by rfl) #[.slice none 0 0] 30 BK4.out [.slice none 0 0] rfl (by kernel_rfl) (show 0 + 1 ≤ 1 by decide) (by intro q hq; simp at hq; first | (subst hq; rfl) | (rcases hq with rfl | rfl | rfl <;> rfl)) #[.slice none 0 0] rfl ?_; intro w46 hbox hg; clear hcz2_0 hcz3_0 hcz3_1 hcz3_2 hcz3_3 hcz7_0; replace HB := AM (HB.out.grown hg (below_size (hB HB)) (fun k hk => by injection hk with hk; have := GE4.out; omega)); replace BK2 := AM (blk_grown BK2.out hg (fun e => NE2_4.out (Option.some.inj e))); replace BK3 := AM (blk_grown BK3.out hg (fun e => (blk_ne BK3.out BK4.out (by decide)) (Option.some.inj e))); replace BK7 := AM (blk_grown BK7.out hg (fun e => (Ne.symm NE4_7.out) (Option.some.inj e))); replace HO := AM (Kd.R_mono (Kd.R_grown (Kd.R_types HO.out BK4.out (by decide)) hg (fun k hk e => hk.2 (Option.some.inj e))) (fun _ hk => hk.1)); replace BK4 := AM (hbox); clear hg hbox; have hcz2_0 := bv BK2 0 (.slice A0_0 l.length c0_0); have hcz3_0 := bv BK3 0 (.int .i64 kd); have hcz3_1 := bv BK3 1 (.string nm); have hcz3_2 := bv BK3 2 (.string tx); have hcz3_3 := bv BK3 3 (.string nw); have hcz7_0 := bv BK7 0 (.slice Ao l.length co)))
  refine bodyPost_ret (results_ct rfl _ _ gb4 30 #[.slice none 0 0] (0, 0) _ rfl BK4.out Try.underlying30 rfl (by kernel_rfl)) rfl ?_
  exact ⟨_, rfl, Kd.R_nil _ _ _ _ _, HB.out⟩

set_option maxHeartbeats 8000000 in
set_option maxRecDepth 100000 in
/-- a move that is refused -/
theorem act_mv_same (k : Nat) (A0_0 : Option Addr) (c0_0 : Nat) (l : List S67) (nm tx nw : ByteArray) (j : Nat) (hj : j < l.length) (w : World) (hr : Kd.C k67 w A0_0 l.length l) (hc : l.length ≤ c0_0) (hok : impl_DiskOk.f k l = some true) (hat : impl_fileAt.f l nm = some ((j : Int))) (hx : tx.toList = ([] : List UInt8)) (hm : nw.toList = nm.toList) (hl : l.length ≤ 100000) :
    Calls Try.prog 19 #[.agg #[.slice A0_0 l.length c0_0], .agg #[.int .i64 (3), .string nm, .string tx, .string nw]] w (ActPost [] false w) := by
  have hu30 := Try.underlying30
  have hu41 := Try.underlying41
  have hu67 := Try.underlying67
  have hu28 := Try.underlying28
  obtain ⟨x, hxx⟩ : ∃ x, x = rd_T67 l (j : Int) := ⟨_, rfl⟩
  obtain ⟨ad, e, hx0, hx1, hx2⟩ := at_T67 hr (j : Int) (by omega) (by omega)
  cases e
  rw [Int.toNat_natCast] at hx0 hx1 hx2
  rw [← hxx] at hx0 hx1 hx2
  have HX0 := AM hx0
  have HX1 := AM hx1
  have HX2 := AM hx2
  have HXX := AM hxx
  clear hx0 hx1 hx2 hxx
  have p1 := eq_true (show 0 ≤ (j : Int) by omega)
  have q1 := eq_true (show (j : Int) < (l.length : Int) by omega)
  have HJ := AM hj
  have hjb : (j : Int) ≤ 100000 := by omega
  have q2 : ((j : Int) < 0) = False := eq_false (by omega)
  have HCP := AM (show impl_copyDisk.f l = some l by unfold impl_copyDisk.f; rw [if_pos (by omega)])
  have HR := AM hr
  have HCC := AM hc
  have HOK := AM hok
  have HK := AM hat
  clear hr hc hok hat
  have hhx_0 : (tx.toList == ([] : List UInt8)) = true := beq_iff_eq.mpr hx
  have hhx_1 : (tx.toList != ([] : List UInt8)) = false := bne_eq_false_iff_eq.mpr hx
  clear hx
  have hm0 : (nw.toList == nm.toList) = true := beq_iff_eq.mpr hm
  have hm1 : (nw.toList != nm.toList) = false := bne_eq_false_iff_eq.mpr hm
  clear hm
  have HB := AM (Below.refl w.heap.size w)
  exact act_t1

set_option maxHeartbeats 8000000 in
set_option maxRecDepth 100000 in
/-- a move that is refused -/
theorem act_mv_open (k : Nat) (A0_0 : Option Addr) (c0_0 : Nat) (l : List S67) (nm tx nw : ByteArray) (j : Nat) (hj : j < l.length) (w : World) (hr : Kd.C k67 w A0_0 l.length l) (hc : l.length ≤ c0_0) (hok : impl_DiskOk.f k l = some true) (hat : impl_fileAt.f l nm = some ((j : Int))) (hx : tx.toList = ([] : List UInt8)) (hm : ¬ nw.toList = nm.toList) (hkp : ¬ (rd_T67 l (j : Int)).f2 = ((rd_T67 l (j : Int)).f1.size : Int)) (hl : l.length ≤ 100000) :
    Calls Try.prog 19 #[.agg #[.slice A0_0 l.length c0_0], .agg #[.int .i64 (3), .string nm, .string tx, .string nw]] w (ActPost [] false w) := by
  have hu30 := Try.underlying30
  have hu41 := Try.underlying41
  have hu67 := Try.underlying67
  have hu28 := Try.underlying28
  obtain ⟨x, hxx⟩ : ∃ x, x = rd_T67 l (j : Int) := ⟨_, rfl⟩
  obtain ⟨ad, e, hx0, hx1, hx2⟩ := at_T67 hr (j : Int) (by omega) (by omega)
  cases e
  rw [Int.toNat_natCast] at hx0 hx1 hx2
  rw [← hxx] at hx0 hx1 hx2 hkp
  have HX0 := AM hx0
  have HX1 := AM hx1
  have HX2 := AM hx2
  have HXX := AM hxx
  clear hx0 hx1 hx2 hxx
  have p1 := eq_true (show 0 ≤ (j : Int) by omega)
  have q1 := eq_true (show (j : Int) < (l.length : Int) by omega)
  have HJ := AM hj
  have hjb : (j : Int) ≤ 100000 := by omega
  have q2 : ((j : Int) < 0) = False := eq_false (by omega)
  have HCP := AM (show impl_copyDisk.f l = some l by unfold impl_copyDisk.f; rw [if_pos (by omega)])
  have HR := AM hr
  have HCC := AM hc
  have HOK := AM hok
  have HK := AM hat
  clear hr hc hok hat
  have hhx_0 : (tx.toList == ([] : List UInt8)) = true := beq_iff_eq.mpr hx
  have hhx_1 : (tx.toList != ([] : List UInt8)) = false := bne_eq_false_iff_eq.mpr hx
  clear hx
  have hm0 : (nw.toList == nm.toList) = false := beq_eq_false_iff_ne.mpr hm
  have hm1 : (nw.toList != nm.toList) = true := bne_iff_ne.mpr hm
  clear hm
  have hk0 : (x.f2 == (x.f1.size : Int)) = false := beq_eq_false_iff_ne.mpr hkp
  have hk1 : (x.f2 != (x.f1.size : Int)) = true := bne_iff_ne.mpr hkp
  clear hkp
  have HB := AM (Below.refl w.heap.size w)
  exact act_t1

set_option maxHeartbeats 8000000 in
set_option maxRecDepth 100000 in
/-- a move -/
theorem act_mv (k : Nat) (A0_0 : Option Addr) (c0_0 : Nat) (l : List S67) (nm tx nw : ByteArray) (j : Nat) (hj : j < l.length) (w : World) (hr : Kd.C k67 w A0_0 l.length l) (hc : l.length ≤ c0_0) (hok : impl_DiskOk.f k l = some true) (hat : impl_fileAt.f l nm = some ((j : Int))) (hx : tx.toList = ([] : List UInt8)) (hm : ¬ nw.toList = nm.toList) (hkp : (rd_T67 l (j : Int)).f2 = ((rd_T67 l (j : Int)).f1.size : Int)) (hl : l.length ≤ 100000) (L : List S67) (hL : L = l.take j ++ l.drop (j + 1)) (Y : List S67) (hY : Y = putL L ⟨nw, (rd_T67 l (j : Int)).f1, (rd_T67 l (j : Int)).f2⟩) (u : Bool) (hu : impl_DiskOk.f k Y = some u) :
    Calls Try.prog 19 #[.agg #[.slice A0_0 l.length c0_0], .agg #[.int .i64 (3), .string nm, .string tx, .string nw]] w (ActPost (if u = true then Y else []) u w) := by
  have hu30 := Try.underlying30
  have hu41 := Try.underlying41
  have hu67 := Try.underlying67
  have hu28 := Try.underlying28
  obtain ⟨x, hxx⟩ : ∃ x, x = rd_T67 l (j : Int) := ⟨_, rfl⟩
  obtain ⟨ad, e, hx0, hx1, hx2⟩ := at_T67 hr (j : Int) (by omega) (by omega)
  cases e
  rw [Int.toNat_natCast] at hx0 hx1 hx2
  rw [← hxx] at hx0 hx1 hx2 hkp hY
  have HX0 := AM hx0
  have HX1 := AM hx1
  have HX2 := AM hx2
  have HXX := AM hxx
  clear hx0 hx1 hx2 hxx
  have p1 := eq_true (show 0 ≤ (j : Int) by omega)
  have q1 := eq_true (show (j : Int) < (l.length : Int) by omega)
  have HJ := AM hj
  have hjb : (j : Int) ≤ 100000 := by omega
  have q2 : ((j : Int) < 0) = False := eq_false (by omega)
  have HLL := AM (show L.length ≤ 100000 by rw [hL]; simp; omega)
  have HL := AM hL
  clear hL
  have HY := AM hY
  have HU := AM hu
  have HLN := AM hl
  have HCP := AM (show impl_copyDisk.f l = some l by unfold impl_copyDisk.f; rw [if_pos (by omega)])
  clear hY hu hl
  have HR := AM hr
  have HCC := AM hc
  have HOK := AM hok
  have HK := AM hat
  clear hr hc hok hat
  have hhx_0 : (tx.toList == ([] : List UInt8)) = true := beq_iff_eq.mpr hx
  have hhx_1 : (tx.toList != ([] : List UInt8)) = false := bne_eq_false_iff_eq.mpr hx
  clear hx
  have hm0 : (nw.toList == nm.toList) = false := beq_eq_false_iff_ne.mpr hm
  have hm1 : (nw.toList != nm.toList) = true := bne_iff_ne.mpr hm
  clear hm
  have hk0 : (x.f2 == (x.f1.size : Int)) = true := beq_iff_eq.mpr hkp
  have hk1 : (x.f2 != (x.f1.size : Int)) = false := bne_eq_false_iff_eq.mpr hkp
  clear hkp
  have HB := AM (Below.refl w.heap.size w)
  go_enter Try.func19, Try.ntmps19
  go_upto_if 125 with (first | ((with_reducible refine gd 2 rfl ?_); refine bx (N := 2) (cs := #[.slice (some ad) l.length c0_0]) (t := 30) ?_; intro gb2 hg w2 hbox hb; have BK2 := AM (hbox); have GE2 := AM (bs hg HB); replace HB := bq HB hb; clear hb hbox hg; have hcz2_0 := bv BK2 0 (.slice (some ad) l.length c0_0); have hxx0 := cl HB HX0.out; have hxx1 := cl HB HX1.out; have hxx2 := cl HB HX2.out) | ((with_reducible refine gd 3 rfl ?_); refine bx (N := 3) (cs := #[.int .i64 (3), .string nm, .string tx, .string nw]) (t := 41) ?_; intro gb3 hg w3 hbox hb; clear hcz2_0 hxx0 hxx1 hxx2; replace BK2 := bw BK2 hb; have BK3 := AM (hbox); have GE3 := AM (bs hg HB); replace HB := bq HB hb; clear hb hbox hg; have hcz2_0 := bv BK2 0 (.slice (some ad) l.length c0_0); have hcz3_0 := bv BK3 0 (.int .i64 (3)); have hcz3_1 := bv BK3 1 (.string nm); have hcz3_2 := bv BK3 2 (.string tx); have hcz3_3 := bv BK3 3 (.string nw); have hxx0 := cl HB HX0.out; have hxx1 := cl HB HX1.out; have hxx2 := cl HB HX2.out) | ((with_reducible refine gd 4 rfl ?_); refine bx (N := 4) (cs := #[.slice none 0 0]) (t := 30) ?_; intro gb4 hg w4 hbox hb; clear hcz2_0 hcz3_0 hcz3_1 hcz3_2 hcz3_3 hxx0 hxx1 hxx2; replace BK3 := bw BK3 hb; have BK4 := AM (hbox); have GE4 := AM (bs hg HB); replace HB := bq HB hb; have NE2_4 := AM ((by rw [hg]; exact Nat.ne_of_lt (blk_lt BK2.out) : gb2 ≠ gb4)); replace BK2 := bw BK2 hb; clear hb hbox hg; have hcz2_0 := bv BK2 0 (.slice (some ad) l.length c0_0); have hcz3_0 := bv BK3 0 (.int .i64 (3)); have hcz3_1 := bv BK3 1 (.string nm); have hcz3_2 := bv BK3 2 (.string tx); have hcz3_3 := bv BK3 3 (.string nw); have hxx0 := cl HB HX0.out; have hxx1 := cl HB HX1.out; have hxx2 := cl HB HX2.out) | ((with_reducible refine gc 39 rfl ?_); refine gl 13 Try.func39 #[.agg #[.slice (some ad) l.length c0_0], .string nm] ?_; (with_reducible refine (impl_fileAt.calls _ _ l nm _ _ (Kd.C_below HR.out HB.out) HCC.out HK.out).mono ?_); rintro e w13 ⟨rfl, hb⟩; refine ⟨_, rfl, ?_⟩; clear hcz2_0 hcz3_0 hcz3_1 hcz3_2 hcz3_3 hxx0 hxx1 hxx2; replace HB := bq HB hb; replace BK2 := bw BK2 hb; replace BK3 := bw BK3 hb; replace BK4 := bw BK4 hb; clear hb; have hcz2_0 := bv BK2 0 (.slice (some ad) l.length c0_0); have hcz3_0 := bv BK3 0 (.int .i64 (3)); have hcz3_1 := bv BK3 1 (.string nm); have hcz3_2 := bv BK3 2 (.string tx); have hcz3_3 := bv BK3 3 (.string nw); have hxx0 := cl HB HX0.out; have hxx1 := cl HB HX1.out; have hxx2 := cl HB HX2.out) | ((with_reducible refine gc 42 rfl ?_); refine gl 15 Try.func42 #[.agg #[.slice (some ad) l.length c0_0]] ?_; (with_reducible refine (impl_DiskOk.calls k _ _ l _ _ (Kd.C_below HR.out HB.out) HCC.out HOK.out).mono ?_); rintro e w15 ⟨rfl, hb⟩; refine ⟨_, rfl, ?_⟩; clear hcz2_0 hcz3_0 hcz3_1 hcz3_2 hcz3_3 hxx0 hxx1 hxx2; replace HB := bq HB hb; replace BK2 := bw BK2 hb; replace BK3 := bw BK3 hb; replace BK4 := bw BK4 hb; clear hb; have hcz2_0 := bv BK2 0 (.slice (some ad) l.length c0_0); have hcz3_0 := bv BK3 0 (.int .i64 (3)); have hcz3_1 := bv BK3 1 (.string nm); have hcz3_2 := bv BK3 2 (.string tx); have hcz3_3 := bv BK3 3 (.string nw); have hxx0 := cl HB HX0.out; have hxx1 := cl HB HX1.out; have hxx2 := cl HB HX2.out) | ((with_reducible refine gc 48 rfl ?_); refine gl 43 Try.func48 #[.agg #[.slice (some ad) l.length c0_0]] ?_; (with_reducible refine (impl_copyDisk.calls _ _ l l _ (Kd.C_below HR.out HB.out) HCC.out HCP.out).mono ?_); rintro e w43 ⟨v0, rfl, ho, hb⟩; refine ⟨_, rfl, ?_⟩; clear hcz2_0 hcz3_0 hcz3_1 hcz3_2 hcz3_3 hxx0 hxx1 hxx2; obtain ⟨Ao, co, rfl⟩ := Kd.R_slice ho; replace BK2 := bw BK2 hb; replace BK3 := bw BK3 hb; replace BK4 := bw BK4 hb; have HO := AM (Kd.R_lower ho (below_size (hB HB))); replace HB := bq HB hb; clear hb ho; have hcz2_0 := bv BK2 0 (.slice (some ad) l.length c0_0); have hcz3_0 := bv BK3 0 (.int .i64 (3)); have hcz3_1 := bv BK3 1 (.string nm); have hcz3_2 := bv BK3 2 (.string tx); have hcz3_3 := bv BK3 3 (.string nw); have hxx0 := cl HB HX0.out; have hxx1 := cl HB HX1.out; have hxx2 := cl HB HX2.out) | ((with_reducible refine gd 7 rfl ?_); refine bx (N := 7) (cs := #[.slice none 0 0]) (t := 30) ?_; intro gb7 hg w7 hbox hb; clear hcz2_0 hcz3_0 hcz3_1 hcz3_2 hcz3_3 hxx0 hxx1 hxx2; replace BK3 := bw BK3 hb; replace HO := AM (Kd.R_below HO.out hb); have BK7 := AM (hbox); have GE7 := AM (bs hg HB); replace HB := bq HB hb; have NE2_7 := AM ((by rw [hg]; exact Nat.ne_of_lt (blk_lt BK2.out) : gb2 ≠ gb7)); replace BK2 := bw BK2 hb; have NE4_7 := AM ((by rw [hg]; exact Nat.ne_of_lt (blk_lt BK4.out) : gb4 ≠ gb7)); replace BK4 := bw BK4 hb; clear hb hbox hg; have hcz2_0 := bv BK2 0 (.slice (some ad) l.length c0_0); have hcz3_0 := bv BK3 0 (.int .i64 (3)); have hcz3_1 := bv BK3 1 (.string nm); have hcz3_2 := bv BK3 2 (.string tx); have hcz3_3 := bv BK3 3 (.string nw); have hcz7_0 := bv BK7 0 (.slice none 0 0); have hxx0 := cl HB HX0.out; have hxx1 := cl HB HX1.out; have hxx2 := cl HB HX2.out) | ((with_reducible refine gate_ (.store 30 (.tmp 7) (.tmp 43)) rfl ?_); refine blk_store_event rfl rfl 30 (.tmp 7) (.tmp 43) rfl gb7 0 (by rfl) (.agg #[.slice Ao l.length co]) (by rfl) #[.slice none 0 0] 30 BK7.out [.slice Ao l.length co] rfl (by kernel_rfl) (show 0 + 1 ≤ 1 by decide) (by intro q hq; simp at hq; first | (subst hq; rfl) | (rcases hq with rfl | rfl | rfl <;> rfl)) #[.slice Ao l.length co] rfl ?_; intro w7a hbox hg; clear hcz2_0 hcz3_0 hcz3_1 hcz3_2 hcz3_3 hcz7_0 hxx0 hxx1 hxx2; replace HB := AM (HB.out.grown hg (below_size (hB HB)) (fun k hk => by injection hk with hk; have := GE7.out; omega)); replace BK2 := AM (blk_grown BK2.out hg (fun e => NE2_7.out (Option.some.inj e))); replace BK3 := AM (blk_grown BK3.out hg (fun e => (blk_ne BK3.out BK7.out (by decide)) (Option.some.inj e))); replace BK4 := AM (blk_grown BK4.out hg (fun e => NE4_7.out (Option.some.inj e))); replace HO := AM (Kd.R_mono (Kd.R_grown (Kd.R_types HO.out BK7.out (by decide)) hg (fun k hk e => hk.2 (Option.some.inj e))) (fun _ hk => hk.1)); replace BK7 := AM (hbox); clear hg hbox; have hcz2_0 := bv BK2 0 (.slice (some ad) l.length c0_0); have hcz3_0 := bv BK3 0 (.int .i64 (3)); have hcz3_1 := bv BK3 1 (.string nm); have hcz3_2 := bv BK3 2 (.string tx); have hcz3_3 := bv BK3 3 (.string nw); have hcz7_0 := bv BK7 0 (.slice Ao l.length co); have hxx0 := cl HB HX0.out; have hxx1 := cl HB HX1.out; have hxx2 := cl HB HX2.out) | ((with_reducible refine gd 9 rfl ?_); refine bx (N := 9) (cs := #[.string (⟨#[]⟩ : ByteArray), .string (⟨#[]⟩ : ByteArray), .int .i64 0]) (t := 67) ?_; intro gb9 hg w9 hbox hb; clear hcz2_0 hcz3_0 hcz3_1 hcz3_2 hcz3_3 hcz7_0 hxx0 hxx1 hxx2; replace BK2 := bw BK2 hb; replace BK3 := bw BK3 hb; replace BK4 := bw BK4 hb; replace BK7 := bw BK7 hb; replace HO := AM (Kd.R_below (Kd.R_elderB HO.out gb9 (Nat.le_of_eq hg.symm)) hb); have BK9 := AM (hbox); have GE9 := AM (bs hg HB); replace HB := bq HB hb; clear hb hbox hg; have hcz2_0 := bv BK2 0 (.slice (some ad) l.length c0_0); have hcz3_0 := bv BK3 0 (.int .i64 (3)); have hcz3_1 := bv BK3 1 (.string nm); have hcz3_2 := bv BK3 2 (.string tx); have hcz3_3 := bv BK3 3 (.string nw); have hcz7_0 := bv BK7 0 (.slice Ao l.length co); have hcz9_0 := bv BK9 0 (.string (⟨#[]⟩ : ByteArray)); have hcz9_1 := bv BK9 1 (.string (⟨#[]⟩ : ByteArray)); have hcz9_2 := bv BK9 2 (.int .i64 0); have hxx0 := cl HB HX0.out; have hxx1 := cl HB HX1.out; have hxx2 := cl HB HX2.out) | ((with_reducible refine gate_ (.store 67 (.tmp 9) (.tmp 87)) rfl ?_); refine blk_store_event rfl rfl 67 (.tmp 9) (.tmp 87) rfl gb9 0 (by rfl) (.agg #[.string x.f0, .string x.f1, .int .i64 x.f2]) (by rfl) #[.string (⟨#[]⟩ : ByteArray), .string (⟨#[]⟩ : ByteArray), .int .i64 0] 67 BK9.out [.string x.f0, .string x.f1, .int .i64 x.f2] rfl (by kernel_rfl) (show 0 + 3 ≤ 3 by decide) (by intro q hq; simp at hq; first | (subst hq; rfl) | (rcases hq with rfl | rfl | rfl <;> rfl)) #[.string x.f0, .string x.f1, .int .i64 x.f2] rfl ?_; intro w9a hbox hg; clear hcz2_0 hcz3_0 hcz3_1 hcz3_2 hcz3_3 hcz7_0 hcz9_0 hcz9_1 hcz9_2 hxx0 hxx1 hxx2; replace HB := AM (HB.out.grown hg (below_size (hB HB)) (fun k hk => by injection hk with hk; have := GE9.out; omega)); replace BK2 := AM (blk_grown BK2.out hg (fun e => (blk_ne BK2.out BK9.out (by decide)) (Option.some.inj e))); replace BK3 := AM (blk_grown BK3.out hg (fun e => (blk_ne BK3.out BK9.out (by decide)) (Option.some.inj e))); replace BK4 := AM (blk_grown BK4.out hg (fun e => (blk_ne BK4.out BK9.out (by decide)) (Option.some.inj e))); replace BK7 := AM (blk_grown BK7.out hg (fun e => (blk_ne BK7.out BK9.out (by decide)) (Option.some.inj e))); replace HO := AM (Kd.R_grown HO.out hg (fun k hk e => hk.2 (Option.some.inj e))); replace BK9 := AM (hbox); clear hg hbox; have hcz2_0 := bv BK2 0 (.slice (some ad) l.length c0_0); have hcz3_0 := bv BK3 0 (.int .i64 (3)); have hcz3_1 := bv BK3 1 (.string nm); have hcz3_2 := bv BK3 2 (.string tx); have hcz3_3 := bv BK3 3 (.string nw); have hcz7_0 := bv BK7 0 (.slice Ao l.length co); have hcz9_0 := bv BK9 0 (.string x.f0); have hcz9_1 := bv BK9 1 (.string x.f1); have hcz9_2 := bv BK9 2 (.int .i64 x.f2); have hxx0 := cl HB HX0.out; have hxx1 := cl HB HX1.out; have hxx2 := cl HB HX2.out) | ((with_reducible refine gc 50 rfl ?_); refine gl 107 Try.func50 #[.slice Ao l.length co, .int .i64 (j : Int), .int .i64 ((j : Int) + 1)] ?_; (with_reducible refine (delR w.heap.size j (.slice Ao l.length co) l _ ((j : Int) + 1) rfl HO.out HJ.out).mono ?_); rintro e w107 ⟨v9, rfl, hr, hg, hat⟩; refine ⟨_, rfl, ?_⟩; clear hcz2_0 hcz3_0 hcz3_1 hcz3_2 hcz3_3 hcz7_0 hcz9_0 hcz9_1 hcz9_2 hxx0 hxx1 hxx2; rw [← HL.out] at hr; obtain ⟨A9, c9, rfl⟩ := Kd.R_slice hr; have n0_ := AM (HB.out.grown hg (below_size (hB HB)) (fun k hk => Kd.R_base HO.out k hk)); have n1_ := AM (blk_grown BK2.out hg (Kd.R_ne HO.out BK2.out (by decide))); have n2_ := AM (blk_grown BK3.out hg (Kd.R_ne HO.out BK3.out (by decide))); have n3_ := AM (blk_grown BK4.out hg (Kd.R_ne HO.out BK4.out (by decide))); have n4_ := AM (blk_grown BK7.out hg (Kd.R_ne HO.out BK7.out (by decide))); have n5_ := AM (blk_grown BK9.out hg (fun e => (HO.out.1 _ e.symm).2 rfl)); have n6_ := AM (rowF_mk' (ok := fun k_ => True ∧ k_ ≠ gb9) (rowF_of hr) (fun k hk => ⟨trivial, by rcases hat with h_ | h_ <;> rw [h_] at hk <;> first | exact (HO.out.1 _ hk).2 | (injection hk with hk; have := blk_lt BK9.out; omega)⟩)); clear HB BK2 BK3 BK4 BK7 BK9 HO; have HB := n0_; have BK2 := n1_; have BK3 := n2_; have BK4 := n3_; have BK7 := n4_; have BK9 := n5_; have HO := n6_; clear n0_ n1_ n2_ n3_ n4_ n5_ n6_; clear hg hat hr; have hcz2_0 := bv BK2 0 (.slice (some ad) l.length c0_0); have hcz3_0 := bv BK3 0 (.int .i64 (3)); have hcz3_1 := bv BK3 1 (.string nm); have hcz3_2 := bv BK3 2 (.string tx); have hcz3_3 := bv BK3 3 (.string nw); have hcz7_0 := bv BK7 0 (.slice Ao l.length co); have hcz9_0 := bv BK9 0 (.string x.f0); have hcz9_1 := bv BK9 1 (.string x.f1); have hcz9_2 := bv BK9 2 (.int .i64 x.f2); have hxx0 := cl HB HX0.out; have hxx1 := cl HB HX1.out; have hxx2 := cl HB HX2.out) | ((with_reducible refine gate_ (.store 28 (.tmp 108) (.tmp 107)) rfl ?_); refine blk_store_event rfl rfl 28 (.tmp 108) (.tmp 107) rfl gb7 0 (by rfl) (.slice A9 L.length c9) (by rfl) #[.slice Ao l.length co] 30 BK7.out [.slice A9 L.length c9] rfl (by kernel_rfl) (show 0 + 1 ≤ 1 by decide) (by intro q hq; simp at hq; first | (subst hq; rfl) | (rcases hq with rfl | rfl | rfl <;> rfl)) #[.slice A9 L.length c9] rfl ?_; intro w108 hbox hg; clear hcz2_0 hcz3_0 hcz3_1 hcz3_2 hcz3_3 hcz7_0 hcz9_0 hcz9_1 hcz9_2 hxx0 hxx1 hxx2; replace HB := AM (HB.out.grown hg (below_size (hB HB)) (fun k hk => by injection hk with hk; have := GE7.out; omega)); replace BK2 := AM (blk_grown BK2.out hg (fun e => NE2_7.out (Option.some.inj e))); replace BK3 := AM (blk_grown BK3.out hg (fun e => (blk_ne BK3.out BK7.out (by decide)) (Option.some.inj e))); replace BK4 := AM (blk_grown BK4.out hg (fun e => NE4_7.out (Option.some.inj e))); replace BK9 := AM (blk_grown BK9.out hg (fun e => (blk_ne BK9.out BK7.out (by decide)) (Option.some.inj e))); replace HO := AM (Kd.R_mono (Kd.R_grown (Kd.R_types HO.out BK7.out (by decide)) hg (fun k hk e => hk.2 (Option.some.inj e))) (fun _ hk => hk.1)); replace BK7 := AM (hbox); clear hg hbox; have hcz2_0 := bv BK2 0 (.slice (some ad) l.length c0_0); have hcz3_0 := bv BK3 0 (.int .i64 (3)); have hcz3_1 := bv BK3 1 (.string nm); have hcz3_2 := bv BK3 2 (.string tx); have hcz3_3 := bv BK3 3 (.string nw); have hcz7_0 := bv BK7 0 (.slice A9 L.length c9); have hcz9_0 := bv BK9 0 (.string x.f0); have hcz9_1 := bv BK9 1 (.string x.f1); have hcz9_2 := bv BK9 2 (.int .i64 x.f2); have hxx0 := cl HB HX0.out; have hxx1 := cl HB HX1.out; have hxx2 := cl HB HX2.out) | ((with_reducible refine gate_ (.store 9 (.tmp 111) (.tmp 110)) rfl ?_); refine blk_store_event rfl rfl 9 (.tmp 111) (.tmp 110) rfl gb9 0 (by rfl) (.string nw) (by rfl) #[.string x.f0, .string x.f1, .int .i64 x.f2] 67 BK9.out [.string nw] rfl (by kernel_rfl) (show 0 + 1 ≤ 3 by decide) (by intro q hq; simp at hq; first | (subst hq; rfl) | (rcases hq with rfl | rfl | rfl <;> rfl)) #[.string nw, .string x.f1, .int .i64 x.f2] rfl ?_; intro w111 hbox hg; clear hcz2_0 hcz3_0 hcz3_1 hcz3_2 hcz3_3 hcz7_0 hcz9_0 hcz9_1 hcz9_2 hxx0 hxx1 hxx2; replace HB := AM (HB.out.grown hg (below_size (hB HB)) (fun k hk => by injection hk with hk; have := GE9.out; omega)); replace BK2 := AM (blk_grown BK2.out hg (fun e => (blk_ne BK2.out BK9.out (by decide)) (Option.some.inj e))); replace BK3 := AM (blk_grown BK3.out hg (fun e => (blk_ne BK3.out BK9.out (by decide)) (Option.some.inj e))); replace BK4 := AM (blk_grown BK4.out hg (fun e => (blk_ne BK4.out BK9.out (by decide)) (Option.some.inj e))); replace BK7 := AM (blk_grown BK7.out hg (fun e => (blk_ne BK7.out BK9.out (by decide)) (Option.some.inj e))); replace HO := AM (Kd.R_grown HO.out hg (fun k hk e => hk.2 (Option.some.inj e))); replace BK9 := AM (hbox); clear hg hbox; have hcz2_0 := bv BK2 0 (.slice (some ad) l.length c0_0); have hcz3_0 := bv BK3 0 (.int .i64 (3)); have hcz3_1 := bv BK3 1 (.string nm); have hcz3_2 := bv BK3 2 (.string tx); have hcz3_3 := bv BK3 3 (.string nw); have hcz7_0 := bv BK7 0 (.slice A9 L.length c9); have hcz9_0 := bv BK9 0 (.string nw); have hcz9_1 := bv BK9 1 (.string x.f1); have hcz9_2 := bv BK9 2 (.int .i64 x.f2); have hxx0 := cl HB HX0.out; have hxx1 := cl HB HX1.out; have hxx2 := cl HB HX2.out) | ((with_reducible refine gc 49 rfl ?_); refine gl 113 Try.func49 #[.pointer (some ⟨gb7, 0, none⟩), .agg #[.string nw, .string x.f1, .int .i64 x.f2]] ?_; (with_reducible refine (impl_putFile.calls gb7 (.slice A9 L.length c9) L nw x.f1 x.f2 w.heap.size _ BK7.out GE7.out (Kd.R_mono HO.out (fun _ _ => trivial)) HB.out.size HLL.out).mono ?_); rintro e w113 ⟨v7, rfl, hD7, hr, hk, hb⟩; refine ⟨_, rfl, ?_⟩; clear hcz2_0 hcz3_0 hcz3_1 hcz3_2 hcz3_3 hcz7_0 hcz9_0 hcz9_1 hcz9_2 hxx0 hxx1 hxx2; rw [← HY.out] at hr; obtain ⟨A7, c7, rfl⟩ := Kd.R_slice hr; replace HB := AM (HB.out.trans hb); replace BK4 := AM (hk.blk BK4.out NE4_7.out (Kd.R_ne HO.out BK4.out (by decide))); replace BK7 := AM hD7; replace HO := AM hr; clear hb hk hD7 hr BK2 BK3 BK9; have hcz7_0 := bv BK7 0 (.slice A7 Y.length c7)) | ((with_reducible refine gc 42 rfl ?_); refine gl 124 Try.func42 #[.agg #[.slice A7 Y.length c7]] ?_; (with_reducible refine (impl_DiskOk.calls k _ _ Y u _ (Kd.R_reads' HO.out).2.2 (Kd.R_reads' HO.out).2.1 HU.out).mono ?_); rintro e w124 ⟨rfl, hb⟩; refine ⟨_, rfl, ?_⟩; clear hcz7_0; replace HB := bq HB hb; replace BK4 := bw BK4 hb; replace BK7 := bw BK7 hb; replace HO := AM (Kd.R_below HO.out hb); clear hb; have hcz7_0 := bv BK7 0 (.slice A7 Y.length c7)))
  exact act_t0

set_option maxHeartbeats 8000000 in
set_option maxRecDepth 100000 in
/-- what is there is kept -/
theorem act_keep (k : Nat) (A0_0 : Option Addr) (c0_0 : Nat) (l : List S67) (nm tx nw : ByteArray) (j : Nat) (hj : j < l.length) (w : World) (hr : Kd.C k67 w A0_0 l.length l) (hc : l.length ≤ c0_0) (hok : impl_DiskOk.f k l = some true) (hat : impl_fileAt.f l nm = some ((j : Int))) (ht : nw.toList = ([] : List UInt8)) (hx : tx.toList = ([] : List UInt8)) (hl : l.length ≤ 100000) (Y : List S67) (hY : Y = l.set j ⟨(rd_T67 l (j : Int)).f0, (rd_T67 l (j : Int)).f1, ((rd_T67 l (j : Int)).f1.size : Int)⟩) (u : Bool) (hu : impl_DiskOk.f k Y = some u) :
    Calls Try.prog 19 #[.agg #[.slice A0_0 l.length c0_0], .agg #[.int .i64 (2), .string nm, .string tx, .string nw]] w (ActPost (if u = true then Y else []) u w) := by
  have hu30 := Try.underlying30
  have hu41 := Try.underlying41
  have hu67 := Try.underlying67
  have hu28 := Try.underlying28
  have HJ := AM hj
  have HN0 := AM (show ¬ l.length = 0 by omega)
  have hjb : (j : Int) ≤ 100000 := by omega
  have p1 := eq_true (show 0 ≤ (j : Int) by omega)
  have q2 : ((j : Int) < 0) = False := eq_false (by omega)
  obtain ⟨x, hxx⟩ : ∃ x, x = rd_T67 l (j : Int) := ⟨_, rfl⟩
  rw [← hxx] at hY
  have HXX := AM hxx
  clear hxx
  have HY := AM hY
  have HU := AM hu
  have HLN := AM hl
  have HCP := AM (show impl_copyDisk.f l = some l by unfold impl_copyDisk.f; rw [if_pos (by omega)])
  clear hY hu hl
  have HR := AM hr
  have HCC := AM hc
  have HOK := AM hok
  have HK := AM hat
  clear hr hc hok hat
  have hht_0 : (nw.toList == ([] : List UInt8)) = true := beq_iff_eq.mpr ht
  have hht_1 : (nw.toList != ([] : List UInt8)) = false := bne_eq_false_iff_eq.mpr ht
  clear ht
  have hhx_0 : (tx.toList == ([] : List UInt8)) = true := beq_iff_eq.mpr hx
  have hhx_1 : (tx.toList != ([] : List UInt8)) = false := bne_eq_false_iff_eq.mpr hx
  clear hx
  have HB := AM (Below.refl w.heap.size w)
  go_enter Try.func19, Try.ntmps19
  go_upto_region 14 with (first | ((with_reducible refine gd 2 rfl ?_); refine bx (N := 2) (cs := #[.slice A0_0 l.length c0_0]) (t := 30) ?_; intro gb2 hg w2 hbox hb; have BK2 := AM (hbox); have GE2 := AM (bs hg HB); replace HB := bq HB hb; clear hb hbox hg; have hcz2_0 := bv BK2 0 (.slice A0_0 l.length c0_0)) | ((with_reducible refine gd 3 rfl ?_); refine bx (N := 3) (cs := #[.int .i64 (2), .string nm, .string tx, .string nw]) (t := 41) ?_; intro gb3 hg w3 hbox hb; clear hcz2_0; replace BK2 := bw BK2 hb; have BK3 := AM (hbox); have GE3 := AM (bs hg HB); replace HB := bq HB hb; clear hb hbox hg; have hcz2_0 := bv BK2 0 (.slice A0_0 l.length c0_0); have hcz3_0 := bv BK3 0 (.int .i64 (2)); have hcz3_1 := bv BK3 1 (.string nm); have hcz3_2 := bv BK3 2 (.string tx); have hcz3_3 := bv BK3 3 (.string nw)) | ((with_reducible refine gd 4 rfl ?_); refine bx (N := 4) (cs := #[.slice none 0 0]) (t := 30) ?_; intro gb4 hg w4 hbox hb; clear hcz2_0 hcz3_0 hcz3_1 hcz3_2 hcz3_3; replace BK3 := bw BK3 hb; have BK4 := AM (hbox); have GE4 := AM (bs hg HB); replace HB := bq HB hb; have NE2_4 := AM ((by rw [hg]; exact Nat.ne_of_lt (blk_lt BK2.out) : gb2 ≠ gb4)); replace BK2 := bw BK2 hb; clear hb hbox hg; have hcz2_0 := bv BK2 0 (.slice A0_0 l.length c0_0); have hcz3_0 := bv BK3 0 (.int .i64 (2)); have hcz3_1 := bv BK3 1 (.string nm); have hcz3_2 := bv BK3 2 (.string tx); have hcz3_3 := bv BK3 3 (.string nw)) | ((with_reducible refine gc 39 rfl ?_); refine gl 13 Try.func39 #[.agg #[.slice A0_0 l.length c0_0], .string nm] ?_; (with_reducible refine (impl_fileAt.calls _ _ l nm _ _ (Kd.C_below HR.out HB.out) HCC.out HK.out).mono ?_); rintro e w13 ⟨rfl, hb⟩; refine ⟨_, rfl, ?_⟩; clear hcz2_0 hcz3_0 hcz3_1 hcz3_2 hcz3_3; replace HB := bq HB hb; replace BK2 := bw BK2 hb; replace BK3 := bw BK3 hb; replace BK4 := bw BK4 hb; clear hb; have hcz2_0 := bv BK2 0 (.slice A0_0 l.length c0_0); have hcz3_0 := bv BK3 0 (.int .i64 (2)); have hcz3_1 := bv BK3 1 (.string nm); have hcz3_2 := bv BK3 2 (.string tx); have hcz3_3 := bv BK3 3 (.string nw)) | ((with_reducible refine gc 42 rfl ?_); refine gl 15 Try.func42 #[.agg #[.slice A0_0 l.length c0_0]] ?_; (with_reducible refine (impl_DiskOk.calls k _ _ l _ _ (Kd.C_below HR.out HB.out) HCC.out HOK.out).mono ?_); rintro e w15 ⟨rfl, hb⟩; refine ⟨_, rfl, ?_⟩; clear hcz2_0 hcz3_0 hcz3_1 hcz3_2 hcz3_3; replace HB := bq HB hb; replace BK2 := bw BK2 hb; replace BK3 := bw BK3 hb; replace BK4 := bw BK4 hb; clear hb; have hcz2_0 := bv BK2 0 (.slice A0_0 l.length c0_0); have hcz3_0 := bv BK3 0 (.int .i64 (2)); have hcz3_1 := bv BK3 1 (.string nm); have hcz3_2 := bv BK3 2 (.string tx); have hcz3_3 := bv BK3 3 (.string nw)) | ((with_reducible refine gc 48 rfl ?_); refine gl 43 Try.func48 #[.agg #[.slice A0_0 l.length c0_0]] ?_; (with_reducible refine (impl_copyDisk.calls _ _ l l _ (Kd.C_below HR.out HB.out) HCC.out HCP.out).mono ?_); rintro e w43 ⟨v0, rfl, ho, hb⟩; refine ⟨_, rfl, ?_⟩; clear hcz2_0 hcz3_0 hcz3_1 hcz3_2 hcz3_3; obtain ⟨Ao, co, rfl⟩ := Kd.R_slice ho; replace BK2 := bw BK2 hb; replace BK3 := bw BK3 hb; replace BK4 := bw BK4 hb; have HO := AM (Kd.R_lower ho (below_size (hB HB))); replace HB := bq HB hb; clear hb ho; have hcz2_0 := bv BK2 0 (.slice A0_0 l.length c0_0); have hcz3_0 := bv BK3 0 (.int .i64 (2)); have hcz3_1 := bv BK3 1 (.string nm); have hcz3_2 := bv BK3 2 (.string tx); have hcz3_3 := bv BK3 3 (.string nw)) | ((with_reducible refine gd 7 rfl ?_); refine bx (N := 7) (cs := #[.slice none 0 0]) (t := 30) ?_; intro gb7 hg w7 hbox hb; clear hcz2_0 hcz3_0 hcz3_1 hcz3_2 hcz3_3; replace BK3 := bw BK3 hb; replace HO := AM (Kd.R_below HO.out hb); have BK7 := AM (hbox); have GE7 := AM (bs hg HB); replace HB := bq HB hb; have NE2_7 := AM ((by rw [hg]; exact Nat.ne_of_lt (blk_lt BK2.out) : gb2 ≠ gb7)); replace BK2 := bw BK2 hb; have NE4_7 := AM ((by rw [hg]; exact Nat.ne_of_lt (blk_lt BK4.out) : gb4 ≠ gb7)); replace BK4 := bw BK4 hb; clear hb hbox hg; have hcz2_0 := bv BK2 0 (.slice A0_0 l.length c0_0); have hcz3_0 := bv BK3 0 (.int .i64 (2)); have hcz3_1 := bv BK3 1 (.string nm); have hcz3_2 := bv BK3 2 (.string tx); have hcz3_3 := bv BK3 3 (.string nw); have hcz7_0 := bv BK7 0 (.slice none 0 0)) | ((with_reducible refine gate_ (.store 30 (.tmp 7) (.tmp 43)) rfl ?_); refine blk_store_event rfl rfl 30 (.tmp 7) (.tmp 43) rfl gb7 0 (by rfl) (.agg #[.slice Ao l.length co]) (by rfl) #[.slice none 0 0] 30 BK7.out [.slice Ao l.length co] rfl (by kernel_rfl) (show 0 + 1 ≤ 1 by decide) (by intro q hq; simp at hq; first | (subst hq; rfl) | (rcases hq with rfl | rfl | rfl <;> rfl)) #[.slice Ao l.length co] rfl ?_; intro w7a hbox hg; clear hcz2_0 hcz3_0 hcz3_1 hcz3_2 hcz3_3 hcz7_0; replace HB := AM (HB.out.grown hg (below_size (hB HB)) (fun k hk => by injection hk with hk; have := GE7.out; omega)); replace BK2 := AM (blk_grown BK2.out hg (fun e => NE2_7.out (Option.some.inj e))); replace BK3 := AM (blk_grown BK3.out hg (fun e => (blk_ne BK3.out BK7.out (by decide)) (Option.some.inj e))); replace BK4 := AM (blk_grown BK4.out hg (fun e => NE4_7.out (Option.some.inj e))); replace HO := AM (Kd.R_mono (Kd.R_grown (Kd.R_types HO.out BK7.out (by decide)) hg (fun k hk e => hk.2 (Option.some.inj e))) (fun _ hk => hk.1)); replace BK7 := AM (hbox); clear hg hbox; have hcz2_0 := bv BK2 0 (.slice A0_0 l.length c0_0); have hcz3_0 := bv BK3 0 (.int .i64 (2)); have hcz3_1 := bv BK3 1 (.string nm); have hcz3_2 := bv BK3 2 (.string tx); have hcz3_3 := bv BK3 3 (.string nw); have hcz7_0 := bv BK7 0 (.slice Ao l.length co)))
  clear hcz2_0 hcz3_0 hcz3_1 hcz3_2 hcz3_3 hcz7_0
  rcases (rowF_of HO.out).2 with ⟨_, h0⟩ | ⟨g, c', cl, hv, hgb, hGw, hnc, hcm, hcs, htk⟩
  · exact absurd h0 HN0.out
  injection hv with ha _ hc
  subst ha
  subst hc
  have HCS := AM (show j * 3 + 3 ≤ cl.size by have h_ := HJ.out; rw [hcs]; omega)
  have HGB := AM hgb
  clear hgb hnc hcm hcs htk
  have n0_ := AM (Kd.R_drew HO.out)
  have n1_ := AM (blk_drew BK4.out)
  have n2_ := AM (blk_drew BK7.out)
  have n3_ := AM (below_drew1 HB.out)
  replace hGw := blk_drew hGw
  clear HO BK2 BK3 BK4 BK7 HB
  have HO := n0_
  have BK4 := n1_
  have BK7 := n2_
  have HB := n3_
  clear n0_ n1_ n2_ n3_
  obtain ⟨ad, e, hx0, hx1, hx2⟩ := at_T67 (Kd.R_reads' HO.out).2.2 (j : Int) (by omega) (by have h_ := HJ.out; omega)
  cases e
  rw [add_plain, Int.toNat_natCast] at hx0 hx1 hx2
  dsimp only at hx1 hx2
  rw [← HXX.out] at hx0 hx1 hx2
  have HX0' := AM hx0
  have HX1' := AM hx1
  have HX2' := AM hx2
  clear hx0 hx2
  have q1 := eq_true (show (j : Int) < (l.length : Int) by have h_ := HJ.out; omega)
  refine sr 13 (fun w' => w'.cell? ⟨gb7, 0, none⟩ = some (.slice (some ⟨g, 0, none⟩) l.length co) ∧ w'.cell? ⟨g, j * 3 + 1, none⟩ = some (.string x.f1)) [12] ⟨bc BK7 0, hx1⟩ (fun hHeld => ?_)
  generalize w7a.drew = we at HO BK4 BK7 HB hGw HX0' HX1' HX2' hHeld ⊢
  have HST := AM (run_store_run (P := Try.prog) (w := we) (g := g) (o := j * 3 + 2) (e := 67) (cur := cl) 3 (.int .i64 (x.f1.size : Int)) [.int .i64 (x.f1.size : Int)] hGw rfl (by kernel_rfl) (by have h_ := HCS.out; simp only [List.length_cons, List.length_nil]; omega) (by intro u hu; simp at hu; subst hu; rfl))
  have HGW := AM hGw
  clear hGw
  refine pu 0 69 ?_; refine pu 2 71 ?_; refine pu 3 72 ?_; refine pu 5 74 ?_; refine tu 1 70 ?_; refine tu 4 73 ?_; refine pu 6 75 ?_; refine pu 7 76 ?_; refine tu 8 77 ?_; refine pu 9 78 ?_; refine pu 10 79 ?_; refine pu 11 80 ?_
  refine zu 12 none fun K hK => ?_
  refine step_store_ran (by rfl) rfl 3 (.tmp 80) (.tmp 78) rfl (.pointer (some ⟨g, j * 3 + 2, none⟩)) (.int .i64 (x.f1.size : Int)) (by rfl) (by rfl) HST.out ?_
  refine hK.out _ _ ?_
  clear hK K
  refine done_ (by kernel_rfl) ?_
  clear HST
  have hYl : Y.length = l.length := by rw [HY.out, List.length_set]
  have hseg := Kd.R_seg HO.out (j : Int) (by omega) (by have h_ := HJ.out; omega) (c := [.string x.f0, .string x.f1, .int .i64 x.f2]) (seg := [.int .i64 (x.f1.size : Int)]) (j := 2) rfl (by
    rw [Int.toNat_natCast]
    intro q u hq
    rcases q with _ | _ | _ | q
    · simp at hq; subst hq; exact HX0'.out
    · simp at hq; subst hq; exact HX1'.out
    · simp at hq; subst hq; exact HX2'.out
    simp at hq) (show 2 + 1 ≤ 3 by decide) (x' := ⟨x.f0, x.f1, (x.f1.size : Int)⟩) (okp := fun k_ => True ∧ k_ ≠ g) (k67_mkM we _ _ ⟨x.f0, x.f1, (x.f1.size : Int)⟩) (fun _ hk => hk)
  rw [Int.toNat_natCast] at hseg
  have e1 : j * k67.sz + 2 = j * 3 + 2 := rfl
  rw [e1] at hseg
  have hr := hseg.1
  rw [← HY.out] at hr
  obtain ⟨A7, hA7⟩ : ∃ A7 : Option Addr, A7 = some ⟨g, 0, none⟩ := ⟨_, rfl⟩
  have hr' : Kd.R k67 67 (we.setCells g (j * 3 + 2) [.int .i64 (x.f1.size : Int)]) w.heap.size (fun _ => True) (.slice A7 Y.length co) Y := by rw [hA7, hYl]; exact hr
  have hb4 := blk_grown BK4.out hseg.2 (fun e => Kd.R_ne HO.out BK4.out (by decide) e)
  have hb7 := blk_grown BK7.out hseg.2 (fun e => Kd.R_ne HO.out BK7.out (by decide) e)
  have hb7' : (we.setCells g (j * 3 + 2) [.int .i64 (x.f1.size : Int)]).heap[gb7]? = some (.cells #[.slice A7 Y.length co] 30 (0, 0)) := by rw [hA7, hYl]; exact hb7
  have hbb := HB.out.grown hseg.2 (below_size (hB HB)) (fun k hk => by injection hk with hk; have h_ := HGB.out; omega)
  clear hseg hr hb7 hx1 hHeld e1 hYl hA7
  generalize we.setCells g (j * 3 + 2) [.int .i64 (x.f1.size : Int)] = wz at hr' hb4 hb7' hbb ⊢
  clear HB BK4 BK7 HO HX0' HX1' HX2' HGW
  have HB := AM hbb
  have BK4 := AM hb4
  have BK7 := AM hb7'
  have HO := AM hr'
  clear hbb hb4 hb7' hr'
  have hcz7_0 := bv BK7 0 (.slice A7 Y.length co)
  (try simp only [Exit.inBlock, Exit.then])
  go_upto_if 125 with (first | ((with_reducible refine gc 42 rfl ?_); refine gl 124 Try.func42 #[.agg #[.slice A7 Y.length co]] ?_; (with_reducible refine (impl_DiskOk.calls k _ _ Y u _ (Kd.R_reads' HO.out).2.2 (Kd.R_reads' HO.out).2.1 HU.out).mono ?_); rintro e w124 ⟨rfl, hb⟩; refine ⟨_, rfl, ?_⟩; clear hcz7_0; replace HB := bq HB hb; replace BK4 := bw BK4 hb; replace BK7 := bw BK7 hb; replace HO := AM (Kd.R_below HO.out hb); clear hb; have hcz7_0 := bv BK7 0 (.slice A7 Y.length co)))
  cases u with
  | false =>
    go_wp2_with (first | ((with_reducible refine gate_ (.store 30 (.tmp 4) (.tmp 126)) rfl ?_); refine blk_store_event rfl rfl 30 (.tmp 4) (.tmp 126) rfl gb4 0 (by rfl) (.agg #[.slice none 0 0]) (by rfl) #[.slice none 0 0] 30 BK4.out [.slice none 0 0] rfl (by kernel_rfl) (show 0 + 1 ≤ 1 by decide) (by intro q hq; simp at hq; first | (subst hq; rfl) | (rcases hq with rfl | rfl | rfl <;> rfl)) #[.slice none 0 0] rfl ?_; intro w126 hbox hg; clear hcz7_0; replace HB := AM (HB.out.grown hg (below_size (hB HB)) (fun k hk => by injection hk with hk; have := GE4.out; omega)); replace BK7 := AM (blk_grown BK7.out hg (fun e => (Ne.symm NE4_7.out) (Option.some.inj e))); replace HO := AM (Kd.R_mono (Kd.R_grown (Kd.R_types HO.out BK4.out (by decide)) hg (fun k hk e => hk.2 (Option.some.inj e))) (fun _ hk => hk.1)); replace BK4 := AM (hbox); clear hg hbox; have hcz7_0 := bv BK7 0 (.slice A7 Y.length co)))
    refine bodyPost_ret (results_ct rfl _ _ gb4 30 #[.slice none 0 0] (0, 0) _ rfl BK4.out Try.underlying30 rfl (by kernel_rfl)) rfl ?_
    exact ⟨_, rfl, Kd.R_nil _ _ _ _ _, HB.out⟩
  | true =>
    go_wp2_with (first | ((with_reducible refine gate_ (.store 30 (.tmp 4) (.tmp 127)) rfl ?_); refine blk_store_event rfl rfl 30 (.tmp 4) (.tmp 127) rfl gb4 0 (by rfl) (.agg #[.slice A7 Y.length co]) (by rfl) #[.slice none 0 0] 30 BK4.out [.slice A7 Y.length co] rfl (by kernel_rfl) (show 0 + 1 ≤ 1 by decide) (by intro q hq; simp at hq; first | (subst hq; rfl) | (rcases hq with rfl | rfl | rfl <;> rfl)) #[.slice A7 Y.length co] rfl ?_; intro w127 hbox hg; clear hcz7_0; replace HB := AM (HB.out.grown hg (below_size (hB HB)) (fun k hk => by injection hk with hk; have := GE4.out; omega)); replace BK7 := AM (blk_grown BK7.out hg (fun e => (Ne.symm NE4_7.out) (Option.some.inj e))); replace HO := AM (Kd.R_mono (Kd.R_grown (Kd.R_types HO.out BK4.out (by decide)) hg (fun k hk e => hk.2 (Option.some.inj e))) (fun _ hk => hk.1)); replace BK4 := AM (hbox); clear hg hbox; have hcz7_0 := bv BK7 0 (.slice A7 Y.length co)))
    refine bodyPost_ret (results_ct rfl _ _ gb4 30 #[.slice A7 Y.length co] (0, 0) _ rfl BK4.out Try.underlying30 rfl (by kernel_rfl)) rfl ?_
    exact ⟨_, rfl, Kd.R_mono HO.out (fun _ _ => trivial), HB.out⟩

/-- what an act makes of a disk; none: it is refused -/
def impl_DoAct.out (l : List S67) (kd : Int) (nm tx nw : ByteArray) : Option (Option (List S67)) :=
  if kd = 1 then (if 0 ≤ atN l nm 0 then (if (rd_T67 l (atN l nm 0)).f1.size + tx.size ≤ 9223372036854775807 then some (some (putL l ⟨(rd_T67 l (atN l nm 0)).f0, (rd_T67 l (atN l nm 0)).f1 ++ tx, (rd_T67 l (atN l nm 0)).f2⟩)) else none)
    else (if (⟨#[]⟩ : ByteArray).size + tx.size ≤ 9223372036854775807 then some (some (putL l ⟨nm, (⟨#[]⟩ : ByteArray) ++ tx, 0⟩)) else none))
  else if kd = 2 then some (some (l.set (atN l nm 0).toNat ⟨(rd_T67 l (atN l nm 0)).f0, (rd_T67 l (atN l nm 0)).f1, ((rd_T67 l (atN l nm 0)).f1.size : Int)⟩))
  else if kd = 3 then (if nw.toList = nm.toList then some none else if (rd_T67 l (atN l nm 0)).f2 = ((rd_T67 l (atN l nm 0)).f1.size : Int) then some (some (putL (l.take (atN l nm 0).toNat ++ l.drop ((atN l nm 0).toNat + 1)) ⟨nw, (rd_T67 l (atN l nm 0)).f1, (rd_T67 l (atN l nm 0)).f2⟩)) else some none)
  else if kd = 4 then some (some (l.take (atN l nm 0).toNat ++ l.drop ((atN l nm 0).toNat + 1)))
  else some none
def impl_DoAct.end_ (k : Nat) : Option (List S67) → Option (List S67 × Bool)
  | none => some ([], false)
  | some y => (impl_DiskOk.f k y).bind fun u => some (if u = true then y else [], u)
def impl_DoAct.f (k : Nat) (l : List S67) (kd : Int) (nm tx nw : ByteArray) : Option (List S67 × Bool) :=
  (impl_DiskOk.f k l).bind fun t => if t = true ∧ (kd = 3 ∨ nw.toList = []) ∧ (kd = 1 ∨ (tx.toList = [] ∧ 0 ≤ atN l nm 0)) then (if l.length ≤ 100000 then (impl_DoAct.out l kd nm tx nw).bind (impl_DoAct.end_ k) else none) else some ([], false)
theorem impl_DoAct.mono : ∀ a0 a1 a2 a3 a4 k, LeO (impl_DoAct.f k a0 a1 a2 a3 a4) (impl_DoAct.f (k + 1) a0 a1 a2 a3 a4) := by
  intro a0 a1 a2 a3 a4 k
  unfold impl_DoAct.f
  refine LeO.bind (impl_DiskOk.mono _ _) (fun _ => ?_)
  refine LeO.ite (LeO.ite (LeO.bind (LeO.refl _) (fun o => ?_)) (LeO.refl _)) (LeO.refl _)
  cases o with
  | none => exact LeO.refl _
  | some y => simp only [impl_DoAct.end_]; exact LeO.bind (impl_DiskOk.mono _ _) (fun _ => LeO.refl _)
theorem impl_DoAct.calls (k : Nat) (A0_0 : Option Addr) (c0_0 : Nat) (l0_0 : List S67) (a1_0 : Int) (a1_1 : ByteArray) (a1_2 : ByteArray) (a1_3 : ByteArray) (r1 : List S67) (r2 : Bool) (w : World) (hr0_0 : Kd.C k67 w A0_0 l0_0.length l0_0) (hc0_0 : l0_0.length ≤ c0_0) (h : impl_DoAct.f k l0_0 a1_0 a1_1 a1_2 a1_3 = some (r1, r2)) :
    Calls Try.prog 19 #[.agg #[.slice A0_0 l0_0.length c0_0], .agg #[.int .i64 a1_0, .string a1_1, .string a1_2, .string a1_3]] w fun e w' => ∃ v0_ : Value, e = .returned (.tuple #[.agg #[v0_], .bool r2]) ∧ Kd.R k67 67 w' w.heap.size (fun _ => True) v0_ r1 ∧ Below w.heap.size w w' := by
  show Calls Try.prog 19 _ w (ActPost r1 r2 w)
  unfold impl_DoAct.f at h
  obtain ⟨t, hok, h⟩ := Option.bind_eq_some_iff.mp h
  have hat : ∀ K, atN l0_0 a1_1 0 = K → impl_fileAt.f l0_0 a1_1 = some K := fun K e => by unfold impl_fileAt.f; rw [e]
  have no : ∀ {r1' : List S67} {r2' : Bool}, (some (([] : List S67), false) : Option (List S67 × Bool)) = some (r1', r2') → r1' = [] ∧ r2' = false := fun e => by
    simp only [Option.some.injEq, Prod.mk.injEq] at e
    exact ⟨e.1.symm, e.2.symm⟩
  have fin : ∀ (Y : List S67) (P : List S67 → Bool → Prop), (impl_DoAct.end_ k (some Y)) = some (r1, r2) → (∀ u, impl_DiskOk.f k Y = some u → P (if u = true then Y else []) u) → P r1 r2 := fun Y P e hp => by
    unfold impl_DoAct.end_ at e
    obtain ⟨u, hu, e⟩ := Option.bind_eq_some_iff.mp e
    simp only [Option.some.injEq, Prod.mk.injEq] at e
    obtain ⟨rfl, rfl⟩ := e
    exact hp u hu
  cases t with
  | false =>
    rw [if_neg (by simp)] at h
    obtain ⟨rfl, rfl⟩ := no h
    exact act_no0 k A0_0 c0_0 l0_0 a1_0 a1_1 a1_2 a1_3 _ w hr0_0 hc0_0 hok (hat _ rfl)
  | true =>
    by_cases c1 : a1_0 = 3 ∨ a1_3.toList = []
    case neg =>
      rw [if_neg (fun x => c1 x.2.1)] at h
      obtain ⟨rfl, rfl⟩ := no h
      exact act_no1 k A0_0 c0_0 l0_0 a1_0 a1_1 a1_2 a1_3 _ w hr0_0 hc0_0 hok (hat _ rfl) (fun x => c1 (.inl x)) (fun x => c1 (.inr x))
    by_cases c2 : a1_0 = 1 ∨ (a1_2.toList = [] ∧ 0 ≤ atN l0_0 a1_1 0)
    case neg =>
      rw [if_neg (fun x => c2 x.2.2)] at h
      obtain ⟨rfl, rfl⟩ := no h
      have k1 : ¬ a1_0 = 1 := fun x => c2 (.inl x)
      by_cases k3 : a1_0 = 3
      · subst k3
        by_cases hx : a1_2.toList = []
        · rcases atN_rng l0_0 a1_1 0 with e | ⟨j, _, _, e⟩
          · exact act_no3a k A0_0 c0_0 l0_0 a1_1 a1_2 a1_3 w hr0_0 hc0_0 hok (hat _ e) hx
          exact absurd (.inr ⟨hx, by omega⟩) c2
        exact act_no2a k A0_0 c0_0 l0_0 a1_1 a1_2 a1_3 _ w hr0_0 hc0_0 hok (hat _ rfl) hx
      have ht : a1_3.toList = [] := c1.resolve_left k3
      by_cases hx : a1_2.toList = []
      · rcases atN_rng l0_0 a1_1 0 with e | ⟨j, _, _, e⟩
        · exact act_no3b k A0_0 c0_0 l0_0 a1_0 a1_1 a1_2 a1_3 w hr0_0 hc0_0 hok (hat _ e) k3 k1 ht hx
        exact absurd (.inr ⟨hx, by omega⟩) c2
      exact act_no2b k A0_0 c0_0 l0_0 a1_0 a1_1 a1_2 a1_3 _ w hr0_0 hc0_0 hok (hat _ rfl) k3 k1 ht hx
    rw [if_pos ⟨rfl, c1, c2⟩] at h
    by_cases hl : l0_0.length ≤ 100000
    case neg =>
      rw [if_neg hl] at h
      exact absurd h (by simp)
    rw [if_pos hl] at h
    obtain ⟨o, ho, h⟩ := Option.bind_eq_some_iff.mp h
    unfold impl_DoAct.out at ho
    by_cases k1 : a1_0 = 1
    · subst k1
      have ht : a1_3.toList = [] := c1.resolve_left (by omega)
      rw [if_pos rfl] at ho
      rcases atN_rng l0_0 a1_1 0 with e | ⟨j, _, hj, e⟩
      · rw [e, if_neg (by omega)] at ho
        by_cases hs : (⟨#[]⟩ : ByteArray).size + a1_2.size ≤ 9223372036854775807
        · rw [if_pos hs] at ho
          obtain rfl := Option.some.inj ho
          exact fin _ (fun y u => Calls Try.prog 19 _ w (ActPost y u w)) h (fun u hu => act_add0 k A0_0 c0_0 l0_0 a1_1 a1_2 a1_3 w hr0_0 hc0_0 hok (hat _ e) ht hs hl _ rfl u hu)
        rw [if_neg hs] at ho
        cases ho
      rw [e, if_pos (by omega)] at ho
      by_cases hs : (rd_T67 l0_0 (j : Int)).f1.size + a1_2.size ≤ 9223372036854775807
      · rw [if_pos hs] at ho
        obtain rfl := Option.some.inj ho
        exact fin _ (fun y u => Calls Try.prog 19 _ w (ActPost y u w)) h (fun u hu => act_add1 k A0_0 c0_0 l0_0 a1_1 a1_2 a1_3 j (by omega) w hr0_0 hc0_0 hok (hat _ e) ht hs hl _ rfl u hu)
      rw [if_neg hs] at ho
      cases ho
    obtain ⟨hx, h0⟩ := c2.resolve_left k1
    rcases atN_rng l0_0 a1_1 0 with e | ⟨j, _, hj, e⟩
    · omega
    have hj : j < l0_0.length := by omega
    rw [if_neg k1, e] at ho
    by_cases k2 : a1_0 = 2
    · subst k2
      have ht : a1_3.toList = [] := c1.resolve_left (by omega)
      rw [if_pos rfl, Int.toNat_natCast] at ho
      obtain rfl := Option.some.inj ho
      exact fin _ (fun y u => Calls Try.prog 19 _ w (ActPost y u w)) h (fun u hu => act_keep k A0_0 c0_0 l0_0 a1_1 a1_2 a1_3 j hj w hr0_0 hc0_0 hok (hat _ e) ht hx hl _ rfl u hu)
    rw [if_neg k2] at ho
    by_cases k3 : a1_0 = 3
    · subst k3
      rw [if_pos rfl] at ho
      by_cases hm : a1_3.toList = a1_1.toList
      · rw [if_pos hm] at ho
        obtain rfl := Option.some.inj ho
        obtain ⟨rfl, rfl⟩ := no h
        exact act_mv_same k A0_0 c0_0 l0_0 a1_1 a1_2 a1_3 j hj w hr0_0 hc0_0 hok (hat _ e) hx hm hl
      rw [if_neg hm] at ho
      by_cases hk : (rd_T67 l0_0 (j : Int)).f2 = ((rd_T67 l0_0 (j : Int)).f1.size : Int)
      · rw [if_pos hk, Int.toNat_natCast] at ho
        obtain rfl := Option.some.inj ho
        exact fin _ (fun y u => Calls Try.prog 19 _ w (ActPost y u w)) h (fun u hu => act_mv k A0_0 c0_0 l0_0 a1_1 a1_2 a1_3 j hj w hr0_0 hc0_0 hok (hat _ e) hx hm hk hl _ rfl _ rfl u hu)
      rw [if_neg hk] at ho
      obtain rfl := Option.some.inj ho
      obtain ⟨rfl, rfl⟩ := no h
      exact act_mv_open k A0_0 c0_0 l0_0 a1_1 a1_2 a1_3 j hj w hr0_0 hc0_0 hok (hat _ e) hx hm hk hl
    rw [if_neg k3] at ho
    have ht : a1_3.toList = [] := c1.resolve_left k3
    by_cases k4 : a1_0 = 4
    · subst k4
      rw [if_pos rfl, Int.toNat_natCast] at ho
      obtain rfl := Option.some.inj ho
      exact fin _ (fun y u => Calls Try.prog 19 _ w (ActPost y u w)) h (fun u hu => act_drop k A0_0 c0_0 l0_0 a1_1 a1_2 a1_3 j hj w hr0_0 hc0_0 hok (hat _ e) ht hx hl _ rfl u hu)
    rw [if_neg k4] at ho
    obtain rfl := Option.some.inj ho
    obtain ⟨rfl, rfl⟩ := no h
    exact act_none k A0_0 c0_0 l0_0 a1_0 a1_1 a1_2 a1_3 j hj w hr0_0 hc0_0 hok (hat _ e) k1 k2 k3 k4 ht hx hl


/-! ### spec_l03At: function 37 -/
def spec_l03At.l0 : Nat → ByteArray → Int → List (S67) → Option (Int)
 | 0, _, _, _ => none
 | k + 1, x1, x5, x105000 => if x5 < (x105000.length : Int) then (if 0 ≤ x5 then (if ((rd_T67 x105000 x5).f0).toList = x1.toList then (some x5) else (spec_l03At.l0 k x1 (wrap64 (x5 + 1)) x105000)) else (none)) else (some (-1))
def spec_l03At.f (k : Nat) (l0_0 : List (S67)) (a1 : ByteArray) : Option (Int) := spec_l03At.l0 k a1 0 l0_0
theorem spec_l03At.mono_l : ∀ k, (∀ y0 y1 y2, LeO (spec_l03At.l0 k y0 y1 y2) (spec_l03At.l0 (k + 1) y0 y1 y2))
 | 0 => fun _ _ _ r h => by simp [spec_l03At.l0] at h
 | k + 1 => by
  have ih0 := spec_l03At.mono_l k
  intro y0 y1 y2
  unfold spec_l03At.l0
  repeat' first
  | (with_reducible exact LeO.refl _)
  | (with_reducible refine LeO.ite ?_ ?_)
  | (with_reducible refine LeO.bind ?_ (fun _ => ?_))
  | exact ih0 _ _ _
  | exact LeO.none _
  | refine LeO.ite ?_ ?_
  | refine LeO.bind ?_ (fun _ => ?_)
theorem spec_l03At.mono : ∀ a0 a1 k, LeO (spec_l03At.f k a0 a1) (spec_l03At.f (k + 1) a0 a1) := by
 intro a0 a1 k
 have ih0 := spec_l03At.mono_l k
 unfold spec_l03At.f
 repeat' first
   | (with_reducible exact LeO.refl _)
   | (with_reducible refine LeO.ite ?_ ?_)
   | (with_reducible refine LeO.bind ?_ (fun _ => ?_))
   | exact ih0 _ _ _
   | exact LeO.none _
   | refine LeO.ite ?_ ?_
   | refine LeO.bind ?_ (fun _ => ?_)
set_option maxHeartbeats 8000000 in
set_option maxRecDepth 100000 in
theorem spec_l03At.calls (k : Nat) (A0_0 : Option Addr) (c0_0 : Nat) (l0_0 : List (S67)) (a1 : ByteArray) (r : Int) (w : World) (hr0_0 : Kd.C k67 w A0_0 l0_0.length l0_0) (hc0_0 : l0_0.length ≤ c0_0) (h : spec_l03At.f k l0_0 a1 = some r) :
  Calls Try.prog 37 #[.agg #[.slice A0_0 l0_0.length c0_0], .string a1] w fun e w' => e = .returned (.int .i64 r) ∧ Below w.heap.size w w' := by
 have hu30 := Try.underlying30
 have HR0_0 := AM hr0_0
 have HC0_0 := AM hc0_0
 clear hr0_0 hc0_0
 have HB := AM (Below.refl w.heap.size w)
 have H : (spec_l03At.l0 k a1 0 l0_0) = some r := h
 clear h
 have H' := AM H
 clear H
 go_enter Try.func37, Try.ntmps37
 go_wp2_with (first | ((with_reducible refine gd 2 rfl ?_); refine bx (N := 2) (cs := #[.slice A0_0 l0_0.length c0_0]) (t := 30) ?_; intro gb104 hg w3 hbox hb; have BK104 := AM (hbox); have GW104 := AM (bs hg HB); have GE104 := AM (bs hg HB); replace HB := bq HB hb; clear hb hbox hg))
 go_loopg [5] k (fun kq v5 w' => ∃ (x5_1 : Int), v5 = .int .i64 x5_1 ∧ Aside0 (spec_l03At.l0 kq a1 x5_1 l0_0 = some r) ∧ Aside0 (kq ≤ k) ∧ Aside0 (w'.heap[gb104]? = some (.cells #[(.slice A0_0 l0_0.length c0_0)] 30 (0, 0))) ∧ Aside0 (Below w.heap.size w w'))
 case atStart => exact ⟨(0), sf, H', ⟨Nat.le_refl _⟩, ⟨bk BK104⟩, ⟨hS⟩⟩
 clear H'
 obtain ⟨x5_1, rfl, HA, HK1, BK104, HB⟩ := hrel
 cases gk with
 | zero => exact absurd HA.out (by simp [spec_l03At.l0])
 | succ k1 =>
  have H := HA.out
  clear HA
  simp only [spec_l03At.l0] at H
  by_cases c4 : x5_1 < (l0_0.length : Int)
  ·rw [if_pos c4] at H
   have c4b0 : decide (x5_1 < (l0_0.length : Int)) = true := decide_eq_true c4
   clear c4
   by_cases c5 : 0 ≤ x5_1
   ·rw [if_pos c5] at H
    have c5b0 : decide (0 ≤ x5_1) = true := decide_eq_true c5
    clear c5
    by_cases c6 : ((rd_T67 l0_0 x5_1).f0).toList = a1.toList
    ·rw [if_pos c6] at H
     have c6b0 : (((rd_T67 l0_0 x5_1).f0).toList == a1.toList) = true := beq_iff_eq.mpr c6
     have c6b1 : (((rd_T67 l0_0 x5_1).f0).toList != a1.toList) = false := bne_eq_false_iff_eq.mpr c6
     clear c6
     obtain rfl := Option.some.inj H
     have hcz7_0 := bv BK104 0 (.slice A0_0 l0_0.length c0_0)
     have hfz7_0 := bz BK104 0
     have p105 : 0 ≤ (x5_1 : Int) := od
     have q105 : x5_1 < (l0_0.length : Int) := od
     obtain ⟨ad105, e105, hx105_0, hx105_1, hx105_2⟩ := at_T67 HR0_0.out x5_1 p105 q105
     cases e105
     replace hx105_0 := cl HB hx105_0
     replace hx105_1 := cl HB hx105_1
     replace hx105_2 := cl HB hx105_2
     replace p105 := eq_true p105
     replace q105 := eq_true q105
     go_wp2
     go_ret
     exact ⟨er, hS⟩
    rw [if_neg c6] at H
    have c6b0 : (((rd_T67 l0_0 x5_1).f0).toList == a1.toList) = false := beq_eq_false_iff_ne.mpr c6
    have c6b1 : (((rd_T67 l0_0 x5_1).f0).toList != a1.toList) = true := bne_iff_ne.mpr c6
    have H' := AM H
    clear H
    have hcz8_0 := bv BK104 0 (.slice A0_0 l0_0.length c0_0)
    have hfz8_0 := bz BK104 0
    have p105 : 0 ≤ (x5_1 : Int) := od
    have q105 : x5_1 < (l0_0.length : Int) := od
    obtain ⟨ad105, e105, hx105_0, hx105_1, hx105_2⟩ := at_T67 HR0_0.out x5_1 p105 q105
    cases e105
    replace hx105_0 := cl HB hx105_0
    replace hx105_1 := cl HB hx105_1
    replace hx105_2 := cl HB hx105_2
    replace p105 := eq_true p105
    replace q105 := eq_true q105
    go_wp2
    go_roundg k1
    case measure => have := HK1.out; omega
    case rel => exact ⟨(wrap64 (x5_1 + 1)), sf, H', ⟨by have := HK1.out; omega⟩, ⟨bk BK104⟩, ⟨hS⟩⟩
   rw [if_neg c5] at H
   exact absurd H (by simp)
  rw [if_neg c4] at H
  have c4b0 : decide (x5_1 < (l0_0.length : Int)) = false := decide_eq_false c4
  clear c4
  obtain rfl := Option.some.inj H
  have hcz9_0 := bv BK104 0 (.slice A0_0 l0_0.length c0_0)
  have hfz9_0 := bz BK104 0
  go_wp2
  go_ret
  exact ⟨er, hS⟩

/-! ### spec_l01In: function 55 -/
def spec_l01In.f (a0 : Int) (a1 : Int) (a2 : Int) : Option (Bool) := if a0 ≥ a1 then (some (decide (a0 ≤ a2))) else (some false)
set_option maxHeartbeats 8000000 in
set_option maxRecDepth 100000 in
theorem spec_l01In.calls (a0 : Int) (a1 : Int) (a2 : Int) (r : Bool) (w : World) (h : spec_l01In.f a0 a1 a2 = some r) :
  Calls Try.prog 55 #[.int .i64 a0, .int .i64 a1, .int .i64 a2] w fun e w' => e = .returned (.bool r) ∧ Drawn0 w w' := by
 have H : (if a0 ≥ a1 then (some (decide (a0 ≤ a2))) else (some false)) = some r := h
 clear h
 by_cases c4 : a0 ≥ a1
 ·rw [if_pos c4] at H
  have c4b0 : decide (a1 ≤ a0) = true := decide_eq_true c4
  clear c4
  obtain rfl := Option.some.inj H
  go_enter Try.func55, Try.ntmps55
  go_wp2
  go_ret
  exact ⟨by first | rfl | (simp; done) | (simp [*]; done), by repeat (first | exact Drawn0.refl _ | apply Drawn0.step)⟩
 rw [if_neg c4] at H
 have c4b0 : decide (a1 ≤ a0) = false := decide_eq_false c4
 clear c4
 obtain rfl := Option.some.inj H
 go_enter Try.func55, Try.ntmps55
 go_wp2
 go_ret
 exact ⟨by first | rfl | (simp; done) | (simp [*]; done), by repeat (first | exact Drawn0.refl _ | apply Drawn0.step)⟩

/-! ### spec_l03Name: function 45 -/
def spec_l03Name.f (a0 : ByteArray) : Option (Bool) := (spec_l01In.f (a0.size : Int) 1 8).bind fun t106 => (some t106)
set_option maxHeartbeats 8000000 in
set_option maxRecDepth 100000 in
theorem spec_l03Name.calls (a0 : ByteArray) (r : Bool) (w : World) (h : spec_l03Name.f a0 = some r) :
  Calls Try.prog 45 #[.string a0] w fun e w' => e = .returned (.bool r) ∧ Drawn0 w w' := by
 have H : ((spec_l01In.f (a0.size : Int) 1 8).bind fun t106 => (some t106)) = some r := h
 clear h
 replace H := bm H
 obtain ⟨t106, A20, H⟩ := H
 replace H : (some t106) = some r := H
 have A2 := AM A20
 clear A20
 obtain rfl := Option.some.inj H
 go_enter Try.func45, Try.ntmps45
 go_wp2_with (first | ((with_reducible refine gc 55 rfl ?_); refine gl 5 Try.func55 #[.int .i64 (a0.size : Int), .int .i64 1, .int .i64 8] ?_; (with_reducible refine (spec_l01In.calls (a0.size : Int) 1 8 t106 _ A2.out).mono ?_); rintro e w' ⟨rfl, ⟨nd, rfl⟩⟩; refine ⟨_, rfl, ?_⟩))
 go_ret
 exact ⟨by first | rfl | (simp; done) | (simp [*]; done), by repeat (first | exact Drawn0.refl _ | apply Drawn0.step)⟩

end Go.Proofs.Ytnkldnkolcighaa.XFnActs
