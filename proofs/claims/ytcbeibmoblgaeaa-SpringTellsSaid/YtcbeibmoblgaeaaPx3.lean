-- Written by a program of this session (wip/tools/xprint.py, over the kit's print): Lean checks it.
import Derived.Test.YtcbeibmoblgaeaaPx0
import Derived.Test.YtcbeibmoblgaeaaPx1
import Derived.Test.YtcbeibmoblgaeaaPx2
namespace Go.Proofs.Ytcbeibmoblgaeaa.P
open Go.RowKit Go.Proofs.YtcbeibmoblgaeaaW.PrintWords Go.Proofs.YtcbeibmoblgaeaaW.PrintLast Go.Proofs.YtcbeibmoblgaeaaW.PrintMore
attribute [local go_sem] max2_int min2_int max_two min_two max_three min_three max_four min_four   -- for this text's walks alone
set_option linter.unusedVariables false
set_option linter.unusedSimpArgs false

/-! ### spring_like: function 21 -/
def spring_like.f (k : Nat) (a0_0 : Bool) (a0_1 : Int) (a0_2 : Int) (a0_3 : Int) (l0_4 : List (S77)) (a1_0 : Bool) (a1_1 : Int) (a1_2 : Int) (a1_3 : Int) (l1_4 : List (S77)) : Option (Int) := if a0_0 = true then (some 800) else ((rat_Sub.f k a1_1 a1_2 a0_1 a0_2).bind fun bt157 => (if bt157.2.2 = 0 then ((spring_Ideal.f k bt157.1 bt157.2.1).bind fun bt161 => (if bt161.2 = 0 then (some bt161.1) else (some 600))) else (some 600)))
theorem spring_like.mono : ∀ a0 a1 a2 a3 a4 a5 a6 a7 a8 a9 k, LeO (spring_like.f k a0 a1 a2 a3 a4 a5 a6 a7 a8 a9) (spring_like.f (k + 1) a0 a1 a2 a3 a4 a5 a6 a7 a8 a9) := by
 intro a0 a1 a2 a3 a4 a5 a6 a7 a8 a9 k
 unfold spring_like.f
 repeat' first
   | (with_reducible exact rat_Sub.mono _ _ _ _ _)
   | (with_reducible exact spring_Ideal.mono _ _ _)
   | (with_reducible exact LeO.refl _)
   | (with_reducible exact LeO.none _)
   | (with_reducible refine LeO.ite ?_ ?_)
   | (with_reducible refine LeO.bind ?_ (fun _ => ?_))
   | exact rat_Sub.mono _ _ _ _ _
   | exact spring_Ideal.mono _ _ _
   | exact LeO.none _
   | refine LeO.ite ?_ ?_
   | refine LeO.bind ?_ (fun _ => ?_)
set_option maxHeartbeats 8000000 in
set_option maxRecDepth 100000 in
theorem spring_like.calls (k : Nat) (a0_0 : Bool) (a0_1 : Int) (a0_2 : Int) (a0_3 : Int) (A0_4 : Option Addr) (c0_4 : Nat) (l0_4 : List (S77)) (a1_0 : Bool) (a1_1 : Int) (a1_2 : Int) (a1_3 : Int) (A1_4 : Option Addr) (c1_4 : Nat) (l1_4 : List (S77)) (r : Int) (w : World) (hr0_4 : Kd.C k77 w A0_4 l0_4.length l0_4) (hc0_4 : l0_4.length ≤ c0_4) (hr1_4 : Kd.C k77 w A1_4 l1_4.length l1_4) (hc1_4 : l1_4.length ≤ c1_4) (h : spring_like.f k a0_0 a0_1 a0_2 a0_3 l0_4 a1_0 a1_1 a1_2 a1_3 l1_4 = some r) :
  Calls Try.prog 21 #[.agg #[.bool a0_0, .int .i64 a0_1, .int .i64 a0_2, .int .i64 a0_3, .slice A0_4 l0_4.length c0_4], .agg #[.bool a1_0, .int .i64 a1_1, .int .i64 a1_2, .int .i64 a1_3, .slice A1_4 l1_4.length c1_4]] w fun e w' => e = .returned (.int .i64 r) ∧ Below w.heap.size w w' := by
 have hu48 := Try.underlying48
 have hu23 := Try.underlying23
 have HR0_4 := sd_ hr0_4
 have HC0_4 := sd_ hc0_4
 clear hr0_4 hc0_4
 have HR1_4 := sd_ hr1_4
 have HC1_4 := sd_ hc1_4
 clear hr1_4 hc1_4
 have HB := sd_ (Below.refl w.heap.size w)
 have H : (if a0_0 = true then (some 800) else ((rat_Sub.f k a1_1 a1_2 a0_1 a0_2).bind fun bt157 => (if bt157.2.2 = 0 then ((spring_Ideal.f k bt157.1 bt157.2.1).bind fun bt161 => (if bt161.2 = 0 then (some bt161.1) else (some 600))) else (some 600)))) = some r := h
 clear h
 by_cases c3 : a0_0 = true
 ·subst c3
  have H1 : (some 800) = some r := by rw [if_pos rfl] at H; exact H
  clear H; have H := H1; clear H1
  obtain rfl := Option.some.inj H
  go_enter Try.func21, Try.ntmps21
  go_wp2_with (first | ((with_reducible refine gate_dst (N := 2) rfl ?_); refine box_event ?hg (N := 2) ?hd (cs := #[.bool true, .int .i64 a0_1, .int .i64 a0_2, .int .i64 a0_3, .slice A0_4 l0_4.length c0_4]) (t := 48) ?hr ?_; (case hd => rfl); (case hg => rfl); (case hr => first | (go_simp; done) | (go_simp; rfl)); intro gb155 hg w4 hbox hb; have n0_ := sd_ (bt_ (by repeat first | exact HB.out | apply ba_ | apply pd_ | apply d1_) hb); have n1_ := sd_ (hbox); have n2_ := sd_ ((by rw [hg]; exact (bz_ (by repeat first | exact HB.out | apply ba_ | apply pd_ | apply d1_)) : w.heap.size ≤ gb155)); have n3_ := sd_ ((by rw [hg]; exact (bz_ (by repeat first | exact HB.out | apply ba_ | apply pd_ | apply d1_)) : w.heap.size ≤ gb155)); clear HB; have HB := n0_; have BK155 := n1_; have GW155 := n2_; have GE155 := n3_; clear n0_ n1_ n2_ n3_; clear hb hbox hg) | ((with_reducible refine gate_dst (N := 3) rfl ?_); refine box_event ?hg (N := 3) ?hd (cs := #[.bool a1_0, .int .i64 a1_1, .int .i64 a1_2, .int .i64 a1_3, .slice A1_4 l1_4.length c1_4]) (t := 48) ?hr ?_; (case hd => rfl); (case hg => rfl); (case hr => first | (go_simp; done) | (go_simp; rfl)); intro gb156 hg w5 hbox hb; have n0_ := sd_ (blk_below (g := gb155) (o := .cells #[.bool true, .int .i64 a0_1, .int .i64 a0_2, .int .i64 a0_3, .slice A0_4 l0_4.length c0_4] 48 (0, 0)) (by (with_reducible repeat (first | refine kn_ ?_ _ | refine kd_ ?_ | refine ka_ ?_ _)); exact BK155.out) hb); have n1_ := sd_ (bt_ (by repeat first | exact HB.out | apply ba_ | apply pd_ | apply d1_ | refine bs_ ?_ GE155.out) hb); have n2_ := sd_ (hbox); have n3_ := sd_ ((by rw [hg]; exact (bz_ (by repeat first | exact HB.out | apply ba_ | apply pd_ | apply d1_ | refine bs_ ?_ GE155.out)) : w.heap.size ≤ gb156)); have n4_ := sd_ ((by rw [hg]; exact (bz_ (by repeat first | exact HB.out | apply ba_ | apply pd_ | apply d1_ | refine bs_ ?_ GE155.out)) : w.heap.size ≤ gb156)); have n5_ := sd_ ((by rw [hg]; exact nn_ (blk_lt (g := gb155) (o := .cells #[.bool true, .int .i64 a0_1, .int .i64 a0_2, .int .i64 a0_3, .slice A0_4 l0_4.length c0_4] 48 (0, 0)) (by (with_reducible repeat (first | refine kn_ ?_ _ | refine kd_ ?_ | refine ka_ ?_ _)); exact BK155.out)) : gb155 ≠ gb156)); have n6_ := sd_ ((by rw [hg]; exact Nat.ne_of_gt (blk_lt (g := gb155) (o := .cells #[.bool true, .int .i64 a0_1, .int .i64 a0_2, .int .i64 a0_3, .slice A0_4 l0_4.length c0_4] 48 (0, 0)) (by (with_reducible repeat (first | refine kn_ ?_ _ | refine kd_ ?_ | refine ka_ ?_ _)); exact BK155.out)) : gb156 ≠ gb155)); clear BK155; clear HB; have BK155 := n0_; have HB := n1_; have BK156 := n2_; have GW156 := n3_; have GE156 := n4_; have NB155_156 := n5_; have NB156_155 := n6_; clear n0_ n1_ n2_ n3_ n4_ n5_ n6_; clear hb hbox hg; have hnb6 := NB155_156.out; have hnc6 := NB156_155.out; have hcz7_0 : w5.cell? ⟨gb155, 0, none⟩ = some (.bool true) := (kc_ BK155.out 0).trans rfl; have hcz7_1 : w5.cell? ⟨gb155, 1, none⟩ = some (.int .i64 a0_1) := (kc_ BK155.out 1).trans rfl; have hcz7_2 : w5.cell? ⟨gb155, 2, none⟩ = some (.int .i64 a0_2) := (kc_ BK155.out 2).trans rfl; have hcz7_3 : w5.cell? ⟨gb155, 3, none⟩ = some (.int .i64 a0_3) := (kc_ BK155.out 3).trans rfl; have hcz7_4 : w5.cell? ⟨gb155, 4, none⟩ = some (.slice A0_4 l0_4.length c0_4) := (kc_ BK155.out 4).trans rfl; have hfz7_0 := kf_ BK155.out 0; have hfz7_1 := kf_ BK155.out 1; have hfz7_2 := kf_ BK155.out 2; have hfz7_3 := kf_ BK155.out 3; have hfz7_4 := kf_ BK155.out 4))
  go_ret
  exact ⟨by first | rfl | (simp [errW_none, errW_some] <;> rfl) | (simp [*, errW_none, errW_some] <;> rfl), by repeat first | exact HB.out | apply ba_ | apply pd_ | apply d1_ | refine bs_ ?_ GE155.out | refine bs_ ?_ GE156.out⟩
 ·replace c3 := bf_ c3
  subst c3
  have H1 : ((rat_Sub.f k a1_1 a1_2 a0_1 a0_2).bind fun bt157 => (if bt157.2.2 = 0 then ((spring_Ideal.f k bt157.1 bt157.2.1).bind fun bt161 => (if bt161.2 = 0 then (some bt161.1) else (some 600))) else (some 600))) = some r := by rw [if_neg (show ¬ (false = true) by decide)] at H; exact H
  clear H; have H := H1; clear H1
  replace H := ob_ H
  obtain ⟨⟨t157, t158, t159⟩, A80, H⟩ := H
  replace H : (if t159 = 0 then ((spring_Ideal.f k t157 t158).bind fun bt161 => (if bt161.2 = 0 then (some bt161.1) else (some 600))) else (some 600)) = some r := H
  have A8 := sd_ A80
  clear A80
  by_cases c9 : t159 = 0
  ·rw [if_pos c9] at H
   have c9b0 : (t159 == 0) = true := beq_iff_eq.mpr c9
   have c9b1 : (t159 != 0) = false := bne_eq_false_iff_eq.mpr c9
   clear c9
   replace H := ob_ H
   obtain ⟨⟨t161, t162⟩, A100, H⟩ := H
   replace H : (if t162 = 0 then (some t161) else (some 600)) = some r := H
   have A10 := sd_ A100
   clear A100
   by_cases c11 : t162 = 0
   ·rw [if_pos c11] at H
    have c11b0 : (t162 == 0) = true := beq_iff_eq.mpr c11
    have c11b1 : (t162 != 0) = false := bne_eq_false_iff_eq.mpr c11
    clear c11
    obtain rfl := Option.some.inj H
    go_enter Try.func21, Try.ntmps21
    go_wp2_with (first | ((with_reducible refine gate_dst (N := 2) rfl ?_); refine box_event ?hg (N := 2) ?hd (cs := #[.bool false, .int .i64 a0_1, .int .i64 a0_2, .int .i64 a0_3, .slice A0_4 l0_4.length c0_4]) (t := 48) ?hr ?_; (case hd => rfl); (case hg => rfl); (case hr => first | (go_simp; done) | (go_simp; rfl)); intro gb155 hg w12 hbox hb; have n0_ := sd_ (bt_ (by repeat first | exact HB.out | apply ba_ | apply pd_ | apply d1_) hb); have n1_ := sd_ (hbox); have n2_ := sd_ ((by rw [hg]; exact (bz_ (by repeat first | exact HB.out | apply ba_ | apply pd_ | apply d1_)) : w.heap.size ≤ gb155)); have n3_ := sd_ ((by rw [hg]; exact (bz_ (by repeat first | exact HB.out | apply ba_ | apply pd_ | apply d1_)) : w.heap.size ≤ gb155)); clear HB; have HB := n0_; have BK155 := n1_; have GW155 := n2_; have GE155 := n3_; clear n0_ n1_ n2_ n3_; clear hb hbox hg) | ((with_reducible refine gate_dst (N := 3) rfl ?_); refine box_event ?hg (N := 3) ?hd (cs := #[.bool a1_0, .int .i64 a1_1, .int .i64 a1_2, .int .i64 a1_3, .slice A1_4 l1_4.length c1_4]) (t := 48) ?hr ?_; (case hd => rfl); (case hg => rfl); (case hr => first | (go_simp; done) | (go_simp; rfl)); intro gb156 hg w13 hbox hb; have n0_ := sd_ (blk_below (g := gb155) (o := .cells #[.bool false, .int .i64 a0_1, .int .i64 a0_2, .int .i64 a0_3, .slice A0_4 l0_4.length c0_4] 48 (0, 0)) (by (with_reducible repeat (first | refine kn_ ?_ _ | refine kd_ ?_ | refine ka_ ?_ _)); exact BK155.out) hb); have n1_ := sd_ (bt_ (by repeat first | exact HB.out | apply ba_ | apply pd_ | apply d1_ | refine bs_ ?_ GE155.out) hb); have n2_ := sd_ (hbox); have n3_ := sd_ ((by rw [hg]; exact (bz_ (by repeat first | exact HB.out | apply ba_ | apply pd_ | apply d1_ | refine bs_ ?_ GE155.out)) : w.heap.size ≤ gb156)); have n4_ := sd_ ((by rw [hg]; exact (bz_ (by repeat first | exact HB.out | apply ba_ | apply pd_ | apply d1_ | refine bs_ ?_ GE155.out)) : w.heap.size ≤ gb156)); have n5_ := sd_ ((by rw [hg]; exact nn_ (blk_lt (g := gb155) (o := .cells #[.bool false, .int .i64 a0_1, .int .i64 a0_2, .int .i64 a0_3, .slice A0_4 l0_4.length c0_4] 48 (0, 0)) (by (with_reducible repeat (first | refine kn_ ?_ _ | refine kd_ ?_ | refine ka_ ?_ _)); exact BK155.out)) : gb155 ≠ gb156)); have n6_ := sd_ ((by rw [hg]; exact Nat.ne_of_gt (blk_lt (g := gb155) (o := .cells #[.bool false, .int .i64 a0_1, .int .i64 a0_2, .int .i64 a0_3, .slice A0_4 l0_4.length c0_4] 48 (0, 0)) (by (with_reducible repeat (first | refine kn_ ?_ _ | refine kd_ ?_ | refine ka_ ?_ _)); exact BK155.out)) : gb156 ≠ gb155)); clear BK155; clear HB; have BK155 := n0_; have HB := n1_; have BK156 := n2_; have GW156 := n3_; have GE156 := n4_; have NB155_156 := n5_; have NB156_155 := n6_; clear n0_ n1_ n2_ n3_ n4_ n5_ n6_; clear hb hbox hg; have hnb14 := NB155_156.out; have hnc14 := NB156_155.out; have hcz15_0 : w13.cell? ⟨gb155, 0, none⟩ = some (.bool false) := (kc_ BK155.out 0).trans rfl; have hcz15_1 : w13.cell? ⟨gb155, 1, none⟩ = some (.int .i64 a0_1) := (kc_ BK155.out 1).trans rfl; have hcz15_2 : w13.cell? ⟨gb155, 2, none⟩ = some (.int .i64 a0_2) := (kc_ BK155.out 2).trans rfl; have hcz15_3 : w13.cell? ⟨gb155, 3, none⟩ = some (.int .i64 a0_3) := (kc_ BK155.out 3).trans rfl; have hcz15_4 : w13.cell? ⟨gb155, 4, none⟩ = some (.slice A0_4 l0_4.length c0_4) := (kc_ BK155.out 4).trans rfl; have hfz15_0 := kf_ BK155.out 0; have hfz15_1 := kf_ BK155.out 1; have hfz15_2 := kf_ BK155.out 2; have hfz15_3 := kf_ BK155.out 3; have hfz15_4 := kf_ BK155.out 4; have hcz16_0 : w13.cell? ⟨gb156, 0, none⟩ = some (.bool a1_0) := (kc_ BK156.out 0).trans rfl; have hcz16_1 : w13.cell? ⟨gb156, 1, none⟩ = some (.int .i64 a1_1) := (kc_ BK156.out 1).trans rfl; have hcz16_2 : w13.cell? ⟨gb156, 2, none⟩ = some (.int .i64 a1_2) := (kc_ BK156.out 2).trans rfl; have hcz16_3 : w13.cell? ⟨gb156, 3, none⟩ = some (.int .i64 a1_3) := (kc_ BK156.out 3).trans rfl; have hcz16_4 : w13.cell? ⟨gb156, 4, none⟩ = some (.slice A1_4 l1_4.length c1_4) := (kc_ BK156.out 4).trans rfl; have hfz16_0 := kf_ BK156.out 0; have hfz16_1 := kf_ BK156.out 1; have hfz16_2 := kf_ BK156.out 2; have hfz16_3 := kf_ BK156.out 3; have hfz16_4 := kf_ BK156.out 4) | ((with_reducible refine gate_callee (f := 29) rfl ?_); refine goesL_ (some 15) rfl rfl Try.func29 (by kernel_rfl) rfl #[.agg #[.int .i64 a1_1, .int .i64 a1_2], .agg #[.int .i64 a0_1, .int .i64 a0_2]] rfl (by (try simp only [lm_, lq_, lx_]); first | done | rfl | (simp only [ld_, lt_]; rfl)) ?_; (with_reducible refine (rat_Sub.calls k a1_1 a1_2 a0_1 a0_2 t157 t158 t159 _ A8.out).mono ?_); rintro e w17 ⟨rfl, hb⟩; refine ⟨_, rfl, ?_⟩; have n0_ := sd_ (blk_below (g := gb155) (o := .cells #[.bool false, .int .i64 a0_1, .int .i64 a0_2, .int .i64 a0_3, .slice A0_4 l0_4.length c0_4] 48 (0, 0)) (by (with_reducible repeat (first | refine kn_ ?_ _ | refine kd_ ?_ | refine ka_ ?_ _)); exact BK155.out) hb); have n1_ := sd_ (blk_below (g := gb156) (o := .cells #[.bool a1_0, .int .i64 a1_1, .int .i64 a1_2, .int .i64 a1_3, .slice A1_4 l1_4.length c1_4] 48 (0, 0)) (by (with_reducible repeat (first | refine kn_ ?_ _ | refine kd_ ?_ | refine ka_ ?_ _)); exact BK156.out) hb); have n2_ := sd_ (bt_ (by repeat first | exact HB.out | apply ba_ | apply pd_ | apply d1_ | refine bs_ ?_ GE155.out | refine bs_ ?_ GE156.out) hb); clear BK155; clear BK156; clear HB; have BK155 := n0_; have BK156 := n1_; have HB := n2_; clear n0_ n1_ n2_; (try clear hb); (try clear hb2); (try clear hk); (try clear hi)) | ((with_reducible refine gate_dst (N := 5) rfl ?_); refine box_event ?hg (N := 5) ?hd (cs := #[.int .i64 0, .int .i64 0]) (t := 23) ?hr ?_; (case hd => rfl); (case hg => rfl); (case hr => first | (go_simp; done) | (go_simp; rfl)); intro gb160 hg w18 hbox hb; have n0_ := sd_ (blk_below (g := gb155) (o := .cells #[.bool false, .int .i64 a0_1, .int .i64 a0_2, .int .i64 a0_3, .slice A0_4 l0_4.length c0_4] 48 (0, 0)) (by (with_reducible repeat (first | refine kn_ ?_ _ | refine kd_ ?_ | refine ka_ ?_ _)); exact BK155.out) hb); have n1_ := sd_ (blk_below (g := gb156) (o := .cells #[.bool a1_0, .int .i64 a1_1, .int .i64 a1_2, .int .i64 a1_3, .slice A1_4 l1_4.length c1_4] 48 (0, 0)) (by (with_reducible repeat (first | refine kn_ ?_ _ | refine kd_ ?_ | refine ka_ ?_ _)); exact BK156.out) hb); have n2_ := sd_ (bt_ (by repeat first | exact HB.out | apply ba_ | apply pd_ | apply d1_ | refine bs_ ?_ GE155.out | refine bs_ ?_ GE156.out) hb); have n3_ := sd_ (hbox); have n4_ := sd_ ((by rw [hg]; exact (bz_ (by repeat first | exact HB.out | apply ba_ | apply pd_ | apply d1_ | refine bs_ ?_ GE155.out | refine bs_ ?_ GE156.out)) : w.heap.size ≤ gb160)); have n5_ := sd_ ((by rw [hg]; exact (bz_ (by repeat first | exact HB.out | apply ba_ | apply pd_ | apply d1_ | refine bs_ ?_ GE155.out | refine bs_ ?_ GE156.out)) : w.heap.size ≤ gb160)); have n6_ := sd_ ((by rw [hg]; exact nn_ (blk_lt (g := gb155) (o := .cells #[.bool false, .int .i64 a0_1, .int .i64 a0_2, .int .i64 a0_3, .slice A0_4 l0_4.length c0_4] 48 (0, 0)) (by (with_reducible repeat (first | refine kn_ ?_ _ | refine kd_ ?_ | refine ka_ ?_ _)); exact BK155.out)) : gb155 ≠ gb160)); have n7_ := sd_ ((by rw [hg]; exact Nat.ne_of_gt (blk_lt (g := gb155) (o := .cells #[.bool false, .int .i64 a0_1, .int .i64 a0_2, .int .i64 a0_3, .slice A0_4 l0_4.length c0_4] 48 (0, 0)) (by (with_reducible repeat (first | refine kn_ ?_ _ | refine kd_ ?_ | refine ka_ ?_ _)); exact BK155.out)) : gb160 ≠ gb155)); have n8_ := sd_ ((by rw [hg]; exact nn_ (blk_lt (g := gb156) (o := .cells #[.bool a1_0, .int .i64 a1_1, .int .i64 a1_2, .int .i64 a1_3, .slice A1_4 l1_4.length c1_4] 48 (0, 0)) (by (with_reducible repeat (first | refine kn_ ?_ _ | refine kd_ ?_ | refine ka_ ?_ _)); exact BK156.out)) : gb156 ≠ gb160)); have n9_ := sd_ ((by rw [hg]; exact Nat.ne_of_gt (blk_lt (g := gb156) (o := .cells #[.bool a1_0, .int .i64 a1_1, .int .i64 a1_2, .int .i64 a1_3, .slice A1_4 l1_4.length c1_4] 48 (0, 0)) (by (with_reducible repeat (first | refine kn_ ?_ _ | refine kd_ ?_ | refine ka_ ?_ _)); exact BK156.out)) : gb160 ≠ gb156)); clear BK155; clear BK156; clear HB; have BK155 := n0_; have BK156 := n1_; have HB := n2_; have BK160 := n3_; have GW160 := n4_; have GE160 := n5_; have NB155_160 := n6_; have NB160_155 := n7_; have NB156_160 := n8_; have NB160_156 := n9_; clear n0_ n1_ n2_ n3_ n4_ n5_ n6_ n7_ n8_ n9_; clear hb hbox hg; have hnb19 := NB160_155.out; have hnc19 := NB155_160.out; have hnb20 := NB160_156.out; have hnc20 := NB156_160.out; have hcz21_0 : w18.cell? ⟨gb160, 0, none⟩ = some (.int .i64 0) := (kc_ BK160.out 0).trans rfl; have hcz21_1 : w18.cell? ⟨gb160, 1, none⟩ = some (.int .i64 0) := (kc_ BK160.out 1).trans rfl; have hfz21_0 := kf_ BK160.out 0; have hfz21_1 := kf_ BK160.out 1) | ((with_reducible refine gate_callee (f := 7) rfl ?_); refine goesL_ (some 22) rfl rfl Try.func7 (by kernel_rfl) rfl #[.agg #[.int .i64 t157, .int .i64 t158]] rfl (by (try simp only [lm_, lq_, lx_]); first | done | rfl | (simp only [ld_, lt_]; rfl)) ?_; (with_reducible refine (spring_Ideal.calls k t157 t158 t161 t162 _ A10.out).mono ?_); rintro e w22 ⟨rfl, hb⟩; refine ⟨_, rfl, ?_⟩; have n0_ := sd_ (blk_below (g := gb155) (o := .cells #[.bool false, .int .i64 a0_1, .int .i64 a0_2, .int .i64 a0_3, .slice A0_4 l0_4.length c0_4] 48 (0, 0)) (by (with_reducible repeat (first | refine kn_ ?_ _ | refine kd_ ?_ | refine ka_ ?_ _)); refine blk_far ?_ NB155_160.out _; (with_reducible repeat (first | refine kn_ ?_ _ | refine kd_ ?_ | refine ka_ ?_ _)); refine blk_far ?_ NB155_160.out _; (with_reducible repeat (first | refine kn_ ?_ _ | refine kd_ ?_ | refine ka_ ?_ _)); exact BK155.out) hb); have n1_ := sd_ (blk_below (g := gb156) (o := .cells #[.bool a1_0, .int .i64 a1_1, .int .i64 a1_2, .int .i64 a1_3, .slice A1_4 l1_4.length c1_4] 48 (0, 0)) (by (with_reducible repeat (first | refine kn_ ?_ _ | refine kd_ ?_ | refine ka_ ?_ _)); refine blk_far ?_ NB156_160.out _; (with_reducible repeat (first | refine kn_ ?_ _ | refine kd_ ?_ | refine ka_ ?_ _)); refine blk_far ?_ NB156_160.out _; (with_reducible repeat (first | refine kn_ ?_ _ | refine kd_ ?_ | refine ka_ ?_ _)); exact BK156.out) hb); have n2_ := sd_ (blk_below (g := gb160) (o := .cells #[.int .i64 t157, .int .i64 t158] 23 (0, 0)) (by (with_reducible repeat (first | refine kn_ ?_ _ | refine kd_ ?_ | refine ka_ ?_ _)); refine blk_put (cs := #[.int .i64 t157, .int .i64 0]) ?_ 1 _ rfl; (with_reducible repeat (first | refine kn_ ?_ _ | refine kd_ ?_ | refine ka_ ?_ _)); refine blk_put (cs := #[.int .i64 0, .int .i64 0]) ?_ 0 _ rfl; (with_reducible repeat (first | refine kn_ ?_ _ | refine kd_ ?_ | refine ka_ ?_ _)); exact BK160.out) hb); have n3_ := sd_ (bt_ (by repeat first | exact HB.out | apply ba_ | apply pd_ | apply d1_ | refine bs_ ?_ GE155.out | refine bs_ ?_ GE156.out | refine bs_ ?_ GE160.out) hb); clear BK155; clear BK156; clear BK160; clear HB; have BK155 := n0_; have BK156 := n1_; have BK160 := n2_; have HB := n3_; clear n0_ n1_ n2_ n3_; (try clear hb); (try clear hb2); (try clear hk); (try clear hi)))
    go_ret
    exact ⟨by first | rfl | (simp [errW_none, errW_some] <;> rfl) | (simp [*, errW_none, errW_some] <;> rfl), by repeat first | exact HB.out | apply ba_ | apply pd_ | apply d1_ | refine bs_ ?_ GE155.out | refine bs_ ?_ GE156.out | refine bs_ ?_ GE160.out⟩
   ·rw [if_neg c11] at H
    have c11b0 : (t162 == 0) = false := beq_eq_false_iff_ne.mpr c11
    have c11b1 : (t162 != 0) = true := bne_iff_ne.mpr c11
    obtain rfl := Option.some.inj H
    go_enter Try.func21, Try.ntmps21
    go_wp2_with (first | ((with_reducible refine gate_dst (N := 2) rfl ?_); refine box_event ?hg (N := 2) ?hd (cs := #[.bool false, .int .i64 a0_1, .int .i64 a0_2, .int .i64 a0_3, .slice A0_4 l0_4.length c0_4]) (t := 48) ?hr ?_; (case hd => rfl); (case hg => rfl); (case hr => first | (go_simp; done) | (go_simp; rfl)); intro gb155 hg w23 hbox hb; have n0_ := sd_ (bt_ (by repeat first | exact HB.out | apply ba_ | apply pd_ | apply d1_) hb); have n1_ := sd_ (hbox); have n2_ := sd_ ((by rw [hg]; exact (bz_ (by repeat first | exact HB.out | apply ba_ | apply pd_ | apply d1_)) : w.heap.size ≤ gb155)); have n3_ := sd_ ((by rw [hg]; exact (bz_ (by repeat first | exact HB.out | apply ba_ | apply pd_ | apply d1_)) : w.heap.size ≤ gb155)); clear HB; have HB := n0_; have BK155 := n1_; have GW155 := n2_; have GE155 := n3_; clear n0_ n1_ n2_ n3_; clear hb hbox hg) | ((with_reducible refine gate_dst (N := 3) rfl ?_); refine box_event ?hg (N := 3) ?hd (cs := #[.bool a1_0, .int .i64 a1_1, .int .i64 a1_2, .int .i64 a1_3, .slice A1_4 l1_4.length c1_4]) (t := 48) ?hr ?_; (case hd => rfl); (case hg => rfl); (case hr => first | (go_simp; done) | (go_simp; rfl)); intro gb156 hg w24 hbox hb; have n0_ := sd_ (blk_below (g := gb155) (o := .cells #[.bool false, .int .i64 a0_1, .int .i64 a0_2, .int .i64 a0_3, .slice A0_4 l0_4.length c0_4] 48 (0, 0)) (by (with_reducible repeat (first | refine kn_ ?_ _ | refine kd_ ?_ | refine ka_ ?_ _)); exact BK155.out) hb); have n1_ := sd_ (bt_ (by repeat first | exact HB.out | apply ba_ | apply pd_ | apply d1_ | refine bs_ ?_ GE155.out) hb); have n2_ := sd_ (hbox); have n3_ := sd_ ((by rw [hg]; exact (bz_ (by repeat first | exact HB.out | apply ba_ | apply pd_ | apply d1_ | refine bs_ ?_ GE155.out)) : w.heap.size ≤ gb156)); have n4_ := sd_ ((by rw [hg]; exact (bz_ (by repeat first | exact HB.out | apply ba_ | apply pd_ | apply d1_ | refine bs_ ?_ GE155.out)) : w.heap.size ≤ gb156)); have n5_ := sd_ ((by rw [hg]; exact nn_ (blk_lt (g := gb155) (o := .cells #[.bool false, .int .i64 a0_1, .int .i64 a0_2, .int .i64 a0_3, .slice A0_4 l0_4.length c0_4] 48 (0, 0)) (by (with_reducible repeat (first | refine kn_ ?_ _ | refine kd_ ?_ | refine ka_ ?_ _)); exact BK155.out)) : gb155 ≠ gb156)); have n6_ := sd_ ((by rw [hg]; exact Nat.ne_of_gt (blk_lt (g := gb155) (o := .cells #[.bool false, .int .i64 a0_1, .int .i64 a0_2, .int .i64 a0_3, .slice A0_4 l0_4.length c0_4] 48 (0, 0)) (by (with_reducible repeat (first | refine kn_ ?_ _ | refine kd_ ?_ | refine ka_ ?_ _)); exact BK155.out)) : gb156 ≠ gb155)); clear BK155; clear HB; have BK155 := n0_; have HB := n1_; have BK156 := n2_; have GW156 := n3_; have GE156 := n4_; have NB155_156 := n5_; have NB156_155 := n6_; clear n0_ n1_ n2_ n3_ n4_ n5_ n6_; clear hb hbox hg; have hnb25 := NB155_156.out; have hnc25 := NB156_155.out; have hcz26_0 : w24.cell? ⟨gb155, 0, none⟩ = some (.bool false) := (kc_ BK155.out 0).trans rfl; have hcz26_1 : w24.cell? ⟨gb155, 1, none⟩ = some (.int .i64 a0_1) := (kc_ BK155.out 1).trans rfl; have hcz26_2 : w24.cell? ⟨gb155, 2, none⟩ = some (.int .i64 a0_2) := (kc_ BK155.out 2).trans rfl; have hcz26_3 : w24.cell? ⟨gb155, 3, none⟩ = some (.int .i64 a0_3) := (kc_ BK155.out 3).trans rfl; have hcz26_4 : w24.cell? ⟨gb155, 4, none⟩ = some (.slice A0_4 l0_4.length c0_4) := (kc_ BK155.out 4).trans rfl; have hfz26_0 := kf_ BK155.out 0; have hfz26_1 := kf_ BK155.out 1; have hfz26_2 := kf_ BK155.out 2; have hfz26_3 := kf_ BK155.out 3; have hfz26_4 := kf_ BK155.out 4; have hcz27_0 : w24.cell? ⟨gb156, 0, none⟩ = some (.bool a1_0) := (kc_ BK156.out 0).trans rfl; have hcz27_1 : w24.cell? ⟨gb156, 1, none⟩ = some (.int .i64 a1_1) := (kc_ BK156.out 1).trans rfl; have hcz27_2 : w24.cell? ⟨gb156, 2, none⟩ = some (.int .i64 a1_2) := (kc_ BK156.out 2).trans rfl; have hcz27_3 : w24.cell? ⟨gb156, 3, none⟩ = some (.int .i64 a1_3) := (kc_ BK156.out 3).trans rfl; have hcz27_4 : w24.cell? ⟨gb156, 4, none⟩ = some (.slice A1_4 l1_4.length c1_4) := (kc_ BK156.out 4).trans rfl; have hfz27_0 := kf_ BK156.out 0; have hfz27_1 := kf_ BK156.out 1; have hfz27_2 := kf_ BK156.out 2; have hfz27_3 := kf_ BK156.out 3; have hfz27_4 := kf_ BK156.out 4) | ((with_reducible refine gate_callee (f := 29) rfl ?_); refine goesL_ (some 15) rfl rfl Try.func29 (by kernel_rfl) rfl #[.agg #[.int .i64 a1_1, .int .i64 a1_2], .agg #[.int .i64 a0_1, .int .i64 a0_2]] rfl (by (try simp only [lm_, lq_, lx_]); first | done | rfl | (simp only [ld_, lt_]; rfl)) ?_; (with_reducible refine (rat_Sub.calls k a1_1 a1_2 a0_1 a0_2 t157 t158 t159 _ A8.out).mono ?_); rintro e w28 ⟨rfl, hb⟩; refine ⟨_, rfl, ?_⟩; have n0_ := sd_ (blk_below (g := gb155) (o := .cells #[.bool false, .int .i64 a0_1, .int .i64 a0_2, .int .i64 a0_3, .slice A0_4 l0_4.length c0_4] 48 (0, 0)) (by (with_reducible repeat (first | refine kn_ ?_ _ | refine kd_ ?_ | refine ka_ ?_ _)); exact BK155.out) hb); have n1_ := sd_ (blk_below (g := gb156) (o := .cells #[.bool a1_0, .int .i64 a1_1, .int .i64 a1_2, .int .i64 a1_3, .slice A1_4 l1_4.length c1_4] 48 (0, 0)) (by (with_reducible repeat (first | refine kn_ ?_ _ | refine kd_ ?_ | refine ka_ ?_ _)); exact BK156.out) hb); have n2_ := sd_ (bt_ (by repeat first | exact HB.out | apply ba_ | apply pd_ | apply d1_ | refine bs_ ?_ GE155.out | refine bs_ ?_ GE156.out) hb); clear BK155; clear BK156; clear HB; have BK155 := n0_; have BK156 := n1_; have HB := n2_; clear n0_ n1_ n2_; (try clear hb); (try clear hb2); (try clear hk); (try clear hi)) | ((with_reducible refine gate_dst (N := 5) rfl ?_); refine box_event ?hg (N := 5) ?hd (cs := #[.int .i64 0, .int .i64 0]) (t := 23) ?hr ?_; (case hd => rfl); (case hg => rfl); (case hr => first | (go_simp; done) | (go_simp; rfl)); intro gb160 hg w29 hbox hb; have n0_ := sd_ (blk_below (g := gb155) (o := .cells #[.bool false, .int .i64 a0_1, .int .i64 a0_2, .int .i64 a0_3, .slice A0_4 l0_4.length c0_4] 48 (0, 0)) (by (with_reducible repeat (first | refine kn_ ?_ _ | refine kd_ ?_ | refine ka_ ?_ _)); exact BK155.out) hb); have n1_ := sd_ (blk_below (g := gb156) (o := .cells #[.bool a1_0, .int .i64 a1_1, .int .i64 a1_2, .int .i64 a1_3, .slice A1_4 l1_4.length c1_4] 48 (0, 0)) (by (with_reducible repeat (first | refine kn_ ?_ _ | refine kd_ ?_ | refine ka_ ?_ _)); exact BK156.out) hb); have n2_ := sd_ (bt_ (by repeat first | exact HB.out | apply ba_ | apply pd_ | apply d1_ | refine bs_ ?_ GE155.out | refine bs_ ?_ GE156.out) hb); have n3_ := sd_ (hbox); have n4_ := sd_ ((by rw [hg]; exact (bz_ (by repeat first | exact HB.out | apply ba_ | apply pd_ | apply d1_ | refine bs_ ?_ GE155.out | refine bs_ ?_ GE156.out)) : w.heap.size ≤ gb160)); have n5_ := sd_ ((by rw [hg]; exact (bz_ (by repeat first | exact HB.out | apply ba_ | apply pd_ | apply d1_ | refine bs_ ?_ GE155.out | refine bs_ ?_ GE156.out)) : w.heap.size ≤ gb160)); have n6_ := sd_ ((by rw [hg]; exact nn_ (blk_lt (g := gb155) (o := .cells #[.bool false, .int .i64 a0_1, .int .i64 a0_2, .int .i64 a0_3, .slice A0_4 l0_4.length c0_4] 48 (0, 0)) (by (with_reducible repeat (first | refine kn_ ?_ _ | refine kd_ ?_ | refine ka_ ?_ _)); exact BK155.out)) : gb155 ≠ gb160)); have n7_ := sd_ ((by rw [hg]; exact Nat.ne_of_gt (blk_lt (g := gb155) (o := .cells #[.bool false, .int .i64 a0_1, .int .i64 a0_2, .int .i64 a0_3, .slice A0_4 l0_4.length c0_4] 48 (0, 0)) (by (with_reducible repeat (first | refine kn_ ?_ _ | refine kd_ ?_ | refine ka_ ?_ _)); exact BK155.out)) : gb160 ≠ gb155)); have n8_ := sd_ ((by rw [hg]; exact nn_ (blk_lt (g := gb156) (o := .cells #[.bool a1_0, .int .i64 a1_1, .int .i64 a1_2, .int .i64 a1_3, .slice A1_4 l1_4.length c1_4] 48 (0, 0)) (by (with_reducible repeat (first | refine kn_ ?_ _ | refine kd_ ?_ | refine ka_ ?_ _)); exact BK156.out)) : gb156 ≠ gb160)); have n9_ := sd_ ((by rw [hg]; exact Nat.ne_of_gt (blk_lt (g := gb156) (o := .cells #[.bool a1_0, .int .i64 a1_1, .int .i64 a1_2, .int .i64 a1_3, .slice A1_4 l1_4.length c1_4] 48 (0, 0)) (by (with_reducible repeat (first | refine kn_ ?_ _ | refine kd_ ?_ | refine ka_ ?_ _)); exact BK156.out)) : gb160 ≠ gb156)); clear BK155; clear BK156; clear HB; have BK155 := n0_; have BK156 := n1_; have HB := n2_; have BK160 := n3_; have GW160 := n4_; have GE160 := n5_; have NB155_160 := n6_; have NB160_155 := n7_; have NB156_160 := n8_; have NB160_156 := n9_; clear n0_ n1_ n2_ n3_ n4_ n5_ n6_ n7_ n8_ n9_; clear hb hbox hg; have hnb30 := NB160_155.out; have hnc30 := NB155_160.out; have hnb31 := NB160_156.out; have hnc31 := NB156_160.out; have hcz32_0 : w29.cell? ⟨gb160, 0, none⟩ = some (.int .i64 0) := (kc_ BK160.out 0).trans rfl; have hcz32_1 : w29.cell? ⟨gb160, 1, none⟩ = some (.int .i64 0) := (kc_ BK160.out 1).trans rfl; have hfz32_0 := kf_ BK160.out 0; have hfz32_1 := kf_ BK160.out 1) | ((with_reducible refine gate_callee (f := 7) rfl ?_); refine goesL_ (some 22) rfl rfl Try.func7 (by kernel_rfl) rfl #[.agg #[.int .i64 t157, .int .i64 t158]] rfl (by (try simp only [lm_, lq_, lx_]); first | done | rfl | (simp only [ld_, lt_]; rfl)) ?_; (with_reducible refine (spring_Ideal.calls k t157 t158 t161 t162 _ A10.out).mono ?_); rintro e w33 ⟨rfl, hb⟩; refine ⟨_, rfl, ?_⟩; have n0_ := sd_ (blk_below (g := gb155) (o := .cells #[.bool false, .int .i64 a0_1, .int .i64 a0_2, .int .i64 a0_3, .slice A0_4 l0_4.length c0_4] 48 (0, 0)) (by (with_reducible repeat (first | refine kn_ ?_ _ | refine kd_ ?_ | refine ka_ ?_ _)); refine blk_far ?_ NB155_160.out _; (with_reducible repeat (first | refine kn_ ?_ _ | refine kd_ ?_ | refine ka_ ?_ _)); refine blk_far ?_ NB155_160.out _; (with_reducible repeat (first | refine kn_ ?_ _ | refine kd_ ?_ | refine ka_ ?_ _)); exact BK155.out) hb); have n1_ := sd_ (blk_below (g := gb156) (o := .cells #[.bool a1_0, .int .i64 a1_1, .int .i64 a1_2, .int .i64 a1_3, .slice A1_4 l1_4.length c1_4] 48 (0, 0)) (by (with_reducible repeat (first | refine kn_ ?_ _ | refine kd_ ?_ | refine ka_ ?_ _)); refine blk_far ?_ NB156_160.out _; (with_reducible repeat (first | refine kn_ ?_ _ | refine kd_ ?_ | refine ka_ ?_ _)); refine blk_far ?_ NB156_160.out _; (with_reducible repeat (first | refine kn_ ?_ _ | refine kd_ ?_ | refine ka_ ?_ _)); exact BK156.out) hb); have n2_ := sd_ (blk_below (g := gb160) (o := .cells #[.int .i64 t157, .int .i64 t158] 23 (0, 0)) (by (with_reducible repeat (first | refine kn_ ?_ _ | refine kd_ ?_ | refine ka_ ?_ _)); refine blk_put (cs := #[.int .i64 t157, .int .i64 0]) ?_ 1 _ rfl; (with_reducible repeat (first | refine kn_ ?_ _ | refine kd_ ?_ | refine ka_ ?_ _)); refine blk_put (cs := #[.int .i64 0, .int .i64 0]) ?_ 0 _ rfl; (with_reducible repeat (first | refine kn_ ?_ _ | refine kd_ ?_ | refine ka_ ?_ _)); exact BK160.out) hb); have n3_ := sd_ (bt_ (by repeat first | exact HB.out | apply ba_ | apply pd_ | apply d1_ | refine bs_ ?_ GE155.out | refine bs_ ?_ GE156.out | refine bs_ ?_ GE160.out) hb); clear BK155; clear BK156; clear BK160; clear HB; have BK155 := n0_; have BK156 := n1_; have BK160 := n2_; have HB := n3_; clear n0_ n1_ n2_ n3_; (try clear hb); (try clear hb2); (try clear hk); (try clear hi)))
    go_ret
    exact ⟨by first | rfl | (simp [errW_none, errW_some] <;> rfl) | (simp [*, errW_none, errW_some] <;> rfl), by repeat first | exact HB.out | apply ba_ | apply pd_ | apply d1_ | refine bs_ ?_ GE155.out | refine bs_ ?_ GE156.out | refine bs_ ?_ GE160.out⟩
  ·rw [if_neg c9] at H
   have c9b0 : (t159 == 0) = false := beq_eq_false_iff_ne.mpr c9
   have c9b1 : (t159 != 0) = true := bne_iff_ne.mpr c9
   obtain rfl := Option.some.inj H
   go_enter Try.func21, Try.ntmps21
   go_wp2_with (first | ((with_reducible refine gate_dst (N := 2) rfl ?_); refine box_event ?hg (N := 2) ?hd (cs := #[.bool false, .int .i64 a0_1, .int .i64 a0_2, .int .i64 a0_3, .slice A0_4 l0_4.length c0_4]) (t := 48) ?hr ?_; (case hd => rfl); (case hg => rfl); (case hr => first | (go_simp; done) | (go_simp; rfl)); intro gb155 hg w34 hbox hb; have n0_ := sd_ (bt_ (by repeat first | exact HB.out | apply ba_ | apply pd_ | apply d1_) hb); have n1_ := sd_ (hbox); have n2_ := sd_ ((by rw [hg]; exact (bz_ (by repeat first | exact HB.out | apply ba_ | apply pd_ | apply d1_)) : w.heap.size ≤ gb155)); have n3_ := sd_ ((by rw [hg]; exact (bz_ (by repeat first | exact HB.out | apply ba_ | apply pd_ | apply d1_)) : w.heap.size ≤ gb155)); clear HB; have HB := n0_; have BK155 := n1_; have GW155 := n2_; have GE155 := n3_; clear n0_ n1_ n2_ n3_; clear hb hbox hg) | ((with_reducible refine gate_dst (N := 3) rfl ?_); refine box_event ?hg (N := 3) ?hd (cs := #[.bool a1_0, .int .i64 a1_1, .int .i64 a1_2, .int .i64 a1_3, .slice A1_4 l1_4.length c1_4]) (t := 48) ?hr ?_; (case hd => rfl); (case hg => rfl); (case hr => first | (go_simp; done) | (go_simp; rfl)); intro gb156 hg w35 hbox hb; have n0_ := sd_ (blk_below (g := gb155) (o := .cells #[.bool false, .int .i64 a0_1, .int .i64 a0_2, .int .i64 a0_3, .slice A0_4 l0_4.length c0_4] 48 (0, 0)) (by (with_reducible repeat (first | refine kn_ ?_ _ | refine kd_ ?_ | refine ka_ ?_ _)); exact BK155.out) hb); have n1_ := sd_ (bt_ (by repeat first | exact HB.out | apply ba_ | apply pd_ | apply d1_ | refine bs_ ?_ GE155.out) hb); have n2_ := sd_ (hbox); have n3_ := sd_ ((by rw [hg]; exact (bz_ (by repeat first | exact HB.out | apply ba_ | apply pd_ | apply d1_ | refine bs_ ?_ GE155.out)) : w.heap.size ≤ gb156)); have n4_ := sd_ ((by rw [hg]; exact (bz_ (by repeat first | exact HB.out | apply ba_ | apply pd_ | apply d1_ | refine bs_ ?_ GE155.out)) : w.heap.size ≤ gb156)); have n5_ := sd_ ((by rw [hg]; exact nn_ (blk_lt (g := gb155) (o := .cells #[.bool false, .int .i64 a0_1, .int .i64 a0_2, .int .i64 a0_3, .slice A0_4 l0_4.length c0_4] 48 (0, 0)) (by (with_reducible repeat (first | refine kn_ ?_ _ | refine kd_ ?_ | refine ka_ ?_ _)); exact BK155.out)) : gb155 ≠ gb156)); have n6_ := sd_ ((by rw [hg]; exact Nat.ne_of_gt (blk_lt (g := gb155) (o := .cells #[.bool false, .int .i64 a0_1, .int .i64 a0_2, .int .i64 a0_3, .slice A0_4 l0_4.length c0_4] 48 (0, 0)) (by (with_reducible repeat (first | refine kn_ ?_ _ | refine kd_ ?_ | refine ka_ ?_ _)); exact BK155.out)) : gb156 ≠ gb155)); clear BK155; clear HB; have BK155 := n0_; have HB := n1_; have BK156 := n2_; have GW156 := n3_; have GE156 := n4_; have NB155_156 := n5_; have NB156_155 := n6_; clear n0_ n1_ n2_ n3_ n4_ n5_ n6_; clear hb hbox hg; have hnb36 := NB155_156.out; have hnc36 := NB156_155.out; have hcz37_0 : w35.cell? ⟨gb155, 0, none⟩ = some (.bool false) := (kc_ BK155.out 0).trans rfl; have hcz37_1 : w35.cell? ⟨gb155, 1, none⟩ = some (.int .i64 a0_1) := (kc_ BK155.out 1).trans rfl; have hcz37_2 : w35.cell? ⟨gb155, 2, none⟩ = some (.int .i64 a0_2) := (kc_ BK155.out 2).trans rfl; have hcz37_3 : w35.cell? ⟨gb155, 3, none⟩ = some (.int .i64 a0_3) := (kc_ BK155.out 3).trans rfl; have hcz37_4 : w35.cell? ⟨gb155, 4, none⟩ = some (.slice A0_4 l0_4.length c0_4) := (kc_ BK155.out 4).trans rfl; have hfz37_0 := kf_ BK155.out 0; have hfz37_1 := kf_ BK155.out 1; have hfz37_2 := kf_ BK155.out 2; have hfz37_3 := kf_ BK155.out 3; have hfz37_4 := kf_ BK155.out 4; have hcz38_0 : w35.cell? ⟨gb156, 0, none⟩ = some (.bool a1_0) := (kc_ BK156.out 0).trans rfl; have hcz38_1 : w35.cell? ⟨gb156, 1, none⟩ = some (.int .i64 a1_1) := (kc_ BK156.out 1).trans rfl; have hcz38_2 : w35.cell? ⟨gb156, 2, none⟩ = some (.int .i64 a1_2) := (kc_ BK156.out 2).trans rfl; have hcz38_3 : w35.cell? ⟨gb156, 3, none⟩ = some (.int .i64 a1_3) := (kc_ BK156.out 3).trans rfl; have hcz38_4 : w35.cell? ⟨gb156, 4, none⟩ = some (.slice A1_4 l1_4.length c1_4) := (kc_ BK156.out 4).trans rfl; have hfz38_0 := kf_ BK156.out 0; have hfz38_1 := kf_ BK156.out 1; have hfz38_2 := kf_ BK156.out 2; have hfz38_3 := kf_ BK156.out 3; have hfz38_4 := kf_ BK156.out 4) | ((with_reducible refine gate_callee (f := 29) rfl ?_); refine goesL_ (some 15) rfl rfl Try.func29 (by kernel_rfl) rfl #[.agg #[.int .i64 a1_1, .int .i64 a1_2], .agg #[.int .i64 a0_1, .int .i64 a0_2]] rfl (by (try simp only [lm_, lq_, lx_]); first | done | rfl | (simp only [ld_, lt_]; rfl)) ?_; (with_reducible refine (rat_Sub.calls k a1_1 a1_2 a0_1 a0_2 t157 t158 t159 _ A8.out).mono ?_); rintro e w39 ⟨rfl, hb⟩; refine ⟨_, rfl, ?_⟩; have n0_ := sd_ (blk_below (g := gb155) (o := .cells #[.bool false, .int .i64 a0_1, .int .i64 a0_2, .int .i64 a0_3, .slice A0_4 l0_4.length c0_4] 48 (0, 0)) (by (with_reducible repeat (first | refine kn_ ?_ _ | refine kd_ ?_ | refine ka_ ?_ _)); exact BK155.out) hb); have n1_ := sd_ (blk_below (g := gb156) (o := .cells #[.bool a1_0, .int .i64 a1_1, .int .i64 a1_2, .int .i64 a1_3, .slice A1_4 l1_4.length c1_4] 48 (0, 0)) (by (with_reducible repeat (first | refine kn_ ?_ _ | refine kd_ ?_ | refine ka_ ?_ _)); exact BK156.out) hb); have n2_ := sd_ (bt_ (by repeat first | exact HB.out | apply ba_ | apply pd_ | apply d1_ | refine bs_ ?_ GE155.out | refine bs_ ?_ GE156.out) hb); clear BK155; clear BK156; clear HB; have BK155 := n0_; have BK156 := n1_; have HB := n2_; clear n0_ n1_ n2_; (try clear hb); (try clear hb2); (try clear hk); (try clear hi)) | ((with_reducible refine gate_dst (N := 5) rfl ?_); refine box_event ?hg (N := 5) ?hd (cs := #[.int .i64 0, .int .i64 0]) (t := 23) ?hr ?_; (case hd => rfl); (case hg => rfl); (case hr => first | (go_simp; done) | (go_simp; rfl)); intro gb160 hg w40 hbox hb; have n0_ := sd_ (blk_below (g := gb155) (o := .cells #[.bool false, .int .i64 a0_1, .int .i64 a0_2, .int .i64 a0_3, .slice A0_4 l0_4.length c0_4] 48 (0, 0)) (by (with_reducible repeat (first | refine kn_ ?_ _ | refine kd_ ?_ | refine ka_ ?_ _)); exact BK155.out) hb); have n1_ := sd_ (blk_below (g := gb156) (o := .cells #[.bool a1_0, .int .i64 a1_1, .int .i64 a1_2, .int .i64 a1_3, .slice A1_4 l1_4.length c1_4] 48 (0, 0)) (by (with_reducible repeat (first | refine kn_ ?_ _ | refine kd_ ?_ | refine ka_ ?_ _)); exact BK156.out) hb); have n2_ := sd_ (bt_ (by repeat first | exact HB.out | apply ba_ | apply pd_ | apply d1_ | refine bs_ ?_ GE155.out | refine bs_ ?_ GE156.out) hb); have n3_ := sd_ (hbox); have n4_ := sd_ ((by rw [hg]; exact (bz_ (by repeat first | exact HB.out | apply ba_ | apply pd_ | apply d1_ | refine bs_ ?_ GE155.out | refine bs_ ?_ GE156.out)) : w.heap.size ≤ gb160)); have n5_ := sd_ ((by rw [hg]; exact (bz_ (by repeat first | exact HB.out | apply ba_ | apply pd_ | apply d1_ | refine bs_ ?_ GE155.out | refine bs_ ?_ GE156.out)) : w.heap.size ≤ gb160)); have n6_ := sd_ ((by rw [hg]; exact nn_ (blk_lt (g := gb155) (o := .cells #[.bool false, .int .i64 a0_1, .int .i64 a0_2, .int .i64 a0_3, .slice A0_4 l0_4.length c0_4] 48 (0, 0)) (by (with_reducible repeat (first | refine kn_ ?_ _ | refine kd_ ?_ | refine ka_ ?_ _)); exact BK155.out)) : gb155 ≠ gb160)); have n7_ := sd_ ((by rw [hg]; exact Nat.ne_of_gt (blk_lt (g := gb155) (o := .cells #[.bool false, .int .i64 a0_1, .int .i64 a0_2, .int .i64 a0_3, .slice A0_4 l0_4.length c0_4] 48 (0, 0)) (by (with_reducible repeat (first | refine kn_ ?_ _ | refine kd_ ?_ | refine ka_ ?_ _)); exact BK155.out)) : gb160 ≠ gb155)); have n8_ := sd_ ((by rw [hg]; exact nn_ (blk_lt (g := gb156) (o := .cells #[.bool a1_0, .int .i64 a1_1, .int .i64 a1_2, .int .i64 a1_3, .slice A1_4 l1_4.length c1_4] 48 (0, 0)) (by (with_reducible repeat (first | refine kn_ ?_ _ | refine kd_ ?_ | refine ka_ ?_ _)); exact BK156.out)) : gb156 ≠ gb160)); have n9_ := sd_ ((by rw [hg]; exact Nat.ne_of_gt (blk_lt (g := gb156) (o := .cells #[.bool a1_0, .int .i64 a1_1, .int .i64 a1_2, .int .i64 a1_3, .slice A1_4 l1_4.length c1_4] 48 (0, 0)) (by (with_reducible repeat (first | refine kn_ ?_ _ | refine kd_ ?_ | refine ka_ ?_ _)); exact BK156.out)) : gb160 ≠ gb156)); clear BK155; clear BK156; clear HB; have BK155 := n0_; have BK156 := n1_; have HB := n2_; have BK160 := n3_; have GW160 := n4_; have GE160 := n5_; have NB155_160 := n6_; have NB160_155 := n7_; have NB156_160 := n8_; have NB160_156 := n9_; clear n0_ n1_ n2_ n3_ n4_ n5_ n6_ n7_ n8_ n9_; clear hb hbox hg; have hnb41 := NB160_155.out; have hnc41 := NB155_160.out; have hnb42 := NB160_156.out; have hnc42 := NB156_160.out; have hcz43_0 : w40.cell? ⟨gb160, 0, none⟩ = some (.int .i64 0) := (kc_ BK160.out 0).trans rfl; have hcz43_1 : w40.cell? ⟨gb160, 1, none⟩ = some (.int .i64 0) := (kc_ BK160.out 1).trans rfl; have hfz43_0 := kf_ BK160.out 0; have hfz43_1 := kf_ BK160.out 1))
   go_ret
   exact ⟨by first | rfl | (simp [errW_none, errW_some] <;> rfl) | (simp [*, errW_none, errW_some] <;> rfl), by repeat first | exact HB.out | apply ba_ | apply pd_ | apply d1_ | refine bs_ ?_ GE155.out | refine bs_ ?_ GE156.out | refine bs_ ?_ GE160.out⟩

/-! ### spring_Springs: function 9 -/
mutual
def spring_Springs.j0 : Nat → List (S48) → Int → Int → Bool → Option (List Int × Int)
 | 0, _, _, _, _ => none
 | k + 1, x0, x1, x2, x23 => if x23 = true then (some (([] : List Int), 2)) else (if 0 ≤ x1 then (if x1 ≤ x2 then (if x2 ≤ (x0.length : Int) then ((some ((x0.take (x2 : Int).toNat).drop (x1 : Int).toNat : List (S48))).bind fun y163 => (spring_Springs.l0 k x0 x1 ([] : List Int) y163 (y163.length : Int) 0)) else (none)) else (none)) else (none))
def spring_Springs.l0 : Nat → List (S48) → Int → List Int → List (S48) → Int → Int → Option (List Int × Int)
 | 0, _, _, _, _, _, _ => none
 | k + 1, x0, x1, x8, x27, x28, x29 => if x29 < x28 then (if 0 ≤ x29 then (if x29 < (x27.length : Int) then (if 0 ≤ (wrap64 ((wrap64 (x1 + x29)) + 1)) then (if (wrap64 ((wrap64 (x1 + x29)) + 1)) < (x0.length : Int) then ((spring_like.f k ((rd_T48 x27 x29).f0) ((rd_T48 x27 x29).f1.f0) ((rd_T48 x27 x29).f1.f1) ((rd_T48 x27 x29).f2) ((rd_T48 x27 x29).f3) ((rd_T48 x0 (wrap64 ((wrap64 (x1 + x29)) + 1))).f0) ((rd_T48 x0 (wrap64 ((wrap64 (x1 + x29)) + 1))).f1.f0) ((rd_T48 x0 (wrap64 ((wrap64 (x1 + x29)) + 1))).f1.f1) ((rd_T48 x0 (wrap64 ((wrap64 (x1 + x29)) + 1))).f2) ((rd_T48 x0 (wrap64 ((wrap64 (x1 + x29)) + 1))).f3)).bind fun t170 => (if x8.length < 17592186044416 then (spring_Springs.l0 k x0 x1 (x8 ++ [t170]) x27 x28 (wrap64 (x29 + 1))) else (none))) else (none)) else (none)) else (none)) else (none)) else (some (x8, 0))
end
def spring_Springs.f (k : Nat) (l0 : List (S48)) (a1 : Int) (a2 : Int) : Option (List Int × Int) := if a1 < 0 then (spring_Springs.j0 k l0 a1 a2 true) else (if a2 < a1 then (spring_Springs.j0 k l0 a1 a2 true) else (spring_Springs.j0 k l0 a1 a2 (decide (a2 ≥ (l0.length : Int)))))
theorem spring_Springs.mono_l : ∀ k, (∀ y0 y1 y2 y3, LeO (spring_Springs.j0 k y0 y1 y2 y3) (spring_Springs.j0 (k + 1) y0 y1 y2 y3)) ∧ (∀ y0 y1 y2 y3 y4 y5, LeO (spring_Springs.l0 k y0 y1 y2 y3 y4 y5) (spring_Springs.l0 (k + 1) y0 y1 y2 y3 y4 y5))
 | 0 => ⟨fun _ _ _ _ r h => by simp [spring_Springs.j0] at h, fun _ _ _ _ _ _ r h => by simp [spring_Springs.l0] at h⟩
 | k + 1 => by
  obtain ⟨ih0, ih1⟩ := spring_Springs.mono_l k
  refine ⟨?_, ?_⟩
  ·intro y0 y1 y2 y3
   unfold spring_Springs.j0
   repeat' first
   | (with_reducible exact ih0 _ _ _ _)
   | (with_reducible exact ih1 _ _ _ _ _ _)
   | (with_reducible exact spring_like.mono _ _ _ _ _ _ _ _ _ _ _)
   | (with_reducible exact LeO.refl _)
   | (with_reducible exact LeO.none _)
   | (with_reducible refine LeO.ite ?_ ?_)
   | (with_reducible refine LeO.bind ?_ (fun _ => ?_))
   | exact ih0 _ _ _ _
   | exact ih1 _ _ _ _ _ _
   | exact spring_like.mono _ _ _ _ _ _ _ _ _ _ _
   | exact LeO.none _
   | refine LeO.ite ?_ ?_
   | refine LeO.bind ?_ (fun _ => ?_)
  ·intro y0 y1 y2 y3 y4 y5
   unfold spring_Springs.l0
   repeat' first
   | (with_reducible exact ih0 _ _ _ _)
   | (with_reducible exact ih1 _ _ _ _ _ _)
   | (with_reducible exact spring_like.mono _ _ _ _ _ _ _ _ _ _ _)
   | (with_reducible exact LeO.refl _)
   | (with_reducible exact LeO.none _)
   | (with_reducible refine LeO.ite ?_ ?_)
   | (with_reducible refine LeO.bind ?_ (fun _ => ?_))
   | exact ih0 _ _ _ _
   | exact ih1 _ _ _ _ _ _
   | exact spring_like.mono _ _ _ _ _ _ _ _ _ _ _
   | exact LeO.none _
   | refine LeO.ite ?_ ?_
   | refine LeO.bind ?_ (fun _ => ?_)
theorem spring_Springs.mono : ∀ a0 a1 a2 k, LeO (spring_Springs.f k a0 a1 a2) (spring_Springs.f (k + 1) a0 a1 a2) := by
 intro a0 a1 a2 k
 obtain ⟨ih0, ih1⟩ := spring_Springs.mono_l k
 unfold spring_Springs.f
 repeat' first
   | (with_reducible exact ih0 _ _ _ _)
   | (with_reducible exact ih1 _ _ _ _ _ _)
   | (with_reducible exact spring_like.mono _ _ _ _ _ _ _ _ _ _ _)
   | (with_reducible exact LeO.refl _)
   | (with_reducible exact LeO.none _)
   | (with_reducible refine LeO.ite ?_ ?_)
   | (with_reducible refine LeO.bind ?_ (fun _ => ?_))
   | exact ih0 _ _ _ _
   | exact ih1 _ _ _ _ _ _
   | exact spring_like.mono _ _ _ _ _ _ _ _ _ _ _
   | exact LeO.none _
   | refine LeO.ite ?_ ?_
   | refine LeO.bind ?_ (fun _ => ?_)
def spring_Springs.T7 : Bool × List (List Nat × List Nat) := (true, [([], []), ([], []), ([], []), ([], []), ([], []), ([3, 4], [3, 4]), ([5], [5]), ([2, 6], [2, 6]), ([7], [7]), ([1, 8], [1, 8]), ([9], [9]), ([0, 10, 9], [0, 10]), ([11, 11, 0, 1, 2, 3, 4, 5, 6, 7, 8, 9, 10, 11], [0, 11])])
def spring_Springs.B7 : List Nat := [0, 0, 0, 0, 0, 24, 56, 124, 252, 510, 1022, 2047, 4095]
theorem spring_Springs.tab7 : rtab .any (opsOf Try.f9 7) = spring_Springs.T7 := by kernel_rfl
theorem spring_Springs.bits7 : waitsOk spring_Springs.T7.2 spring_Springs.B7 = true := by kernel_rfl
set_option maxHeartbeats 8000000 in
set_option maxRecDepth 100000 in
theorem spring_Springs.calls (k : Nat) (A0 : Option Addr) (c0 : Nat) (l0 : List (S48)) (a1 : Int) (a2 : Int) (r1 : List Int) (r2 : Int) (w : World) (hr0 : Kd.C k48 w A0 l0.length l0) (hc0 : l0.length ≤ c0) (h : spring_Springs.f k l0 a1 a2 = some (r1, r2)) :
  Calls Try.prog 9 #[.slice A0 l0.length c0, .int .i64 a1, .int .i64 a2] w fun e w' => ∃ v0_ : Value, e = .returned (.tuple #[v0_, .int .i64 r2]) ∧ Kd.R (Kd.int .i64) 3 w' w.heap.size (fun _ => True) v0_ r1 ∧ Below w.heap.size w w' := by
 have hu48 := Try.underlying48
 have HR0 := sd_ hr0
 have HC0 := sd_ hc0
 clear hr0 hc0
 have HB := sd_ (Below.refl w.heap.size w)
 have H : (if a1 < 0 then (spring_Springs.j0 k l0 a1 a2 true) else (if a2 < a1 then (spring_Springs.j0 k l0 a1 a2 true) else (spring_Springs.j0 k l0 a1 a2 (decide (a2 ≥ (l0.length : Int)))))) = some (r1, r2) := h
 clear h
 have HC4 := sd_ H
 clear H
 go_enter Try.func9, Try.ntmps9
 go_upto_region 1 with (fail)
 go_cut [23] (fun v23 wc => ∃ (kq : Nat) (x23_3 : Bool), v23 = .bool x23_3 ∧ Aside0 (spring_Springs.j0 kq l0 a1 a2 x23_3 = some (r1, r2)) ∧ Aside0 (kq ≤ k) ∧ Aside0 (Below w.heap.size w wc))
 case first =>
  have H := HC4.out
  clear HC4
  by_cases c5 : a1 < 0
  ·rw [if_pos c5] at H
   have c5b0 : decide (a1 < 0) = true := dt_ c5
   clear c5
   (first | rw [c5b0] | (simp only [i64_w, i32_w]; rw [c5b0]) | skip)
   have H' := sd_ H
   clear H
   go_wp2
   go_meet
   case rel => exact ⟨_, (true), (by first | rfl | (simp; done) | (simp [*]; done)), H', ⟨by first | omega | exact Nat.le_refl _⟩, ⟨by repeat first | exact HB.out | apply ba_ | apply pd_ | apply d1_⟩⟩
  ·rw [if_neg c5] at H
   have c5b0 : decide (a1 < 0) = false := df_ c5
   clear c5
   (first | rw [c5b0] | (simp only [i64_w, i32_w]; rw [c5b0]) | skip)
   by_cases c6 : a2 < a1
   ·rw [if_pos c6] at H
    have c6b0 : decide (a2 < a1) = true := dt_ c6
    clear c6
    have H' := sd_ H
    clear H
    go_wp2
    go_meet
    case rel => exact ⟨_, (true), (by first | rfl | (simp; done) | (simp [*]; done)), H', ⟨by first | omega | exact Nat.le_refl _⟩, ⟨by repeat first | exact HB.out | apply ba_ | apply pd_ | apply d1_⟩⟩
   ·rw [if_neg c6] at H
    have c6b0 : decide (a2 < a1) = false := df_ c6
    clear c6
    have H' := sd_ H
    clear H
    go_wp2
    go_meet
    case rel => exact ⟨_, (decide (a2 ≥ (l0.length : Int))), (by first | rfl | (simp; done) | (simp [*]; done)), H', ⟨by first | omega | exact Nat.le_refl _⟩, ⟨by repeat first | exact HB.out | apply ba_ | apply pd_ | apply d1_⟩⟩
 case rest =>
  clear HC4
  try clear p2; try clear c5; try clear c5b0; try clear c6; try clear c6b0
  obtain ⟨kq, x23_3, rfl, HA, HJ3, HB⟩ := hcut
  cases kq with
  | zero => exact absurd HA.out (by simp [spring_Springs.j0])
  | succ kj3 =>
   have H := HA.out
   clear HA
   simp only [spring_Springs.j0] at H
   by_cases c7 : x23_3 = true
   ·subst c7
    have H1 : (some (([] : List Int), 2)) = some (r1, r2) := by rw [if_pos rfl] at H; exact H
    clear H; have H := H1; clear H1
    simp only [Option.some.injEq, Prod.mk.injEq] at H
    obtain ⟨rfl, rfl⟩ := H
    go_wp2
    go_ret2
    exact ⟨_, by first | rfl | (simp [errW_none, errW_some] <;> rfl) | (simp [*, errW_none, errW_some] <;> rfl), by first | exact Kd.R_nil _ _ _ _ _ | exact Kd.N_nil _ _ _ _ _ | exact Kd.V_nil _ _ _ _ _ | exact Kd.Q_nil _ _ _ _ _ | exact Kd.S_nil _ _ _ _ _, by repeat first | exact HB.out | apply ba_ | apply pd_ | apply d1_⟩
   ·replace c7 := bf_ c7
    subst c7
    have H1 : (if 0 ≤ a1 then (if a1 ≤ a2 then (if a2 ≤ (l0.length : Int) then ((some ((l0.take (a2 : Int).toNat).drop (a1 : Int).toNat : List (S48))).bind fun y163 => (spring_Springs.l0 kj3 l0 a1 ([] : List Int) y163 (y163.length : Int) 0)) else (none)) else (none)) else (none)) = some (r1, r2) := by rw [if_neg (show ¬ (false = true) by decide)] at H; exact H
    clear H; have H := H1; clear H1
    by_cases c8 : 0 ≤ a1
    ·rw [if_pos c8] at H
     have c8b0 := eq_true c8
     have c8b1 : decide (0 ≤ a1) = true := dt_ c8
     clear c8
     by_cases c9 : a1 ≤ a2
     ·rw [if_pos c9] at H
      have c9b0 := eq_true c9
      have c9b1 : decide (a1 ≤ a2) = true := dt_ c9
      clear c9
      by_cases c10 : a2 ≤ (l0.length : Int)
      ·rw [if_pos c10] at H
       have c10b0 := eq_true c10
       have c10b1 : decide (a2 ≤ (l0.length : Int)) = true := dt_ c10
       clear c10
       obtain ⟨y163, hy163⟩ : ∃ y_ : List (S48), y_ = ((l0.take (a2 : Int).toNat).drop (a1 : Int).toNat) := ⟨_, rfl⟩
       replace H : (spring_Springs.l0 kj3 l0 a1 ([] : List Int) y163 (y163.length : Int) 0) = some (r1, r2) := by first | (rw [hy163]; with_reducible exact H) | (have H2_ := (Option.bind_some _ _).symm.trans H; rw [hy163]; with_reducible exact H2_) | (have H2_ := (Option.bind_some _ _).symm.trans H; with_reducible exact H2_) | with_reducible exact H | (rw [hy163]; exact H) | exact H
       have Ny163 := sd_ hy163
       clear hy163
       have H' := sd_ H
       clear H
       have q11 : (a2 : Int) ≤ ((l0.length : Int) : Int) := od_ (by first | (with_reducible assumption) | assumption)
       obtain ⟨i011, hi011, _, hsz11, _⟩ := info_parts info48
       have hroom11 : l0.length ≤ c0 := HC0.out
       have hC11 : Kd.C k48 _ A0 l0.length l0 := HR0.out
       have ql11 : (a1 : Int) ≤ (a2 : Int) := od_ (by first | (with_reducible assumption) | assumption)
       have q011 : (0 : Int) ≤ (a1 : Int) := od_ (by first | (with_reducible assumption) | assumption)
       have hcut11 := cut_mid (P := Try.prog) 24 48 .i64 .i64 Try.underlying24 hi011 5 hsz11 A0 l0.length c0 a1 a2 q011 ql11 q11 hroom11
       have hr11 := Kd.C_mid (lo := (a1 : Int).toNat) (hi := (a2 : Int).toNat) (c := c0) hC11 (by omega) (by omega) hroom11
       obtain ⟨A11, hA11⟩ : ∃ A1, A1 = (if c0 = (a1 : Int).toNat then A0 else (A0 : Option Addr).map (·.add ((a1 : Int).toNat * 5))) := ⟨_, rfl⟩
       obtain ⟨c11, hc11⟩ : ∃ c1, c1 = c0 - (a1 : Int).toNat := ⟨_, rfl⟩
       have hy11 : y163.length = (a2 : Int).toNat - (a1 : Int).toNat := (by rw [Ny163.out, ld_, lt_] <;> omega)
       rw [show ((l0).take (a2 : Int).toNat).drop (a1 : Int).toNat = y163 from Ny163.out.symm] at hr11
       replace hr11 : Kd.C k48 _ A11 y163.length y163 := (by rw [hA11]; exact hr11)
       rw [← hy11, ← hA11, ← hc11] at hcut11
       have HR166 := sd_ hr11
       have HC166 := sd_ (show y163.length ≤ c11 from by rw [hy11, hc11]; exact Nat.sub_le_sub_right (Nat.le_trans (by omega) hroom11) _)
       clear hr11 hC11 hroom11 hi011 hsz11 hc11
       have KY11 := sd_ hy11
       have KA11 := sd_ hA11
       clear hy11 hA11
       replace q11 := eq_true q11
       go_wp2
       go_loopg [8, 29] kj3 (fun kq v8 v29 w' => ∃ (x8_2 : List Int) (x29_2 : Int), v29 = .int .i64 x29_2 ∧ Aside0 (spring_Springs.l0 kq l0 a1 x8_2 y163 (y163.length : Int) x29_2 = some (r1, r2)) ∧ Aside0 (kq ≤ kj3) ∧ Aside0 (Kd.R (Kd.int .i64) 3 w' w.heap.size (fun _ => True) v8 x8_2) ∧ Aside0 (Below w.heap.size w w'))
       case atStart => exact ⟨(([] : List Int)), (0), (by first | rfl | (simp; done) | (simp [*]; done)), H', ⟨Nat.le_refl _⟩, ⟨by first | exact Kd.R_nil _ _ _ _ _ | exact Kd.N_nil _ _ _ _ _ | exact Kd.V_nil _ _ _ _ _ | exact Kd.Q_nil _ _ _ _ _ | exact Kd.S_nil _ _ _ _ _⟩, ⟨by repeat first | exact HB.out | apply ba_ | apply pd_ | apply d1_⟩⟩
       case round =>
        clear H'
        try clear c1; try clear q1; try clear p2; try clear c5; try clear c5b0; try clear c6; try clear c6b0; try clear c7; try clear c8; try clear c8b0; try clear c8b1; try clear c9; try clear c9b0; try clear c9b1; try clear c10; try clear c10b0; try clear c10b1; try clear c11; try clear q11; try clear p2; try clear q011; try clear q11
        obtain ⟨x8_2, x29_2, rfl, HA, HK2, HO_8, HB⟩ := hrel
        cases gk with
        | zero => exact absurd HA.out (by simp [spring_Springs.l0])
        | succ k2 =>
         have H := HA.out
         clear HA
         simp only [spring_Springs.l0] at H
         by_cases c12 : x29_2 < (y163.length : Int)
         ·rw [if_pos c12] at H
          have c12b0 : decide (x29_2 < (y163.length : Int)) = true := dt_ c12
          clear c12
          by_cases c13 : 0 ≤ x29_2
          ·rw [if_pos c13] at H
           have c13b0 : decide (0 ≤ x29_2) = true := dt_ c13
           clear c13
           by_cases c14 : x29_2 < (y163.length : Int)
           ·rw [if_pos c14] at H
            have c14b0 : decide (x29_2 < (y163.length : Int)) = true := dt_ c14
            clear c14
            obtain ⟨ji15, hji15⟩ : ∃ j_ : Int, (wrap64 ((wrap64 (a1 + x29_2)) + 1)) = j_ := ⟨_, rfl⟩
            replace H : (if 0 ≤ (ji15) then (if (ji15) < (l0.length : Int) then ((spring_like.f k2 ((rd_T48 y163 x29_2).f0) ((rd_T48 y163 x29_2).f1.f0) ((rd_T48 y163 x29_2).f1.f1) ((rd_T48 y163 x29_2).f2) ((rd_T48 y163 x29_2).f3) ((rd_T48 l0 (ji15)).f0) ((rd_T48 l0 (ji15)).f1.f0) ((rd_T48 l0 (ji15)).f1.f1) ((rd_T48 l0 (ji15)).f2) ((rd_T48 l0 (ji15)).f3)).bind fun t170 => (if x8_2.length < 17592186044416 then (spring_Springs.l0 k2 l0 a1 (x8_2 ++ [t170]) y163 (y163.length : Int) (wrap64 (x29_2 + 1))) else (none))) else (none)) else (none)) = some (r1, r2) := by first | (rw [hji15] at H; exact H) | (simp only [hji15] at H ⊢; exact H)
            have hji15w : (IntKind.i64.wrap ((wrap64 (a1 + x29_2)) + 1)) = ji15 := (i64_w _).trans hji15
            by_cases c16 : 0 ≤ (ji15)
            ·rw [if_pos c16] at H
             have c16b0 : decide (0 ≤ (ji15)) = true := dt_ c16
             clear c16
             by_cases c17 : (ji15) < (l0.length : Int)
             ·rw [if_pos c17] at H
              have c17b0 : decide ((ji15) < (l0.length : Int)) = true := dt_ c17
              clear c17
              replace H := ob_ H
              obtain ⟨t170, A180, H⟩ := H
              replace H : (if x8_2.length < 17592186044416 then (spring_Springs.l0 k2 l0 a1 (x8_2 ++ [t170]) y163 (y163.length : Int) (wrap64 (x29_2 + 1))) else (none)) = some (r1, r2) := H
              have A18 := sd_ A180
              clear A180
              by_cases c19 : x8_2.length < 17592186044416
              ·rw [if_pos c19] at H
               have LMc19 := sd_ c19
               clear c19
               obtain ⟨y171, hy171⟩ : ∃ y_ : List Int, y_ = (x8_2 ++ [t170]) := ⟨_, rfl⟩
               replace H : (spring_Springs.l0 k2 l0 a1 y171 y163 (y163.length : Int) (wrap64 (x29_2 + 1))) = some (r1, r2) := by first | (rw [hy171]; with_reducible exact H) | (have H2_ := (Option.bind_some _ _).symm.trans H; rw [hy171]; with_reducible exact H2_) | (have H2_ := (Option.bind_some _ _).symm.trans H; with_reducible exact H2_) | with_reducible exact H | (rw [hy171]; exact H) | exact H
               have Ny171 := sd_ hy171
               clear hy171
               have H' := sd_ H
               clear H
               have p167 : 0 ≤ (x29_2 : Int) := od_ (by first | (with_reducible assumption) | assumption)
               have q167 : x29_2 < (y163.length : Int) := od_ (by first | (with_reducible assumption) | assumption)
               obtain ⟨ad167, A167_4, c167_4, e167, hx167_0, hx167_1, hx167_2, hx167_3, hx167_4, hl167_4, hi167_4⟩ := at_T48 HR166.out x29_2 p167 q167
               cases e167
               replace hx167_0 := (HB.out.cell (wb_ w _ hx167_0)).trans hx167_0
               replace hx167_1 := (HB.out.cell (wb_ w _ hx167_1)).trans hx167_1
               replace hx167_2 := (HB.out.cell (wb_ w _ hx167_2)).trans hx167_2
               replace hx167_3 := (HB.out.cell (wb_ w _ hx167_3)).trans hx167_3
               replace hx167_4 := (HB.out.cell (wb_ w _ hx167_4)).trans hx167_4
               have HR167_4 := sd_ hi167_4
               have HC167_4 := sd_ hl167_4
               clear hi167_4 hl167_4
               replace p167 := eq_true p167
               replace q167 := eq_true q167
               try go_wp2_with (first | ((with_reducible refine gate_dst (N := 10) rfl ?_); (try (refine gate_guard (by rfl) ?_; dsimp only)); refine box_event ?hg (N := 10) ?hd (cs := #[.bool false, .int .i64 0, .int .i64 0, .int .i64 0, .slice none 0 0]) (t := 48) ?hr ?_; (case hd => rfl); (case hg => rfl); (case hr => first | (go_simp; done) | (go_simp; rfl)); intro gb168 hg w20 hbox hb; have n0_ := sd_ (Kd.R_below (by (with_reducible repeat (first | apply Kd.R_alloc | apply Kd.R_drewN | apply Kd.R_drew)); exact HO_8.out) hb); have n1_ := sd_ (bt_ (by repeat first | exact HB.out | apply ba_ | apply pd_ | apply d1_) hb); have n2_ := sd_ (hbox); have n3_ := sd_ ((by rw [hg]; exact (bz_ (by repeat first | exact HB.out | apply ba_ | apply pd_ | apply d1_)) : w.heap.size ≤ gb168)); have n4_ := sd_ ((by rw [hg]; exact (bz_ (by repeat first | exact HB.out | apply ba_ | apply pd_ | apply d1_)) : w.heap.size ≤ gb168)); clear HO_8; clear HB; have HO_8 := n0_; have HB := n1_; have BK168 := n2_; have GW168 := n3_; have GE168 := n4_; clear n0_ n1_ n2_ n3_ n4_; clear hb hbox hg; have hcz21_0 : w20.cell? ⟨gb168, 0, none⟩ = some (.bool false) := (kc_ BK168.out 0).trans rfl; have hcz21_1 : w20.cell? ⟨gb168, 1, none⟩ = some (.int .i64 0) := (kc_ BK168.out 1).trans rfl; have hcz21_2 : w20.cell? ⟨gb168, 2, none⟩ = some (.int .i64 0) := (kc_ BK168.out 2).trans rfl; have hcz21_3 : w20.cell? ⟨gb168, 3, none⟩ = some (.int .i64 0) := (kc_ BK168.out 3).trans rfl; have hcz21_4 : w20.cell? ⟨gb168, 4, none⟩ = some (.slice none 0 0) := (kc_ BK168.out 4).trans rfl; have hfz21_0 := kf_ BK168.out 0; have hfz21_1 := kf_ BK168.out 1; have hfz21_2 := kf_ BK168.out 2; have hfz21_3 := kf_ BK168.out 3; have hfz21_4 := kf_ BK168.out 4))
               have n0_ : Aside0 (Kd.R (Kd.int .i64) 3 (((((w20.setCell ⟨gb168, 0, none⟩ (.bool ((rd_T48 y163 x29_2).f0))).setCell ⟨gb168, 1, none⟩ (.int .i64 ((rd_T48 y163 x29_2).f1.f0))).setCell ⟨gb168, 2, none⟩ (.int .i64 ((rd_T48 y163 x29_2).f1.f1))).setCell ⟨gb168, 3, none⟩ (.int .i64 ((rd_T48 y163 x29_2).f2))).setCell ⟨gb168, 4, none⟩ (.slice A167_4 ((rd_T48 y163 x29_2).f3).length c167_4)) w.heap.size (fun _ => True) u8 x8_2) := ⟨by (with_reducible repeat (first | apply Kd.R_alloc | apply Kd.R_drewN | apply Kd.R_drew)); exact Kd.R_mono (Kd.R_far (p := ⟨gb168, 4, none⟩) (Kd.R_far (p := ⟨gb168, 3, none⟩) (Kd.R_far (p := ⟨gb168, 2, none⟩) (Kd.R_far (p := ⟨gb168, 1, none⟩) (Kd.R_far (p := ⟨gb168, 0, none⟩) (Kd.R_types HO_8.out BK168.out (by decide)) (fun _ hk => hk.2) (.bool ((rd_T48 y163 x29_2).f0))) (fun _ hk => hk.2) (.int .i64 ((rd_T48 y163 x29_2).f1.f0))) (fun _ hk => hk.2) (.int .i64 ((rd_T48 y163 x29_2).f1.f1))) (fun _ hk => hk.2) (.int .i64 ((rd_T48 y163 x29_2).f2))) (fun _ hk => hk.2) (.slice A167_4 ((rd_T48 y163 x29_2).f3).length c167_4)) (fun _ hk => trivial)⟩
               have n1_ : Aside0 ((((((w20.setCell ⟨gb168, 0, none⟩ (.bool ((rd_T48 y163 x29_2).f0))).setCell ⟨gb168, 1, none⟩ (.int .i64 ((rd_T48 y163 x29_2).f1.f0))).setCell ⟨gb168, 2, none⟩ (.int .i64 ((rd_T48 y163 x29_2).f1.f1))).setCell ⟨gb168, 3, none⟩ (.int .i64 ((rd_T48 y163 x29_2).f2))).setCell ⟨gb168, 4, none⟩ (.slice A167_4 ((rd_T48 y163 x29_2).f3).length c167_4)).heap[gb168]? = some (.cells #[.bool ((rd_T48 y163 x29_2).f0), .int .i64 ((rd_T48 y163 x29_2).f1.f0), .int .i64 ((rd_T48 y163 x29_2).f1.f1), .int .i64 ((rd_T48 y163 x29_2).f2), .slice A167_4 ((rd_T48 y163 x29_2).f3).length c167_4] 48 (0, 0))) := ⟨by (with_reducible repeat (first | refine kn_ ?_ _ | refine kd_ ?_ | refine ka_ ?_ _)); refine blk_put (cs := #[.bool ((rd_T48 y163 x29_2).f0), .int .i64 ((rd_T48 y163 x29_2).f1.f0), .int .i64 ((rd_T48 y163 x29_2).f1.f1), .int .i64 ((rd_T48 y163 x29_2).f2), .slice none 0 0]) ?_ 4 _ rfl; (with_reducible repeat (first | refine kn_ ?_ _ | refine kd_ ?_ | refine ka_ ?_ _)); refine blk_put (cs := #[.bool ((rd_T48 y163 x29_2).f0), .int .i64 ((rd_T48 y163 x29_2).f1.f0), .int .i64 ((rd_T48 y163 x29_2).f1.f1), .int .i64 0, .slice none 0 0]) ?_ 3 _ rfl; (with_reducible repeat (first | refine kn_ ?_ _ | refine kd_ ?_ | refine ka_ ?_ _)); refine blk_put (cs := #[.bool ((rd_T48 y163 x29_2).f0), .int .i64 ((rd_T48 y163 x29_2).f1.f0), .int .i64 0, .int .i64 0, .slice none 0 0]) ?_ 2 _ rfl; (with_reducible repeat (first | refine kn_ ?_ _ | refine kd_ ?_ | refine ka_ ?_ _)); refine blk_put (cs := #[.bool ((rd_T48 y163 x29_2).f0), .int .i64 0, .int .i64 0, .int .i64 0, .slice none 0 0]) ?_ 1 _ rfl; (with_reducible repeat (first | refine kn_ ?_ _ | refine kd_ ?_ | refine ka_ ?_ _)); refine blk_put (cs := #[.bool false, .int .i64 0, .int .i64 0, .int .i64 0, .slice none 0 0]) ?_ 0 _ rfl; (with_reducible repeat (first | refine kn_ ?_ _ | refine kd_ ?_ | refine ka_ ?_ _)); exact BK168.out⟩
               have n2_ : Aside0 (Below w.heap.size w (((((w20.setCell ⟨gb168, 0, none⟩ (.bool ((rd_T48 y163 x29_2).f0))).setCell ⟨gb168, 1, none⟩ (.int .i64 ((rd_T48 y163 x29_2).f1.f0))).setCell ⟨gb168, 2, none⟩ (.int .i64 ((rd_T48 y163 x29_2).f1.f1))).setCell ⟨gb168, 3, none⟩ (.int .i64 ((rd_T48 y163 x29_2).f2))).setCell ⟨gb168, 4, none⟩ (.slice A167_4 ((rd_T48 y163 x29_2).f3).length c167_4))) := ⟨by repeat first | exact HB.out | apply ba_ | apply pd_ | apply d1_ | refine bs_ ?_ GE168.out⟩
               (try clear HO_8)
               (try clear BK168)
               (try clear HB)
               generalize (((((w20.setCell ⟨gb168, 0, none⟩ (.bool ((rd_T48 y163 x29_2).f0))).setCell ⟨gb168, 1, none⟩ (.int .i64 ((rd_T48 y163 x29_2).f1.f0))).setCell ⟨gb168, 2, none⟩ (.int .i64 ((rd_T48 y163 x29_2).f1.f1))).setCell ⟨gb168, 3, none⟩ (.int .i64 ((rd_T48 y163 x29_2).f2))).setCell ⟨gb168, 4, none⟩ (.slice A167_4 ((rd_T48 y163 x29_2).f3).length c167_4)) = w22 at n0_ n1_ n2_ ⊢
               have HO_8 := n0_
               have BK168 := n1_
               have HB := n2_
               clear n0_ n1_ n2_
               have n0_ := sd_ (Kd.R_drew HO_8.out)
               have n1_ := sd_ (kd_ BK168.out)
               have n2_ := sd_ (d1_ HB.out)
               clear HO_8
               clear BK168
               clear HB
               have HO_8 := n0_
               have BK168 := n1_
               have HB := n2_
               clear n0_ n1_ n2_
               have p169 : 0 ≤ ((ji15) : Int) := od_ (by first | (with_reducible assumption) | assumption)
               have q169 : (ji15) < (l0.length : Int) := od_ (by first | (with_reducible assumption) | assumption)
               obtain ⟨ad169, A169_4, c169_4, e169, hx169_0, hx169_1, hx169_2, hx169_3, hx169_4, hl169_4, hi169_4⟩ := at_T48 HR0.out (ji15) p169 q169
               have hw169_4 := hx169_4
               have hw169_3 := hx169_3
               have hw169_2 := hx169_2
               have hw169_1 := hx169_1
               have hw169_0 := hx169_0
               cases e169
               replace hx169_0 := (HB.out.cell (wb_ w _ hx169_0)).trans hx169_0
               replace hx169_1 := (HB.out.cell (wb_ w _ hx169_1)).trans hx169_1
               replace hx169_2 := (HB.out.cell (wb_ w _ hx169_2)).trans hx169_2
               replace hx169_3 := (HB.out.cell (wb_ w _ hx169_3)).trans hx169_3
               replace hx169_4 := (HB.out.cell (wb_ w _ hx169_4)).trans hx169_4
               have HR169_4 := sd_ hi169_4
               have HC169_4 := sd_ hl169_4
               clear hi169_4 hl169_4
               replace p169 := eq_true p169
               replace q169 := eq_true q169
               refine start_ (n := 13) (S := fun w' => w'.cell? ⟨gb168, 0, none⟩ = some (.bool ((rd_T48 y163 x29_2).f0)) ∧ w'.cell? ⟨gb168, 1, none⟩ = some (.int .i64 ((rd_T48 y163 x29_2).f1.f0)) ∧ w'.cell? ⟨gb168, 2, none⟩ = some (.int .i64 ((rd_T48 y163 x29_2).f1.f1)) ∧ w'.cell? ⟨gb168, 3, none⟩ = some (.int .i64 ((rd_T48 y163 x29_2).f2)) ∧ w'.cell? ⟨gb168, 4, none⟩ = some (.slice A167_4 ((rd_T48 y163 x29_2).f3).length c167_4) ∧ w'.cell? (ad169.add (((ji15)).toNat * 5)) = some (.bool ((rd_T48 l0 (ji15)).f0)) ∧ w'.cell? ⟨(ad169.add (((ji15)).toNat * 5)).block, (ad169.add (((ji15)).toNat * 5)).off + 1, none⟩ = some (.int .i64 ((rd_T48 l0 (ji15)).f1.f0)) ∧ w'.cell? ⟨(ad169.add (((ji15)).toNat * 5)).block, (ad169.add (((ji15)).toNat * 5)).off + 2, none⟩ = some (.int .i64 ((rd_T48 l0 (ji15)).f1.f1)) ∧ w'.cell? ⟨(ad169.add (((ji15)).toNat * 5)).block, (ad169.add (((ji15)).toNat * 5)).off + 3, none⟩ = some (.int .i64 ((rd_T48 l0 (ji15)).f2)) ∧ w'.cell? ⟨(ad169.add (((ji15)).toNat * 5)).block, (ad169.add (((ji15)).toNat * 5)).off + 4, none⟩ = some (.slice A169_4 ((rd_T48 l0 (ji15)).f3).length c169_4)) (ds := []) #[false, false, false, false, false, false, false, false, false, false, false, false, false] (by kernel_rfl) rfl rfl ⟨(kc_ BK168.out 0).trans rfl, (kc_ BK168.out 1).trans rfl, (kc_ BK168.out 2).trans rfl, (kc_ BK168.out 3).trans rfl, (kc_ BK168.out 4).trans rfl, ((HB.out.cell (wb_ w _ hw169_0)).trans hw169_0), ((HB.out.cell (wb_ w _ hw169_1)).trans hw169_1), ((HB.out.cell (wb_ w _ hw169_2)).trans hw169_2), ((HB.out.cell (wb_ w _ hw169_3)).trans hw169_3), ((HB.out.cell (wb_ w _ hw169_4)).trans hw169_4)⟩ (fun hHeld => ?_); refine with_tabW spring_Springs.tab7 spring_Springs.bits7 (fun HT_ HW_ => ?_)
               generalize w22.drew = w23 at HO_8 BK168 HB HR169_4 hx169_0 hx169_1 hx169_2 hx169_3 hx169_4 hHeld ⊢
               refine pure_ (i := 0) (N := some 34) (v := ?_) (a' := ?_) #[true, false, false, false, false, false, false, false, false, false, false, false, false] rfl rfl (any_of HT_.out (by kernel_rfl)) (fun _ _ _ h => h) (Or.inl ⟨by rfl, ?_⟩) ?_ ?_
               rotate_left; (intro w'; go_simp; with_reducible rfl); rotate_left; (simp only [Act.put, ls_, lz_, lc_, i64_w, i32_w]; rfl)
               refine pure_ (i := 2) (N := some 36) (v := ?_) (a' := ?_) #[true, false, true, false, false, false, false, false, false, false, false, false, false] rfl rfl (any_of HT_.out (by kernel_rfl)) (fun _ _ _ h => h) (Or.inl ⟨by rfl, ?_⟩) ?_ ?_
               rotate_left; (intro w'; go_simp; with_reducible rfl); rotate_left; (simp only [Act.put, ls_, lz_, lc_, i64_w, i32_w]; rfl)
               refine pure_ (i := 3) (N := some 37) (v := ?_) (a' := ?_) #[true, false, true, true, false, false, false, false, false, false, false, false, false] rfl rfl (any_of HT_.out (by kernel_rfl)) (fun _ _ _ h => h) (Or.inl ⟨by rfl, ?_⟩) ?_ ?_
               rotate_left; (intro w'; go_simp; with_reducible rfl); rotate_left; (simp only [Act.put, ls_, lz_, lc_, i64_w, i32_w]; rfl)
               refine pure_ (i := 4) (N := some 38) (v := ?_) (a' := ?_) #[true, false, true, true, true, false, false, false, false, false, false, false, false] rfl rfl (any_of HT_.out (by kernel_rfl)) (fun _ _ _ h => h) (Or.inl ⟨by rfl, ?_⟩) ?_ ?_
               rotate_left; (intro w'; go_simp; with_reducible rfl); rotate_left; (simp only [Act.put, ls_, lz_, lc_, i64_w, i32_w]; rfl)
               refine pure_ (i := 5) (N := some 39) (v := ?_) (a' := ?_) #[true, false, true, true, true, true, false, false, false, false, false, false, false] rfl rfl (any_of HT_.out (by kernel_rfl)) (fun _ _ _ h => h) (Or.inl ⟨by rfl, ?_⟩) ?_ ?_
               rotate_left; (intro w'; go_simp; with_reducible rfl); rotate_left; (simp only [Act.put, ls_, lz_, lc_, i64_w, i32_w]; rfl)
               refine pure_ (i := 6) (N := some 40) (v := ?_) (a' := ?_) #[true, false, true, true, true, true, true, false, false, false, false, false, false] rfl rfl (any_of HT_.out (by kernel_rfl)) (fun _ _ _ h => h) (Or.inl ⟨by rfl, ?_⟩) ?_ ?_
               rotate_left; (intro w'; go_simp; with_reducible rfl); rotate_left; (simp only [Act.put, ls_, lz_, lc_, i64_w, i32_w]; rfl)
               refine pure_ (i := 7) (N := some 41) (v := ?_) (a' := ?_) #[true, false, true, true, true, true, true, true, false, false, false, false, false] rfl rfl (any_of HT_.out (by kernel_rfl)) (fun _ _ _ h => h) (Or.inl ⟨by rfl, ?_⟩) ?_ ?_
               rotate_left; (intro w'; go_simp; with_reducible rfl); rotate_left; (simp only [Act.put, ls_, lz_, lc_, i64_w, i32_w]; rfl)
               refine take_ (i := 1) (N := some 35) (v := ?_) (a' := ?_) #[true, true, true, true, true, true, true, true, false, false, false, false, false] rfl rfl (take_ofW HT_.out HW_.out (by kernel_rfl)) (fun _ _ _ h => h) (Or.inl ⟨by rfl, ?_⟩) hHeld ?_ ?_
               rotate_left
               ·rintro w' ⟨s0, s1, s2, s3, s4, s5, s6, s7, s8, s9⟩
                go_simp
                with_reducible rfl
               rotate_left
               ·simp only [Act.put, ls_, lz_, lc_, i64_w, i32_w]
                rfl
               refine take_ (i := 8) (N := some 42) (v := ?_) (a' := ?_) #[true, true, true, true, true, true, true, true, true, false, false, false, false] rfl rfl (take_ofW HT_.out HW_.out (by kernel_rfl)) (fun _ _ _ h => h) (Or.inl ⟨by rfl, ?_⟩) hHeld ?_ ?_
               rotate_left
               ·rintro w' ⟨s0, s1, s2, s3, s4, s5, s6, s7, s8, s9⟩
                go_simp
                with_reducible rfl
               rotate_left
               ·simp only [Act.put, ls_, lz_, lc_, i64_w, i32_w]
                rfl
               refine one_ (i := 9) (N := some 43) #[true, true, true, true, true, true, true, true, true, true, false, false, false] rfl rfl (one_of HT_.out (by kernel_rfl)) (by decide) (fun K hK => ?_)
               refine goes_ Try.func21 (by kernel_rfl) rfl #[.agg #[.bool ((rd_T48 y163 x29_2).f0), .int .i64 ((rd_T48 y163 x29_2).f1.f0), .int .i64 ((rd_T48 y163 x29_2).f1.f1), .int .i64 ((rd_T48 y163 x29_2).f2), .slice A167_4 ((rd_T48 y163 x29_2).f3).length c167_4], .agg #[.bool ((rd_T48 l0 (ji15)).f0), .int .i64 ((rd_T48 l0 (ji15)).f1.f0), .int .i64 ((rd_T48 l0 (ji15)).f1.f1), .int .i64 ((rd_T48 l0 (ji15)).f2), .slice A169_4 ((rd_T48 l0 (ji15)).f3).length c169_4]] (by rfl) rfl rfl (by (try simp only [lm_, lq_, lx_]); first | done | (simp only [hji15]; rfl) | rfl | (simp only [ld_, lt_]; rfl)) ?_
               with_reducible refine (spring_like.calls k2 ((rd_T48 y163 x29_2).f0) ((rd_T48 y163 x29_2).f1.f0) ((rd_T48 y163 x29_2).f1.f1) ((rd_T48 y163 x29_2).f2) _ _ ((rd_T48 y163 x29_2).f3) ((rd_T48 l0 (ji15)).f0) ((rd_T48 l0 (ji15)).f1.f0) ((rd_T48 l0 (ji15)).f1.f1) ((rd_T48 l0 (ji15)).f2) _ _ ((rd_T48 l0 (ji15)).f3) t170 _ ?side1 ?side2 ?side3 ?side4 A18.out).mono ?_
               (case side1 => repeat (first | exact (Kd.C_below HR167_4.out HB.out) | (with_reducible refine Kd.C_alloc ?_ _) | (with_reducible refine Kd.C_drewN ?_ _) | (with_reducible refine Kd.C_drew ?_)))
               (case side2 => exact HC167_4.out)
               (case side3 => repeat (first | exact (Kd.C_below HR169_4.out HB.out) | (with_reducible refine Kd.C_alloc ?_ _) | (with_reducible refine Kd.C_drewN ?_ _) | (with_reducible refine Kd.C_drew ?_)))
               (case side4 => exact HC169_4.out)
               rintro e w24 ⟨rfl, hb⟩
               refine ⟨_, rfl, ?_⟩
               have n0_ := sd_ (Kd.R_below (by (with_reducible repeat (first | apply Kd.R_alloc | apply Kd.R_drewN | apply Kd.R_drew)); exact HO_8.out) hb)
               have n1_ := sd_ (blk_below (g := gb168) (o := .cells #[.bool ((rd_T48 y163 x29_2).f0), .int .i64 ((rd_T48 y163 x29_2).f1.f0), .int .i64 ((rd_T48 y163 x29_2).f1.f1), .int .i64 ((rd_T48 y163 x29_2).f2), .slice A167_4 ((rd_T48 y163 x29_2).f3).length c167_4] 48 (0, 0)) (by (with_reducible repeat (first | refine kn_ ?_ _ | refine kd_ ?_ | refine ka_ ?_ _)); exact BK168.out) hb)
               have n2_ := sd_ (bt_ (by repeat first | exact HB.out | apply ba_ | apply pd_ | apply d1_ | refine bs_ ?_ GE168.out) hb)
               clear HO_8
               clear BK168
               clear HB
               have HO_8 := n0_
               have BK168 := n1_
               have HB := n2_
               clear n0_ n1_ n2_
               (try clear hb)
               (try clear hb2)
               (try clear hk)
               (try clear hi)
               refine hK.out _ _ ⟨(kc_ BK168.out 0).trans rfl, (kc_ BK168.out 1).trans rfl, (kc_ BK168.out 2).trans rfl, (kc_ BK168.out 3).trans rfl, (kc_ BK168.out 4).trans rfl, ((HB.out.cell (wb_ w _ hw169_0)).trans hw169_0), ((HB.out.cell (wb_ w _ hw169_1)).trans hw169_1), ((HB.out.cell (wb_ w _ hw169_2)).trans hw169_2), ((HB.out.cell (wb_ w _ hw169_3)).trans hw169_3), ((HB.out.cell (wb_ w _ hw169_4)).trans hw169_4)⟩ (fun hHeld => ?_)
               clear hK K
               refine norm_ (a' := ?_) ?_ ?_
               rotate_left
               ·show Act.put _ (some 43) _ = _
                simp only [Act.put, ls_, lz_, lc_, i64_w, i32_w]
                rfl
               refine one_ (i := 10) (N := some 44) #[true, true, true, true, true, true, true, true, true, true, true, false, false] rfl rfl (one_of HT_.out (by kernel_rfl)) (by decide) (fun K hK => ?_)
               refine value_ (w1 := ?_) (v := ?_) (by rfl) rfl ?_ ?_
               rotate_left 2
               ·go_simp
                constructor
                ·rfl
                ·rfl
               refine hK.out _ _ ⟨(kc_ (ka_ BK168.out _) 0).trans rfl, (kc_ (ka_ BK168.out _) 1).trans rfl, (kc_ (ka_ BK168.out _) 2).trans rfl, (kc_ (ka_ BK168.out _) 3).trans rfl, (kc_ (ka_ BK168.out _) 4).trans rfl, (World.cell?_alloc_lt _ _ _ (wb_ _ _ (((HB.out.cell (wb_ w _ hw169_0)).trans hw169_0)))).trans (((HB.out.cell (wb_ w _ hw169_0)).trans hw169_0)), (World.cell?_alloc_lt _ _ _ (wb_ _ _ (((HB.out.cell (wb_ w _ hw169_1)).trans hw169_1)))).trans (((HB.out.cell (wb_ w _ hw169_1)).trans hw169_1)), (World.cell?_alloc_lt _ _ _ (wb_ _ _ (((HB.out.cell (wb_ w _ hw169_2)).trans hw169_2)))).trans (((HB.out.cell (wb_ w _ hw169_2)).trans hw169_2)), (World.cell?_alloc_lt _ _ _ (wb_ _ _ (((HB.out.cell (wb_ w _ hw169_3)).trans hw169_3)))).trans (((HB.out.cell (wb_ w _ hw169_3)).trans hw169_3)), (World.cell?_alloc_lt _ _ _ (wb_ _ _ (((HB.out.cell (wb_ w _ hw169_4)).trans hw169_4)))).trans (((HB.out.cell (wb_ w _ hw169_4)).trans hw169_4))⟩ (fun hHeld => ?_)
               clear hK K
               refine norm_ (a' := ?_) ?_ ?_
               rotate_left
               ·show Act.put _ (some 44) _ = _
                simp only [Act.put, ls_, lz_, lc_, i64_w, i32_w]
                rfl
               refine one_ (i := 11) (N := some 45) #[true, true, true, true, true, true, true, true, true, true, true, true, false] rfl rfl (one_of HT_.out (by kernel_rfl)) (by decide) (fun K hK => ?_)
               refine Kd.R_append_step (Kd.int .i64) (w0 := w) w.heap.size (by rfl) (.tmp 34) (.tmp 44) 31 3 (.int .i64 0) 8 rfl Try.underlying31 info3 rfl (by decide) (by omega) u8 x8_2 t170 [.int .i64 t170] (fun _ => True) (fun _ => False) rfl rfl ?aP (fun _ hk => hk.elim) ?aF ?aO ?aB ?aS ?aL ?_
               (case aP => exact rfl)
               (case aB => exact (by repeat first | exact HB.out | apply ba_ | apply pd_ | apply d1_ | refine bs_ ?_ GE168.out))
               (case aF => exact (fun _ _ => trivial))
               (case aO => exact (by (with_reducible repeat (first | apply Kd.R_alloc | apply Kd.R_drewN | apply Kd.R_drew)); exact HO_8.out))
               (case aS => exact (bz_ (by repeat first | exact HB.out | apply ba_ | apply pd_ | apply d1_ | refine bs_ ?_ GE168.out)))
               (case aL => have := LMc19.out; omega)
               intro v172 w25 ho hb hg hat
               rw [← Ny171.out] at ho
               have n0_ := sd_ (blk_grown (g := gb168) (o := .cells #[.bool ((rd_T48 y163 x29_2).f0), .int .i64 ((rd_T48 y163 x29_2).f1.f0), .int .i64 ((rd_T48 y163 x29_2).f1.f1), .int .i64 ((rd_T48 y163 x29_2).f2), .slice A167_4 ((rd_T48 y163 x29_2).f3).length c167_4] 48 (0, 0)) (by (with_reducible repeat (first | refine kn_ ?_ _ | refine kd_ ?_ | refine ka_ ?_ _)); exact BK168.out) hg (Kd.R_ne HO_8.out BK168.out (by decide)))
               have n1_ := sd_ (hb)
               have n2_ := sd_ (ho)
               clear BK168
               clear HB
               clear HO_8
               have BK168 := n0_
               have HB := n1_
               have HO173 := n2_
               clear n0_ n1_ n2_
               clear ho hb hg hat
               refine hK.out _ _ ⟨(kc_ BK168.out 0).trans rfl, (kc_ BK168.out 1).trans rfl, (kc_ BK168.out 2).trans rfl, (kc_ BK168.out 3).trans rfl, (kc_ BK168.out 4).trans rfl, ((HB.out.cell (wb_ w _ hw169_0)).trans hw169_0), ((HB.out.cell (wb_ w _ hw169_1)).trans hw169_1), ((HB.out.cell (wb_ w _ hw169_2)).trans hw169_2), ((HB.out.cell (wb_ w _ hw169_3)).trans hw169_3), ((HB.out.cell (wb_ w _ hw169_4)).trans hw169_4)⟩ (fun hHeld => ?_)
               clear hK K
               refine norm_ (a' := ?_) ?_ ?_
               rotate_left
               ·show Act.put _ (some 45) _ = _
                simp only [Act.put, ls_, lz_, lc_, i64_w, i32_w]
                rfl
               refine pure_ (i := 12) (N := some 8) (v := ?_) (a' := ?_) #[true, true, true, true, true, true, true, true, true, true, true, true, true] rfl rfl (any_of HT_.out (by kernel_rfl)) (fun _ _ _ h => h) (Or.inl ⟨by rfl, ?_⟩) ?_ ?_
               rotate_left; (intro w'; go_simp; with_reducible rfl); rotate_left; (simp only [Act.put, ls_, lz_, lc_, i64_w, i32_w]; rfl)
               refine done_ (done_of HT_.out (by kernel_rfl)) ?_
               try go_wp2
               go_roundg k2
               case measure => have := HJ3.out; have := HK2.out; omega
               case rel => exact ⟨(y171), (wrap64 (x29_2 + 1)), (by first | rfl | (simp; done) | (simp [*]; done)), H', ⟨by have := HJ3.out; have := HK2.out; omega⟩, ⟨by (with_reducible repeat (first | apply Kd.R_alloc | apply Kd.R_drewN | apply Kd.R_drew)); exact HO173.out⟩, ⟨by repeat first | exact HB.out | apply ba_ | apply pd_ | apply d1_ | refine bs_ ?_ GE168.out⟩⟩
              ·rw [if_neg c19] at H
               exact absurd H (by simp)
             ·rw [if_neg c17] at H
              exact absurd H (by simp)
            ·rw [if_neg c16] at H
             exact absurd H (by simp)
           ·rw [if_neg c14] at H
            exact absurd H (by simp)
          ·rw [if_neg c13] at H
           exact absurd H (by simp)
         ·rw [if_neg c12] at H
          have c12b0 : decide (x29_2 < (y163.length : Int)) = false := df_ c12
          clear c12
          simp only [Option.some.injEq, Prod.mk.injEq] at H
          obtain ⟨rfl, rfl⟩ := H
          go_wp2
          go_ret2
          exact ⟨_, by first | rfl | (simp [errW_none, errW_some] <;> rfl) | (simp [*, errW_none, errW_some] <;> rfl), by (with_reducible repeat (first | apply Kd.R_alloc | apply Kd.R_drewN | apply Kd.R_drew)); exact HO_8.out, by repeat first | exact HB.out | apply ba_ | apply pd_ | apply d1_⟩
      ·rw [if_neg c10] at H
       exact absurd H (by simp)
     ·rw [if_neg c9] at H
      exact absurd H (by simp)
    ·rw [if_neg c8] at H
     exact absurd H (by simp)

/-! ### spring_Length: function 11 -/
def spring_Length.f (a0 : Int) (a1 : Int) : Option (Int × Int) := if a0 < 0 then (some (0, 2)) else (if a0 > 1048576 then (some (0, 2)) else (if a1 < (-1024) then (some (0, 2)) else (if a1 > 8192 then (some (0, 2)) else (some (wrap64 (Int.tdiv (wrap64 (a0 * (wrap64 (1024 + a1)))) 1024), 0)))))
set_option maxHeartbeats 8000000 in
set_option maxRecDepth 100000 in
theorem spring_Length.calls (a0 : Int) (a1 : Int) (r1 : Int) (r2 : Int) (w : World) (h : spring_Length.f a0 a1 = some (r1, r2)) :
  Calls Try.prog 11 #[.int .i64 a0, .int .i64 a1] w fun e w' => e = .returned (.tuple #[.int .i64 r1, .int .i64 r2]) ∧ Drawn0 w w' := by
 have H : (if a0 < 0 then (some (0, 2)) else (if a0 > 1048576 then (some (0, 2)) else (if a1 < (-1024) then (some (0, 2)) else (if a1 > 8192 then (some (0, 2)) else (some (wrap64 (Int.tdiv (wrap64 (a0 * (wrap64 (1024 + a1)))) 1024), 0)))))) = some (r1, r2) := h
 clear h
 by_cases c3 : a0 < 0
 ·rw [if_pos c3] at H
  have c3b0 : decide (a0 < 0) = true := dt_ c3
  clear c3
  simp only [Option.some.injEq, Prod.mk.injEq] at H
  obtain ⟨rfl, rfl⟩ := H
  go_enter Try.func11, Try.ntmps11
  go_wp2
  go_ret2
  exact ⟨by first | rfl | (simp; done) | (simp [*]; done), by repeat (first | exact Drawn0.refl _ | apply Drawn0.step)⟩
 ·rw [if_neg c3] at H
  have c3b0 : decide (a0 < 0) = false := df_ c3
  clear c3
  by_cases c4 : a0 > 1048576
  ·rw [if_pos c4] at H
   have c4b0 : decide (1048576 < a0) = true := dt_ c4
   clear c4
   simp only [Option.some.injEq, Prod.mk.injEq] at H
   obtain ⟨rfl, rfl⟩ := H
   go_enter Try.func11, Try.ntmps11
   go_wp2
   go_ret2
   exact ⟨by first | rfl | (simp; done) | (simp [*]; done), by repeat (first | exact Drawn0.refl _ | apply Drawn0.step)⟩
  ·rw [if_neg c4] at H
   have c4b0 : decide (1048576 < a0) = false := df_ c4
   clear c4
   by_cases c5 : a1 < (-1024)
   ·rw [if_pos c5] at H
    have c5b0 : decide (a1 < (-1024)) = true := dt_ c5
    clear c5
    simp only [Option.some.injEq, Prod.mk.injEq] at H
    obtain ⟨rfl, rfl⟩ := H
    go_enter Try.func11, Try.ntmps11
    go_wp2
    go_ret2
    exact ⟨by first | rfl | (simp; done) | (simp [*]; done), by repeat (first | exact Drawn0.refl _ | apply Drawn0.step)⟩
   ·rw [if_neg c5] at H
    have c5b0 : decide (a1 < (-1024)) = false := df_ c5
    clear c5
    by_cases c6 : a1 > 8192
    ·rw [if_pos c6] at H
     have c6b0 : decide (8192 < a1) = true := dt_ c6
     clear c6
     simp only [Option.some.injEq, Prod.mk.injEq] at H
     obtain ⟨rfl, rfl⟩ := H
     go_enter Try.func11, Try.ntmps11
     go_wp2
     go_ret2
     exact ⟨by first | rfl | (simp; done) | (simp [*]; done), by repeat (first | exact Drawn0.refl _ | apply Drawn0.step)⟩
    ·rw [if_neg c6] at H
     have c6b0 : decide (8192 < a1) = false := df_ c6
     clear c6
     simp only [Option.some.injEq, Prod.mk.injEq] at H
     obtain ⟨rfl, rfl⟩ := H
     go_enter Try.func11, Try.ntmps11
     go_wp2
     go_ret2
     exact ⟨by first | rfl | (simp; done) | (simp [*]; done), by repeat (first | exact Drawn0.refl _ | apply Drawn0.step)⟩

/-! ### neumeref18_Numbers: function 13 -/
def neumeref18_Numbers.l0 : Nat → List Int → List Int → Int → Option (Bool)
 | 0, _, _, _ => none
 | k + 1, x0, x1, x5 => if x5 < (x0.length : Int) then (if 0 ≤ x5 then (if x5 < (x1.length : Int) then (if (rd x0 x5) = (rd x1 x5) then (neumeref18_Numbers.l0 k x0 x1 (wrap64 (x5 + 1))) else (some false)) else (none)) else (none)) else (some true)
def neumeref18_Numbers.f (k : Nat) (l0 : List Int) (l1 : List Int) : Option (Bool) := if (l0.length : Int) = (l1.length : Int) then (neumeref18_Numbers.l0 k l0 l1 0) else (some false)
theorem neumeref18_Numbers.mono_l : ∀ k, (∀ y0 y1 y2, LeO (neumeref18_Numbers.l0 k y0 y1 y2) (neumeref18_Numbers.l0 (k + 1) y0 y1 y2))
 | 0 => fun _ _ _ r h => by simp [neumeref18_Numbers.l0] at h
 | k + 1 => by
  have ih0 := neumeref18_Numbers.mono_l k
  ·intro y0 y1 y2
   unfold neumeref18_Numbers.l0
   repeat' first
   | (with_reducible exact ih0 _ _ _)
   | (with_reducible exact LeO.refl _)
   | (with_reducible exact LeO.none _)
   | (with_reducible refine LeO.ite ?_ ?_)
   | (with_reducible refine LeO.bind ?_ (fun _ => ?_))
   | exact ih0 _ _ _
   | exact LeO.none _
   | refine LeO.ite ?_ ?_
   | refine LeO.bind ?_ (fun _ => ?_)
theorem neumeref18_Numbers.mono : ∀ a0 a1 k, LeO (neumeref18_Numbers.f k a0 a1) (neumeref18_Numbers.f (k + 1) a0 a1) := by
 intro a0 a1 k
 have ih0 := neumeref18_Numbers.mono_l k
 unfold neumeref18_Numbers.f
 repeat' first
   | (with_reducible exact ih0 _ _ _)
   | (with_reducible exact LeO.refl _)
   | (with_reducible exact LeO.none _)
   | (with_reducible refine LeO.ite ?_ ?_)
   | (with_reducible refine LeO.bind ?_ (fun _ => ?_))
   | exact ih0 _ _ _
   | exact LeO.none _
   | refine LeO.ite ?_ ?_
   | refine LeO.bind ?_ (fun _ => ?_)
set_option maxHeartbeats 8000000 in
set_option maxRecDepth 100000 in
theorem neumeref18_Numbers.calls (k : Nat) (A0 : Option Addr) (c0 : Nat) (l0 : List Int) (A1 : Option Addr) (c1 : Nat) (l1 : List Int) (r : Bool) (w : World) (hr0 : Kd.C (Kd.int .i64) w A0 l0.length l0) (hc0 : l0.length ≤ c0) (hr1 : Kd.C (Kd.int .i64) w A1 l1.length l1) (hc1 : l1.length ≤ c1) (h : neumeref18_Numbers.f k l0 l1 = some r) :
  Calls Try.prog 13 #[.slice A0 l0.length c0, .slice A1 l1.length c1] w fun e w' => e = .returned (.bool r) ∧ Drawn0 w w' := by
 have HR0 := sd_ hr0
 have HC0 := sd_ hc0
 clear hr0 hc0
 have HR1 := sd_ hr1
 have HC1 := sd_ hc1
 clear hr1 hc1
 have H : (if (l0.length : Int) = (l1.length : Int) then (neumeref18_Numbers.l0 k l0 l1 0) else (some false)) = some r := h
 clear h
 by_cases c3 : (l0.length : Int) = (l1.length : Int)
 ·rw [if_pos c3] at H
  have c3b0 : ((l0.length : Int) == (l1.length : Int)) = true := beq_iff_eq.mpr c3
  have c3b1 : ((l0.length : Int) != (l1.length : Int)) = false := bne_eq_false_iff_eq.mpr c3
  have c3b2 : (l0.length == l1.length) = true := by first | simpa using c3 | (simp at c3 ⊢; omega)
  clear c3
  have H' := sd_ H
  clear H
  go_enter Try.func13, Try.ntmps13
  go_wp2
  repeat (go_quiet (fail); try go_wp2)
  go_loopg [5] k (fun kq v5 w' => ∃ (x5_1 : Int), v5 = .int .i64 x5_1 ∧ Aside0 (neumeref18_Numbers.l0 kq l0 l1 x5_1 = some r) ∧ Aside0 (kq ≤ k) ∧ Drawn0 w w')
  case atStart => exact ⟨(0), (by first | rfl | (simp; done) | (simp [*]; done)), H', ⟨Nat.le_refl _⟩, by repeat (first | exact Drawn0.refl _ | apply Drawn0.step)⟩
  case round =>
   clear H'
   try clear c1; try clear p2; try clear c3; try clear c3b0; try clear c3b1; try clear c3b2
   obtain ⟨x5_1, rfl, HA, HK1, ⟨m1, rfl⟩⟩ := hrel
   cases gk with
   | zero => exact absurd HA.out (by simp [neumeref18_Numbers.l0])
   | succ k1 =>
    have H := HA.out
    clear HA
    simp only [neumeref18_Numbers.l0] at H
    by_cases c4 : x5_1 < (l0.length : Int)
    ·rw [if_pos c4] at H
     have c4b0 : decide (x5_1 < (l0.length : Int)) = true := dt_ c4
     clear c4
     by_cases c5 : 0 ≤ x5_1
     ·rw [if_pos c5] at H
      have c5b0 : decide (0 ≤ x5_1) = true := dt_ c5
      clear c5
      by_cases c6 : x5_1 < (l1.length : Int)
      ·rw [if_pos c6] at H
       have c6b0 : decide (x5_1 < (l1.length : Int)) = true := dt_ c6
       clear c6
       by_cases c7 : (rd l0 x5_1) = (rd l1 x5_1)
       ·rw [if_pos c7] at H
        have c7b0 : ((rd l0 x5_1) == (rd l1 x5_1)) = true := beq_iff_eq.mpr c7
        have c7b1 : ((rd l0 x5_1) != (rd l1 x5_1)) = false := bne_eq_false_iff_eq.mpr c7
        clear c7
        have H' := sd_ H
        clear H
        have p174 : 0 ≤ (x5_1 : Int) := od_ (by first | (with_reducible assumption) | assumption)
        have q174 : x5_1 < (l0.length : Int) := od_ (by first | (with_reducible assumption) | assumption)
        obtain ⟨ad174, e174, hx174_0⟩ := Kd.at_int HR0.out x5_1 p174 q174
        cases e174
        replace p174 := eq_true p174
        replace q174 := eq_true q174
        have p175 : 0 ≤ (x5_1 : Int) := od_ (by first | (with_reducible assumption) | assumption)
        have q175 : x5_1 < (l1.length : Int) := od_ (by first | (with_reducible assumption) | assumption)
        obtain ⟨ad175, e175, hx175_0⟩ := Kd.at_int HR1.out x5_1 p175 q175
        cases e175
        replace p175 := eq_true p175
        replace q175 := eq_true q175
        go_wp2
        repeat (go_quiet (fail); try go_wp2)
        go_roundg k1
        case measure => have := HK1.out; omega
        case rel => exact ⟨(wrap64 (x5_1 + 1)), (by first | rfl | (simp; done) | (simp [*]; done)), H', ⟨by have := HK1.out; omega⟩, by repeat (first | exact Drawn0.refl _ | apply Drawn0.step)⟩
       ·rw [if_neg c7] at H
        have c7b0 : ((rd l0 x5_1) == (rd l1 x5_1)) = false := beq_eq_false_iff_ne.mpr c7
        have c7b1 : ((rd l0 x5_1) != (rd l1 x5_1)) = true := bne_iff_ne.mpr c7
        obtain rfl := Option.some.inj H
        have p174 : 0 ≤ (x5_1 : Int) := od_ (by first | (with_reducible assumption) | assumption)
        have q174 : x5_1 < (l0.length : Int) := od_ (by first | (with_reducible assumption) | assumption)
        obtain ⟨ad174, e174, hx174_0⟩ := Kd.at_int HR0.out x5_1 p174 q174
        cases e174
        replace p174 := eq_true p174
        replace q174 := eq_true q174
        have p175 : 0 ≤ (x5_1 : Int) := od_ (by first | (with_reducible assumption) | assumption)
        have q175 : x5_1 < (l1.length : Int) := od_ (by first | (with_reducible assumption) | assumption)
        obtain ⟨ad175, e175, hx175_0⟩ := Kd.at_int HR1.out x5_1 p175 q175
        cases e175
        replace p175 := eq_true p175
        replace q175 := eq_true q175
        go_wp2
        repeat (go_quiet (fail); try go_wp2)
        go_ret
        exact ⟨by first | rfl | (simp; done) | (simp [*]; done), by repeat (first | exact Drawn0.refl _ | apply Drawn0.step)⟩
      ·rw [if_neg c6] at H
       exact absurd H (by simp)
     ·rw [if_neg c5] at H
      exact absurd H (by simp)
    ·rw [if_neg c4] at H
     have c4b0 : decide (x5_1 < (l0.length : Int)) = false := df_ c4
     clear c4
     obtain rfl := Option.some.inj H
     go_wp2
     repeat (go_quiet (fail); try go_wp2)
     go_ret
     exact ⟨by first | rfl | (simp; done) | (simp [*]; done), by repeat (first | exact Drawn0.refl _ | apply Drawn0.step)⟩
 ·rw [if_neg c3] at H
  have c3b0 : ((l0.length : Int) == (l1.length : Int)) = false := beq_eq_false_iff_ne.mpr c3
  have c3b1 : ((l0.length : Int) != (l1.length : Int)) = true := bne_iff_ne.mpr c3
  have c3b2 : (l0.length == l1.length) = false := by first | simpa using c3 | (simp at c3 ⊢; omega)
  obtain rfl := Option.some.inj H
  go_enter Try.func13, Try.ntmps13
  go_wp2
  repeat (go_quiet (fail); try go_wp2)
  go_ret
  exact ⟨by first | rfl | (simp; done) | (simp [*]; done), by repeat (first | exact Drawn0.refl _ | apply Drawn0.step)⟩

end Go.Proofs.Ytcbeibmoblgaeaa.P
