-- Written by a program of this session (wip/tools/xprint.py, over the kit's print): Lean checks it.
import Derived.Test.YtcbeibmoblgaeaaPx0
import Derived.Test.YtcbeibmoblgaeaaPx1
import Derived.Test.YtcbeibmoblgaeaaPx4
import Derived.Test.YtcbeibmoblgaeaaPx6
import Derived.Test.YtcbeibmoblgaeaaPx8
namespace Go.Proofs.Ytcbeibmoblgaeaa.P
open Go.RowKit Go.Proofs.YtcbeibmoblgaeaaW.PrintWords Go.Proofs.YtcbeibmoblgaeaaW.PrintLast Go.Proofs.YtcbeibmoblgaeaaW.PrintMore
attribute [local go_sem] max2_int min2_int max_two min_two max_three min_three max_four min_four   -- for this text's walks alone
set_option linter.unusedVariables false
set_option linter.unusedSimpArgs false

/-! ### neumeref02_Cmp: function 16 -/
def neumeref02_Cmp.j0 : Nat → Bool → Int → Int → Int → Int → Option (Int)
 | 0, _, _, _, _, _ => none
 | k + 1, x14, x266000, x266001, x267000, x267001 => if x14 = true then (some 0) else (if (wrap64 (x266000 * x267001)) < (wrap64 (x267000 * x266001)) then (some (-1)) else (if (wrap64 (x266000 * x267001)) > (wrap64 (x267000 * x266001)) then (some 1) else (some 0)))
def neumeref02_Cmp.f (k : Nat) (a0_0 : Int) (a0_1 : Int) (a1_0 : Int) (a1_1 : Int) : Option (Int) := (neumeref02_Check.f k a0_0 a0_1).bind fun t267 => (if t267 = true then ((neumeref02_Check.f k a1_0 a1_1).bind fun t268 => (neumeref02_Cmp.j0 k (!t268) a0_0 a0_1 a1_0 a1_1)) else (neumeref02_Cmp.j0 k true a0_0 a0_1 a1_0 a1_1))
theorem neumeref02_Cmp.mono_l : ∀ k, (∀ y0 y1 y2 y3 y4, LeO (neumeref02_Cmp.j0 k y0 y1 y2 y3 y4) (neumeref02_Cmp.j0 (k + 1) y0 y1 y2 y3 y4))
 | 0 => fun _ _ _ _ _ r h => by simp [neumeref02_Cmp.j0] at h
 | k + 1 => by
  have ih0 := neumeref02_Cmp.mono_l k
  ·intro y0 y1 y2 y3 y4
   unfold neumeref02_Cmp.j0
   repeat' first
   | (with_reducible exact ih0 _ _ _ _ _)
   | (with_reducible exact neumeref02_Check.mono _ _ _)
   | (with_reducible exact LeO.refl _)
   | (with_reducible exact LeO.none _)
   | (with_reducible refine LeO.ite ?_ ?_)
   | (with_reducible refine LeO.bind ?_ (fun _ => ?_))
   | exact ih0 _ _ _ _ _
   | exact neumeref02_Check.mono _ _ _
   | exact LeO.none _
   | refine LeO.ite ?_ ?_
   | refine LeO.bind ?_ (fun _ => ?_)
theorem neumeref02_Cmp.mono : ∀ a0 a1 a2 a3 k, LeO (neumeref02_Cmp.f k a0 a1 a2 a3) (neumeref02_Cmp.f (k + 1) a0 a1 a2 a3) := by
 intro a0 a1 a2 a3 k
 have ih0 := neumeref02_Cmp.mono_l k
 unfold neumeref02_Cmp.f
 repeat' first
   | (with_reducible exact ih0 _ _ _ _ _)
   | (with_reducible exact neumeref02_Check.mono _ _ _)
   | (with_reducible exact LeO.refl _)
   | (with_reducible exact LeO.none _)
   | (with_reducible refine LeO.ite ?_ ?_)
   | (with_reducible refine LeO.bind ?_ (fun _ => ?_))
   | exact ih0 _ _ _ _ _
   | exact neumeref02_Check.mono _ _ _
   | exact LeO.none _
   | refine LeO.ite ?_ ?_
   | refine LeO.bind ?_ (fun _ => ?_)
set_option maxHeartbeats 8000000 in
set_option maxRecDepth 100000 in
theorem neumeref02_Cmp.calls (k : Nat) (a0_0 : Int) (a0_1 : Int) (a1_0 : Int) (a1_1 : Int) (r : Int) (w : World) (h : neumeref02_Cmp.f k a0_0 a0_1 a1_0 a1_1 = some r) :
  Calls Try.prog 16 #[.agg #[.int .i64 a0_0, .int .i64 a0_1], .agg #[.int .i64 a1_0, .int .i64 a1_1]] w fun e w' => e = .returned (.int .i64 r) ∧ Below w.heap.size w w' := by
 have hu23 := Try.underlying23
 have HB := sd_ (Below.refl w.heap.size w)
 have H : ((neumeref02_Check.f k a0_0 a0_1).bind fun t267 => (if t267 = true then ((neumeref02_Check.f k a1_0 a1_1).bind fun t268 => (neumeref02_Cmp.j0 k (!t268) a0_0 a0_1 a1_0 a1_1)) else (neumeref02_Cmp.j0 k true a0_0 a0_1 a1_0 a1_1))) = some r := h
 clear h
 have HC3 := sd_ H
 clear H
 go_enter Try.func16, Try.ntmps16
 go_upto_region 1 with (first | ((with_reducible refine gate_dst (N := 2) rfl ?_); refine box_event ?hg (N := 2) ?hd (cs := #[.int .i64 a0_0, .int .i64 a0_1]) (t := 23) ?hr ?_; (case hd => rfl); (case hg => rfl); (case hr => first | (go_simp; done) | (go_simp; rfl)); intro gb265 hg w4 hbox hb; have n0_ := sd_ (bt_ (by repeat (first | (with_reducible first | exact HB.out | apply ba_ | apply pd_ | apply d1_) | exact HB.out)) hb); have n1_ := sd_ (hbox); have n2_ := sd_ ((by rw [hg]; exact (bz_ (by repeat (first | (with_reducible first | exact HB.out | apply ba_ | apply pd_ | apply d1_) | exact HB.out))) : w.heap.size ≤ gb265)); have n3_ := sd_ ((by rw [hg]; exact (bz_ (by repeat (first | (with_reducible first | exact HB.out | apply ba_ | apply pd_ | apply d1_) | exact HB.out))) : w.heap.size ≤ gb265)); clear HB; have HB := n0_; have BK265 := n1_; have GW265 := n2_; have GE265 := n3_; clear n0_ n1_ n2_ n3_; clear hb hbox hg) | ((with_reducible refine gate_dst (N := 3) rfl ?_); refine box_event ?hg (N := 3) ?hd (cs := #[.int .i64 a1_0, .int .i64 a1_1]) (t := 23) ?hr ?_; (case hd => rfl); (case hg => rfl); (case hr => first | (go_simp; done) | (go_simp; rfl)); intro gb266 hg w5 hbox hb; have n0_ := sd_ (blk_below (g := gb265) (o := .cells #[.int .i64 a0_0, .int .i64 a0_1] 23 (0, 0)) (by (with_reducible repeat (first | refine kn_ ?_ _ | refine kd_ ?_ | refine ka_ ?_ _)); exact BK265.out) hb); have n1_ := sd_ (bt_ (by repeat (first | (with_reducible first | exact HB.out | apply ba_ | apply pd_ | apply d1_ | refine bs_ ?_ GE265.out) | exact HB.out)) hb); have n2_ := sd_ (hbox); have n3_ := sd_ ((by rw [hg]; exact (bz_ (by repeat (first | (with_reducible first | exact HB.out | apply ba_ | apply pd_ | apply d1_ | refine bs_ ?_ GE265.out) | exact HB.out))) : w.heap.size ≤ gb266)); have n4_ := sd_ ((by rw [hg]; exact (bz_ (by repeat (first | (with_reducible first | exact HB.out | apply ba_ | apply pd_ | apply d1_ | refine bs_ ?_ GE265.out) | exact HB.out))) : w.heap.size ≤ gb266)); have n5_ := sd_ ((by rw [hg]; exact nn_ (blk_lt (g := gb265) (o := .cells #[.int .i64 a0_0, .int .i64 a0_1] 23 (0, 0)) (by (with_reducible repeat (first | refine kn_ ?_ _ | refine kd_ ?_ | refine ka_ ?_ _)); exact BK265.out)) : gb265 ≠ gb266)); have n6_ := sd_ ((by rw [hg]; exact Nat.ne_of_gt (blk_lt (g := gb265) (o := .cells #[.int .i64 a0_0, .int .i64 a0_1] 23 (0, 0)) (by (with_reducible repeat (first | refine kn_ ?_ _ | refine kd_ ?_ | refine ka_ ?_ _)); exact BK265.out)) : gb266 ≠ gb265)); clear BK265; clear HB; have BK265 := n0_; have HB := n1_; have BK266 := n2_; have GW266 := n3_; have GE266 := n4_; have NB265_266 := n5_; have NB266_265 := n6_; clear n0_ n1_ n2_ n3_ n4_ n5_ n6_; clear hb hbox hg))
 repeat (go_quiet (first | ((with_reducible refine gate_dst (N := 2) rfl ?_); refine box_event ?hg (N := 2) ?hd (cs := #[.int .i64 a0_0, .int .i64 a0_1]) (t := 23) ?hr ?_; (case hd => rfl); (case hg => rfl); (case hr => first | (go_simp; done) | (go_simp; rfl)); intro gb265 hg w4 hbox hb; have n0_ := sd_ (bt_ (by repeat (first | (with_reducible first | exact HB.out | apply ba_ | apply pd_ | apply d1_) | exact HB.out)) hb); have n1_ := sd_ (hbox); have n2_ := sd_ ((by rw [hg]; exact (bz_ (by repeat (first | (with_reducible first | exact HB.out | apply ba_ | apply pd_ | apply d1_) | exact HB.out))) : w.heap.size ≤ gb265)); have n3_ := sd_ ((by rw [hg]; exact (bz_ (by repeat (first | (with_reducible first | exact HB.out | apply ba_ | apply pd_ | apply d1_) | exact HB.out))) : w.heap.size ≤ gb265)); clear HB; have HB := n0_; have BK265 := n1_; have GW265 := n2_; have GE265 := n3_; clear n0_ n1_ n2_ n3_; clear hb hbox hg) | ((with_reducible refine gate_dst (N := 3) rfl ?_); refine box_event ?hg (N := 3) ?hd (cs := #[.int .i64 a1_0, .int .i64 a1_1]) (t := 23) ?hr ?_; (case hd => rfl); (case hg => rfl); (case hr => first | (go_simp; done) | (go_simp; rfl)); intro gb266 hg w5 hbox hb; have n0_ := sd_ (blk_below (g := gb265) (o := .cells #[.int .i64 a0_0, .int .i64 a0_1] 23 (0, 0)) (by (with_reducible repeat (first | refine kn_ ?_ _ | refine kd_ ?_ | refine ka_ ?_ _)); exact BK265.out) hb); have n1_ := sd_ (bt_ (by repeat (first | (with_reducible first | exact HB.out | apply ba_ | apply pd_ | apply d1_ | refine bs_ ?_ GE265.out) | exact HB.out)) hb); have n2_ := sd_ (hbox); have n3_ := sd_ ((by rw [hg]; exact (bz_ (by repeat (first | (with_reducible first | exact HB.out | apply ba_ | apply pd_ | apply d1_ | refine bs_ ?_ GE265.out) | exact HB.out))) : w.heap.size ≤ gb266)); have n4_ := sd_ ((by rw [hg]; exact (bz_ (by repeat (first | (with_reducible first | exact HB.out | apply ba_ | apply pd_ | apply d1_ | refine bs_ ?_ GE265.out) | exact HB.out))) : w.heap.size ≤ gb266)); have n5_ := sd_ ((by rw [hg]; exact nn_ (blk_lt (g := gb265) (o := .cells #[.int .i64 a0_0, .int .i64 a0_1] 23 (0, 0)) (by (with_reducible repeat (first | refine kn_ ?_ _ | refine kd_ ?_ | refine ka_ ?_ _)); exact BK265.out)) : gb265 ≠ gb266)); have n6_ := sd_ ((by rw [hg]; exact Nat.ne_of_gt (blk_lt (g := gb265) (o := .cells #[.int .i64 a0_0, .int .i64 a0_1] 23 (0, 0)) (by (with_reducible repeat (first | refine kn_ ?_ _ | refine kd_ ?_ | refine ka_ ?_ _)); exact BK265.out)) : gb266 ≠ gb265)); clear BK265; clear HB; have BK265 := n0_; have HB := n1_; have BK266 := n2_; have GW266 := n3_; have GE266 := n4_; have NB265_266 := n5_; have NB266_265 := n6_; clear n0_ n1_ n2_ n3_ n4_ n5_ n6_; clear hb hbox hg)); go_upto_region 1 with (first | ((with_reducible refine gate_dst (N := 2) rfl ?_); refine box_event ?hg (N := 2) ?hd (cs := #[.int .i64 a0_0, .int .i64 a0_1]) (t := 23) ?hr ?_; (case hd => rfl); (case hg => rfl); (case hr => first | (go_simp; done) | (go_simp; rfl)); intro gb265 hg w4 hbox hb; have n0_ := sd_ (bt_ (by repeat (first | (with_reducible first | exact HB.out | apply ba_ | apply pd_ | apply d1_) | exact HB.out)) hb); have n1_ := sd_ (hbox); have n2_ := sd_ ((by rw [hg]; exact (bz_ (by repeat (first | (with_reducible first | exact HB.out | apply ba_ | apply pd_ | apply d1_) | exact HB.out))) : w.heap.size ≤ gb265)); have n3_ := sd_ ((by rw [hg]; exact (bz_ (by repeat (first | (with_reducible first | exact HB.out | apply ba_ | apply pd_ | apply d1_) | exact HB.out))) : w.heap.size ≤ gb265)); clear HB; have HB := n0_; have BK265 := n1_; have GW265 := n2_; have GE265 := n3_; clear n0_ n1_ n2_ n3_; clear hb hbox hg) | ((with_reducible refine gate_dst (N := 3) rfl ?_); refine box_event ?hg (N := 3) ?hd (cs := #[.int .i64 a1_0, .int .i64 a1_1]) (t := 23) ?hr ?_; (case hd => rfl); (case hg => rfl); (case hr => first | (go_simp; done) | (go_simp; rfl)); intro gb266 hg w5 hbox hb; have n0_ := sd_ (blk_below (g := gb265) (o := .cells #[.int .i64 a0_0, .int .i64 a0_1] 23 (0, 0)) (by (with_reducible repeat (first | refine kn_ ?_ _ | refine kd_ ?_ | refine ka_ ?_ _)); exact BK265.out) hb); have n1_ := sd_ (bt_ (by repeat (first | (with_reducible first | exact HB.out | apply ba_ | apply pd_ | apply d1_ | refine bs_ ?_ GE265.out) | exact HB.out)) hb); have n2_ := sd_ (hbox); have n3_ := sd_ ((by rw [hg]; exact (bz_ (by repeat (first | (with_reducible first | exact HB.out | apply ba_ | apply pd_ | apply d1_ | refine bs_ ?_ GE265.out) | exact HB.out))) : w.heap.size ≤ gb266)); have n4_ := sd_ ((by rw [hg]; exact (bz_ (by repeat (first | (with_reducible first | exact HB.out | apply ba_ | apply pd_ | apply d1_ | refine bs_ ?_ GE265.out) | exact HB.out))) : w.heap.size ≤ gb266)); have n5_ := sd_ ((by rw [hg]; exact nn_ (blk_lt (g := gb265) (o := .cells #[.int .i64 a0_0, .int .i64 a0_1] 23 (0, 0)) (by (with_reducible repeat (first | refine kn_ ?_ _ | refine kd_ ?_ | refine ka_ ?_ _)); exact BK265.out)) : gb265 ≠ gb266)); have n6_ := sd_ ((by rw [hg]; exact Nat.ne_of_gt (blk_lt (g := gb265) (o := .cells #[.int .i64 a0_0, .int .i64 a0_1] 23 (0, 0)) (by (with_reducible repeat (first | refine kn_ ?_ _ | refine kd_ ?_ | refine ka_ ?_ _)); exact BK265.out)) : gb266 ≠ gb265)); clear BK265; clear HB; have BK265 := n0_; have HB := n1_; have BK266 := n2_; have GW266 := n3_; have GE266 := n4_; have NB265_266 := n5_; have NB266_265 := n6_; clear n0_ n1_ n2_ n3_ n4_ n5_ n6_; clear hb hbox hg)))
 (try simp only [Act.put, ls_, lz_, lc_])
 go_cut [14] (fun v14 wc => ∃ (kq : Nat) (x14_2 : Bool), v14 = .bool x14_2 ∧ Aside0 (neumeref02_Cmp.j0 kq x14_2 a0_0 a0_1 a1_0 a1_1 = some r) ∧ Aside0 (kq ≤ k) ∧ Aside0 (wc.heap[gb265]? = some (.cells #[.int .i64 a0_0, .int .i64 a0_1] 23 (0, 0))) ∧ Aside0 (wc.heap[gb266]? = some (.cells #[.int .i64 a1_0, .int .i64 a1_1] 23 (0, 0))) ∧ Aside0 (Below w.heap.size w wc))
 case first =>
  have H := HC3.out
  clear HC3
  replace H := ob_ H
  obtain ⟨t267, A60, H⟩ := H
  replace H : (if t267 = true then ((neumeref02_Check.f k a1_0 a1_1).bind fun t268 => (neumeref02_Cmp.j0 k (!t268) a0_0 a0_1 a1_0 a1_1)) else (neumeref02_Cmp.j0 k true a0_0 a0_1 a1_0 a1_1)) = some r := H
  have A6 := sd_ A60
  clear A60
  by_cases c7 : t267 = true
  ·subst c7
   have H1 : ((neumeref02_Check.f k a1_0 a1_1).bind fun t268 => (neumeref02_Cmp.j0 k (!t268) a0_0 a0_1 a1_0 a1_1)) = some r := by rw [if_pos rfl] at H; exact H
   clear H
   have H := H1
   clear H1
   replace H := ob_ H
   obtain ⟨t268, A80, H⟩ := H
   replace H : (neumeref02_Cmp.j0 k (!t268) a0_0 a0_1 a1_0 a1_1) = some r := H
   have A8 := sd_ A80
   clear A80
   have H' := sd_ H
   clear H
   have hnb9 := NB265_266.out
   have hnc9 := NB266_265.out
   have hcz10_0 : w5.cell? ⟨gb265, 0, none⟩ = some (.int .i64 a0_0) := (kc_ BK265.out 0).trans rfl
   have hcz10_1 : w5.cell? ⟨gb265, 1, none⟩ = some (.int .i64 a0_1) := (kc_ BK265.out 1).trans rfl
   have hfz10_0 := kf_ BK265.out 0
   have hfz10_1 := kf_ BK265.out 1
   go_wp2_with (first | (go_at_call 20; (with_reducible refine (neumeref02_Check.calls k a0_0 a0_1 true _ A6.out).mono ?_); rintro e w11 ⟨rfl, hb⟩; have n0_ := sd_ (blk_below (g := gb265) (o := .cells #[.int .i64 a0_0, .int .i64 a0_1] 23 (0, 0)) (by (with_reducible repeat (first | refine kn_ ?_ _ | refine kd_ ?_ | refine ka_ ?_ _)); exact BK265.out) hb); have n1_ := sd_ (blk_below (g := gb266) (o := .cells #[.int .i64 a1_0, .int .i64 a1_1] 23 (0, 0)) (by (with_reducible repeat (first | refine kn_ ?_ _ | refine kd_ ?_ | refine ka_ ?_ _)); exact BK266.out) hb); have n2_ := sd_ (bt_ (by repeat (first | (with_reducible first | exact HB.out | apply ba_ | apply pd_ | apply d1_ | refine bs_ ?_ GE265.out | refine bs_ ?_ GE266.out) | exact HB.out)) hb); clear BK265; clear BK266; clear HB; have BK265 := n0_; have BK266 := n1_; have HB := n2_; clear n0_ n1_ n2_; (try clear hb); (try clear hb2); (try clear hk); (try clear hi); have hcz12_0 : w11.cell? ⟨gb266, 0, none⟩ = some (.int .i64 a1_0) := (kc_ BK266.out 0).trans rfl; have hcz12_1 : w11.cell? ⟨gb266, 1, none⟩ = some (.int .i64 a1_1) := (kc_ BK266.out 1).trans rfl; have hfz12_0 := kf_ BK266.out 0; have hfz12_1 := kf_ BK266.out 1) | (go_at_call 20; (with_reducible refine (neumeref02_Check.calls k a1_0 a1_1 t268 _ A8.out).mono ?_); rintro e w13 ⟨rfl, hb⟩; have n0_ := sd_ (blk_below (g := gb265) (o := .cells #[.int .i64 a0_0, .int .i64 a0_1] 23 (0, 0)) (by (with_reducible repeat (first | refine kn_ ?_ _ | refine kd_ ?_ | refine ka_ ?_ _)); exact BK265.out) hb); have n1_ := sd_ (blk_below (g := gb266) (o := .cells #[.int .i64 a1_0, .int .i64 a1_1] 23 (0, 0)) (by (with_reducible repeat (first | refine kn_ ?_ _ | refine kd_ ?_ | refine ka_ ?_ _)); exact BK266.out) hb); have n2_ := sd_ (bt_ (by repeat (first | (with_reducible first | exact HB.out | apply ba_ | apply pd_ | apply d1_ | refine bs_ ?_ GE265.out | refine bs_ ?_ GE266.out) | exact HB.out)) hb); clear BK265; clear BK266; clear HB; have BK265 := n0_; have BK266 := n1_; have HB := n2_; clear n0_ n1_ n2_; (try clear hb); (try clear hb2); (try clear hk); (try clear hi)))
   repeat (go_quiet (first | (go_at_call 20; (with_reducible refine (neumeref02_Check.calls k a0_0 a0_1 true _ A6.out).mono ?_); rintro e w11 ⟨rfl, hb⟩; have n0_ := sd_ (blk_below (g := gb265) (o := .cells #[.int .i64 a0_0, .int .i64 a0_1] 23 (0, 0)) (by (with_reducible repeat (first | refine kn_ ?_ _ | refine kd_ ?_ | refine ka_ ?_ _)); exact BK265.out) hb); have n1_ := sd_ (blk_below (g := gb266) (o := .cells #[.int .i64 a1_0, .int .i64 a1_1] 23 (0, 0)) (by (with_reducible repeat (first | refine kn_ ?_ _ | refine kd_ ?_ | refine ka_ ?_ _)); exact BK266.out) hb); have n2_ := sd_ (bt_ (by repeat (first | (with_reducible first | exact HB.out | apply ba_ | apply pd_ | apply d1_ | refine bs_ ?_ GE265.out | refine bs_ ?_ GE266.out) | exact HB.out)) hb); clear BK265; clear BK266; clear HB; have BK265 := n0_; have BK266 := n1_; have HB := n2_; clear n0_ n1_ n2_; (try clear hb); (try clear hb2); (try clear hk); (try clear hi); have hcz12_0 : w11.cell? ⟨gb266, 0, none⟩ = some (.int .i64 a1_0) := (kc_ BK266.out 0).trans rfl; have hcz12_1 : w11.cell? ⟨gb266, 1, none⟩ = some (.int .i64 a1_1) := (kc_ BK266.out 1).trans rfl; have hfz12_0 := kf_ BK266.out 0; have hfz12_1 := kf_ BK266.out 1) | (go_at_call 20; (with_reducible refine (neumeref02_Check.calls k a1_0 a1_1 t268 _ A8.out).mono ?_); rintro e w13 ⟨rfl, hb⟩; have n0_ := sd_ (blk_below (g := gb265) (o := .cells #[.int .i64 a0_0, .int .i64 a0_1] 23 (0, 0)) (by (with_reducible repeat (first | refine kn_ ?_ _ | refine kd_ ?_ | refine ka_ ?_ _)); exact BK265.out) hb); have n1_ := sd_ (blk_below (g := gb266) (o := .cells #[.int .i64 a1_0, .int .i64 a1_1] 23 (0, 0)) (by (with_reducible repeat (first | refine kn_ ?_ _ | refine kd_ ?_ | refine ka_ ?_ _)); exact BK266.out) hb); have n2_ := sd_ (bt_ (by repeat (first | (with_reducible first | exact HB.out | apply ba_ | apply pd_ | apply d1_ | refine bs_ ?_ GE265.out | refine bs_ ?_ GE266.out) | exact HB.out)) hb); clear BK265; clear BK266; clear HB; have BK265 := n0_; have BK266 := n1_; have HB := n2_; clear n0_ n1_ n2_; (try clear hb); (try clear hb2); (try clear hk); (try clear hi))); try go_wp2_with (first | (go_at_call 20; (with_reducible refine (neumeref02_Check.calls k a0_0 a0_1 true _ A6.out).mono ?_); rintro e w11 ⟨rfl, hb⟩; have n0_ := sd_ (blk_below (g := gb265) (o := .cells #[.int .i64 a0_0, .int .i64 a0_1] 23 (0, 0)) (by (with_reducible repeat (first | refine kn_ ?_ _ | refine kd_ ?_ | refine ka_ ?_ _)); exact BK265.out) hb); have n1_ := sd_ (blk_below (g := gb266) (o := .cells #[.int .i64 a1_0, .int .i64 a1_1] 23 (0, 0)) (by (with_reducible repeat (first | refine kn_ ?_ _ | refine kd_ ?_ | refine ka_ ?_ _)); exact BK266.out) hb); have n2_ := sd_ (bt_ (by repeat (first | (with_reducible first | exact HB.out | apply ba_ | apply pd_ | apply d1_ | refine bs_ ?_ GE265.out | refine bs_ ?_ GE266.out) | exact HB.out)) hb); clear BK265; clear BK266; clear HB; have BK265 := n0_; have BK266 := n1_; have HB := n2_; clear n0_ n1_ n2_; (try clear hb); (try clear hb2); (try clear hk); (try clear hi); have hcz12_0 : w11.cell? ⟨gb266, 0, none⟩ = some (.int .i64 a1_0) := (kc_ BK266.out 0).trans rfl; have hcz12_1 : w11.cell? ⟨gb266, 1, none⟩ = some (.int .i64 a1_1) := (kc_ BK266.out 1).trans rfl; have hfz12_0 := kf_ BK266.out 0; have hfz12_1 := kf_ BK266.out 1) | (go_at_call 20; (with_reducible refine (neumeref02_Check.calls k a1_0 a1_1 t268 _ A8.out).mono ?_); rintro e w13 ⟨rfl, hb⟩; have n0_ := sd_ (blk_below (g := gb265) (o := .cells #[.int .i64 a0_0, .int .i64 a0_1] 23 (0, 0)) (by (with_reducible repeat (first | refine kn_ ?_ _ | refine kd_ ?_ | refine ka_ ?_ _)); exact BK265.out) hb); have n1_ := sd_ (blk_below (g := gb266) (o := .cells #[.int .i64 a1_0, .int .i64 a1_1] 23 (0, 0)) (by (with_reducible repeat (first | refine kn_ ?_ _ | refine kd_ ?_ | refine ka_ ?_ _)); exact BK266.out) hb); have n2_ := sd_ (bt_ (by repeat (first | (with_reducible first | exact HB.out | apply ba_ | apply pd_ | apply d1_ | refine bs_ ?_ GE265.out | refine bs_ ?_ GE266.out) | exact HB.out)) hb); clear BK265; clear BK266; clear HB; have BK265 := n0_; have BK266 := n1_; have HB := n2_; clear n0_ n1_ n2_; (try clear hb); (try clear hb2); (try clear hk); (try clear hi))))
   go_meet
   case rel => exact ⟨_, (!t268), (by first | rfl | (simp; done) | (simp [*]; done)), H', ⟨by first | omega | exact Nat.le_refl _⟩, ⟨by (with_reducible repeat (first | refine kn_ ?_ _ | refine kd_ ?_ | refine ka_ ?_ _)); exact BK265.out⟩, ⟨by (with_reducible repeat (first | refine kn_ ?_ _ | refine kd_ ?_ | refine ka_ ?_ _)); exact BK266.out⟩, ⟨by repeat (first | (with_reducible first | exact HB.out | apply ba_ | apply pd_ | apply d1_ | refine bs_ ?_ GE265.out | refine bs_ ?_ GE266.out) | exact HB.out)⟩⟩
  ·replace c7 := bf_ c7
   subst c7
   have H1 : (neumeref02_Cmp.j0 k true a0_0 a0_1 a1_0 a1_1) = some r := by rw [if_neg (show ¬ (false = true) by decide)] at H; exact H
   clear H
   have H := H1
   clear H1
   have H' := sd_ H
   clear H
   have hnb14 := NB265_266.out
   have hnc14 := NB266_265.out
   have hcz15_0 : w5.cell? ⟨gb265, 0, none⟩ = some (.int .i64 a0_0) := (kc_ BK265.out 0).trans rfl
   have hcz15_1 : w5.cell? ⟨gb265, 1, none⟩ = some (.int .i64 a0_1) := (kc_ BK265.out 1).trans rfl
   have hfz15_0 := kf_ BK265.out 0
   have hfz15_1 := kf_ BK265.out 1
   go_wp2_with (first | (go_at_call 20; (with_reducible refine (neumeref02_Check.calls k a0_0 a0_1 false _ A6.out).mono ?_); rintro e w16 ⟨rfl, hb⟩; have n0_ := sd_ (blk_below (g := gb265) (o := .cells #[.int .i64 a0_0, .int .i64 a0_1] 23 (0, 0)) (by (with_reducible repeat (first | refine kn_ ?_ _ | refine kd_ ?_ | refine ka_ ?_ _)); exact BK265.out) hb); have n1_ := sd_ (blk_below (g := gb266) (o := .cells #[.int .i64 a1_0, .int .i64 a1_1] 23 (0, 0)) (by (with_reducible repeat (first | refine kn_ ?_ _ | refine kd_ ?_ | refine ka_ ?_ _)); exact BK266.out) hb); have n2_ := sd_ (bt_ (by repeat (first | (with_reducible first | exact HB.out | apply ba_ | apply pd_ | apply d1_ | refine bs_ ?_ GE265.out | refine bs_ ?_ GE266.out) | exact HB.out)) hb); clear BK265; clear BK266; clear HB; have BK265 := n0_; have BK266 := n1_; have HB := n2_; clear n0_ n1_ n2_; (try clear hb); (try clear hb2); (try clear hk); (try clear hi)))
   repeat (go_quiet (first | (go_at_call 20; (with_reducible refine (neumeref02_Check.calls k a0_0 a0_1 false _ A6.out).mono ?_); rintro e w16 ⟨rfl, hb⟩; have n0_ := sd_ (blk_below (g := gb265) (o := .cells #[.int .i64 a0_0, .int .i64 a0_1] 23 (0, 0)) (by (with_reducible repeat (first | refine kn_ ?_ _ | refine kd_ ?_ | refine ka_ ?_ _)); exact BK265.out) hb); have n1_ := sd_ (blk_below (g := gb266) (o := .cells #[.int .i64 a1_0, .int .i64 a1_1] 23 (0, 0)) (by (with_reducible repeat (first | refine kn_ ?_ _ | refine kd_ ?_ | refine ka_ ?_ _)); exact BK266.out) hb); have n2_ := sd_ (bt_ (by repeat (first | (with_reducible first | exact HB.out | apply ba_ | apply pd_ | apply d1_ | refine bs_ ?_ GE265.out | refine bs_ ?_ GE266.out) | exact HB.out)) hb); clear BK265; clear BK266; clear HB; have BK265 := n0_; have BK266 := n1_; have HB := n2_; clear n0_ n1_ n2_; (try clear hb); (try clear hb2); (try clear hk); (try clear hi))); try go_wp2_with (first | (go_at_call 20; (with_reducible refine (neumeref02_Check.calls k a0_0 a0_1 false _ A6.out).mono ?_); rintro e w16 ⟨rfl, hb⟩; have n0_ := sd_ (blk_below (g := gb265) (o := .cells #[.int .i64 a0_0, .int .i64 a0_1] 23 (0, 0)) (by (with_reducible repeat (first | refine kn_ ?_ _ | refine kd_ ?_ | refine ka_ ?_ _)); exact BK265.out) hb); have n1_ := sd_ (blk_below (g := gb266) (o := .cells #[.int .i64 a1_0, .int .i64 a1_1] 23 (0, 0)) (by (with_reducible repeat (first | refine kn_ ?_ _ | refine kd_ ?_ | refine ka_ ?_ _)); exact BK266.out) hb); have n2_ := sd_ (bt_ (by repeat (first | (with_reducible first | exact HB.out | apply ba_ | apply pd_ | apply d1_ | refine bs_ ?_ GE265.out | refine bs_ ?_ GE266.out) | exact HB.out)) hb); clear BK265; clear BK266; clear HB; have BK265 := n0_; have BK266 := n1_; have HB := n2_; clear n0_ n1_ n2_; (try clear hb); (try clear hb2); (try clear hk); (try clear hi))))
   go_meet
   case rel => exact ⟨_, (true), (by first | rfl | (simp; done) | (simp [*]; done)), H', ⟨by first | omega | exact Nat.le_refl _⟩, ⟨by (with_reducible repeat (first | refine kn_ ?_ _ | refine kd_ ?_ | refine ka_ ?_ _)); exact BK265.out⟩, ⟨by (with_reducible repeat (first | refine kn_ ?_ _ | refine kd_ ?_ | refine ka_ ?_ _)); exact BK266.out⟩, ⟨by repeat (first | (with_reducible first | exact HB.out | apply ba_ | apply pd_ | apply d1_ | refine bs_ ?_ GE265.out | refine bs_ ?_ GE266.out) | exact HB.out)⟩⟩
 case rest =>
  clear HC3
  try clear c1
  try clear p2
  try clear c7
  try clear c9
  try clear c14
  try clear c16
  try clear hcz10_0
  try clear hcz10_1
  try clear hcz12_0
  try clear hcz12_1
  try clear hcz15_0
  try clear hcz15_1
  try clear hfz10_0
  try clear hfz10_1
  try clear hfz12_0
  try clear hfz12_1
  try clear hfz15_0
  try clear hfz15_1
  obtain ⟨kq, x14_2, rfl, HA, HJ2, BK265, BK266, HB⟩ := hcut
  cases kq with
  | zero => exact absurd HA.out (by simp [neumeref02_Cmp.j0])
  | succ kj2 =>
   have H := HA.out
   clear HA
   simp only [neumeref02_Cmp.j0] at H
   by_cases c17 : x14_2 = true
   ·subst c17
    have H1 : (some 0) = some r := by rw [if_pos rfl] at H; exact H
    clear H
    have H := H1
    clear H1
    obtain rfl := Option.some.inj H
    go_wp2
    repeat (go_quiet (fail); try go_wp2)
    go_ret
    exact ⟨by first | rfl | (simp [errW_none, errW_some] <;> rfl) | (simp [*, errW_none, errW_some] <;> rfl), by repeat (first | (with_reducible first | exact HB.out | apply ba_ | apply pd_ | apply d1_ | refine bs_ ?_ GE265.out | refine bs_ ?_ GE266.out) | exact HB.out)⟩
   ·replace c17 := bf_ c17
    subst c17
    have H1 : (if (wrap64 (a0_0 * a1_1)) < (wrap64 (a1_0 * a0_1)) then (some (-1)) else (if (wrap64 (a0_0 * a1_1)) > (wrap64 (a1_0 * a0_1)) then (some 1) else (some 0))) = some r := by rw [if_neg (show ¬ (false = true) by decide)] at H; exact H
    clear H
    have H := H1
    clear H1
    by_cases c18 : (wrap64 (a0_0 * a1_1)) < (wrap64 (a1_0 * a0_1))
    ·rw [if_pos c18] at H
     have c18b0 : decide ((wrap64 (a0_0 * a1_1)) < (wrap64 (a1_0 * a0_1))) = true := dt_ c18
     clear c18
     obtain rfl := Option.some.inj H
     have hnb19 := NB265_266.out
     have hnc19 := NB266_265.out
     have hcz20_0 : wc.cell? ⟨gb265, 0, none⟩ = some (.int .i64 a0_0) := (kc_ BK265.out 0).trans rfl
     have hcz20_1 : wc.cell? ⟨gb265, 1, none⟩ = some (.int .i64 a0_1) := (kc_ BK265.out 1).trans rfl
     have hfz20_0 := kf_ BK265.out 0
     have hfz20_1 := kf_ BK265.out 1
     have hcz21_0 : wc.cell? ⟨gb266, 0, none⟩ = some (.int .i64 a1_0) := (kc_ BK266.out 0).trans rfl
     have hcz21_1 : wc.cell? ⟨gb266, 1, none⟩ = some (.int .i64 a1_1) := (kc_ BK266.out 1).trans rfl
     have hfz21_0 := kf_ BK266.out 0
     have hfz21_1 := kf_ BK266.out 1
     go_wp2
     repeat (go_quiet (fail); try go_wp2)
     go_ret
     exact ⟨by first | rfl | (simp [errW_none, errW_some] <;> rfl) | (simp [*, errW_none, errW_some] <;> rfl), by repeat (first | (with_reducible first | exact HB.out | apply ba_ | apply pd_ | apply d1_ | refine bs_ ?_ GE265.out | refine bs_ ?_ GE266.out) | exact HB.out)⟩
    ·rw [if_neg c18] at H
     have c18b0 : decide ((wrap64 (a0_0 * a1_1)) < (wrap64 (a1_0 * a0_1))) = false := df_ c18
     clear c18
     by_cases c22 : (wrap64 (a0_0 * a1_1)) > (wrap64 (a1_0 * a0_1))
     ·rw [if_pos c22] at H
      have c22b0 : decide ((wrap64 (a1_0 * a0_1)) < (wrap64 (a0_0 * a1_1))) = true := dt_ c22
      clear c22
      obtain rfl := Option.some.inj H
      have hnb23 := NB265_266.out
      have hnc23 := NB266_265.out
      have hcz24_0 : wc.cell? ⟨gb265, 0, none⟩ = some (.int .i64 a0_0) := (kc_ BK265.out 0).trans rfl
      have hcz24_1 : wc.cell? ⟨gb265, 1, none⟩ = some (.int .i64 a0_1) := (kc_ BK265.out 1).trans rfl
      have hfz24_0 := kf_ BK265.out 0
      have hfz24_1 := kf_ BK265.out 1
      have hcz25_0 : wc.cell? ⟨gb266, 0, none⟩ = some (.int .i64 a1_0) := (kc_ BK266.out 0).trans rfl
      have hcz25_1 : wc.cell? ⟨gb266, 1, none⟩ = some (.int .i64 a1_1) := (kc_ BK266.out 1).trans rfl
      have hfz25_0 := kf_ BK266.out 0
      have hfz25_1 := kf_ BK266.out 1
      go_wp2
      repeat (go_quiet (fail); try go_wp2)
      go_ret
      exact ⟨by first | rfl | (simp [errW_none, errW_some] <;> rfl) | (simp [*, errW_none, errW_some] <;> rfl), by repeat (first | (with_reducible first | exact HB.out | apply ba_ | apply pd_ | apply d1_ | refine bs_ ?_ GE265.out | refine bs_ ?_ GE266.out) | exact HB.out)⟩
     ·rw [if_neg c22] at H
      have c22b0 : decide ((wrap64 (a1_0 * a0_1)) < (wrap64 (a0_0 * a1_1))) = false := df_ c22
      clear c22
      obtain rfl := Option.some.inj H
      have hnb26 := NB265_266.out
      have hnc26 := NB266_265.out
      have hcz27_0 : wc.cell? ⟨gb265, 0, none⟩ = some (.int .i64 a0_0) := (kc_ BK265.out 0).trans rfl
      have hcz27_1 : wc.cell? ⟨gb265, 1, none⟩ = some (.int .i64 a0_1) := (kc_ BK265.out 1).trans rfl
      have hfz27_0 := kf_ BK265.out 0
      have hfz27_1 := kf_ BK265.out 1
      have hcz28_0 : wc.cell? ⟨gb266, 0, none⟩ = some (.int .i64 a1_0) := (kc_ BK266.out 0).trans rfl
      have hcz28_1 : wc.cell? ⟨gb266, 1, none⟩ = some (.int .i64 a1_1) := (kc_ BK266.out 1).trans rfl
      have hfz28_0 := kf_ BK266.out 0
      have hfz28_1 := kf_ BK266.out 1
      go_wp2
      repeat (go_quiet (fail); try go_wp2)
      go_ret
      exact ⟨by first | rfl | (simp [errW_none, errW_some] <;> rfl) | (simp [*, errW_none, errW_some] <;> rfl), by repeat (first | (with_reducible first | exact HB.out | apply ba_ | apply pd_ | apply d1_ | refine bs_ ?_ GE265.out | refine bs_ ?_ GE266.out) | exact HB.out)⟩

/-! ### neumelaw28_SpringRises: function 4 -/
mutual
def neumelaw28_SpringRises.j0 : Nat → Int → Int → Bool → Int → Int → Int → Int → Option (Bool)
 | 0, _, _, _, _, _, _, _ => none
 | k + 1, x5, x7, x28, x270000, x270001, x271000, x271001 => if x28 = true then ((neumelaw28_heads.f k).bind fun t275 => (some t275)) else ((neumeref02_Cmp.f k x270000 x270001 x271000 x271001).bind fun t276 => (if t276 ≤ 0 then (if x5 > x7 then (neumelaw28_SpringRises.j1 k x5 true x270000 x270001) else (if x5 < 600 then (neumelaw28_SpringRises.j1 k x5 true x270000 x270001) else (neumelaw28_SpringRises.j1 k x5 (decide (x5 > 1048576)) x270000 x270001))) else (if x5 < 600 then (neumelaw28_SpringRises.j1 k x5 true x270000 x270001) else (neumelaw28_SpringRises.j1 k x5 (decide (x5 > 1048576)) x270000 x270001))))
def neumelaw28_SpringRises.j1 : Nat → Int → Bool → Int → Int → Option (Bool)
 | 0, _, _, _, _ => none
 | k + 1, x5, x46, x270000, x270001 => if x46 = true then (some false) else ((neumeref02_Add.f k x270000 x270001 x270000 x270001).bind fun bt277 => ((spring_Ideal.f k bt277.1 bt277.2.1).bind fun bt281 => (if bt277.2.2 = 0 then (if bt281.2 = 0 then (if x5 = 600 then (if bt281.1 ≥ x5 then (if bt281.1 ≤ 1828 then ((neumelaw28_heads.f k).bind fun t283 => (some t283)) else (if bt281.1 = (wrap64 (x5 + 1228)) then ((neumelaw28_heads.f k).bind fun t284 => (some t284)) else (some false))) else (if bt281.1 = (wrap64 (x5 + 1228)) then ((neumelaw28_heads.f k).bind fun t285 => (some t285)) else (some false))) else (if bt281.1 = (wrap64 (x5 + 1228)) then ((neumelaw28_heads.f k).bind fun t286 => (some t286)) else (some false))) else (some false)) else ((neumelaw28_heads.f k).bind fun t287 => (some t287)))))
end
def neumelaw28_SpringRises.f (k : Nat) (a0_0 : Int) (a0_1 : Int) (a1_0 : Int) (a1_1 : Int) : Option (Bool) := (spring_Ideal.f k a0_0 a0_1).bind fun bt271 => ((spring_Ideal.f k a1_0 a1_1).bind fun bt273 => (if bt271.2 = 0 then (neumelaw28_SpringRises.j0 k bt271.1 bt273.1 (bt273.2 != 0) a0_0 a0_1 a1_0 a1_1) else (neumelaw28_SpringRises.j0 k bt271.1 bt273.1 true a0_0 a0_1 a1_0 a1_1)))
theorem neumelaw28_SpringRises.mono_l : ∀ k, (∀ y0 y1 y2 y3 y4 y5 y6, LeO (neumelaw28_SpringRises.j0 k y0 y1 y2 y3 y4 y5 y6) (neumelaw28_SpringRises.j0 (k + 1) y0 y1 y2 y3 y4 y5 y6)) ∧ (∀ y0 y1 y2 y3, LeO (neumelaw28_SpringRises.j1 k y0 y1 y2 y3) (neumelaw28_SpringRises.j1 (k + 1) y0 y1 y2 y3))
 | 0 => ⟨fun _ _ _ _ _ _ _ r h => by simp [neumelaw28_SpringRises.j0] at h, fun _ _ _ _ r h => by simp [neumelaw28_SpringRises.j1] at h⟩
 | k + 1 => by
  obtain ⟨ih0, ih1⟩ := neumelaw28_SpringRises.mono_l k
  refine ⟨?_, ?_⟩
  ·intro y0 y1 y2 y3 y4 y5 y6
   unfold neumelaw28_SpringRises.j0
   repeat' first
   | (with_reducible exact ih0 _ _ _ _ _ _ _)
   | (with_reducible exact ih1 _ _ _ _)
   | (with_reducible exact neumelaw28_heads.mono _)
   | (with_reducible exact neumeref02_Add.mono _ _ _ _ _)
   | (with_reducible exact neumeref02_Cmp.mono _ _ _ _ _)
   | (with_reducible exact spring_Ideal.mono _ _ _)
   | (with_reducible exact LeO.refl _)
   | (with_reducible exact LeO.none _)
   | (with_reducible refine LeO.ite ?_ ?_)
   | (with_reducible refine LeO.bind ?_ (fun _ => ?_))
   | exact ih0 _ _ _ _ _ _ _
   | exact ih1 _ _ _ _
   | exact neumelaw28_heads.mono _
   | exact neumeref02_Add.mono _ _ _ _ _
   | exact neumeref02_Cmp.mono _ _ _ _ _
   | exact spring_Ideal.mono _ _ _
   | exact LeO.none _
   | refine LeO.ite ?_ ?_
   | refine LeO.bind ?_ (fun _ => ?_)
  ·intro y0 y1 y2 y3
   unfold neumelaw28_SpringRises.j1
   repeat' first
   | (with_reducible exact ih0 _ _ _ _ _ _ _)
   | (with_reducible exact ih1 _ _ _ _)
   | (with_reducible exact neumelaw28_heads.mono _)
   | (with_reducible exact neumeref02_Add.mono _ _ _ _ _)
   | (with_reducible exact neumeref02_Cmp.mono _ _ _ _ _)
   | (with_reducible exact spring_Ideal.mono _ _ _)
   | (with_reducible exact LeO.refl _)
   | (with_reducible exact LeO.none _)
   | (with_reducible refine LeO.ite ?_ ?_)
   | (with_reducible refine LeO.bind ?_ (fun _ => ?_))
   | exact ih0 _ _ _ _ _ _ _
   | exact ih1 _ _ _ _
   | exact neumelaw28_heads.mono _
   | exact neumeref02_Add.mono _ _ _ _ _
   | exact neumeref02_Cmp.mono _ _ _ _ _
   | exact spring_Ideal.mono _ _ _
   | exact LeO.none _
   | refine LeO.ite ?_ ?_
   | refine LeO.bind ?_ (fun _ => ?_)
theorem neumelaw28_SpringRises.mono : ∀ a0 a1 a2 a3 k, LeO (neumelaw28_SpringRises.f k a0 a1 a2 a3) (neumelaw28_SpringRises.f (k + 1) a0 a1 a2 a3) := by
 intro a0 a1 a2 a3 k
 obtain ⟨ih0, ih1⟩ := neumelaw28_SpringRises.mono_l k
 unfold neumelaw28_SpringRises.f
 repeat' first
   | (with_reducible exact ih0 _ _ _ _ _ _ _)
   | (with_reducible exact ih1 _ _ _ _)
   | (with_reducible exact neumelaw28_heads.mono _)
   | (with_reducible exact neumeref02_Add.mono _ _ _ _ _)
   | (with_reducible exact neumeref02_Cmp.mono _ _ _ _ _)
   | (with_reducible exact spring_Ideal.mono _ _ _)
   | (with_reducible exact LeO.refl _)
   | (with_reducible exact LeO.none _)
   | (with_reducible refine LeO.ite ?_ ?_)
   | (with_reducible refine LeO.bind ?_ (fun _ => ?_))
   | exact ih0 _ _ _ _ _ _ _
   | exact ih1 _ _ _ _
   | exact neumelaw28_heads.mono _
   | exact neumeref02_Add.mono _ _ _ _ _
   | exact neumeref02_Cmp.mono _ _ _ _ _
   | exact spring_Ideal.mono _ _ _
   | exact LeO.none _
   | refine LeO.ite ?_ ?_
   | refine LeO.bind ?_ (fun _ => ?_)
set_option maxHeartbeats 8000000 in
set_option maxRecDepth 100000 in
theorem neumelaw28_SpringRises.calls (k : Nat) (a0_0 : Int) (a0_1 : Int) (a1_0 : Int) (a1_1 : Int) (r : Bool) (w : World) (h : neumelaw28_SpringRises.f k a0_0 a0_1 a1_0 a1_1 = some r) :
  Calls Try.prog 4 #[.agg #[.int .i64 a0_0, .int .i64 a0_1], .agg #[.int .i64 a1_0, .int .i64 a1_1]] w fun e w' => e = .returned (.bool r) ∧ Below w.heap.size w w' := by
 have hu23 := Try.underlying23
 have HB := sd_ (Below.refl w.heap.size w)
 have H : ((spring_Ideal.f k a0_0 a0_1).bind fun bt271 => ((spring_Ideal.f k a1_0 a1_1).bind fun bt273 => (if bt271.2 = 0 then (neumelaw28_SpringRises.j0 k bt271.1 bt273.1 (bt273.2 != 0) a0_0 a0_1 a1_0 a1_1) else (neumelaw28_SpringRises.j0 k bt271.1 bt273.1 true a0_0 a0_1 a1_0 a1_1)))) = some r := h
 clear h
 replace H := ob_ H
 obtain ⟨⟨t271, t272⟩, A30, H⟩ := H
 replace H : ((spring_Ideal.f k a1_0 a1_1).bind fun bt273 => (if t272 = 0 then (neumelaw28_SpringRises.j0 k t271 bt273.1 (bt273.2 != 0) a0_0 a0_1 a1_0 a1_1) else (neumelaw28_SpringRises.j0 k t271 bt273.1 true a0_0 a0_1 a1_0 a1_1))) = some r := H
 have A3 := sd_ A30
 clear A30
 replace H := ob_ H
 obtain ⟨⟨t273, t274⟩, A40, H⟩ := H
 replace H : (if t272 = 0 then (neumelaw28_SpringRises.j0 k t271 t273 (t274 != 0) a0_0 a0_1 a1_0 a1_1) else (neumelaw28_SpringRises.j0 k t271 t273 true a0_0 a0_1 a1_0 a1_1)) = some r := H
 have A4 := sd_ A40
 clear A40
 have HC5 := sd_ H
 clear H
 go_enter Try.func4, Try.ntmps4
 go_upto_region 3 with (first | ((with_reducible refine gate_dst (N := 2) rfl ?_); refine box_event ?hg (N := 2) ?hd (cs := #[.int .i64 a0_0, .int .i64 a0_1]) (t := 23) ?hr ?_; (case hd => rfl); (case hg => rfl); (case hr => first | (go_simp; done) | (go_simp; rfl)); intro gb269 hg w6 hbox hb; have n0_ := sd_ (bt_ (by repeat (first | (with_reducible first | exact HB.out | apply ba_ | apply pd_ | apply d1_) | exact HB.out)) hb); have n1_ := sd_ (hbox); have n2_ := sd_ ((by rw [hg]; exact (bz_ (by repeat (first | (with_reducible first | exact HB.out | apply ba_ | apply pd_ | apply d1_) | exact HB.out))) : w.heap.size ≤ gb269)); have n3_ := sd_ ((by rw [hg]; exact (bz_ (by repeat (first | (with_reducible first | exact HB.out | apply ba_ | apply pd_ | apply d1_) | exact HB.out))) : w.heap.size ≤ gb269)); clear HB; have HB := n0_; have BK269 := n1_; have GW269 := n2_; have GE269 := n3_; clear n0_ n1_ n2_ n3_; clear hb hbox hg) | ((with_reducible refine gate_dst (N := 3) rfl ?_); refine box_event ?hg (N := 3) ?hd (cs := #[.int .i64 a1_0, .int .i64 a1_1]) (t := 23) ?hr ?_; (case hd => rfl); (case hg => rfl); (case hr => first | (go_simp; done) | (go_simp; rfl)); intro gb270 hg w7 hbox hb; have n0_ := sd_ (blk_below (g := gb269) (o := .cells #[.int .i64 a0_0, .int .i64 a0_1] 23 (0, 0)) (by (with_reducible repeat (first | refine kn_ ?_ _ | refine kd_ ?_ | refine ka_ ?_ _)); exact BK269.out) hb); have n1_ := sd_ (bt_ (by repeat (first | (with_reducible first | exact HB.out | apply ba_ | apply pd_ | apply d1_ | refine bs_ ?_ GE269.out) | exact HB.out)) hb); have n2_ := sd_ (hbox); have n3_ := sd_ ((by rw [hg]; exact (bz_ (by repeat (first | (with_reducible first | exact HB.out | apply ba_ | apply pd_ | apply d1_ | refine bs_ ?_ GE269.out) | exact HB.out))) : w.heap.size ≤ gb270)); have n4_ := sd_ ((by rw [hg]; exact (bz_ (by repeat (first | (with_reducible first | exact HB.out | apply ba_ | apply pd_ | apply d1_ | refine bs_ ?_ GE269.out) | exact HB.out))) : w.heap.size ≤ gb270)); have n5_ := sd_ ((by rw [hg]; exact nn_ (blk_lt (g := gb269) (o := .cells #[.int .i64 a0_0, .int .i64 a0_1] 23 (0, 0)) (by (with_reducible repeat (first | refine kn_ ?_ _ | refine kd_ ?_ | refine ka_ ?_ _)); exact BK269.out)) : gb269 ≠ gb270)); have n6_ := sd_ ((by rw [hg]; exact Nat.ne_of_gt (blk_lt (g := gb269) (o := .cells #[.int .i64 a0_0, .int .i64 a0_1] 23 (0, 0)) (by (with_reducible repeat (first | refine kn_ ?_ _ | refine kd_ ?_ | refine ka_ ?_ _)); exact BK269.out)) : gb270 ≠ gb269)); clear BK269; clear HB; have BK269 := n0_; have HB := n1_; have BK270 := n2_; have GW270 := n3_; have GE270 := n4_; have NB269_270 := n5_; have NB270_269 := n6_; clear n0_ n1_ n2_ n3_ n4_ n5_ n6_; clear hb hbox hg; have hnb8 := NB269_270.out; have hnc8 := NB270_269.out; have hcz9_0 : w7.cell? ⟨gb269, 0, none⟩ = some (.int .i64 a0_0) := (kc_ BK269.out 0).trans rfl; have hcz9_1 : w7.cell? ⟨gb269, 1, none⟩ = some (.int .i64 a0_1) := (kc_ BK269.out 1).trans rfl; have hfz9_0 := kf_ BK269.out 0; have hfz9_1 := kf_ BK269.out 1) | ((with_reducible refine gate_callee (f := 7) rfl ?_); refine goesL_ (some 15) rfl rfl Try.func7 (by kernel_rfl) rfl #[.agg #[.int .i64 a0_0, .int .i64 a0_1]] rfl (by (try simp only [List.map_toArray, List.map_cons, List.map_nil]); first | done | rfl | (simp only [List.length_drop, List.length_take]; rfl)) ?_; (with_reducible refine (spring_Ideal.calls k a0_0 a0_1 t271 t272 _ A3.out).mono ?_); rintro e w10 ⟨rfl, hb⟩; refine ⟨_, rfl, ?_⟩; have n0_ := sd_ (blk_below (g := gb269) (o := .cells #[.int .i64 a0_0, .int .i64 a0_1] 23 (0, 0)) (by (with_reducible repeat (first | refine kn_ ?_ _ | refine kd_ ?_ | refine ka_ ?_ _)); exact BK269.out) hb); have n1_ := sd_ (blk_below (g := gb270) (o := .cells #[.int .i64 a1_0, .int .i64 a1_1] 23 (0, 0)) (by (with_reducible repeat (first | refine kn_ ?_ _ | refine kd_ ?_ | refine ka_ ?_ _)); exact BK270.out) hb); have n2_ := sd_ (bt_ (by repeat (first | (with_reducible first | exact HB.out | apply ba_ | apply pd_ | apply d1_ | refine bs_ ?_ GE269.out | refine bs_ ?_ GE270.out) | exact HB.out)) hb); clear BK269; clear BK270; clear HB; have BK269 := n0_; have BK270 := n1_; have HB := n2_; clear n0_ n1_ n2_; (try clear hb); (try clear hb2); (try clear hk); (try clear hi); have hcz11_0 : w10.cell? ⟨gb270, 0, none⟩ = some (.int .i64 a1_0) := (kc_ BK270.out 0).trans rfl; have hcz11_1 : w10.cell? ⟨gb270, 1, none⟩ = some (.int .i64 a1_1) := (kc_ BK270.out 1).trans rfl; have hfz11_0 := kf_ BK270.out 0; have hfz11_1 := kf_ BK270.out 1) | ((with_reducible refine gate_callee (f := 7) rfl ?_); refine goesL_ (some 20) rfl rfl Try.func7 (by kernel_rfl) rfl #[.agg #[.int .i64 a1_0, .int .i64 a1_1]] rfl (by (try simp only [List.map_toArray, List.map_cons, List.map_nil]); first | done | rfl | (simp only [List.length_drop, List.length_take]; rfl)) ?_; (with_reducible refine (spring_Ideal.calls k a1_0 a1_1 t273 t274 _ A4.out).mono ?_); rintro e w12 ⟨rfl, hb⟩; refine ⟨_, rfl, ?_⟩; have n0_ := sd_ (blk_below (g := gb269) (o := .cells #[.int .i64 a0_0, .int .i64 a0_1] 23 (0, 0)) (by (with_reducible repeat (first | refine kn_ ?_ _ | refine kd_ ?_ | refine ka_ ?_ _)); exact BK269.out) hb); have n1_ := sd_ (blk_below (g := gb270) (o := .cells #[.int .i64 a1_0, .int .i64 a1_1] 23 (0, 0)) (by (with_reducible repeat (first | refine kn_ ?_ _ | refine kd_ ?_ | refine ka_ ?_ _)); exact BK270.out) hb); have n2_ := sd_ (bt_ (by repeat (first | (with_reducible first | exact HB.out | apply ba_ | apply pd_ | apply d1_ | refine bs_ ?_ GE269.out | refine bs_ ?_ GE270.out) | exact HB.out)) hb); clear BK269; clear BK270; clear HB; have BK269 := n0_; have BK270 := n1_; have HB := n2_; clear n0_ n1_ n2_; (try clear hb); (try clear hb2); (try clear hk); (try clear hi)))
 (try simp only [Act.put, ls_, lz_, lc_])
 go_cut [28] (fun v28 wc => ∃ (kq : Nat) (x28_4 : Bool), v28 = .bool x28_4 ∧ Aside0 (neumelaw28_SpringRises.j0 kq t271 t273 x28_4 a0_0 a0_1 a1_0 a1_1 = some r) ∧ Aside0 (kq ≤ k) ∧ Aside0 (wc.heap[gb269]? = some (.cells #[.int .i64 a0_0, .int .i64 a0_1] 23 (0, 0))) ∧ Aside0 (wc.heap[gb270]? = some (.cells #[.int .i64 a1_0, .int .i64 a1_1] 23 (0, 0))) ∧ Aside0 (Below w.heap.size w wc))
 case first =>
  have H := HC5.out
  clear HC5
  by_cases c13 : t272 = 0
  ·rw [if_pos c13] at H
   have c13b0 : (t272 == 0) = true := beq_iff_eq.mpr c13
   have c13b1 : (t272 != 0) = false := bne_eq_false_iff_eq.mpr c13
   clear c13
   (first | rw [c13b0] | (simp only [i64_w, i32_w]; rw [c13b0]) | skip)
   have H' := sd_ H
   clear H
   go_wp2
   go_meet
   case rel => exact ⟨_, ((t274 != 0)), (by first | rfl | (simp; done) | (simp [*]; done)), H', ⟨by first | omega | exact Nat.le_refl _⟩, ⟨by (with_reducible repeat (first | refine kn_ ?_ _ | refine kd_ ?_ | refine ka_ ?_ _)); exact BK269.out⟩, ⟨by (with_reducible repeat (first | refine kn_ ?_ _ | refine kd_ ?_ | refine ka_ ?_ _)); exact BK270.out⟩, ⟨by repeat (first | (with_reducible first | exact HB.out | apply ba_ | apply pd_ | apply d1_ | refine bs_ ?_ GE269.out | refine bs_ ?_ GE270.out) | exact HB.out)⟩⟩
  ·rw [if_neg c13] at H
   have c13b0 : (t272 == 0) = false := beq_eq_false_iff_ne.mpr c13
   have c13b1 : (t272 != 0) = true := bne_iff_ne.mpr c13
   (first | rw [c13b0] | (simp only [i64_w, i32_w]; rw [c13b0]) | skip)
   have H' := sd_ H
   clear H
   go_wp2
   go_meet
   case rel => exact ⟨_, (true), (by first | rfl | (simp; done) | (simp [*]; done)), H', ⟨by first | omega | exact Nat.le_refl _⟩, ⟨by (with_reducible repeat (first | refine kn_ ?_ _ | refine kd_ ?_ | refine ka_ ?_ _)); exact BK269.out⟩, ⟨by (with_reducible repeat (first | refine kn_ ?_ _ | refine kd_ ?_ | refine ka_ ?_ _)); exact BK270.out⟩, ⟨by repeat (first | (with_reducible first | exact HB.out | apply ba_ | apply pd_ | apply d1_ | refine bs_ ?_ GE269.out | refine bs_ ?_ GE270.out) | exact HB.out)⟩⟩
 case rest =>
  clear HC5
  try clear c1
  try clear p2
  try clear c4
  try clear c7
  try clear c8
  try clear c13
  try clear c13b0
  try clear c13b1
  try clear hcz11_0
  try clear hcz11_1
  try clear hcz9_0
  try clear hcz9_1
  try clear hfz11_0
  try clear hfz11_1
  try clear hfz9_0
  try clear hfz9_1
  obtain ⟨kq, x28_4, rfl, HA, HJ4, BK269, BK270, HB⟩ := hcut
  cases kq with
  | zero => exact absurd HA.out (by simp [neumelaw28_SpringRises.j0])
  | succ kj4 =>
   have H := HA.out
   clear HA
   simp only [neumelaw28_SpringRises.j0] at H
   by_cases c14 : x28_4 = true
   ·subst c14
    have H1 : ((neumelaw28_heads.f kj4).bind fun t275 => (some t275)) = some r := by rw [if_pos rfl] at H; exact H
    clear H
    have H := H1
    clear H1
    replace H := ob_ H
    obtain ⟨t275, A150, H⟩ := H
    replace H : (some t275) = some r := H
    have A15 := sd_ A150
    clear A150
    obtain rfl := Option.some.inj H
    go_wp2_with (first | ((with_reducible refine gate_callee (f := 6) rfl ?_); refine goesL_ (some 29) rfl rfl Try.func6 (by kernel_rfl) rfl #[] rfl (by (try simp only [List.map_toArray, List.map_cons, List.map_nil]); first | done | rfl | (simp only [List.length_drop, List.length_take]; rfl)) ?_; (with_reducible refine (neumelaw28_heads.calls kj4  t275 _ A15.out).mono ?_); rintro e w16 ⟨rfl, hb⟩; refine ⟨_, rfl, ?_⟩; have n0_ := sd_ (blk_below (g := gb269) (o := .cells #[.int .i64 a0_0, .int .i64 a0_1] 23 (0, 0)) (by (with_reducible repeat (first | refine kn_ ?_ _ | refine kd_ ?_ | refine ka_ ?_ _)); exact BK269.out) hb); have n1_ := sd_ (blk_below (g := gb270) (o := .cells #[.int .i64 a1_0, .int .i64 a1_1] 23 (0, 0)) (by (with_reducible repeat (first | refine kn_ ?_ _ | refine kd_ ?_ | refine ka_ ?_ _)); exact BK270.out) hb); have n2_ := sd_ (bt_ (by repeat (first | (with_reducible first | exact HB.out | apply ba_ | apply pd_ | apply d1_ | refine bs_ ?_ GE269.out | refine bs_ ?_ GE270.out) | exact HB.out)) hb); clear BK269; clear BK270; clear HB; have BK269 := n0_; have BK270 := n1_; have HB := n2_; clear n0_ n1_ n2_; (try clear hb); (try clear hb2); (try clear hk); (try clear hi)))
    go_ret
    exact ⟨by first | rfl | (simp [errW_none, errW_some] <;> rfl) | (simp [*, errW_none, errW_some] <;> rfl), by repeat (first | (with_reducible first | exact HB.out | apply ba_ | apply pd_ | apply d1_ | refine bs_ ?_ GE269.out | refine bs_ ?_ GE270.out) | exact HB.out)⟩
   ·replace c14 := bf_ c14
    subst c14
    have H1 : ((neumeref02_Cmp.f kj4 a0_0 a0_1 a1_0 a1_1).bind fun t276 => (if t276 ≤ 0 then (if t271 > t273 then (neumelaw28_SpringRises.j1 kj4 t271 true a0_0 a0_1) else (if t271 < 600 then (neumelaw28_SpringRises.j1 kj4 t271 true a0_0 a0_1) else (neumelaw28_SpringRises.j1 kj4 t271 (decide (t271 > 1048576)) a0_0 a0_1))) else (if t271 < 600 then (neumelaw28_SpringRises.j1 kj4 t271 true a0_0 a0_1) else (neumelaw28_SpringRises.j1 kj4 t271 (decide (t271 > 1048576)) a0_0 a0_1)))) = some r := by rw [if_neg (show ¬ (false = true) by decide)] at H; exact H
    clear H
    have H := H1
    clear H1
    have HC17 := sd_ H
    clear H
    go_upto_region 5 with (fail)
    go_cut [46] (fun v46 wc => ∃ (kq : Nat) (x46_16 : Bool), v46 = .bool x46_16 ∧ Aside0 (neumelaw28_SpringRises.j1 kq t271 x46_16 a0_0 a0_1 = some r) ∧ Aside0 (kq ≤ kj4) ∧ Aside0 (wc.heap[gb269]? = some (.cells #[.int .i64 a0_0, .int .i64 a0_1] 23 (0, 0))) ∧ Aside0 (wc.heap[gb270]? = some (.cells #[.int .i64 a1_0, .int .i64 a1_1] 23 (0, 0))) ∧ Aside0 (Below w.heap.size w wc))
    case first =>
     have H := HC17.out
     clear HC17
     replace H := ob_ H
     obtain ⟨t276, A180, H⟩ := H
     replace H : (if t276 ≤ 0 then (if t271 > t273 then (neumelaw28_SpringRises.j1 kj4 t271 true a0_0 a0_1) else (if t271 < 600 then (neumelaw28_SpringRises.j1 kj4 t271 true a0_0 a0_1) else (neumelaw28_SpringRises.j1 kj4 t271 (decide (t271 > 1048576)) a0_0 a0_1))) else (if t271 < 600 then (neumelaw28_SpringRises.j1 kj4 t271 true a0_0 a0_1) else (neumelaw28_SpringRises.j1 kj4 t271 (decide (t271 > 1048576)) a0_0 a0_1))) = some r := H
     have A18 := sd_ A180
     clear A180
     by_cases c19 : t276 ≤ 0
     ·rw [if_pos c19] at H
      have c19b0 : decide (t276 ≤ 0) = true := dt_ c19
      clear c19
      (first | rw [c19b0] | (simp only [i64_w, i32_w]; rw [c19b0]) | skip)
      by_cases c20 : t271 > t273
      ·rw [if_pos c20] at H
       have c20b0 : decide (t273 < t271) = true := dt_ c20
       clear c20
       have H' := sd_ H
       clear H
       have hnb21 := NB269_270.out
       have hnc21 := NB270_269.out
       have hcz22_0 : wc.cell? ⟨gb269, 0, none⟩ = some (.int .i64 a0_0) := (kc_ BK269.out 0).trans rfl
       have hcz22_1 : wc.cell? ⟨gb269, 1, none⟩ = some (.int .i64 a0_1) := (kc_ BK269.out 1).trans rfl
       have hfz22_0 := kf_ BK269.out 0
       have hfz22_1 := kf_ BK269.out 1
       have hcz23_0 : wc.cell? ⟨gb270, 0, none⟩ = some (.int .i64 a1_0) := (kc_ BK270.out 0).trans rfl
       have hcz23_1 : wc.cell? ⟨gb270, 1, none⟩ = some (.int .i64 a1_1) := (kc_ BK270.out 1).trans rfl
       have hfz23_0 := kf_ BK270.out 0
       have hfz23_1 := kf_ BK270.out 1
       go_wp2_with (first | ((with_reducible refine gate_callee (f := 16) rfl ?_); refine goesL_ (some 32) rfl rfl Try.func16 (by kernel_rfl) rfl #[.agg #[.int .i64 a0_0, .int .i64 a0_1], .agg #[.int .i64 a1_0, .int .i64 a1_1]] rfl (by (try simp only [List.map_toArray, List.map_cons, List.map_nil]); first | done | rfl | (simp only [List.length_drop, List.length_take]; rfl)) ?_; (with_reducible refine (neumeref02_Cmp.calls kj4 a0_0 a0_1 a1_0 a1_1 t276 _ A18.out).mono ?_); rintro e w24 ⟨rfl, hb⟩; refine ⟨_, rfl, ?_⟩; have n0_ := sd_ (blk_below (g := gb269) (o := .cells #[.int .i64 a0_0, .int .i64 a0_1] 23 (0, 0)) (by (with_reducible repeat (first | refine kn_ ?_ _ | refine kd_ ?_ | refine ka_ ?_ _)); exact BK269.out) hb); have n1_ := sd_ (blk_below (g := gb270) (o := .cells #[.int .i64 a1_0, .int .i64 a1_1] 23 (0, 0)) (by (with_reducible repeat (first | refine kn_ ?_ _ | refine kd_ ?_ | refine ka_ ?_ _)); exact BK270.out) hb); have n2_ := sd_ (bt_ (by repeat (first | (with_reducible first | exact HB.out | apply ba_ | apply pd_ | apply d1_ | refine bs_ ?_ GE269.out | refine bs_ ?_ GE270.out) | exact HB.out)) hb); clear BK269; clear BK270; clear HB; have BK269 := n0_; have BK270 := n1_; have HB := n2_; clear n0_ n1_ n2_; (try clear hb); (try clear hb2); (try clear hk); (try clear hi)))
       go_meet
       case rel => exact ⟨_, (true), (by first | rfl | (simp; done) | (simp [*]; done)), H', ⟨by have := HJ4.out; first | omega | exact Nat.le_refl _⟩, ⟨by (with_reducible repeat (first | refine kn_ ?_ _ | refine kd_ ?_ | refine ka_ ?_ _)); exact BK269.out⟩, ⟨by (with_reducible repeat (first | refine kn_ ?_ _ | refine kd_ ?_ | refine ka_ ?_ _)); exact BK270.out⟩, ⟨by repeat (first | (with_reducible first | exact HB.out | apply ba_ | apply pd_ | apply d1_ | refine bs_ ?_ GE269.out | refine bs_ ?_ GE270.out) | exact HB.out)⟩⟩
      ·rw [if_neg c20] at H
       have c20b0 : decide (t273 < t271) = false := df_ c20
       clear c20
       by_cases c25 : t271 < 600
       ·rw [if_pos c25] at H
        have c25b0 : decide (t271 < 600) = true := dt_ c25
        clear c25
        have H' := sd_ H
        clear H
        have hnb26 := NB269_270.out
        have hnc26 := NB270_269.out
        have hcz27_0 : wc.cell? ⟨gb269, 0, none⟩ = some (.int .i64 a0_0) := (kc_ BK269.out 0).trans rfl
        have hcz27_1 : wc.cell? ⟨gb269, 1, none⟩ = some (.int .i64 a0_1) := (kc_ BK269.out 1).trans rfl
        have hfz27_0 := kf_ BK269.out 0
        have hfz27_1 := kf_ BK269.out 1
        have hcz28_0 : wc.cell? ⟨gb270, 0, none⟩ = some (.int .i64 a1_0) := (kc_ BK270.out 0).trans rfl
        have hcz28_1 : wc.cell? ⟨gb270, 1, none⟩ = some (.int .i64 a1_1) := (kc_ BK270.out 1).trans rfl
        have hfz28_0 := kf_ BK270.out 0
        have hfz28_1 := kf_ BK270.out 1
        go_wp2_with (first | ((with_reducible refine gate_callee (f := 16) rfl ?_); refine goesL_ (some 32) rfl rfl Try.func16 (by kernel_rfl) rfl #[.agg #[.int .i64 a0_0, .int .i64 a0_1], .agg #[.int .i64 a1_0, .int .i64 a1_1]] rfl (by (try simp only [List.map_toArray, List.map_cons, List.map_nil]); first | done | rfl | (simp only [List.length_drop, List.length_take]; rfl)) ?_; (with_reducible refine (neumeref02_Cmp.calls kj4 a0_0 a0_1 a1_0 a1_1 t276 _ A18.out).mono ?_); rintro e w29 ⟨rfl, hb⟩; refine ⟨_, rfl, ?_⟩; have n0_ := sd_ (blk_below (g := gb269) (o := .cells #[.int .i64 a0_0, .int .i64 a0_1] 23 (0, 0)) (by (with_reducible repeat (first | refine kn_ ?_ _ | refine kd_ ?_ | refine ka_ ?_ _)); exact BK269.out) hb); have n1_ := sd_ (blk_below (g := gb270) (o := .cells #[.int .i64 a1_0, .int .i64 a1_1] 23 (0, 0)) (by (with_reducible repeat (first | refine kn_ ?_ _ | refine kd_ ?_ | refine ka_ ?_ _)); exact BK270.out) hb); have n2_ := sd_ (bt_ (by repeat (first | (with_reducible first | exact HB.out | apply ba_ | apply pd_ | apply d1_ | refine bs_ ?_ GE269.out | refine bs_ ?_ GE270.out) | exact HB.out)) hb); clear BK269; clear BK270; clear HB; have BK269 := n0_; have BK270 := n1_; have HB := n2_; clear n0_ n1_ n2_; (try clear hb); (try clear hb2); (try clear hk); (try clear hi)))
        go_meet
        case rel => exact ⟨_, (true), (by first | rfl | (simp; done) | (simp [*]; done)), H', ⟨by have := HJ4.out; first | omega | exact Nat.le_refl _⟩, ⟨by (with_reducible repeat (first | refine kn_ ?_ _ | refine kd_ ?_ | refine ka_ ?_ _)); exact BK269.out⟩, ⟨by (with_reducible repeat (first | refine kn_ ?_ _ | refine kd_ ?_ | refine ka_ ?_ _)); exact BK270.out⟩, ⟨by repeat (first | (with_reducible first | exact HB.out | apply ba_ | apply pd_ | apply d1_ | refine bs_ ?_ GE269.out | refine bs_ ?_ GE270.out) | exact HB.out)⟩⟩
       ·rw [if_neg c25] at H
        have c25b0 : decide (t271 < 600) = false := df_ c25
        clear c25
        have H' := sd_ H
        clear H
        have hnb30 := NB269_270.out
        have hnc30 := NB270_269.out
        have hcz31_0 : wc.cell? ⟨gb269, 0, none⟩ = some (.int .i64 a0_0) := (kc_ BK269.out 0).trans rfl
        have hcz31_1 : wc.cell? ⟨gb269, 1, none⟩ = some (.int .i64 a0_1) := (kc_ BK269.out 1).trans rfl
        have hfz31_0 := kf_ BK269.out 0
        have hfz31_1 := kf_ BK269.out 1
        have hcz32_0 : wc.cell? ⟨gb270, 0, none⟩ = some (.int .i64 a1_0) := (kc_ BK270.out 0).trans rfl
        have hcz32_1 : wc.cell? ⟨gb270, 1, none⟩ = some (.int .i64 a1_1) := (kc_ BK270.out 1).trans rfl
        have hfz32_0 := kf_ BK270.out 0
        have hfz32_1 := kf_ BK270.out 1
        go_wp2_with (first | ((with_reducible refine gate_callee (f := 16) rfl ?_); refine goesL_ (some 32) rfl rfl Try.func16 (by kernel_rfl) rfl #[.agg #[.int .i64 a0_0, .int .i64 a0_1], .agg #[.int .i64 a1_0, .int .i64 a1_1]] rfl (by (try simp only [List.map_toArray, List.map_cons, List.map_nil]); first | done | rfl | (simp only [List.length_drop, List.length_take]; rfl)) ?_; (with_reducible refine (neumeref02_Cmp.calls kj4 a0_0 a0_1 a1_0 a1_1 t276 _ A18.out).mono ?_); rintro e w33 ⟨rfl, hb⟩; refine ⟨_, rfl, ?_⟩; have n0_ := sd_ (blk_below (g := gb269) (o := .cells #[.int .i64 a0_0, .int .i64 a0_1] 23 (0, 0)) (by (with_reducible repeat (first | refine kn_ ?_ _ | refine kd_ ?_ | refine ka_ ?_ _)); exact BK269.out) hb); have n1_ := sd_ (blk_below (g := gb270) (o := .cells #[.int .i64 a1_0, .int .i64 a1_1] 23 (0, 0)) (by (with_reducible repeat (first | refine kn_ ?_ _ | refine kd_ ?_ | refine ka_ ?_ _)); exact BK270.out) hb); have n2_ := sd_ (bt_ (by repeat (first | (with_reducible first | exact HB.out | apply ba_ | apply pd_ | apply d1_ | refine bs_ ?_ GE269.out | refine bs_ ?_ GE270.out) | exact HB.out)) hb); clear BK269; clear BK270; clear HB; have BK269 := n0_; have BK270 := n1_; have HB := n2_; clear n0_ n1_ n2_; (try clear hb); (try clear hb2); (try clear hk); (try clear hi)))
        go_meet
        case rel => exact ⟨_, (decide (t271 > 1048576)), (by first | rfl | (simp; done) | (simp [*]; done)), H', ⟨by have := HJ4.out; first | omega | exact Nat.le_refl _⟩, ⟨by (with_reducible repeat (first | refine kn_ ?_ _ | refine kd_ ?_ | refine ka_ ?_ _)); exact BK269.out⟩, ⟨by (with_reducible repeat (first | refine kn_ ?_ _ | refine kd_ ?_ | refine ka_ ?_ _)); exact BK270.out⟩, ⟨by repeat (first | (with_reducible first | exact HB.out | apply ba_ | apply pd_ | apply d1_ | refine bs_ ?_ GE269.out | refine bs_ ?_ GE270.out) | exact HB.out)⟩⟩
     ·rw [if_neg c19] at H
      have c19b0 : decide (t276 ≤ 0) = false := df_ c19
      clear c19
      (first | rw [c19b0] | (simp only [i64_w, i32_w]; rw [c19b0]) | skip)
      by_cases c34 : t271 < 600
      ·rw [if_pos c34] at H
       have c34b0 : decide (t271 < 600) = true := dt_ c34
       clear c34
       have H' := sd_ H
       clear H
       have hnb35 := NB269_270.out
       have hnc35 := NB270_269.out
       have hcz36_0 : wc.cell? ⟨gb269, 0, none⟩ = some (.int .i64 a0_0) := (kc_ BK269.out 0).trans rfl
       have hcz36_1 : wc.cell? ⟨gb269, 1, none⟩ = some (.int .i64 a0_1) := (kc_ BK269.out 1).trans rfl
       have hfz36_0 := kf_ BK269.out 0
       have hfz36_1 := kf_ BK269.out 1
       have hcz37_0 : wc.cell? ⟨gb270, 0, none⟩ = some (.int .i64 a1_0) := (kc_ BK270.out 0).trans rfl
       have hcz37_1 : wc.cell? ⟨gb270, 1, none⟩ = some (.int .i64 a1_1) := (kc_ BK270.out 1).trans rfl
       have hfz37_0 := kf_ BK270.out 0
       have hfz37_1 := kf_ BK270.out 1
       go_wp2_with (first | ((with_reducible refine gate_callee (f := 16) rfl ?_); refine goesL_ (some 32) rfl rfl Try.func16 (by kernel_rfl) rfl #[.agg #[.int .i64 a0_0, .int .i64 a0_1], .agg #[.int .i64 a1_0, .int .i64 a1_1]] rfl (by (try simp only [List.map_toArray, List.map_cons, List.map_nil]); first | done | rfl | (simp only [List.length_drop, List.length_take]; rfl)) ?_; (with_reducible refine (neumeref02_Cmp.calls kj4 a0_0 a0_1 a1_0 a1_1 t276 _ A18.out).mono ?_); rintro e w38 ⟨rfl, hb⟩; refine ⟨_, rfl, ?_⟩; have n0_ := sd_ (blk_below (g := gb269) (o := .cells #[.int .i64 a0_0, .int .i64 a0_1] 23 (0, 0)) (by (with_reducible repeat (first | refine kn_ ?_ _ | refine kd_ ?_ | refine ka_ ?_ _)); exact BK269.out) hb); have n1_ := sd_ (blk_below (g := gb270) (o := .cells #[.int .i64 a1_0, .int .i64 a1_1] 23 (0, 0)) (by (with_reducible repeat (first | refine kn_ ?_ _ | refine kd_ ?_ | refine ka_ ?_ _)); exact BK270.out) hb); have n2_ := sd_ (bt_ (by repeat (first | (with_reducible first | exact HB.out | apply ba_ | apply pd_ | apply d1_ | refine bs_ ?_ GE269.out | refine bs_ ?_ GE270.out) | exact HB.out)) hb); clear BK269; clear BK270; clear HB; have BK269 := n0_; have BK270 := n1_; have HB := n2_; clear n0_ n1_ n2_; (try clear hb); (try clear hb2); (try clear hk); (try clear hi)))
       go_meet
       case rel => exact ⟨_, (true), (by first | rfl | (simp; done) | (simp [*]; done)), H', ⟨by have := HJ4.out; first | omega | exact Nat.le_refl _⟩, ⟨by (with_reducible repeat (first | refine kn_ ?_ _ | refine kd_ ?_ | refine ka_ ?_ _)); exact BK269.out⟩, ⟨by (with_reducible repeat (first | refine kn_ ?_ _ | refine kd_ ?_ | refine ka_ ?_ _)); exact BK270.out⟩, ⟨by repeat (first | (with_reducible first | exact HB.out | apply ba_ | apply pd_ | apply d1_ | refine bs_ ?_ GE269.out | refine bs_ ?_ GE270.out) | exact HB.out)⟩⟩
      ·rw [if_neg c34] at H
       have c34b0 : decide (t271 < 600) = false := df_ c34
       clear c34
       have H' := sd_ H
       clear H
       have hnb39 := NB269_270.out
       have hnc39 := NB270_269.out
       have hcz40_0 : wc.cell? ⟨gb269, 0, none⟩ = some (.int .i64 a0_0) := (kc_ BK269.out 0).trans rfl
       have hcz40_1 : wc.cell? ⟨gb269, 1, none⟩ = some (.int .i64 a0_1) := (kc_ BK269.out 1).trans rfl
       have hfz40_0 := kf_ BK269.out 0
       have hfz40_1 := kf_ BK269.out 1
       have hcz41_0 : wc.cell? ⟨gb270, 0, none⟩ = some (.int .i64 a1_0) := (kc_ BK270.out 0).trans rfl
       have hcz41_1 : wc.cell? ⟨gb270, 1, none⟩ = some (.int .i64 a1_1) := (kc_ BK270.out 1).trans rfl
       have hfz41_0 := kf_ BK270.out 0
       have hfz41_1 := kf_ BK270.out 1
       go_wp2_with (first | ((with_reducible refine gate_callee (f := 16) rfl ?_); refine goesL_ (some 32) rfl rfl Try.func16 (by kernel_rfl) rfl #[.agg #[.int .i64 a0_0, .int .i64 a0_1], .agg #[.int .i64 a1_0, .int .i64 a1_1]] rfl (by (try simp only [List.map_toArray, List.map_cons, List.map_nil]); first | done | rfl | (simp only [List.length_drop, List.length_take]; rfl)) ?_; (with_reducible refine (neumeref02_Cmp.calls kj4 a0_0 a0_1 a1_0 a1_1 t276 _ A18.out).mono ?_); rintro e w42 ⟨rfl, hb⟩; refine ⟨_, rfl, ?_⟩; have n0_ := sd_ (blk_below (g := gb269) (o := .cells #[.int .i64 a0_0, .int .i64 a0_1] 23 (0, 0)) (by (with_reducible repeat (first | refine kn_ ?_ _ | refine kd_ ?_ | refine ka_ ?_ _)); exact BK269.out) hb); have n1_ := sd_ (blk_below (g := gb270) (o := .cells #[.int .i64 a1_0, .int .i64 a1_1] 23 (0, 0)) (by (with_reducible repeat (first | refine kn_ ?_ _ | refine kd_ ?_ | refine ka_ ?_ _)); exact BK270.out) hb); have n2_ := sd_ (bt_ (by repeat (first | (with_reducible first | exact HB.out | apply ba_ | apply pd_ | apply d1_ | refine bs_ ?_ GE269.out | refine bs_ ?_ GE270.out) | exact HB.out)) hb); clear BK269; clear BK270; clear HB; have BK269 := n0_; have BK270 := n1_; have HB := n2_; clear n0_ n1_ n2_; (try clear hb); (try clear hb2); (try clear hk); (try clear hi)))
       go_meet
       case rel => exact ⟨_, (decide (t271 > 1048576)), (by first | rfl | (simp; done) | (simp [*]; done)), H', ⟨by have := HJ4.out; first | omega | exact Nat.le_refl _⟩, ⟨by (with_reducible repeat (first | refine kn_ ?_ _ | refine kd_ ?_ | refine ka_ ?_ _)); exact BK269.out⟩, ⟨by (with_reducible repeat (first | refine kn_ ?_ _ | refine kd_ ?_ | refine ka_ ?_ _)); exact BK270.out⟩, ⟨by repeat (first | (with_reducible first | exact HB.out | apply ba_ | apply pd_ | apply d1_ | refine bs_ ?_ GE269.out | refine bs_ ?_ GE270.out) | exact HB.out)⟩⟩
    case rest =>
     clear HC17
     try clear c1
     try clear c2
     try clear p2
     try clear c3
     try clear c4
     try clear c6
     try clear c7
     try clear c8
     try clear c13
     try clear c13b0
     try clear c13b1
     try clear c14
     try clear c16
     try clear c19
     try clear c19b0
     try clear c20
     try clear c20b0
     try clear c21
     try clear c25
     try clear c25b0
     try clear c26
     try clear c30
     try clear c34
     try clear c34b0
     try clear c35
     try clear c39
     try clear hcz11_0
     try clear hcz11_1
     try clear hcz22_0
     try clear hcz22_1
     try clear hcz23_0
     try clear hcz23_1
     try clear hcz27_0
     try clear hcz27_1
     try clear hcz28_0
     try clear hcz28_1
     try clear hcz31_0
     try clear hcz31_1
     try clear hcz32_0
     try clear hcz32_1
     try clear hcz36_0
     try clear hcz36_1
     try clear hcz37_0
     try clear hcz37_1
     try clear hcz40_0
     try clear hcz40_1
     try clear hcz41_0
     try clear hcz41_1
     try clear hcz9_0
     try clear hcz9_1
     try clear hfz11_0
     try clear hfz11_1
     try clear hfz22_0
     try clear hfz22_1
     try clear hfz23_0
     try clear hfz23_1
     try clear hfz27_0
     try clear hfz27_1
     try clear hfz28_0
     try clear hfz28_1
     try clear hfz31_0
     try clear hfz31_1
     try clear hfz32_0
     try clear hfz32_1
     try clear hfz36_0
     try clear hfz36_1
     try clear hfz37_0
     try clear hfz37_1
     try clear hfz40_0
     try clear hfz40_1
     try clear hfz41_0
     try clear hfz41_1
     try clear hfz9_0
     try clear hfz9_1
     try clear p2
     obtain ⟨kq, x46_16, rfl, HA, HJ16, BK269, BK270, HB⟩ := hcut
     cases kq with
     | zero => exact absurd HA.out (by simp [neumelaw28_SpringRises.j1])
     | succ kj16 =>
      have H := HA.out
      clear HA
      simp only [neumelaw28_SpringRises.j1] at H
      by_cases c43 : x46_16 = true
      ·subst c43
       have H1 : (some false) = some r := by rw [if_pos rfl] at H; exact H
       clear H
       have H := H1
       clear H1
       obtain rfl := Option.some.inj H
       go_wp2
       go_ret
       exact ⟨by first | rfl | (simp [errW_none, errW_some] <;> rfl) | (simp [*, errW_none, errW_some] <;> rfl), by repeat (first | (with_reducible first | exact HB.out | apply ba_ | apply pd_ | apply d1_ | refine bs_ ?_ GE269.out | refine bs_ ?_ GE270.out) | exact HB.out)⟩
      ·replace c43 := bf_ c43
       subst c43
       have H1 : ((neumeref02_Add.f kj16 a0_0 a0_1 a0_0 a0_1).bind fun bt277 => ((spring_Ideal.f kj16 bt277.1 bt277.2.1).bind fun bt281 => (if bt277.2.2 = 0 then (if bt281.2 = 0 then (if t271 = 600 then (if bt281.1 ≥ t271 then (if bt281.1 ≤ 1828 then ((neumelaw28_heads.f kj16).bind fun t283 => (some t283)) else (if bt281.1 = (wrap64 (t271 + 1228)) then ((neumelaw28_heads.f kj16).bind fun t284 => (some t284)) else (some false))) else (if bt281.1 = (wrap64 (t271 + 1228)) then ((neumelaw28_heads.f kj16).bind fun t285 => (some t285)) else (some false))) else (if bt281.1 = (wrap64 (t271 + 1228)) then ((neumelaw28_heads.f kj16).bind fun t286 => (some t286)) else (some false))) else (some false)) else ((neumelaw28_heads.f kj16).bind fun t287 => (some t287))))) = some r := by rw [if_neg (show ¬ (false = true) by decide)] at H; exact H
       clear H
       have H := H1
       clear H1
       replace H := ob_ H
       obtain ⟨⟨t277, t278, t279⟩, A440, H⟩ := H
       replace H : ((spring_Ideal.f kj16 t277 t278).bind fun bt281 => (if t279 = 0 then (if bt281.2 = 0 then (if t271 = 600 then (if bt281.1 ≥ t271 then (if bt281.1 ≤ 1828 then ((neumelaw28_heads.f kj16).bind fun t283 => (some t283)) else (if bt281.1 = (wrap64 (t271 + 1228)) then ((neumelaw28_heads.f kj16).bind fun t284 => (some t284)) else (some false))) else (if bt281.1 = (wrap64 (t271 + 1228)) then ((neumelaw28_heads.f kj16).bind fun t285 => (some t285)) else (some false))) else (if bt281.1 = (wrap64 (t271 + 1228)) then ((neumelaw28_heads.f kj16).bind fun t286 => (some t286)) else (some false))) else (some false)) else ((neumelaw28_heads.f kj16).bind fun t287 => (some t287)))) = some r := H
       have A44 := sd_ A440
       clear A440
       replace H := ob_ H
       obtain ⟨⟨t281, t282⟩, A450, H⟩ := H
       replace H : (if t279 = 0 then (if t282 = 0 then (if t271 = 600 then (if t281 ≥ t271 then (if t281 ≤ 1828 then ((neumelaw28_heads.f kj16).bind fun t283 => (some t283)) else (if t281 = (wrap64 (t271 + 1228)) then ((neumelaw28_heads.f kj16).bind fun t284 => (some t284)) else (some false))) else (if t281 = (wrap64 (t271 + 1228)) then ((neumelaw28_heads.f kj16).bind fun t285 => (some t285)) else (some false))) else (if t281 = (wrap64 (t271 + 1228)) then ((neumelaw28_heads.f kj16).bind fun t286 => (some t286)) else (some false))) else (some false)) else ((neumelaw28_heads.f kj16).bind fun t287 => (some t287))) = some r := H
       have A45 := sd_ A450
       clear A450
       by_cases c46 : t279 = 0
       ·rw [if_pos c46] at H
        have c46b0 : (t279 == 0) = true := beq_iff_eq.mpr c46
        have c46b1 : (t279 != 0) = false := bne_eq_false_iff_eq.mpr c46
        clear c46
        by_cases c47 : t282 = 0
        ·rw [if_pos c47] at H
         have c47b0 : (t282 == 0) = true := beq_iff_eq.mpr c47
         have c47b1 : (t282 != 0) = false := bne_eq_false_iff_eq.mpr c47
         clear c47
         by_cases c48 : t271 = 600
         ·rw [if_pos c48] at H
          have c48b0 : (t271 == 600) = true := beq_iff_eq.mpr c48
          have c48b1 : (t271 != 600) = false := bne_eq_false_iff_eq.mpr c48
          clear c48
          by_cases c49 : t281 ≥ t271
          ·rw [if_pos c49] at H
           have c49b0 : decide (t271 ≤ t281) = true := dt_ c49
           clear c49
           by_cases c50 : t281 ≤ 1828
           ·rw [if_pos c50] at H
            have c50b0 : decide (t281 ≤ 1828) = true := dt_ c50
            clear c50
            replace H := ob_ H
            obtain ⟨t283, A510, H⟩ := H
            replace H : (some t283) = some r := H
            have A51 := sd_ A510
            clear A510
            obtain rfl := Option.some.inj H
            have hnb52 := NB269_270.out
            have hnc52 := NB270_269.out
            have hcz53_0 : wc.cell? ⟨gb269, 0, none⟩ = some (.int .i64 a0_0) := (kc_ BK269.out 0).trans rfl
            have hcz53_1 : wc.cell? ⟨gb269, 1, none⟩ = some (.int .i64 a0_1) := (kc_ BK269.out 1).trans rfl
            have hfz53_0 := kf_ BK269.out 0
            have hfz53_1 := kf_ BK269.out 1
            go_wp2_with (first | ((with_reducible refine gate_callee (f := 17) rfl ?_); refine goesL_ (some 50) rfl rfl Try.func17 (by kernel_rfl) rfl #[.agg #[.int .i64 a0_0, .int .i64 a0_1], .agg #[.int .i64 a0_0, .int .i64 a0_1]] rfl (by (try simp only [List.map_toArray, List.map_cons, List.map_nil]); first | done | rfl | (simp only [List.length_drop, List.length_take]; rfl)) ?_; (with_reducible refine (neumeref02_Add.calls kj16 a0_0 a0_1 a0_0 a0_1 t277 t278 t279 _ A44.out).mono ?_); rintro e w54 ⟨rfl, hb⟩; refine ⟨_, rfl, ?_⟩; have n0_ := sd_ (blk_below (g := gb269) (o := .cells #[.int .i64 a0_0, .int .i64 a0_1] 23 (0, 0)) (by (with_reducible repeat (first | refine kn_ ?_ _ | refine kd_ ?_ | refine ka_ ?_ _)); exact BK269.out) hb); have n1_ := sd_ (blk_below (g := gb270) (o := .cells #[.int .i64 a1_0, .int .i64 a1_1] 23 (0, 0)) (by (with_reducible repeat (first | refine kn_ ?_ _ | refine kd_ ?_ | refine ka_ ?_ _)); exact BK270.out) hb); have n2_ := sd_ (bt_ (by repeat (first | (with_reducible first | exact HB.out | apply ba_ | apply pd_ | apply d1_ | refine bs_ ?_ GE269.out | refine bs_ ?_ GE270.out) | exact HB.out)) hb); clear BK269; clear BK270; clear HB; have BK269 := n0_; have BK270 := n1_; have HB := n2_; clear n0_ n1_ n2_; (try clear hb); (try clear hb2); (try clear hk); (try clear hi)) | ((with_reducible refine gate_dst (N := 9) rfl ?_); refine box_event ?hg (N := 9) ?hd (cs := #[.int .i64 0, .int .i64 0]) (t := 23) ?hr ?_; (case hd => rfl); (case hg => rfl); (case hr => first | (go_simp; done) | (go_simp; rfl)); intro gb280 hg w55 hbox hb; have n0_ := sd_ (blk_below (g := gb269) (o := .cells #[.int .i64 a0_0, .int .i64 a0_1] 23 (0, 0)) (by (with_reducible repeat (first | refine kn_ ?_ _ | refine kd_ ?_ | refine ka_ ?_ _)); exact BK269.out) hb); have n1_ := sd_ (blk_below (g := gb270) (o := .cells #[.int .i64 a1_0, .int .i64 a1_1] 23 (0, 0)) (by (with_reducible repeat (first | refine kn_ ?_ _ | refine kd_ ?_ | refine ka_ ?_ _)); exact BK270.out) hb); have n2_ := sd_ (bt_ (by repeat (first | (with_reducible first | exact HB.out | apply ba_ | apply pd_ | apply d1_ | refine bs_ ?_ GE269.out | refine bs_ ?_ GE270.out) | exact HB.out)) hb); have n3_ := sd_ (hbox); have n4_ := sd_ ((by rw [hg]; exact (bz_ (by repeat (first | (with_reducible first | exact HB.out | apply ba_ | apply pd_ | apply d1_ | refine bs_ ?_ GE269.out | refine bs_ ?_ GE270.out) | exact HB.out))) : w.heap.size ≤ gb280)); have n5_ := sd_ ((by rw [hg]; exact (bz_ (by repeat (first | (with_reducible first | exact HB.out | apply ba_ | apply pd_ | apply d1_ | refine bs_ ?_ GE269.out | refine bs_ ?_ GE270.out) | exact HB.out))) : w.heap.size ≤ gb280)); have n6_ := sd_ ((by rw [hg]; exact nn_ (blk_lt (g := gb269) (o := .cells #[.int .i64 a0_0, .int .i64 a0_1] 23 (0, 0)) (by (with_reducible repeat (first | refine kn_ ?_ _ | refine kd_ ?_ | refine ka_ ?_ _)); exact BK269.out)) : gb269 ≠ gb280)); have n7_ := sd_ ((by rw [hg]; exact Nat.ne_of_gt (blk_lt (g := gb269) (o := .cells #[.int .i64 a0_0, .int .i64 a0_1] 23 (0, 0)) (by (with_reducible repeat (first | refine kn_ ?_ _ | refine kd_ ?_ | refine ka_ ?_ _)); exact BK269.out)) : gb280 ≠ gb269)); have n8_ := sd_ ((by rw [hg]; exact nn_ (blk_lt (g := gb270) (o := .cells #[.int .i64 a1_0, .int .i64 a1_1] 23 (0, 0)) (by (with_reducible repeat (first | refine kn_ ?_ _ | refine kd_ ?_ | refine ka_ ?_ _)); exact BK270.out)) : gb270 ≠ gb280)); have n9_ := sd_ ((by rw [hg]; exact Nat.ne_of_gt (blk_lt (g := gb270) (o := .cells #[.int .i64 a1_0, .int .i64 a1_1] 23 (0, 0)) (by (with_reducible repeat (first | refine kn_ ?_ _ | refine kd_ ?_ | refine ka_ ?_ _)); exact BK270.out)) : gb280 ≠ gb270)); clear BK269; clear BK270; clear HB; have BK269 := n0_; have BK270 := n1_; have HB := n2_; have BK280 := n3_; have GW280 := n4_; have GE280 := n5_; have NB269_280 := n6_; have NB280_269 := n7_; have NB270_280 := n8_; have NB280_270 := n9_; clear n0_ n1_ n2_ n3_ n4_ n5_ n6_ n7_ n8_ n9_; clear hb hbox hg; have hnb56 := NB280_269.out; have hnc56 := NB269_280.out; have hnb57 := NB280_270.out; have hnc57 := NB270_280.out; have hcz58_0 : w55.cell? ⟨gb280, 0, none⟩ = some (.int .i64 0) := (kc_ BK280.out 0).trans rfl; have hcz58_1 : w55.cell? ⟨gb280, 1, none⟩ = some (.int .i64 0) := (kc_ BK280.out 1).trans rfl; have hfz58_0 := kf_ BK280.out 0; have hfz58_1 := kf_ BK280.out 1) | ((with_reducible refine gate_callee (f := 7) rfl ?_); refine goesL_ (some 55) rfl rfl Try.func7 (by kernel_rfl) rfl #[.agg #[.int .i64 t277, .int .i64 t278]] rfl (by (try simp only [List.map_toArray, List.map_cons, List.map_nil]); first | done | rfl | (simp only [List.length_drop, List.length_take]; rfl)) ?_; (with_reducible refine (spring_Ideal.calls kj16 t277 t278 t281 t282 _ A45.out).mono ?_); rintro e w59 ⟨rfl, hb⟩; refine ⟨_, rfl, ?_⟩; have n0_ := sd_ (blk_below (g := gb269) (o := .cells #[.int .i64 a0_0, .int .i64 a0_1] 23 (0, 0)) (by (with_reducible repeat (first | refine kn_ ?_ _ | refine kd_ ?_ | refine ka_ ?_ _)); refine blk_far ?_ NB269_280.out _; (with_reducible repeat (first | refine kn_ ?_ _ | refine kd_ ?_ | refine ka_ ?_ _)); refine blk_far ?_ NB269_280.out _; (with_reducible repeat (first | refine kn_ ?_ _ | refine kd_ ?_ | refine ka_ ?_ _)); exact BK269.out) hb); have n1_ := sd_ (blk_below (g := gb270) (o := .cells #[.int .i64 a1_0, .int .i64 a1_1] 23 (0, 0)) (by (with_reducible repeat (first | refine kn_ ?_ _ | refine kd_ ?_ | refine ka_ ?_ _)); refine blk_far ?_ NB270_280.out _; (with_reducible repeat (first | refine kn_ ?_ _ | refine kd_ ?_ | refine ka_ ?_ _)); refine blk_far ?_ NB270_280.out _; (with_reducible repeat (first | refine kn_ ?_ _ | refine kd_ ?_ | refine ka_ ?_ _)); exact BK270.out) hb); have n2_ := sd_ (blk_below (g := gb280) (o := .cells #[.int .i64 t277, .int .i64 t278] 23 (0, 0)) (by (with_reducible repeat (first | refine kn_ ?_ _ | refine kd_ ?_ | refine ka_ ?_ _)); refine blk_put (cs := #[.int .i64 t277, .int .i64 0]) ?_ 1 _ rfl; (with_reducible repeat (first | refine kn_ ?_ _ | refine kd_ ?_ | refine ka_ ?_ _)); refine blk_put (cs := #[.int .i64 0, .int .i64 0]) ?_ 0 _ rfl; (with_reducible repeat (first | refine kn_ ?_ _ | refine kd_ ?_ | refine ka_ ?_ _)); exact BK280.out) hb); have n3_ := sd_ (bt_ (by repeat (first | (with_reducible first | exact HB.out | apply ba_ | apply pd_ | apply d1_ | refine bs_ ?_ GE269.out | refine bs_ ?_ GE270.out | refine bs_ ?_ GE280.out) | exact HB.out)) hb); clear BK269; clear BK270; clear BK280; clear HB; have BK269 := n0_; have BK270 := n1_; have BK280 := n2_; have HB := n3_; clear n0_ n1_ n2_ n3_; (try clear hb); (try clear hb2); (try clear hk); (try clear hi)) | (go_at_call 6; (with_reducible refine (neumelaw28_heads.calls kj16  t283 _ A51.out).mono ?_); rintro e w60 ⟨rfl, hb⟩; have n0_ := sd_ (blk_below (g := gb269) (o := .cells #[.int .i64 a0_0, .int .i64 a0_1] 23 (0, 0)) (by (with_reducible repeat (first | refine kn_ ?_ _ | refine kd_ ?_ | refine ka_ ?_ _)); exact BK269.out) hb); have n1_ := sd_ (blk_below (g := gb270) (o := .cells #[.int .i64 a1_0, .int .i64 a1_1] 23 (0, 0)) (by (with_reducible repeat (first | refine kn_ ?_ _ | refine kd_ ?_ | refine ka_ ?_ _)); exact BK270.out) hb); have n2_ := sd_ (blk_below (g := gb280) (o := .cells #[.int .i64 t277, .int .i64 t278] 23 (0, 0)) (by (with_reducible repeat (first | refine kn_ ?_ _ | refine kd_ ?_ | refine ka_ ?_ _)); exact BK280.out) hb); have n3_ := sd_ (bt_ (by repeat (first | (with_reducible first | exact HB.out | apply ba_ | apply pd_ | apply d1_ | refine bs_ ?_ GE269.out | refine bs_ ?_ GE270.out | refine bs_ ?_ GE280.out) | exact HB.out)) hb); clear BK269; clear BK270; clear BK280; clear HB; have BK269 := n0_; have BK270 := n1_; have BK280 := n2_; have HB := n3_; clear n0_ n1_ n2_ n3_; (try clear hb); (try clear hb2); (try clear hk); (try clear hi)))
            go_ret
            exact ⟨by first | rfl | (simp [errW_none, errW_some] <;> rfl) | (simp [*, errW_none, errW_some] <;> rfl), by repeat (first | (with_reducible first | exact HB.out | apply ba_ | apply pd_ | apply d1_ | refine bs_ ?_ GE269.out | refine bs_ ?_ GE270.out | refine bs_ ?_ GE280.out) | exact HB.out)⟩
           ·rw [if_neg c50] at H
            have c50b0 : decide (t281 ≤ 1828) = false := df_ c50
            clear c50
            by_cases c61 : t281 = (wrap64 (t271 + 1228))
            ·rw [if_pos c61] at H
             have c61b0 : (t281 == (wrap64 (t271 + 1228))) = true := beq_iff_eq.mpr c61
             have c61b1 : (t281 != (wrap64 (t271 + 1228))) = false := bne_eq_false_iff_eq.mpr c61
             clear c61
             replace H := ob_ H
             obtain ⟨t284, A620, H⟩ := H
             replace H : (some t284) = some r := H
             have A62 := sd_ A620
             clear A620
             obtain rfl := Option.some.inj H
             have hnb63 := NB269_270.out
             have hnc63 := NB270_269.out
             have hcz64_0 : wc.cell? ⟨gb269, 0, none⟩ = some (.int .i64 a0_0) := (kc_ BK269.out 0).trans rfl
             have hcz64_1 : wc.cell? ⟨gb269, 1, none⟩ = some (.int .i64 a0_1) := (kc_ BK269.out 1).trans rfl
             have hfz64_0 := kf_ BK269.out 0
             have hfz64_1 := kf_ BK269.out 1
             go_wp2_with (first | ((with_reducible refine gate_callee (f := 17) rfl ?_); refine goesL_ (some 50) rfl rfl Try.func17 (by kernel_rfl) rfl #[.agg #[.int .i64 a0_0, .int .i64 a0_1], .agg #[.int .i64 a0_0, .int .i64 a0_1]] rfl (by (try simp only [List.map_toArray, List.map_cons, List.map_nil]); first | done | rfl | (simp only [List.length_drop, List.length_take]; rfl)) ?_; (with_reducible refine (neumeref02_Add.calls kj16 a0_0 a0_1 a0_0 a0_1 t277 t278 t279 _ A44.out).mono ?_); rintro e w65 ⟨rfl, hb⟩; refine ⟨_, rfl, ?_⟩; have n0_ := sd_ (blk_below (g := gb269) (o := .cells #[.int .i64 a0_0, .int .i64 a0_1] 23 (0, 0)) (by (with_reducible repeat (first | refine kn_ ?_ _ | refine kd_ ?_ | refine ka_ ?_ _)); exact BK269.out) hb); have n1_ := sd_ (blk_below (g := gb270) (o := .cells #[.int .i64 a1_0, .int .i64 a1_1] 23 (0, 0)) (by (with_reducible repeat (first | refine kn_ ?_ _ | refine kd_ ?_ | refine ka_ ?_ _)); exact BK270.out) hb); have n2_ := sd_ (bt_ (by repeat (first | (with_reducible first | exact HB.out | apply ba_ | apply pd_ | apply d1_ | refine bs_ ?_ GE269.out | refine bs_ ?_ GE270.out) | exact HB.out)) hb); clear BK269; clear BK270; clear HB; have BK269 := n0_; have BK270 := n1_; have HB := n2_; clear n0_ n1_ n2_; (try clear hb); (try clear hb2); (try clear hk); (try clear hi)) | ((with_reducible refine gate_dst (N := 9) rfl ?_); refine box_event ?hg (N := 9) ?hd (cs := #[.int .i64 0, .int .i64 0]) (t := 23) ?hr ?_; (case hd => rfl); (case hg => rfl); (case hr => first | (go_simp; done) | (go_simp; rfl)); intro gb280 hg w66 hbox hb; have n0_ := sd_ (blk_below (g := gb269) (o := .cells #[.int .i64 a0_0, .int .i64 a0_1] 23 (0, 0)) (by (with_reducible repeat (first | refine kn_ ?_ _ | refine kd_ ?_ | refine ka_ ?_ _)); exact BK269.out) hb); have n1_ := sd_ (blk_below (g := gb270) (o := .cells #[.int .i64 a1_0, .int .i64 a1_1] 23 (0, 0)) (by (with_reducible repeat (first | refine kn_ ?_ _ | refine kd_ ?_ | refine ka_ ?_ _)); exact BK270.out) hb); have n2_ := sd_ (bt_ (by repeat (first | (with_reducible first | exact HB.out | apply ba_ | apply pd_ | apply d1_ | refine bs_ ?_ GE269.out | refine bs_ ?_ GE270.out) | exact HB.out)) hb); have n3_ := sd_ (hbox); have n4_ := sd_ ((by rw [hg]; exact (bz_ (by repeat (first | (with_reducible first | exact HB.out | apply ba_ | apply pd_ | apply d1_ | refine bs_ ?_ GE269.out | refine bs_ ?_ GE270.out) | exact HB.out))) : w.heap.size ≤ gb280)); have n5_ := sd_ ((by rw [hg]; exact (bz_ (by repeat (first | (with_reducible first | exact HB.out | apply ba_ | apply pd_ | apply d1_ | refine bs_ ?_ GE269.out | refine bs_ ?_ GE270.out) | exact HB.out))) : w.heap.size ≤ gb280)); have n6_ := sd_ ((by rw [hg]; exact nn_ (blk_lt (g := gb269) (o := .cells #[.int .i64 a0_0, .int .i64 a0_1] 23 (0, 0)) (by (with_reducible repeat (first | refine kn_ ?_ _ | refine kd_ ?_ | refine ka_ ?_ _)); exact BK269.out)) : gb269 ≠ gb280)); have n7_ := sd_ ((by rw [hg]; exact Nat.ne_of_gt (blk_lt (g := gb269) (o := .cells #[.int .i64 a0_0, .int .i64 a0_1] 23 (0, 0)) (by (with_reducible repeat (first | refine kn_ ?_ _ | refine kd_ ?_ | refine ka_ ?_ _)); exact BK269.out)) : gb280 ≠ gb269)); have n8_ := sd_ ((by rw [hg]; exact nn_ (blk_lt (g := gb270) (o := .cells #[.int .i64 a1_0, .int .i64 a1_1] 23 (0, 0)) (by (with_reducible repeat (first | refine kn_ ?_ _ | refine kd_ ?_ | refine ka_ ?_ _)); exact BK270.out)) : gb270 ≠ gb280)); have n9_ := sd_ ((by rw [hg]; exact Nat.ne_of_gt (blk_lt (g := gb270) (o := .cells #[.int .i64 a1_0, .int .i64 a1_1] 23 (0, 0)) (by (with_reducible repeat (first | refine kn_ ?_ _ | refine kd_ ?_ | refine ka_ ?_ _)); exact BK270.out)) : gb280 ≠ gb270)); clear BK269; clear BK270; clear HB; have BK269 := n0_; have BK270 := n1_; have HB := n2_; have BK280 := n3_; have GW280 := n4_; have GE280 := n5_; have NB269_280 := n6_; have NB280_269 := n7_; have NB270_280 := n8_; have NB280_270 := n9_; clear n0_ n1_ n2_ n3_ n4_ n5_ n6_ n7_ n8_ n9_; clear hb hbox hg; have hnb67 := NB280_269.out; have hnc67 := NB269_280.out; have hnb68 := NB280_270.out; have hnc68 := NB270_280.out; have hcz69_0 : w66.cell? ⟨gb280, 0, none⟩ = some (.int .i64 0) := (kc_ BK280.out 0).trans rfl; have hcz69_1 : w66.cell? ⟨gb280, 1, none⟩ = some (.int .i64 0) := (kc_ BK280.out 1).trans rfl; have hfz69_0 := kf_ BK280.out 0; have hfz69_1 := kf_ BK280.out 1) | ((with_reducible refine gate_callee (f := 7) rfl ?_); refine goesL_ (some 55) rfl rfl Try.func7 (by kernel_rfl) rfl #[.agg #[.int .i64 t277, .int .i64 t278]] rfl (by (try simp only [List.map_toArray, List.map_cons, List.map_nil]); first | done | rfl | (simp only [List.length_drop, List.length_take]; rfl)) ?_; (with_reducible refine (spring_Ideal.calls kj16 t277 t278 t281 t282 _ A45.out).mono ?_); rintro e w70 ⟨rfl, hb⟩; refine ⟨_, rfl, ?_⟩; have n0_ := sd_ (blk_below (g := gb269) (o := .cells #[.int .i64 a0_0, .int .i64 a0_1] 23 (0, 0)) (by (with_reducible repeat (first | refine kn_ ?_ _ | refine kd_ ?_ | refine ka_ ?_ _)); refine blk_far ?_ NB269_280.out _; (with_reducible repeat (first | refine kn_ ?_ _ | refine kd_ ?_ | refine ka_ ?_ _)); refine blk_far ?_ NB269_280.out _; (with_reducible repeat (first | refine kn_ ?_ _ | refine kd_ ?_ | refine ka_ ?_ _)); exact BK269.out) hb); have n1_ := sd_ (blk_below (g := gb270) (o := .cells #[.int .i64 a1_0, .int .i64 a1_1] 23 (0, 0)) (by (with_reducible repeat (first | refine kn_ ?_ _ | refine kd_ ?_ | refine ka_ ?_ _)); refine blk_far ?_ NB270_280.out _; (with_reducible repeat (first | refine kn_ ?_ _ | refine kd_ ?_ | refine ka_ ?_ _)); refine blk_far ?_ NB270_280.out _; (with_reducible repeat (first | refine kn_ ?_ _ | refine kd_ ?_ | refine ka_ ?_ _)); exact BK270.out) hb); have n2_ := sd_ (blk_below (g := gb280) (o := .cells #[.int .i64 t277, .int .i64 t278] 23 (0, 0)) (by (with_reducible repeat (first | refine kn_ ?_ _ | refine kd_ ?_ | refine ka_ ?_ _)); refine blk_put (cs := #[.int .i64 t277, .int .i64 0]) ?_ 1 _ rfl; (with_reducible repeat (first | refine kn_ ?_ _ | refine kd_ ?_ | refine ka_ ?_ _)); refine blk_put (cs := #[.int .i64 0, .int .i64 0]) ?_ 0 _ rfl; (with_reducible repeat (first | refine kn_ ?_ _ | refine kd_ ?_ | refine ka_ ?_ _)); exact BK280.out) hb); have n3_ := sd_ (bt_ (by repeat (first | (with_reducible first | exact HB.out | apply ba_ | apply pd_ | apply d1_ | refine bs_ ?_ GE269.out | refine bs_ ?_ GE270.out | refine bs_ ?_ GE280.out) | exact HB.out)) hb); clear BK269; clear BK270; clear BK280; clear HB; have BK269 := n0_; have BK270 := n1_; have BK280 := n2_; have HB := n3_; clear n0_ n1_ n2_ n3_; (try clear hb); (try clear hb2); (try clear hk); (try clear hi)) | (go_at_call 6; (with_reducible refine (neumelaw28_heads.calls kj16  t284 _ A62.out).mono ?_); rintro e w71 ⟨rfl, hb⟩; have n0_ := sd_ (blk_below (g := gb269) (o := .cells #[.int .i64 a0_0, .int .i64 a0_1] 23 (0, 0)) (by (with_reducible repeat (first | refine kn_ ?_ _ | refine kd_ ?_ | refine ka_ ?_ _)); exact BK269.out) hb); have n1_ := sd_ (blk_below (g := gb270) (o := .cells #[.int .i64 a1_0, .int .i64 a1_1] 23 (0, 0)) (by (with_reducible repeat (first | refine kn_ ?_ _ | refine kd_ ?_ | refine ka_ ?_ _)); exact BK270.out) hb); have n2_ := sd_ (blk_below (g := gb280) (o := .cells #[.int .i64 t277, .int .i64 t278] 23 (0, 0)) (by (with_reducible repeat (first | refine kn_ ?_ _ | refine kd_ ?_ | refine ka_ ?_ _)); exact BK280.out) hb); have n3_ := sd_ (bt_ (by repeat (first | (with_reducible first | exact HB.out | apply ba_ | apply pd_ | apply d1_ | refine bs_ ?_ GE269.out | refine bs_ ?_ GE270.out | refine bs_ ?_ GE280.out) | exact HB.out)) hb); clear BK269; clear BK270; clear BK280; clear HB; have BK269 := n0_; have BK270 := n1_; have BK280 := n2_; have HB := n3_; clear n0_ n1_ n2_ n3_; (try clear hb); (try clear hb2); (try clear hk); (try clear hi)))
             go_ret
             exact ⟨by first | rfl | (simp [errW_none, errW_some] <;> rfl) | (simp [*, errW_none, errW_some] <;> rfl), by repeat (first | (with_reducible first | exact HB.out | apply ba_ | apply pd_ | apply d1_ | refine bs_ ?_ GE269.out | refine bs_ ?_ GE270.out | refine bs_ ?_ GE280.out) | exact HB.out)⟩
            ·rw [if_neg c61] at H
             have c61b0 : (t281 == (wrap64 (t271 + 1228))) = false := beq_eq_false_iff_ne.mpr c61
             have c61b1 : (t281 != (wrap64 (t271 + 1228))) = true := bne_iff_ne.mpr c61
             obtain rfl := Option.some.inj H
             have hnb72 := NB269_270.out
             have hnc72 := NB270_269.out
             have hcz73_0 : wc.cell? ⟨gb269, 0, none⟩ = some (.int .i64 a0_0) := (kc_ BK269.out 0).trans rfl
             have hcz73_1 : wc.cell? ⟨gb269, 1, none⟩ = some (.int .i64 a0_1) := (kc_ BK269.out 1).trans rfl
             have hfz73_0 := kf_ BK269.out 0
             have hfz73_1 := kf_ BK269.out 1
             go_wp2_with (first | ((with_reducible refine gate_callee (f := 17) rfl ?_); refine goesL_ (some 50) rfl rfl Try.func17 (by kernel_rfl) rfl #[.agg #[.int .i64 a0_0, .int .i64 a0_1], .agg #[.int .i64 a0_0, .int .i64 a0_1]] rfl (by (try simp only [List.map_toArray, List.map_cons, List.map_nil]); first | done | rfl | (simp only [List.length_drop, List.length_take]; rfl)) ?_; (with_reducible refine (neumeref02_Add.calls kj16 a0_0 a0_1 a0_0 a0_1 t277 t278 t279 _ A44.out).mono ?_); rintro e w74 ⟨rfl, hb⟩; refine ⟨_, rfl, ?_⟩; have n0_ := sd_ (blk_below (g := gb269) (o := .cells #[.int .i64 a0_0, .int .i64 a0_1] 23 (0, 0)) (by (with_reducible repeat (first | refine kn_ ?_ _ | refine kd_ ?_ | refine ka_ ?_ _)); exact BK269.out) hb); have n1_ := sd_ (blk_below (g := gb270) (o := .cells #[.int .i64 a1_0, .int .i64 a1_1] 23 (0, 0)) (by (with_reducible repeat (first | refine kn_ ?_ _ | refine kd_ ?_ | refine ka_ ?_ _)); exact BK270.out) hb); have n2_ := sd_ (bt_ (by repeat (first | (with_reducible first | exact HB.out | apply ba_ | apply pd_ | apply d1_ | refine bs_ ?_ GE269.out | refine bs_ ?_ GE270.out) | exact HB.out)) hb); clear BK269; clear BK270; clear HB; have BK269 := n0_; have BK270 := n1_; have HB := n2_; clear n0_ n1_ n2_; (try clear hb); (try clear hb2); (try clear hk); (try clear hi)) | ((with_reducible refine gate_dst (N := 9) rfl ?_); refine box_event ?hg (N := 9) ?hd (cs := #[.int .i64 0, .int .i64 0]) (t := 23) ?hr ?_; (case hd => rfl); (case hg => rfl); (case hr => first | (go_simp; done) | (go_simp; rfl)); intro gb280 hg w75 hbox hb; have n0_ := sd_ (blk_below (g := gb269) (o := .cells #[.int .i64 a0_0, .int .i64 a0_1] 23 (0, 0)) (by (with_reducible repeat (first | refine kn_ ?_ _ | refine kd_ ?_ | refine ka_ ?_ _)); exact BK269.out) hb); have n1_ := sd_ (blk_below (g := gb270) (o := .cells #[.int .i64 a1_0, .int .i64 a1_1] 23 (0, 0)) (by (with_reducible repeat (first | refine kn_ ?_ _ | refine kd_ ?_ | refine ka_ ?_ _)); exact BK270.out) hb); have n2_ := sd_ (bt_ (by repeat (first | (with_reducible first | exact HB.out | apply ba_ | apply pd_ | apply d1_ | refine bs_ ?_ GE269.out | refine bs_ ?_ GE270.out) | exact HB.out)) hb); have n3_ := sd_ (hbox); have n4_ := sd_ ((by rw [hg]; exact (bz_ (by repeat (first | (with_reducible first | exact HB.out | apply ba_ | apply pd_ | apply d1_ | refine bs_ ?_ GE269.out | refine bs_ ?_ GE270.out) | exact HB.out))) : w.heap.size ≤ gb280)); have n5_ := sd_ ((by rw [hg]; exact (bz_ (by repeat (first | (with_reducible first | exact HB.out | apply ba_ | apply pd_ | apply d1_ | refine bs_ ?_ GE269.out | refine bs_ ?_ GE270.out) | exact HB.out))) : w.heap.size ≤ gb280)); have n6_ := sd_ ((by rw [hg]; exact nn_ (blk_lt (g := gb269) (o := .cells #[.int .i64 a0_0, .int .i64 a0_1] 23 (0, 0)) (by (with_reducible repeat (first | refine kn_ ?_ _ | refine kd_ ?_ | refine ka_ ?_ _)); exact BK269.out)) : gb269 ≠ gb280)); have n7_ := sd_ ((by rw [hg]; exact Nat.ne_of_gt (blk_lt (g := gb269) (o := .cells #[.int .i64 a0_0, .int .i64 a0_1] 23 (0, 0)) (by (with_reducible repeat (first | refine kn_ ?_ _ | refine kd_ ?_ | refine ka_ ?_ _)); exact BK269.out)) : gb280 ≠ gb269)); have n8_ := sd_ ((by rw [hg]; exact nn_ (blk_lt (g := gb270) (o := .cells #[.int .i64 a1_0, .int .i64 a1_1] 23 (0, 0)) (by (with_reducible repeat (first | refine kn_ ?_ _ | refine kd_ ?_ | refine ka_ ?_ _)); exact BK270.out)) : gb270 ≠ gb280)); have n9_ := sd_ ((by rw [hg]; exact Nat.ne_of_gt (blk_lt (g := gb270) (o := .cells #[.int .i64 a1_0, .int .i64 a1_1] 23 (0, 0)) (by (with_reducible repeat (first | refine kn_ ?_ _ | refine kd_ ?_ | refine ka_ ?_ _)); exact BK270.out)) : gb280 ≠ gb270)); clear BK269; clear BK270; clear HB; have BK269 := n0_; have BK270 := n1_; have HB := n2_; have BK280 := n3_; have GW280 := n4_; have GE280 := n5_; have NB269_280 := n6_; have NB280_269 := n7_; have NB270_280 := n8_; have NB280_270 := n9_; clear n0_ n1_ n2_ n3_ n4_ n5_ n6_ n7_ n8_ n9_; clear hb hbox hg; have hnb76 := NB280_269.out; have hnc76 := NB269_280.out; have hnb77 := NB280_270.out; have hnc77 := NB270_280.out; have hcz78_0 : w75.cell? ⟨gb280, 0, none⟩ = some (.int .i64 0) := (kc_ BK280.out 0).trans rfl; have hcz78_1 : w75.cell? ⟨gb280, 1, none⟩ = some (.int .i64 0) := (kc_ BK280.out 1).trans rfl; have hfz78_0 := kf_ BK280.out 0; have hfz78_1 := kf_ BK280.out 1) | ((with_reducible refine gate_callee (f := 7) rfl ?_); refine goesL_ (some 55) rfl rfl Try.func7 (by kernel_rfl) rfl #[.agg #[.int .i64 t277, .int .i64 t278]] rfl (by (try simp only [List.map_toArray, List.map_cons, List.map_nil]); first | done | rfl | (simp only [List.length_drop, List.length_take]; rfl)) ?_; (with_reducible refine (spring_Ideal.calls kj16 t277 t278 t281 t282 _ A45.out).mono ?_); rintro e w79 ⟨rfl, hb⟩; refine ⟨_, rfl, ?_⟩; have n0_ := sd_ (blk_below (g := gb269) (o := .cells #[.int .i64 a0_0, .int .i64 a0_1] 23 (0, 0)) (by (with_reducible repeat (first | refine kn_ ?_ _ | refine kd_ ?_ | refine ka_ ?_ _)); refine blk_far ?_ NB269_280.out _; (with_reducible repeat (first | refine kn_ ?_ _ | refine kd_ ?_ | refine ka_ ?_ _)); refine blk_far ?_ NB269_280.out _; (with_reducible repeat (first | refine kn_ ?_ _ | refine kd_ ?_ | refine ka_ ?_ _)); exact BK269.out) hb); have n1_ := sd_ (blk_below (g := gb270) (o := .cells #[.int .i64 a1_0, .int .i64 a1_1] 23 (0, 0)) (by (with_reducible repeat (first | refine kn_ ?_ _ | refine kd_ ?_ | refine ka_ ?_ _)); refine blk_far ?_ NB270_280.out _; (with_reducible repeat (first | refine kn_ ?_ _ | refine kd_ ?_ | refine ka_ ?_ _)); refine blk_far ?_ NB270_280.out _; (with_reducible repeat (first | refine kn_ ?_ _ | refine kd_ ?_ | refine ka_ ?_ _)); exact BK270.out) hb); have n2_ := sd_ (blk_below (g := gb280) (o := .cells #[.int .i64 t277, .int .i64 t278] 23 (0, 0)) (by (with_reducible repeat (first | refine kn_ ?_ _ | refine kd_ ?_ | refine ka_ ?_ _)); refine blk_put (cs := #[.int .i64 t277, .int .i64 0]) ?_ 1 _ rfl; (with_reducible repeat (first | refine kn_ ?_ _ | refine kd_ ?_ | refine ka_ ?_ _)); refine blk_put (cs := #[.int .i64 0, .int .i64 0]) ?_ 0 _ rfl; (with_reducible repeat (first | refine kn_ ?_ _ | refine kd_ ?_ | refine ka_ ?_ _)); exact BK280.out) hb); have n3_ := sd_ (bt_ (by repeat (first | (with_reducible first | exact HB.out | apply ba_ | apply pd_ | apply d1_ | refine bs_ ?_ GE269.out | refine bs_ ?_ GE270.out | refine bs_ ?_ GE280.out) | exact HB.out)) hb); clear BK269; clear BK270; clear BK280; clear HB; have BK269 := n0_; have BK270 := n1_; have BK280 := n2_; have HB := n3_; clear n0_ n1_ n2_ n3_; (try clear hb); (try clear hb2); (try clear hk); (try clear hi)))
             go_ret
             exact ⟨by first | rfl | (simp [errW_none, errW_some] <;> rfl) | (simp [*, errW_none, errW_some] <;> rfl), by repeat (first | (with_reducible first | exact HB.out | apply ba_ | apply pd_ | apply d1_ | refine bs_ ?_ GE269.out | refine bs_ ?_ GE270.out | refine bs_ ?_ GE280.out) | exact HB.out)⟩
          ·rw [if_neg c49] at H
           have c49b0 : decide (t271 ≤ t281) = false := df_ c49
           clear c49
           by_cases c80 : t281 = (wrap64 (t271 + 1228))
           ·rw [if_pos c80] at H
            have c80b0 : (t281 == (wrap64 (t271 + 1228))) = true := beq_iff_eq.mpr c80
            have c80b1 : (t281 != (wrap64 (t271 + 1228))) = false := bne_eq_false_iff_eq.mpr c80
            clear c80
            replace H := ob_ H
            obtain ⟨t285, A810, H⟩ := H
            replace H : (some t285) = some r := H
            have A81 := sd_ A810
            clear A810
            obtain rfl := Option.some.inj H
            have hnb82 := NB269_270.out
            have hnc82 := NB270_269.out
            have hcz83_0 : wc.cell? ⟨gb269, 0, none⟩ = some (.int .i64 a0_0) := (kc_ BK269.out 0).trans rfl
            have hcz83_1 : wc.cell? ⟨gb269, 1, none⟩ = some (.int .i64 a0_1) := (kc_ BK269.out 1).trans rfl
            have hfz83_0 := kf_ BK269.out 0
            have hfz83_1 := kf_ BK269.out 1
            go_wp2_with (first | ((with_reducible refine gate_callee (f := 17) rfl ?_); refine goesL_ (some 50) rfl rfl Try.func17 (by kernel_rfl) rfl #[.agg #[.int .i64 a0_0, .int .i64 a0_1], .agg #[.int .i64 a0_0, .int .i64 a0_1]] rfl (by (try simp only [List.map_toArray, List.map_cons, List.map_nil]); first | done | rfl | (simp only [List.length_drop, List.length_take]; rfl)) ?_; (with_reducible refine (neumeref02_Add.calls kj16 a0_0 a0_1 a0_0 a0_1 t277 t278 t279 _ A44.out).mono ?_); rintro e w84 ⟨rfl, hb⟩; refine ⟨_, rfl, ?_⟩; have n0_ := sd_ (blk_below (g := gb269) (o := .cells #[.int .i64 a0_0, .int .i64 a0_1] 23 (0, 0)) (by (with_reducible repeat (first | refine kn_ ?_ _ | refine kd_ ?_ | refine ka_ ?_ _)); exact BK269.out) hb); have n1_ := sd_ (blk_below (g := gb270) (o := .cells #[.int .i64 a1_0, .int .i64 a1_1] 23 (0, 0)) (by (with_reducible repeat (first | refine kn_ ?_ _ | refine kd_ ?_ | refine ka_ ?_ _)); exact BK270.out) hb); have n2_ := sd_ (bt_ (by repeat (first | (with_reducible first | exact HB.out | apply ba_ | apply pd_ | apply d1_ | refine bs_ ?_ GE269.out | refine bs_ ?_ GE270.out) | exact HB.out)) hb); clear BK269; clear BK270; clear HB; have BK269 := n0_; have BK270 := n1_; have HB := n2_; clear n0_ n1_ n2_; (try clear hb); (try clear hb2); (try clear hk); (try clear hi)) | ((with_reducible refine gate_dst (N := 9) rfl ?_); refine box_event ?hg (N := 9) ?hd (cs := #[.int .i64 0, .int .i64 0]) (t := 23) ?hr ?_; (case hd => rfl); (case hg => rfl); (case hr => first | (go_simp; done) | (go_simp; rfl)); intro gb280 hg w85 hbox hb; have n0_ := sd_ (blk_below (g := gb269) (o := .cells #[.int .i64 a0_0, .int .i64 a0_1] 23 (0, 0)) (by (with_reducible repeat (first | refine kn_ ?_ _ | refine kd_ ?_ | refine ka_ ?_ _)); exact BK269.out) hb); have n1_ := sd_ (blk_below (g := gb270) (o := .cells #[.int .i64 a1_0, .int .i64 a1_1] 23 (0, 0)) (by (with_reducible repeat (first | refine kn_ ?_ _ | refine kd_ ?_ | refine ka_ ?_ _)); exact BK270.out) hb); have n2_ := sd_ (bt_ (by repeat (first | (with_reducible first | exact HB.out | apply ba_ | apply pd_ | apply d1_ | refine bs_ ?_ GE269.out | refine bs_ ?_ GE270.out) | exact HB.out)) hb); have n3_ := sd_ (hbox); have n4_ := sd_ ((by rw [hg]; exact (bz_ (by repeat (first | (with_reducible first | exact HB.out | apply ba_ | apply pd_ | apply d1_ | refine bs_ ?_ GE269.out | refine bs_ ?_ GE270.out) | exact HB.out))) : w.heap.size ≤ gb280)); have n5_ := sd_ ((by rw [hg]; exact (bz_ (by repeat (first | (with_reducible first | exact HB.out | apply ba_ | apply pd_ | apply d1_ | refine bs_ ?_ GE269.out | refine bs_ ?_ GE270.out) | exact HB.out))) : w.heap.size ≤ gb280)); have n6_ := sd_ ((by rw [hg]; exact nn_ (blk_lt (g := gb269) (o := .cells #[.int .i64 a0_0, .int .i64 a0_1] 23 (0, 0)) (by (with_reducible repeat (first | refine kn_ ?_ _ | refine kd_ ?_ | refine ka_ ?_ _)); exact BK269.out)) : gb269 ≠ gb280)); have n7_ := sd_ ((by rw [hg]; exact Nat.ne_of_gt (blk_lt (g := gb269) (o := .cells #[.int .i64 a0_0, .int .i64 a0_1] 23 (0, 0)) (by (with_reducible repeat (first | refine kn_ ?_ _ | refine kd_ ?_ | refine ka_ ?_ _)); exact BK269.out)) : gb280 ≠ gb269)); have n8_ := sd_ ((by rw [hg]; exact nn_ (blk_lt (g := gb270) (o := .cells #[.int .i64 a1_0, .int .i64 a1_1] 23 (0, 0)) (by (with_reducible repeat (first | refine kn_ ?_ _ | refine kd_ ?_ | refine ka_ ?_ _)); exact BK270.out)) : gb270 ≠ gb280)); have n9_ := sd_ ((by rw [hg]; exact Nat.ne_of_gt (blk_lt (g := gb270) (o := .cells #[.int .i64 a1_0, .int .i64 a1_1] 23 (0, 0)) (by (with_reducible repeat (first | refine kn_ ?_ _ | refine kd_ ?_ | refine ka_ ?_ _)); exact BK270.out)) : gb280 ≠ gb270)); clear BK269; clear BK270; clear HB; have BK269 := n0_; have BK270 := n1_; have HB := n2_; have BK280 := n3_; have GW280 := n4_; have GE280 := n5_; have NB269_280 := n6_; have NB280_269 := n7_; have NB270_280 := n8_; have NB280_270 := n9_; clear n0_ n1_ n2_ n3_ n4_ n5_ n6_ n7_ n8_ n9_; clear hb hbox hg; have hnb86 := NB280_269.out; have hnc86 := NB269_280.out; have hnb87 := NB280_270.out; have hnc87 := NB270_280.out; have hcz88_0 : w85.cell? ⟨gb280, 0, none⟩ = some (.int .i64 0) := (kc_ BK280.out 0).trans rfl; have hcz88_1 : w85.cell? ⟨gb280, 1, none⟩ = some (.int .i64 0) := (kc_ BK280.out 1).trans rfl; have hfz88_0 := kf_ BK280.out 0; have hfz88_1 := kf_ BK280.out 1) | ((with_reducible refine gate_callee (f := 7) rfl ?_); refine goesL_ (some 55) rfl rfl Try.func7 (by kernel_rfl) rfl #[.agg #[.int .i64 t277, .int .i64 t278]] rfl (by (try simp only [List.map_toArray, List.map_cons, List.map_nil]); first | done | rfl | (simp only [List.length_drop, List.length_take]; rfl)) ?_; (with_reducible refine (spring_Ideal.calls kj16 t277 t278 t281 t282 _ A45.out).mono ?_); rintro e w89 ⟨rfl, hb⟩; refine ⟨_, rfl, ?_⟩; have n0_ := sd_ (blk_below (g := gb269) (o := .cells #[.int .i64 a0_0, .int .i64 a0_1] 23 (0, 0)) (by (with_reducible repeat (first | refine kn_ ?_ _ | refine kd_ ?_ | refine ka_ ?_ _)); refine blk_far ?_ NB269_280.out _; (with_reducible repeat (first | refine kn_ ?_ _ | refine kd_ ?_ | refine ka_ ?_ _)); refine blk_far ?_ NB269_280.out _; (with_reducible repeat (first | refine kn_ ?_ _ | refine kd_ ?_ | refine ka_ ?_ _)); exact BK269.out) hb); have n1_ := sd_ (blk_below (g := gb270) (o := .cells #[.int .i64 a1_0, .int .i64 a1_1] 23 (0, 0)) (by (with_reducible repeat (first | refine kn_ ?_ _ | refine kd_ ?_ | refine ka_ ?_ _)); refine blk_far ?_ NB270_280.out _; (with_reducible repeat (first | refine kn_ ?_ _ | refine kd_ ?_ | refine ka_ ?_ _)); refine blk_far ?_ NB270_280.out _; (with_reducible repeat (first | refine kn_ ?_ _ | refine kd_ ?_ | refine ka_ ?_ _)); exact BK270.out) hb); have n2_ := sd_ (blk_below (g := gb280) (o := .cells #[.int .i64 t277, .int .i64 t278] 23 (0, 0)) (by (with_reducible repeat (first | refine kn_ ?_ _ | refine kd_ ?_ | refine ka_ ?_ _)); refine blk_put (cs := #[.int .i64 t277, .int .i64 0]) ?_ 1 _ rfl; (with_reducible repeat (first | refine kn_ ?_ _ | refine kd_ ?_ | refine ka_ ?_ _)); refine blk_put (cs := #[.int .i64 0, .int .i64 0]) ?_ 0 _ rfl; (with_reducible repeat (first | refine kn_ ?_ _ | refine kd_ ?_ | refine ka_ ?_ _)); exact BK280.out) hb); have n3_ := sd_ (bt_ (by repeat (first | (with_reducible first | exact HB.out | apply ba_ | apply pd_ | apply d1_ | refine bs_ ?_ GE269.out | refine bs_ ?_ GE270.out | refine bs_ ?_ GE280.out) | exact HB.out)) hb); clear BK269; clear BK270; clear BK280; clear HB; have BK269 := n0_; have BK270 := n1_; have BK280 := n2_; have HB := n3_; clear n0_ n1_ n2_ n3_; (try clear hb); (try clear hb2); (try clear hk); (try clear hi)) | (go_at_call 6; (with_reducible refine (neumelaw28_heads.calls kj16  t285 _ A81.out).mono ?_); rintro e w90 ⟨rfl, hb⟩; have n0_ := sd_ (blk_below (g := gb269) (o := .cells #[.int .i64 a0_0, .int .i64 a0_1] 23 (0, 0)) (by (with_reducible repeat (first | refine kn_ ?_ _ | refine kd_ ?_ | refine ka_ ?_ _)); exact BK269.out) hb); have n1_ := sd_ (blk_below (g := gb270) (o := .cells #[.int .i64 a1_0, .int .i64 a1_1] 23 (0, 0)) (by (with_reducible repeat (first | refine kn_ ?_ _ | refine kd_ ?_ | refine ka_ ?_ _)); exact BK270.out) hb); have n2_ := sd_ (blk_below (g := gb280) (o := .cells #[.int .i64 t277, .int .i64 t278] 23 (0, 0)) (by (with_reducible repeat (first | refine kn_ ?_ _ | refine kd_ ?_ | refine ka_ ?_ _)); exact BK280.out) hb); have n3_ := sd_ (bt_ (by repeat (first | (with_reducible first | exact HB.out | apply ba_ | apply pd_ | apply d1_ | refine bs_ ?_ GE269.out | refine bs_ ?_ GE270.out | refine bs_ ?_ GE280.out) | exact HB.out)) hb); clear BK269; clear BK270; clear BK280; clear HB; have BK269 := n0_; have BK270 := n1_; have BK280 := n2_; have HB := n3_; clear n0_ n1_ n2_ n3_; (try clear hb); (try clear hb2); (try clear hk); (try clear hi)))
            go_ret
            exact ⟨by first | rfl | (simp [errW_none, errW_some] <;> rfl) | (simp [*, errW_none, errW_some] <;> rfl), by repeat (first | (with_reducible first | exact HB.out | apply ba_ | apply pd_ | apply d1_ | refine bs_ ?_ GE269.out | refine bs_ ?_ GE270.out | refine bs_ ?_ GE280.out) | exact HB.out)⟩
           ·rw [if_neg c80] at H
            have c80b0 : (t281 == (wrap64 (t271 + 1228))) = false := beq_eq_false_iff_ne.mpr c80
            have c80b1 : (t281 != (wrap64 (t271 + 1228))) = true := bne_iff_ne.mpr c80
            obtain rfl := Option.some.inj H
            have hnb91 := NB269_270.out
            have hnc91 := NB270_269.out
            have hcz92_0 : wc.cell? ⟨gb269, 0, none⟩ = some (.int .i64 a0_0) := (kc_ BK269.out 0).trans rfl
            have hcz92_1 : wc.cell? ⟨gb269, 1, none⟩ = some (.int .i64 a0_1) := (kc_ BK269.out 1).trans rfl
            have hfz92_0 := kf_ BK269.out 0
            have hfz92_1 := kf_ BK269.out 1
            go_wp2_with (first | ((with_reducible refine gate_callee (f := 17) rfl ?_); refine goesL_ (some 50) rfl rfl Try.func17 (by kernel_rfl) rfl #[.agg #[.int .i64 a0_0, .int .i64 a0_1], .agg #[.int .i64 a0_0, .int .i64 a0_1]] rfl (by (try simp only [List.map_toArray, List.map_cons, List.map_nil]); first | done | rfl | (simp only [List.length_drop, List.length_take]; rfl)) ?_; (with_reducible refine (neumeref02_Add.calls kj16 a0_0 a0_1 a0_0 a0_1 t277 t278 t279 _ A44.out).mono ?_); rintro e w93 ⟨rfl, hb⟩; refine ⟨_, rfl, ?_⟩; have n0_ := sd_ (blk_below (g := gb269) (o := .cells #[.int .i64 a0_0, .int .i64 a0_1] 23 (0, 0)) (by (with_reducible repeat (first | refine kn_ ?_ _ | refine kd_ ?_ | refine ka_ ?_ _)); exact BK269.out) hb); have n1_ := sd_ (blk_below (g := gb270) (o := .cells #[.int .i64 a1_0, .int .i64 a1_1] 23 (0, 0)) (by (with_reducible repeat (first | refine kn_ ?_ _ | refine kd_ ?_ | refine ka_ ?_ _)); exact BK270.out) hb); have n2_ := sd_ (bt_ (by repeat (first | (with_reducible first | exact HB.out | apply ba_ | apply pd_ | apply d1_ | refine bs_ ?_ GE269.out | refine bs_ ?_ GE270.out) | exact HB.out)) hb); clear BK269; clear BK270; clear HB; have BK269 := n0_; have BK270 := n1_; have HB := n2_; clear n0_ n1_ n2_; (try clear hb); (try clear hb2); (try clear hk); (try clear hi)) | ((with_reducible refine gate_dst (N := 9) rfl ?_); refine box_event ?hg (N := 9) ?hd (cs := #[.int .i64 0, .int .i64 0]) (t := 23) ?hr ?_; (case hd => rfl); (case hg => rfl); (case hr => first | (go_simp; done) | (go_simp; rfl)); intro gb280 hg w94 hbox hb; have n0_ := sd_ (blk_below (g := gb269) (o := .cells #[.int .i64 a0_0, .int .i64 a0_1] 23 (0, 0)) (by (with_reducible repeat (first | refine kn_ ?_ _ | refine kd_ ?_ | refine ka_ ?_ _)); exact BK269.out) hb); have n1_ := sd_ (blk_below (g := gb270) (o := .cells #[.int .i64 a1_0, .int .i64 a1_1] 23 (0, 0)) (by (with_reducible repeat (first | refine kn_ ?_ _ | refine kd_ ?_ | refine ka_ ?_ _)); exact BK270.out) hb); have n2_ := sd_ (bt_ (by repeat (first | (with_reducible first | exact HB.out | apply ba_ | apply pd_ | apply d1_ | refine bs_ ?_ GE269.out | refine bs_ ?_ GE270.out) | exact HB.out)) hb); have n3_ := sd_ (hbox); have n4_ := sd_ ((by rw [hg]; exact (bz_ (by repeat (first | (with_reducible first | exact HB.out | apply ba_ | apply pd_ | apply d1_ | refine bs_ ?_ GE269.out | refine bs_ ?_ GE270.out) | exact HB.out))) : w.heap.size ≤ gb280)); have n5_ := sd_ ((by rw [hg]; exact (bz_ (by repeat (first | (with_reducible first | exact HB.out | apply ba_ | apply pd_ | apply d1_ | refine bs_ ?_ GE269.out | refine bs_ ?_ GE270.out) | exact HB.out))) : w.heap.size ≤ gb280)); have n6_ := sd_ ((by rw [hg]; exact nn_ (blk_lt (g := gb269) (o := .cells #[.int .i64 a0_0, .int .i64 a0_1] 23 (0, 0)) (by (with_reducible repeat (first | refine kn_ ?_ _ | refine kd_ ?_ | refine ka_ ?_ _)); exact BK269.out)) : gb269 ≠ gb280)); have n7_ := sd_ ((by rw [hg]; exact Nat.ne_of_gt (blk_lt (g := gb269) (o := .cells #[.int .i64 a0_0, .int .i64 a0_1] 23 (0, 0)) (by (with_reducible repeat (first | refine kn_ ?_ _ | refine kd_ ?_ | refine ka_ ?_ _)); exact BK269.out)) : gb280 ≠ gb269)); have n8_ := sd_ ((by rw [hg]; exact nn_ (blk_lt (g := gb270) (o := .cells #[.int .i64 a1_0, .int .i64 a1_1] 23 (0, 0)) (by (with_reducible repeat (first | refine kn_ ?_ _ | refine kd_ ?_ | refine ka_ ?_ _)); exact BK270.out)) : gb270 ≠ gb280)); have n9_ := sd_ ((by rw [hg]; exact Nat.ne_of_gt (blk_lt (g := gb270) (o := .cells #[.int .i64 a1_0, .int .i64 a1_1] 23 (0, 0)) (by (with_reducible repeat (first | refine kn_ ?_ _ | refine kd_ ?_ | refine ka_ ?_ _)); exact BK270.out)) : gb280 ≠ gb270)); clear BK269; clear BK270; clear HB; have BK269 := n0_; have BK270 := n1_; have HB := n2_; have BK280 := n3_; have GW280 := n4_; have GE280 := n5_; have NB269_280 := n6_; have NB280_269 := n7_; have NB270_280 := n8_; have NB280_270 := n9_; clear n0_ n1_ n2_ n3_ n4_ n5_ n6_ n7_ n8_ n9_; clear hb hbox hg; have hnb95 := NB280_269.out; have hnc95 := NB269_280.out; have hnb96 := NB280_270.out; have hnc96 := NB270_280.out; have hcz97_0 : w94.cell? ⟨gb280, 0, none⟩ = some (.int .i64 0) := (kc_ BK280.out 0).trans rfl; have hcz97_1 : w94.cell? ⟨gb280, 1, none⟩ = some (.int .i64 0) := (kc_ BK280.out 1).trans rfl; have hfz97_0 := kf_ BK280.out 0; have hfz97_1 := kf_ BK280.out 1) | ((with_reducible refine gate_callee (f := 7) rfl ?_); refine goesL_ (some 55) rfl rfl Try.func7 (by kernel_rfl) rfl #[.agg #[.int .i64 t277, .int .i64 t278]] rfl (by (try simp only [List.map_toArray, List.map_cons, List.map_nil]); first | done | rfl | (simp only [List.length_drop, List.length_take]; rfl)) ?_; (with_reducible refine (spring_Ideal.calls kj16 t277 t278 t281 t282 _ A45.out).mono ?_); rintro e w98 ⟨rfl, hb⟩; refine ⟨_, rfl, ?_⟩; have n0_ := sd_ (blk_below (g := gb269) (o := .cells #[.int .i64 a0_0, .int .i64 a0_1] 23 (0, 0)) (by (with_reducible repeat (first | refine kn_ ?_ _ | refine kd_ ?_ | refine ka_ ?_ _)); refine blk_far ?_ NB269_280.out _; (with_reducible repeat (first | refine kn_ ?_ _ | refine kd_ ?_ | refine ka_ ?_ _)); refine blk_far ?_ NB269_280.out _; (with_reducible repeat (first | refine kn_ ?_ _ | refine kd_ ?_ | refine ka_ ?_ _)); exact BK269.out) hb); have n1_ := sd_ (blk_below (g := gb270) (o := .cells #[.int .i64 a1_0, .int .i64 a1_1] 23 (0, 0)) (by (with_reducible repeat (first | refine kn_ ?_ _ | refine kd_ ?_ | refine ka_ ?_ _)); refine blk_far ?_ NB270_280.out _; (with_reducible repeat (first | refine kn_ ?_ _ | refine kd_ ?_ | refine ka_ ?_ _)); refine blk_far ?_ NB270_280.out _; (with_reducible repeat (first | refine kn_ ?_ _ | refine kd_ ?_ | refine ka_ ?_ _)); exact BK270.out) hb); have n2_ := sd_ (blk_below (g := gb280) (o := .cells #[.int .i64 t277, .int .i64 t278] 23 (0, 0)) (by (with_reducible repeat (first | refine kn_ ?_ _ | refine kd_ ?_ | refine ka_ ?_ _)); refine blk_put (cs := #[.int .i64 t277, .int .i64 0]) ?_ 1 _ rfl; (with_reducible repeat (first | refine kn_ ?_ _ | refine kd_ ?_ | refine ka_ ?_ _)); refine blk_put (cs := #[.int .i64 0, .int .i64 0]) ?_ 0 _ rfl; (with_reducible repeat (first | refine kn_ ?_ _ | refine kd_ ?_ | refine ka_ ?_ _)); exact BK280.out) hb); have n3_ := sd_ (bt_ (by repeat (first | (with_reducible first | exact HB.out | apply ba_ | apply pd_ | apply d1_ | refine bs_ ?_ GE269.out | refine bs_ ?_ GE270.out | refine bs_ ?_ GE280.out) | exact HB.out)) hb); clear BK269; clear BK270; clear BK280; clear HB; have BK269 := n0_; have BK270 := n1_; have BK280 := n2_; have HB := n3_; clear n0_ n1_ n2_ n3_; (try clear hb); (try clear hb2); (try clear hk); (try clear hi)))
            go_ret
            exact ⟨by first | rfl | (simp [errW_none, errW_some] <;> rfl) | (simp [*, errW_none, errW_some] <;> rfl), by repeat (first | (with_reducible first | exact HB.out | apply ba_ | apply pd_ | apply d1_ | refine bs_ ?_ GE269.out | refine bs_ ?_ GE270.out | refine bs_ ?_ GE280.out) | exact HB.out)⟩
         ·rw [if_neg c48] at H
          have c48b0 : (t271 == 600) = false := beq_eq_false_iff_ne.mpr c48
          have c48b1 : (t271 != 600) = true := bne_iff_ne.mpr c48
          by_cases c99 : t281 = (wrap64 (t271 + 1228))
          ·rw [if_pos c99] at H
           have c99b0 : (t281 == (wrap64 (t271 + 1228))) = true := beq_iff_eq.mpr c99
           have c99b1 : (t281 != (wrap64 (t271 + 1228))) = false := bne_eq_false_iff_eq.mpr c99
           clear c99
           replace H := ob_ H
           obtain ⟨t286, A1000, H⟩ := H
           replace H : (some t286) = some r := H
           have A100 := sd_ A1000
           clear A1000
           obtain rfl := Option.some.inj H
           have hnb101 := NB269_270.out
           have hnc101 := NB270_269.out
           have hcz102_0 : wc.cell? ⟨gb269, 0, none⟩ = some (.int .i64 a0_0) := (kc_ BK269.out 0).trans rfl
           have hcz102_1 : wc.cell? ⟨gb269, 1, none⟩ = some (.int .i64 a0_1) := (kc_ BK269.out 1).trans rfl
           have hfz102_0 := kf_ BK269.out 0
           have hfz102_1 := kf_ BK269.out 1
           go_wp2_with (first | ((with_reducible refine gate_callee (f := 17) rfl ?_); refine goesL_ (some 50) rfl rfl Try.func17 (by kernel_rfl) rfl #[.agg #[.int .i64 a0_0, .int .i64 a0_1], .agg #[.int .i64 a0_0, .int .i64 a0_1]] rfl (by (try simp only [List.map_toArray, List.map_cons, List.map_nil]); first | done | rfl | (simp only [List.length_drop, List.length_take]; rfl)) ?_; (with_reducible refine (neumeref02_Add.calls kj16 a0_0 a0_1 a0_0 a0_1 t277 t278 t279 _ A44.out).mono ?_); rintro e w103 ⟨rfl, hb⟩; refine ⟨_, rfl, ?_⟩; have n0_ := sd_ (blk_below (g := gb269) (o := .cells #[.int .i64 a0_0, .int .i64 a0_1] 23 (0, 0)) (by (with_reducible repeat (first | refine kn_ ?_ _ | refine kd_ ?_ | refine ka_ ?_ _)); exact BK269.out) hb); have n1_ := sd_ (blk_below (g := gb270) (o := .cells #[.int .i64 a1_0, .int .i64 a1_1] 23 (0, 0)) (by (with_reducible repeat (first | refine kn_ ?_ _ | refine kd_ ?_ | refine ka_ ?_ _)); exact BK270.out) hb); have n2_ := sd_ (bt_ (by repeat (first | (with_reducible first | exact HB.out | apply ba_ | apply pd_ | apply d1_ | refine bs_ ?_ GE269.out | refine bs_ ?_ GE270.out) | exact HB.out)) hb); clear BK269; clear BK270; clear HB; have BK269 := n0_; have BK270 := n1_; have HB := n2_; clear n0_ n1_ n2_; (try clear hb); (try clear hb2); (try clear hk); (try clear hi)) | ((with_reducible refine gate_dst (N := 9) rfl ?_); refine box_event ?hg (N := 9) ?hd (cs := #[.int .i64 0, .int .i64 0]) (t := 23) ?hr ?_; (case hd => rfl); (case hg => rfl); (case hr => first | (go_simp; done) | (go_simp; rfl)); intro gb280 hg w104 hbox hb; have n0_ := sd_ (blk_below (g := gb269) (o := .cells #[.int .i64 a0_0, .int .i64 a0_1] 23 (0, 0)) (by (with_reducible repeat (first | refine kn_ ?_ _ | refine kd_ ?_ | refine ka_ ?_ _)); exact BK269.out) hb); have n1_ := sd_ (blk_below (g := gb270) (o := .cells #[.int .i64 a1_0, .int .i64 a1_1] 23 (0, 0)) (by (with_reducible repeat (first | refine kn_ ?_ _ | refine kd_ ?_ | refine ka_ ?_ _)); exact BK270.out) hb); have n2_ := sd_ (bt_ (by repeat (first | (with_reducible first | exact HB.out | apply ba_ | apply pd_ | apply d1_ | refine bs_ ?_ GE269.out | refine bs_ ?_ GE270.out) | exact HB.out)) hb); have n3_ := sd_ (hbox); have n4_ := sd_ ((by rw [hg]; exact (bz_ (by repeat (first | (with_reducible first | exact HB.out | apply ba_ | apply pd_ | apply d1_ | refine bs_ ?_ GE269.out | refine bs_ ?_ GE270.out) | exact HB.out))) : w.heap.size ≤ gb280)); have n5_ := sd_ ((by rw [hg]; exact (bz_ (by repeat (first | (with_reducible first | exact HB.out | apply ba_ | apply pd_ | apply d1_ | refine bs_ ?_ GE269.out | refine bs_ ?_ GE270.out) | exact HB.out))) : w.heap.size ≤ gb280)); have n6_ := sd_ ((by rw [hg]; exact nn_ (blk_lt (g := gb269) (o := .cells #[.int .i64 a0_0, .int .i64 a0_1] 23 (0, 0)) (by (with_reducible repeat (first | refine kn_ ?_ _ | refine kd_ ?_ | refine ka_ ?_ _)); exact BK269.out)) : gb269 ≠ gb280)); have n7_ := sd_ ((by rw [hg]; exact Nat.ne_of_gt (blk_lt (g := gb269) (o := .cells #[.int .i64 a0_0, .int .i64 a0_1] 23 (0, 0)) (by (with_reducible repeat (first | refine kn_ ?_ _ | refine kd_ ?_ | refine ka_ ?_ _)); exact BK269.out)) : gb280 ≠ gb269)); have n8_ := sd_ ((by rw [hg]; exact nn_ (blk_lt (g := gb270) (o := .cells #[.int .i64 a1_0, .int .i64 a1_1] 23 (0, 0)) (by (with_reducible repeat (first | refine kn_ ?_ _ | refine kd_ ?_ | refine ka_ ?_ _)); exact BK270.out)) : gb270 ≠ gb280)); have n9_ := sd_ ((by rw [hg]; exact Nat.ne_of_gt (blk_lt (g := gb270) (o := .cells #[.int .i64 a1_0, .int .i64 a1_1] 23 (0, 0)) (by (with_reducible repeat (first | refine kn_ ?_ _ | refine kd_ ?_ | refine ka_ ?_ _)); exact BK270.out)) : gb280 ≠ gb270)); clear BK269; clear BK270; clear HB; have BK269 := n0_; have BK270 := n1_; have HB := n2_; have BK280 := n3_; have GW280 := n4_; have GE280 := n5_; have NB269_280 := n6_; have NB280_269 := n7_; have NB270_280 := n8_; have NB280_270 := n9_; clear n0_ n1_ n2_ n3_ n4_ n5_ n6_ n7_ n8_ n9_; clear hb hbox hg; have hnb105 := NB280_269.out; have hnc105 := NB269_280.out; have hnb106 := NB280_270.out; have hnc106 := NB270_280.out; have hcz107_0 : w104.cell? ⟨gb280, 0, none⟩ = some (.int .i64 0) := (kc_ BK280.out 0).trans rfl; have hcz107_1 : w104.cell? ⟨gb280, 1, none⟩ = some (.int .i64 0) := (kc_ BK280.out 1).trans rfl; have hfz107_0 := kf_ BK280.out 0; have hfz107_1 := kf_ BK280.out 1) | ((with_reducible refine gate_callee (f := 7) rfl ?_); refine goesL_ (some 55) rfl rfl Try.func7 (by kernel_rfl) rfl #[.agg #[.int .i64 t277, .int .i64 t278]] rfl (by (try simp only [List.map_toArray, List.map_cons, List.map_nil]); first | done | rfl | (simp only [List.length_drop, List.length_take]; rfl)) ?_; (with_reducible refine (spring_Ideal.calls kj16 t277 t278 t281 t282 _ A45.out).mono ?_); rintro e w108 ⟨rfl, hb⟩; refine ⟨_, rfl, ?_⟩; have n0_ := sd_ (blk_below (g := gb269) (o := .cells #[.int .i64 a0_0, .int .i64 a0_1] 23 (0, 0)) (by (with_reducible repeat (first | refine kn_ ?_ _ | refine kd_ ?_ | refine ka_ ?_ _)); refine blk_far ?_ NB269_280.out _; (with_reducible repeat (first | refine kn_ ?_ _ | refine kd_ ?_ | refine ka_ ?_ _)); refine blk_far ?_ NB269_280.out _; (with_reducible repeat (first | refine kn_ ?_ _ | refine kd_ ?_ | refine ka_ ?_ _)); exact BK269.out) hb); have n1_ := sd_ (blk_below (g := gb270) (o := .cells #[.int .i64 a1_0, .int .i64 a1_1] 23 (0, 0)) (by (with_reducible repeat (first | refine kn_ ?_ _ | refine kd_ ?_ | refine ka_ ?_ _)); refine blk_far ?_ NB270_280.out _; (with_reducible repeat (first | refine kn_ ?_ _ | refine kd_ ?_ | refine ka_ ?_ _)); refine blk_far ?_ NB270_280.out _; (with_reducible repeat (first | refine kn_ ?_ _ | refine kd_ ?_ | refine ka_ ?_ _)); exact BK270.out) hb); have n2_ := sd_ (blk_below (g := gb280) (o := .cells #[.int .i64 t277, .int .i64 t278] 23 (0, 0)) (by (with_reducible repeat (first | refine kn_ ?_ _ | refine kd_ ?_ | refine ka_ ?_ _)); refine blk_put (cs := #[.int .i64 t277, .int .i64 0]) ?_ 1 _ rfl; (with_reducible repeat (first | refine kn_ ?_ _ | refine kd_ ?_ | refine ka_ ?_ _)); refine blk_put (cs := #[.int .i64 0, .int .i64 0]) ?_ 0 _ rfl; (with_reducible repeat (first | refine kn_ ?_ _ | refine kd_ ?_ | refine ka_ ?_ _)); exact BK280.out) hb); have n3_ := sd_ (bt_ (by repeat (first | (with_reducible first | exact HB.out | apply ba_ | apply pd_ | apply d1_ | refine bs_ ?_ GE269.out | refine bs_ ?_ GE270.out | refine bs_ ?_ GE280.out) | exact HB.out)) hb); clear BK269; clear BK270; clear BK280; clear HB; have BK269 := n0_; have BK270 := n1_; have BK280 := n2_; have HB := n3_; clear n0_ n1_ n2_ n3_; (try clear hb); (try clear hb2); (try clear hk); (try clear hi)) | (go_at_call 6; (with_reducible refine (neumelaw28_heads.calls kj16  t286 _ A100.out).mono ?_); rintro e w109 ⟨rfl, hb⟩; have n0_ := sd_ (blk_below (g := gb269) (o := .cells #[.int .i64 a0_0, .int .i64 a0_1] 23 (0, 0)) (by (with_reducible repeat (first | refine kn_ ?_ _ | refine kd_ ?_ | refine ka_ ?_ _)); exact BK269.out) hb); have n1_ := sd_ (blk_below (g := gb270) (o := .cells #[.int .i64 a1_0, .int .i64 a1_1] 23 (0, 0)) (by (with_reducible repeat (first | refine kn_ ?_ _ | refine kd_ ?_ | refine ka_ ?_ _)); exact BK270.out) hb); have n2_ := sd_ (blk_below (g := gb280) (o := .cells #[.int .i64 t277, .int .i64 t278] 23 (0, 0)) (by (with_reducible repeat (first | refine kn_ ?_ _ | refine kd_ ?_ | refine ka_ ?_ _)); exact BK280.out) hb); have n3_ := sd_ (bt_ (by repeat (first | (with_reducible first | exact HB.out | apply ba_ | apply pd_ | apply d1_ | refine bs_ ?_ GE269.out | refine bs_ ?_ GE270.out | refine bs_ ?_ GE280.out) | exact HB.out)) hb); clear BK269; clear BK270; clear BK280; clear HB; have BK269 := n0_; have BK270 := n1_; have BK280 := n2_; have HB := n3_; clear n0_ n1_ n2_ n3_; (try clear hb); (try clear hb2); (try clear hk); (try clear hi)))
           go_ret
           exact ⟨by first | rfl | (simp [errW_none, errW_some] <;> rfl) | (simp [*, errW_none, errW_some] <;> rfl), by repeat (first | (with_reducible first | exact HB.out | apply ba_ | apply pd_ | apply d1_ | refine bs_ ?_ GE269.out | refine bs_ ?_ GE270.out | refine bs_ ?_ GE280.out) | exact HB.out)⟩
          ·rw [if_neg c99] at H
           have c99b0 : (t281 == (wrap64 (t271 + 1228))) = false := beq_eq_false_iff_ne.mpr c99
           have c99b1 : (t281 != (wrap64 (t271 + 1228))) = true := bne_iff_ne.mpr c99
           obtain rfl := Option.some.inj H
           have hnb110 := NB269_270.out
           have hnc110 := NB270_269.out
           have hcz111_0 : wc.cell? ⟨gb269, 0, none⟩ = some (.int .i64 a0_0) := (kc_ BK269.out 0).trans rfl
           have hcz111_1 : wc.cell? ⟨gb269, 1, none⟩ = some (.int .i64 a0_1) := (kc_ BK269.out 1).trans rfl
           have hfz111_0 := kf_ BK269.out 0
           have hfz111_1 := kf_ BK269.out 1
           go_wp2_with (first | ((with_reducible refine gate_callee (f := 17) rfl ?_); refine goesL_ (some 50) rfl rfl Try.func17 (by kernel_rfl) rfl #[.agg #[.int .i64 a0_0, .int .i64 a0_1], .agg #[.int .i64 a0_0, .int .i64 a0_1]] rfl (by (try simp only [List.map_toArray, List.map_cons, List.map_nil]); first | done | rfl | (simp only [List.length_drop, List.length_take]; rfl)) ?_; (with_reducible refine (neumeref02_Add.calls kj16 a0_0 a0_1 a0_0 a0_1 t277 t278 t279 _ A44.out).mono ?_); rintro e w112 ⟨rfl, hb⟩; refine ⟨_, rfl, ?_⟩; have n0_ := sd_ (blk_below (g := gb269) (o := .cells #[.int .i64 a0_0, .int .i64 a0_1] 23 (0, 0)) (by (with_reducible repeat (first | refine kn_ ?_ _ | refine kd_ ?_ | refine ka_ ?_ _)); exact BK269.out) hb); have n1_ := sd_ (blk_below (g := gb270) (o := .cells #[.int .i64 a1_0, .int .i64 a1_1] 23 (0, 0)) (by (with_reducible repeat (first | refine kn_ ?_ _ | refine kd_ ?_ | refine ka_ ?_ _)); exact BK270.out) hb); have n2_ := sd_ (bt_ (by repeat (first | (with_reducible first | exact HB.out | apply ba_ | apply pd_ | apply d1_ | refine bs_ ?_ GE269.out | refine bs_ ?_ GE270.out) | exact HB.out)) hb); clear BK269; clear BK270; clear HB; have BK269 := n0_; have BK270 := n1_; have HB := n2_; clear n0_ n1_ n2_; (try clear hb); (try clear hb2); (try clear hk); (try clear hi)) | ((with_reducible refine gate_dst (N := 9) rfl ?_); refine box_event ?hg (N := 9) ?hd (cs := #[.int .i64 0, .int .i64 0]) (t := 23) ?hr ?_; (case hd => rfl); (case hg => rfl); (case hr => first | (go_simp; done) | (go_simp; rfl)); intro gb280 hg w113 hbox hb; have n0_ := sd_ (blk_below (g := gb269) (o := .cells #[.int .i64 a0_0, .int .i64 a0_1] 23 (0, 0)) (by (with_reducible repeat (first | refine kn_ ?_ _ | refine kd_ ?_ | refine ka_ ?_ _)); exact BK269.out) hb); have n1_ := sd_ (blk_below (g := gb270) (o := .cells #[.int .i64 a1_0, .int .i64 a1_1] 23 (0, 0)) (by (with_reducible repeat (first | refine kn_ ?_ _ | refine kd_ ?_ | refine ka_ ?_ _)); exact BK270.out) hb); have n2_ := sd_ (bt_ (by repeat (first | (with_reducible first | exact HB.out | apply ba_ | apply pd_ | apply d1_ | refine bs_ ?_ GE269.out | refine bs_ ?_ GE270.out) | exact HB.out)) hb); have n3_ := sd_ (hbox); have n4_ := sd_ ((by rw [hg]; exact (bz_ (by repeat (first | (with_reducible first | exact HB.out | apply ba_ | apply pd_ | apply d1_ | refine bs_ ?_ GE269.out | refine bs_ ?_ GE270.out) | exact HB.out))) : w.heap.size ≤ gb280)); have n5_ := sd_ ((by rw [hg]; exact (bz_ (by repeat (first | (with_reducible first | exact HB.out | apply ba_ | apply pd_ | apply d1_ | refine bs_ ?_ GE269.out | refine bs_ ?_ GE270.out) | exact HB.out))) : w.heap.size ≤ gb280)); have n6_ := sd_ ((by rw [hg]; exact nn_ (blk_lt (g := gb269) (o := .cells #[.int .i64 a0_0, .int .i64 a0_1] 23 (0, 0)) (by (with_reducible repeat (first | refine kn_ ?_ _ | refine kd_ ?_ | refine ka_ ?_ _)); exact BK269.out)) : gb269 ≠ gb280)); have n7_ := sd_ ((by rw [hg]; exact Nat.ne_of_gt (blk_lt (g := gb269) (o := .cells #[.int .i64 a0_0, .int .i64 a0_1] 23 (0, 0)) (by (with_reducible repeat (first | refine kn_ ?_ _ | refine kd_ ?_ | refine ka_ ?_ _)); exact BK269.out)) : gb280 ≠ gb269)); have n8_ := sd_ ((by rw [hg]; exact nn_ (blk_lt (g := gb270) (o := .cells #[.int .i64 a1_0, .int .i64 a1_1] 23 (0, 0)) (by (with_reducible repeat (first | refine kn_ ?_ _ | refine kd_ ?_ | refine ka_ ?_ _)); exact BK270.out)) : gb270 ≠ gb280)); have n9_ := sd_ ((by rw [hg]; exact Nat.ne_of_gt (blk_lt (g := gb270) (o := .cells #[.int .i64 a1_0, .int .i64 a1_1] 23 (0, 0)) (by (with_reducible repeat (first | refine kn_ ?_ _ | refine kd_ ?_ | refine ka_ ?_ _)); exact BK270.out)) : gb280 ≠ gb270)); clear BK269; clear BK270; clear HB; have BK269 := n0_; have BK270 := n1_; have HB := n2_; have BK280 := n3_; have GW280 := n4_; have GE280 := n5_; have NB269_280 := n6_; have NB280_269 := n7_; have NB270_280 := n8_; have NB280_270 := n9_; clear n0_ n1_ n2_ n3_ n4_ n5_ n6_ n7_ n8_ n9_; clear hb hbox hg; have hnb114 := NB280_269.out; have hnc114 := NB269_280.out; have hnb115 := NB280_270.out; have hnc115 := NB270_280.out; have hcz116_0 : w113.cell? ⟨gb280, 0, none⟩ = some (.int .i64 0) := (kc_ BK280.out 0).trans rfl; have hcz116_1 : w113.cell? ⟨gb280, 1, none⟩ = some (.int .i64 0) := (kc_ BK280.out 1).trans rfl; have hfz116_0 := kf_ BK280.out 0; have hfz116_1 := kf_ BK280.out 1) | ((with_reducible refine gate_callee (f := 7) rfl ?_); refine goesL_ (some 55) rfl rfl Try.func7 (by kernel_rfl) rfl #[.agg #[.int .i64 t277, .int .i64 t278]] rfl (by (try simp only [List.map_toArray, List.map_cons, List.map_nil]); first | done | rfl | (simp only [List.length_drop, List.length_take]; rfl)) ?_; (with_reducible refine (spring_Ideal.calls kj16 t277 t278 t281 t282 _ A45.out).mono ?_); rintro e w117 ⟨rfl, hb⟩; refine ⟨_, rfl, ?_⟩; have n0_ := sd_ (blk_below (g := gb269) (o := .cells #[.int .i64 a0_0, .int .i64 a0_1] 23 (0, 0)) (by (with_reducible repeat (first | refine kn_ ?_ _ | refine kd_ ?_ | refine ka_ ?_ _)); refine blk_far ?_ NB269_280.out _; (with_reducible repeat (first | refine kn_ ?_ _ | refine kd_ ?_ | refine ka_ ?_ _)); refine blk_far ?_ NB269_280.out _; (with_reducible repeat (first | refine kn_ ?_ _ | refine kd_ ?_ | refine ka_ ?_ _)); exact BK269.out) hb); have n1_ := sd_ (blk_below (g := gb270) (o := .cells #[.int .i64 a1_0, .int .i64 a1_1] 23 (0, 0)) (by (with_reducible repeat (first | refine kn_ ?_ _ | refine kd_ ?_ | refine ka_ ?_ _)); refine blk_far ?_ NB270_280.out _; (with_reducible repeat (first | refine kn_ ?_ _ | refine kd_ ?_ | refine ka_ ?_ _)); refine blk_far ?_ NB270_280.out _; (with_reducible repeat (first | refine kn_ ?_ _ | refine kd_ ?_ | refine ka_ ?_ _)); exact BK270.out) hb); have n2_ := sd_ (blk_below (g := gb280) (o := .cells #[.int .i64 t277, .int .i64 t278] 23 (0, 0)) (by (with_reducible repeat (first | refine kn_ ?_ _ | refine kd_ ?_ | refine ka_ ?_ _)); refine blk_put (cs := #[.int .i64 t277, .int .i64 0]) ?_ 1 _ rfl; (with_reducible repeat (first | refine kn_ ?_ _ | refine kd_ ?_ | refine ka_ ?_ _)); refine blk_put (cs := #[.int .i64 0, .int .i64 0]) ?_ 0 _ rfl; (with_reducible repeat (first | refine kn_ ?_ _ | refine kd_ ?_ | refine ka_ ?_ _)); exact BK280.out) hb); have n3_ := sd_ (bt_ (by repeat (first | (with_reducible first | exact HB.out | apply ba_ | apply pd_ | apply d1_ | refine bs_ ?_ GE269.out | refine bs_ ?_ GE270.out | refine bs_ ?_ GE280.out) | exact HB.out)) hb); clear BK269; clear BK270; clear BK280; clear HB; have BK269 := n0_; have BK270 := n1_; have BK280 := n2_; have HB := n3_; clear n0_ n1_ n2_ n3_; (try clear hb); (try clear hb2); (try clear hk); (try clear hi)))
           go_ret
           exact ⟨by first | rfl | (simp [errW_none, errW_some] <;> rfl) | (simp [*, errW_none, errW_some] <;> rfl), by repeat (first | (with_reducible first | exact HB.out | apply ba_ | apply pd_ | apply d1_ | refine bs_ ?_ GE269.out | refine bs_ ?_ GE270.out | refine bs_ ?_ GE280.out) | exact HB.out)⟩
        ·rw [if_neg c47] at H
         have c47b0 : (t282 == 0) = false := beq_eq_false_iff_ne.mpr c47
         have c47b1 : (t282 != 0) = true := bne_iff_ne.mpr c47
         obtain rfl := Option.some.inj H
         have hnb118 := NB269_270.out
         have hnc118 := NB270_269.out
         have hcz119_0 : wc.cell? ⟨gb269, 0, none⟩ = some (.int .i64 a0_0) := (kc_ BK269.out 0).trans rfl
         have hcz119_1 : wc.cell? ⟨gb269, 1, none⟩ = some (.int .i64 a0_1) := (kc_ BK269.out 1).trans rfl
         have hfz119_0 := kf_ BK269.out 0
         have hfz119_1 := kf_ BK269.out 1
         go_wp2_with (first | ((with_reducible refine gate_callee (f := 17) rfl ?_); refine goesL_ (some 50) rfl rfl Try.func17 (by kernel_rfl) rfl #[.agg #[.int .i64 a0_0, .int .i64 a0_1], .agg #[.int .i64 a0_0, .int .i64 a0_1]] rfl (by (try simp only [List.map_toArray, List.map_cons, List.map_nil]); first | done | rfl | (simp only [List.length_drop, List.length_take]; rfl)) ?_; (with_reducible refine (neumeref02_Add.calls kj16 a0_0 a0_1 a0_0 a0_1 t277 t278 t279 _ A44.out).mono ?_); rintro e w120 ⟨rfl, hb⟩; refine ⟨_, rfl, ?_⟩; have n0_ := sd_ (blk_below (g := gb269) (o := .cells #[.int .i64 a0_0, .int .i64 a0_1] 23 (0, 0)) (by (with_reducible repeat (first | refine kn_ ?_ _ | refine kd_ ?_ | refine ka_ ?_ _)); exact BK269.out) hb); have n1_ := sd_ (blk_below (g := gb270) (o := .cells #[.int .i64 a1_0, .int .i64 a1_1] 23 (0, 0)) (by (with_reducible repeat (first | refine kn_ ?_ _ | refine kd_ ?_ | refine ka_ ?_ _)); exact BK270.out) hb); have n2_ := sd_ (bt_ (by repeat (first | (with_reducible first | exact HB.out | apply ba_ | apply pd_ | apply d1_ | refine bs_ ?_ GE269.out | refine bs_ ?_ GE270.out) | exact HB.out)) hb); clear BK269; clear BK270; clear HB; have BK269 := n0_; have BK270 := n1_; have HB := n2_; clear n0_ n1_ n2_; (try clear hb); (try clear hb2); (try clear hk); (try clear hi)) | ((with_reducible refine gate_dst (N := 9) rfl ?_); refine box_event ?hg (N := 9) ?hd (cs := #[.int .i64 0, .int .i64 0]) (t := 23) ?hr ?_; (case hd => rfl); (case hg => rfl); (case hr => first | (go_simp; done) | (go_simp; rfl)); intro gb280 hg w121 hbox hb; have n0_ := sd_ (blk_below (g := gb269) (o := .cells #[.int .i64 a0_0, .int .i64 a0_1] 23 (0, 0)) (by (with_reducible repeat (first | refine kn_ ?_ _ | refine kd_ ?_ | refine ka_ ?_ _)); exact BK269.out) hb); have n1_ := sd_ (blk_below (g := gb270) (o := .cells #[.int .i64 a1_0, .int .i64 a1_1] 23 (0, 0)) (by (with_reducible repeat (first | refine kn_ ?_ _ | refine kd_ ?_ | refine ka_ ?_ _)); exact BK270.out) hb); have n2_ := sd_ (bt_ (by repeat (first | (with_reducible first | exact HB.out | apply ba_ | apply pd_ | apply d1_ | refine bs_ ?_ GE269.out | refine bs_ ?_ GE270.out) | exact HB.out)) hb); have n3_ := sd_ (hbox); have n4_ := sd_ ((by rw [hg]; exact (bz_ (by repeat (first | (with_reducible first | exact HB.out | apply ba_ | apply pd_ | apply d1_ | refine bs_ ?_ GE269.out | refine bs_ ?_ GE270.out) | exact HB.out))) : w.heap.size ≤ gb280)); have n5_ := sd_ ((by rw [hg]; exact (bz_ (by repeat (first | (with_reducible first | exact HB.out | apply ba_ | apply pd_ | apply d1_ | refine bs_ ?_ GE269.out | refine bs_ ?_ GE270.out) | exact HB.out))) : w.heap.size ≤ gb280)); have n6_ := sd_ ((by rw [hg]; exact nn_ (blk_lt (g := gb269) (o := .cells #[.int .i64 a0_0, .int .i64 a0_1] 23 (0, 0)) (by (with_reducible repeat (first | refine kn_ ?_ _ | refine kd_ ?_ | refine ka_ ?_ _)); exact BK269.out)) : gb269 ≠ gb280)); have n7_ := sd_ ((by rw [hg]; exact Nat.ne_of_gt (blk_lt (g := gb269) (o := .cells #[.int .i64 a0_0, .int .i64 a0_1] 23 (0, 0)) (by (with_reducible repeat (first | refine kn_ ?_ _ | refine kd_ ?_ | refine ka_ ?_ _)); exact BK269.out)) : gb280 ≠ gb269)); have n8_ := sd_ ((by rw [hg]; exact nn_ (blk_lt (g := gb270) (o := .cells #[.int .i64 a1_0, .int .i64 a1_1] 23 (0, 0)) (by (with_reducible repeat (first | refine kn_ ?_ _ | refine kd_ ?_ | refine ka_ ?_ _)); exact BK270.out)) : gb270 ≠ gb280)); have n9_ := sd_ ((by rw [hg]; exact Nat.ne_of_gt (blk_lt (g := gb270) (o := .cells #[.int .i64 a1_0, .int .i64 a1_1] 23 (0, 0)) (by (with_reducible repeat (first | refine kn_ ?_ _ | refine kd_ ?_ | refine ka_ ?_ _)); exact BK270.out)) : gb280 ≠ gb270)); clear BK269; clear BK270; clear HB; have BK269 := n0_; have BK270 := n1_; have HB := n2_; have BK280 := n3_; have GW280 := n4_; have GE280 := n5_; have NB269_280 := n6_; have NB280_269 := n7_; have NB270_280 := n8_; have NB280_270 := n9_; clear n0_ n1_ n2_ n3_ n4_ n5_ n6_ n7_ n8_ n9_; clear hb hbox hg; have hnb122 := NB280_269.out; have hnc122 := NB269_280.out; have hnb123 := NB280_270.out; have hnc123 := NB270_280.out; have hcz124_0 : w121.cell? ⟨gb280, 0, none⟩ = some (.int .i64 0) := (kc_ BK280.out 0).trans rfl; have hcz124_1 : w121.cell? ⟨gb280, 1, none⟩ = some (.int .i64 0) := (kc_ BK280.out 1).trans rfl; have hfz124_0 := kf_ BK280.out 0; have hfz124_1 := kf_ BK280.out 1) | ((with_reducible refine gate_callee (f := 7) rfl ?_); refine goesL_ (some 55) rfl rfl Try.func7 (by kernel_rfl) rfl #[.agg #[.int .i64 t277, .int .i64 t278]] rfl (by (try simp only [List.map_toArray, List.map_cons, List.map_nil]); first | done | rfl | (simp only [List.length_drop, List.length_take]; rfl)) ?_; (with_reducible refine (spring_Ideal.calls kj16 t277 t278 t281 t282 _ A45.out).mono ?_); rintro e w125 ⟨rfl, hb⟩; refine ⟨_, rfl, ?_⟩; have n0_ := sd_ (blk_below (g := gb269) (o := .cells #[.int .i64 a0_0, .int .i64 a0_1] 23 (0, 0)) (by (with_reducible repeat (first | refine kn_ ?_ _ | refine kd_ ?_ | refine ka_ ?_ _)); refine blk_far ?_ NB269_280.out _; (with_reducible repeat (first | refine kn_ ?_ _ | refine kd_ ?_ | refine ka_ ?_ _)); refine blk_far ?_ NB269_280.out _; (with_reducible repeat (first | refine kn_ ?_ _ | refine kd_ ?_ | refine ka_ ?_ _)); exact BK269.out) hb); have n1_ := sd_ (blk_below (g := gb270) (o := .cells #[.int .i64 a1_0, .int .i64 a1_1] 23 (0, 0)) (by (with_reducible repeat (first | refine kn_ ?_ _ | refine kd_ ?_ | refine ka_ ?_ _)); refine blk_far ?_ NB270_280.out _; (with_reducible repeat (first | refine kn_ ?_ _ | refine kd_ ?_ | refine ka_ ?_ _)); refine blk_far ?_ NB270_280.out _; (with_reducible repeat (first | refine kn_ ?_ _ | refine kd_ ?_ | refine ka_ ?_ _)); exact BK270.out) hb); have n2_ := sd_ (blk_below (g := gb280) (o := .cells #[.int .i64 t277, .int .i64 t278] 23 (0, 0)) (by (with_reducible repeat (first | refine kn_ ?_ _ | refine kd_ ?_ | refine ka_ ?_ _)); refine blk_put (cs := #[.int .i64 t277, .int .i64 0]) ?_ 1 _ rfl; (with_reducible repeat (first | refine kn_ ?_ _ | refine kd_ ?_ | refine ka_ ?_ _)); refine blk_put (cs := #[.int .i64 0, .int .i64 0]) ?_ 0 _ rfl; (with_reducible repeat (first | refine kn_ ?_ _ | refine kd_ ?_ | refine ka_ ?_ _)); exact BK280.out) hb); have n3_ := sd_ (bt_ (by repeat (first | (with_reducible first | exact HB.out | apply ba_ | apply pd_ | apply d1_ | refine bs_ ?_ GE269.out | refine bs_ ?_ GE270.out | refine bs_ ?_ GE280.out) | exact HB.out)) hb); clear BK269; clear BK270; clear BK280; clear HB; have BK269 := n0_; have BK270 := n1_; have BK280 := n2_; have HB := n3_; clear n0_ n1_ n2_ n3_; (try clear hb); (try clear hb2); (try clear hk); (try clear hi)))
         go_ret
         exact ⟨by first | rfl | (simp [errW_none, errW_some] <;> rfl) | (simp [*, errW_none, errW_some] <;> rfl), by repeat (first | (with_reducible first | exact HB.out | apply ba_ | apply pd_ | apply d1_ | refine bs_ ?_ GE269.out | refine bs_ ?_ GE270.out | refine bs_ ?_ GE280.out) | exact HB.out)⟩
       ·rw [if_neg c46] at H
        have c46b0 : (t279 == 0) = false := beq_eq_false_iff_ne.mpr c46
        have c46b1 : (t279 != 0) = true := bne_iff_ne.mpr c46
        replace H := ob_ H
        obtain ⟨t287, A1260, H⟩ := H
        replace H : (some t287) = some r := H
        have A126 := sd_ A1260
        clear A1260
        obtain rfl := Option.some.inj H
        have hnb127 := NB269_270.out
        have hnc127 := NB270_269.out
        have hcz128_0 : wc.cell? ⟨gb269, 0, none⟩ = some (.int .i64 a0_0) := (kc_ BK269.out 0).trans rfl
        have hcz128_1 : wc.cell? ⟨gb269, 1, none⟩ = some (.int .i64 a0_1) := (kc_ BK269.out 1).trans rfl
        have hfz128_0 := kf_ BK269.out 0
        have hfz128_1 := kf_ BK269.out 1
        go_wp2_with (first | ((with_reducible refine gate_callee (f := 17) rfl ?_); refine goesL_ (some 50) rfl rfl Try.func17 (by kernel_rfl) rfl #[.agg #[.int .i64 a0_0, .int .i64 a0_1], .agg #[.int .i64 a0_0, .int .i64 a0_1]] rfl (by (try simp only [List.map_toArray, List.map_cons, List.map_nil]); first | done | rfl | (simp only [List.length_drop, List.length_take]; rfl)) ?_; (with_reducible refine (neumeref02_Add.calls kj16 a0_0 a0_1 a0_0 a0_1 t277 t278 t279 _ A44.out).mono ?_); rintro e w129 ⟨rfl, hb⟩; refine ⟨_, rfl, ?_⟩; have n0_ := sd_ (blk_below (g := gb269) (o := .cells #[.int .i64 a0_0, .int .i64 a0_1] 23 (0, 0)) (by (with_reducible repeat (first | refine kn_ ?_ _ | refine kd_ ?_ | refine ka_ ?_ _)); exact BK269.out) hb); have n1_ := sd_ (blk_below (g := gb270) (o := .cells #[.int .i64 a1_0, .int .i64 a1_1] 23 (0, 0)) (by (with_reducible repeat (first | refine kn_ ?_ _ | refine kd_ ?_ | refine ka_ ?_ _)); exact BK270.out) hb); have n2_ := sd_ (bt_ (by repeat (first | (with_reducible first | exact HB.out | apply ba_ | apply pd_ | apply d1_ | refine bs_ ?_ GE269.out | refine bs_ ?_ GE270.out) | exact HB.out)) hb); clear BK269; clear BK270; clear HB; have BK269 := n0_; have BK270 := n1_; have HB := n2_; clear n0_ n1_ n2_; (try clear hb); (try clear hb2); (try clear hk); (try clear hi)) | ((with_reducible refine gate_dst (N := 9) rfl ?_); refine box_event ?hg (N := 9) ?hd (cs := #[.int .i64 0, .int .i64 0]) (t := 23) ?hr ?_; (case hd => rfl); (case hg => rfl); (case hr => first | (go_simp; done) | (go_simp; rfl)); intro gb280 hg w130 hbox hb; have n0_ := sd_ (blk_below (g := gb269) (o := .cells #[.int .i64 a0_0, .int .i64 a0_1] 23 (0, 0)) (by (with_reducible repeat (first | refine kn_ ?_ _ | refine kd_ ?_ | refine ka_ ?_ _)); exact BK269.out) hb); have n1_ := sd_ (blk_below (g := gb270) (o := .cells #[.int .i64 a1_0, .int .i64 a1_1] 23 (0, 0)) (by (with_reducible repeat (first | refine kn_ ?_ _ | refine kd_ ?_ | refine ka_ ?_ _)); exact BK270.out) hb); have n2_ := sd_ (bt_ (by repeat (first | (with_reducible first | exact HB.out | apply ba_ | apply pd_ | apply d1_ | refine bs_ ?_ GE269.out | refine bs_ ?_ GE270.out) | exact HB.out)) hb); have n3_ := sd_ (hbox); have n4_ := sd_ ((by rw [hg]; exact (bz_ (by repeat (first | (with_reducible first | exact HB.out | apply ba_ | apply pd_ | apply d1_ | refine bs_ ?_ GE269.out | refine bs_ ?_ GE270.out) | exact HB.out))) : w.heap.size ≤ gb280)); have n5_ := sd_ ((by rw [hg]; exact (bz_ (by repeat (first | (with_reducible first | exact HB.out | apply ba_ | apply pd_ | apply d1_ | refine bs_ ?_ GE269.out | refine bs_ ?_ GE270.out) | exact HB.out))) : w.heap.size ≤ gb280)); have n6_ := sd_ ((by rw [hg]; exact nn_ (blk_lt (g := gb269) (o := .cells #[.int .i64 a0_0, .int .i64 a0_1] 23 (0, 0)) (by (with_reducible repeat (first | refine kn_ ?_ _ | refine kd_ ?_ | refine ka_ ?_ _)); exact BK269.out)) : gb269 ≠ gb280)); have n7_ := sd_ ((by rw [hg]; exact Nat.ne_of_gt (blk_lt (g := gb269) (o := .cells #[.int .i64 a0_0, .int .i64 a0_1] 23 (0, 0)) (by (with_reducible repeat (first | refine kn_ ?_ _ | refine kd_ ?_ | refine ka_ ?_ _)); exact BK269.out)) : gb280 ≠ gb269)); have n8_ := sd_ ((by rw [hg]; exact nn_ (blk_lt (g := gb270) (o := .cells #[.int .i64 a1_0, .int .i64 a1_1] 23 (0, 0)) (by (with_reducible repeat (first | refine kn_ ?_ _ | refine kd_ ?_ | refine ka_ ?_ _)); exact BK270.out)) : gb270 ≠ gb280)); have n9_ := sd_ ((by rw [hg]; exact Nat.ne_of_gt (blk_lt (g := gb270) (o := .cells #[.int .i64 a1_0, .int .i64 a1_1] 23 (0, 0)) (by (with_reducible repeat (first | refine kn_ ?_ _ | refine kd_ ?_ | refine ka_ ?_ _)); exact BK270.out)) : gb280 ≠ gb270)); clear BK269; clear BK270; clear HB; have BK269 := n0_; have BK270 := n1_; have HB := n2_; have BK280 := n3_; have GW280 := n4_; have GE280 := n5_; have NB269_280 := n6_; have NB280_269 := n7_; have NB270_280 := n8_; have NB280_270 := n9_; clear n0_ n1_ n2_ n3_ n4_ n5_ n6_ n7_ n8_ n9_; clear hb hbox hg; have hnb131 := NB280_269.out; have hnc131 := NB269_280.out; have hnb132 := NB280_270.out; have hnc132 := NB270_280.out; have hcz133_0 : w130.cell? ⟨gb280, 0, none⟩ = some (.int .i64 0) := (kc_ BK280.out 0).trans rfl; have hcz133_1 : w130.cell? ⟨gb280, 1, none⟩ = some (.int .i64 0) := (kc_ BK280.out 1).trans rfl; have hfz133_0 := kf_ BK280.out 0; have hfz133_1 := kf_ BK280.out 1) | ((with_reducible refine gate_callee (f := 7) rfl ?_); refine goesL_ (some 55) rfl rfl Try.func7 (by kernel_rfl) rfl #[.agg #[.int .i64 t277, .int .i64 t278]] rfl (by (try simp only [List.map_toArray, List.map_cons, List.map_nil]); first | done | rfl | (simp only [List.length_drop, List.length_take]; rfl)) ?_; (with_reducible refine (spring_Ideal.calls kj16 t277 t278 t281 t282 _ A45.out).mono ?_); rintro e w134 ⟨rfl, hb⟩; refine ⟨_, rfl, ?_⟩; have n0_ := sd_ (blk_below (g := gb269) (o := .cells #[.int .i64 a0_0, .int .i64 a0_1] 23 (0, 0)) (by (with_reducible repeat (first | refine kn_ ?_ _ | refine kd_ ?_ | refine ka_ ?_ _)); refine blk_far ?_ NB269_280.out _; (with_reducible repeat (first | refine kn_ ?_ _ | refine kd_ ?_ | refine ka_ ?_ _)); refine blk_far ?_ NB269_280.out _; (with_reducible repeat (first | refine kn_ ?_ _ | refine kd_ ?_ | refine ka_ ?_ _)); exact BK269.out) hb); have n1_ := sd_ (blk_below (g := gb270) (o := .cells #[.int .i64 a1_0, .int .i64 a1_1] 23 (0, 0)) (by (with_reducible repeat (first | refine kn_ ?_ _ | refine kd_ ?_ | refine ka_ ?_ _)); refine blk_far ?_ NB270_280.out _; (with_reducible repeat (first | refine kn_ ?_ _ | refine kd_ ?_ | refine ka_ ?_ _)); refine blk_far ?_ NB270_280.out _; (with_reducible repeat (first | refine kn_ ?_ _ | refine kd_ ?_ | refine ka_ ?_ _)); exact BK270.out) hb); have n2_ := sd_ (blk_below (g := gb280) (o := .cells #[.int .i64 t277, .int .i64 t278] 23 (0, 0)) (by (with_reducible repeat (first | refine kn_ ?_ _ | refine kd_ ?_ | refine ka_ ?_ _)); refine blk_put (cs := #[.int .i64 t277, .int .i64 0]) ?_ 1 _ rfl; (with_reducible repeat (first | refine kn_ ?_ _ | refine kd_ ?_ | refine ka_ ?_ _)); refine blk_put (cs := #[.int .i64 0, .int .i64 0]) ?_ 0 _ rfl; (with_reducible repeat (first | refine kn_ ?_ _ | refine kd_ ?_ | refine ka_ ?_ _)); exact BK280.out) hb); have n3_ := sd_ (bt_ (by repeat (first | (with_reducible first | exact HB.out | apply ba_ | apply pd_ | apply d1_ | refine bs_ ?_ GE269.out | refine bs_ ?_ GE270.out | refine bs_ ?_ GE280.out) | exact HB.out)) hb); clear BK269; clear BK270; clear BK280; clear HB; have BK269 := n0_; have BK270 := n1_; have BK280 := n2_; have HB := n3_; clear n0_ n1_ n2_ n3_; (try clear hb); (try clear hb2); (try clear hk); (try clear hi)) | (go_at_call 6; (with_reducible refine (neumelaw28_heads.calls kj16  t287 _ A126.out).mono ?_); rintro e w135 ⟨rfl, hb⟩; have n0_ := sd_ (blk_below (g := gb269) (o := .cells #[.int .i64 a0_0, .int .i64 a0_1] 23 (0, 0)) (by (with_reducible repeat (first | refine kn_ ?_ _ | refine kd_ ?_ | refine ka_ ?_ _)); exact BK269.out) hb); have n1_ := sd_ (blk_below (g := gb270) (o := .cells #[.int .i64 a1_0, .int .i64 a1_1] 23 (0, 0)) (by (with_reducible repeat (first | refine kn_ ?_ _ | refine kd_ ?_ | refine ka_ ?_ _)); exact BK270.out) hb); have n2_ := sd_ (blk_below (g := gb280) (o := .cells #[.int .i64 t277, .int .i64 t278] 23 (0, 0)) (by (with_reducible repeat (first | refine kn_ ?_ _ | refine kd_ ?_ | refine ka_ ?_ _)); exact BK280.out) hb); have n3_ := sd_ (bt_ (by repeat (first | (with_reducible first | exact HB.out | apply ba_ | apply pd_ | apply d1_ | refine bs_ ?_ GE269.out | refine bs_ ?_ GE270.out | refine bs_ ?_ GE280.out) | exact HB.out)) hb); clear BK269; clear BK270; clear BK280; clear HB; have BK269 := n0_; have BK270 := n1_; have BK280 := n2_; have HB := n3_; clear n0_ n1_ n2_ n3_; (try clear hb); (try clear hb2); (try clear hk); (try clear hi)))
        go_ret
        exact ⟨by first | rfl | (simp [errW_none, errW_some] <;> rfl) | (simp [*, errW_none, errW_some] <;> rfl), by repeat (first | (with_reducible first | exact HB.out | apply ba_ | apply pd_ | apply d1_ | refine bs_ ?_ GE269.out | refine bs_ ?_ GE270.out | refine bs_ ?_ GE280.out) | exact HB.out)⟩

end Go.Proofs.Ytcbeibmoblgaeaa.P
