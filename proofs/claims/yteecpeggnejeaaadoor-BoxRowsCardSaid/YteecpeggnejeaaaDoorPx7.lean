-- Written by a program of this session (wip/tools/xprint.py, over the kit's print): Lean checks it.
import Derived.Test.YteecpeggnejeaaaDoorPx0
import Derived.Test.YteecpeggnejeaaaDoorPx5
namespace Go.Proofs.YteecpeggnejeaaaDoor.P
open Go.RowKit Go.Proofs.YteecpeggnejeaaaDoorW.PrintWords Go.Proofs.YteecpeggnejeaaaDoorW.PrintLast Go.Proofs.YteecpeggnejeaaaDoorW.PrintMore
attribute [local go_sem] max2_int min2_int max_two min_two max_three min_three max_four min_four   -- for this text's walks alone
set_option linter.unusedVariables false
set_option linter.unusedSimpArgs false

/-! ### neumeref03_Bounds: function 22 -/
def neumeref03_Bounds.l0 : Nat → List (S23) → Int → Int → Int → Int → Int → Option (Int × Int × Int × Int × Bool)
 | 0, _, _, _, _, _, _ => none
 | k + 1, x0, x5, x307000, x307001, x307002, x307003 => if x5 < (x0.length : Int) then (if 0 ≤ x5 then ((neumeref03_Check.f ((rd_T23 x0 x5).f0) ((rd_T23 x0 x5).f1) ((rd_T23 x0 x5).f2) ((rd_T23 x0 x5).f3)).bind fun t308 => (if t308 = true then ((neumeref03_Join.f k x307000 x307001 x307002 x307003 ((rd_T23 x0 x5).f0) ((rd_T23 x0 x5).f1) ((rd_T23 x0 x5).f2) ((rd_T23 x0 x5).f3)).bind fun bt310 => (neumeref03_Bounds.l0 k x0 (wrap64 (x5 + 1)) bt310.1 bt310.2.1 bt310.2.2.1 bt310.2.2.2)) else (some (0, 0, 0, 0, false)))) else (none)) else (some (x307000, x307001, x307002, x307003, true))
def neumeref03_Bounds.f (k : Nat) (l0 : List (S23)) : Option (Int × Int × Int × Int × Bool) := if (l0.length : Int) = 0 then (some (0, 0, 0, 0, false)) else (if 0 < (l0.length : Int) then (neumeref03_Bounds.l0 k l0 0 ((rd_T23 l0 0).f0) ((rd_T23 l0 0).f1) ((rd_T23 l0 0).f2) ((rd_T23 l0 0).f3)) else (none))
theorem neumeref03_Bounds.mono_l : ∀ k, (∀ y0 y1 y2 y3 y4 y5, LeO (neumeref03_Bounds.l0 k y0 y1 y2 y3 y4 y5) (neumeref03_Bounds.l0 (k + 1) y0 y1 y2 y3 y4 y5))
 | 0 => fun _ _ _ _ _ _ r h => by simp [neumeref03_Bounds.l0] at h
 | k + 1 => by
  have ih0 := neumeref03_Bounds.mono_l k
  ·intro y0 y1 y2 y3 y4 y5
   unfold neumeref03_Bounds.l0
   repeat' first
   | (with_reducible exact ih0 _ _ _ _ _ _)
   | (with_reducible exact neumeref03_Join.mono _ _ _ _ _ _ _ _ _)
   | (with_reducible exact LeO.refl _)
   | (with_reducible exact LeO.none _)
   | (with_reducible refine LeO.ite ?_ ?_)
   | (with_reducible refine LeO.bind ?_ (fun _ => ?_))
   | exact ih0 _ _ _ _ _ _
   | exact neumeref03_Join.mono _ _ _ _ _ _ _ _ _
   | exact LeO.none _
   | refine LeO.ite ?_ ?_
   | refine LeO.bind ?_ (fun _ => ?_)
theorem neumeref03_Bounds.mono : ∀ a0 k, LeO (neumeref03_Bounds.f k a0) (neumeref03_Bounds.f (k + 1) a0) := by
 intro a0 k
 have ih0 := neumeref03_Bounds.mono_l k
 unfold neumeref03_Bounds.f
 repeat' first
   | (with_reducible exact ih0 _ _ _ _ _ _)
   | (with_reducible exact neumeref03_Join.mono _ _ _ _ _ _ _ _ _)
   | (with_reducible exact LeO.refl _)
   | (with_reducible exact LeO.none _)
   | (with_reducible refine LeO.ite ?_ ?_)
   | (with_reducible refine LeO.bind ?_ (fun _ => ?_))
   | exact ih0 _ _ _ _ _ _
   | exact neumeref03_Join.mono _ _ _ _ _ _ _ _ _
   | exact LeO.none _
   | refine LeO.ite ?_ ?_
   | refine LeO.bind ?_ (fun _ => ?_)
set_option maxHeartbeats 8000000 in
set_option maxRecDepth 100000 in
theorem neumeref03_Bounds.calls (k : Nat) (A0 : Option Addr) (c0 : Nat) (l0 : List (S23)) (r1 : Int) (r2 : Int) (r3 : Int) (r4 : Int) (r5 : Bool) (w : World) (hr0 : Kd.C k23 w A0 l0.length l0) (hc0 : l0.length ≤ c0) (h : neumeref03_Bounds.f k l0 = some (r1, r2, r3, r4, r5)) :
  Calls Tryd.prog 22 #[.slice A0 l0.length c0] w fun e w' => e = .returned (.tuple #[.agg #[.int .i64 r1, .int .i64 r2, .int .i64 r3, .int .i64 r4], .bool r5]) ∧ Below w.heap.size w w' := by
 have hu23 := Tryd.underlying23
 have HR0 := sd_ hr0
 have HC0 := sd_ hc0
 clear hr0 hc0
 have HB := sd_ (Below.refl w.heap.size w)
 have H : (if (l0.length : Int) = 0 then (some (0, 0, 0, 0, false)) else (if 0 < (l0.length : Int) then (neumeref03_Bounds.l0 k l0 0 ((rd_T23 l0 0).f0) ((rd_T23 l0 0).f1) ((rd_T23 l0 0).f2) ((rd_T23 l0 0).f3)) else (none))) = some (r1, r2, r3, r4, r5) := h
 clear h
 by_cases c2 : (l0.length : Int) = 0
 ·rw [if_pos c2] at H
  have c2b0 : ((l0.length : Int) == 0) = true := beq_iff_eq.mpr c2
  have c2b1 : ((l0.length : Int) != 0) = false := bne_eq_false_iff_eq.mpr c2
  clear c2
  simp only [Option.some.injEq, Prod.mk.injEq] at H
  obtain ⟨rfl, rfl, rfl, rfl, rfl⟩ := H
  go_enter Tryd.func22, Tryd.ntmps22
  go_wp2_with (first | ((with_reducible refine gate_dst (N := 2) rfl ?_); refine box_event ?hg (N := 2) ?hd (cs := #[.int .i64 0, .int .i64 0, .int .i64 0, .int .i64 0]) (t := 23) ?hr ?_; (case hd => rfl); (case hg => rfl); (case hr => first | (go_simp; done) | (go_simp; rfl)); intro gb304 hg w3 hbox hb; have n0_ := sd_ (bt_ (by repeat (first | (with_reducible first | exact HB.out | apply ba_ | apply pd_ | apply d1_) | exact HB.out)) hb); have n1_ := sd_ (hbox); have n2_ := sd_ ((by rw [hg]; exact (bz_ (by repeat (first | (with_reducible first | exact HB.out | apply ba_ | apply pd_ | apply d1_) | exact HB.out))) : w.heap.size ≤ gb304)); have n3_ := sd_ ((by rw [hg]; exact (bz_ (by repeat (first | (with_reducible first | exact HB.out | apply ba_ | apply pd_ | apply d1_) | exact HB.out))) : w.heap.size ≤ gb304)); clear HB; have HB := n0_; have BK304 := n1_; have GW304 := n2_; have GE304 := n3_; clear n0_ n1_ n2_ n3_; clear hb hbox hg; have hcz4_0 : w3.cell? ⟨gb304, 0, none⟩ = some (.int .i64 0) := (kc_ BK304.out 0).trans rfl; have hcz4_1 : w3.cell? ⟨gb304, 1, none⟩ = some (.int .i64 0) := (kc_ BK304.out 1).trans rfl; have hcz4_2 : w3.cell? ⟨gb304, 2, none⟩ = some (.int .i64 0) := (kc_ BK304.out 2).trans rfl; have hcz4_3 : w3.cell? ⟨gb304, 3, none⟩ = some (.int .i64 0) := (kc_ BK304.out 3).trans rfl; have hfz4_0 := kf_ BK304.out 0; have hfz4_1 := kf_ BK304.out 1; have hfz4_2 := kf_ BK304.out 2; have hfz4_3 := kf_ BK304.out 3))
  refine bodyPost_ret (results_ct rfl _ _ gb304 23 #[.int .i64 0, .int .i64 0, .int .i64 0, .int .i64 0] (0, 0) _ rfl (by (with_reducible repeat (first | refine kn_ ?_ _ | refine kd_ ?_ | refine ka_ ?_ _)); refine blk_put (cs := #[.int .i64 0, .int .i64 0, .int .i64 0, .int .i64 0]) ?_ 3 _ rfl; (with_reducible repeat (first | refine kn_ ?_ _ | refine kd_ ?_ | refine ka_ ?_ _)); refine blk_put (cs := #[.int .i64 0, .int .i64 0, .int .i64 0, .int .i64 0]) ?_ 2 _ rfl; (with_reducible repeat (first | refine kn_ ?_ _ | refine kd_ ?_ | refine ka_ ?_ _)); refine blk_put (cs := #[.int .i64 0, .int .i64 0, .int .i64 0, .int .i64 0]) ?_ 1 _ rfl; (with_reducible repeat (first | refine kn_ ?_ _ | refine kd_ ?_ | refine ka_ ?_ _)); refine blk_put (cs := #[.int .i64 0, .int .i64 0, .int .i64 0, .int .i64 0]) ?_ 0 _ rfl; (with_reducible repeat (first | refine kn_ ?_ _ | refine kd_ ?_ | refine ka_ ?_ _)); exact BK304.out) Tryd.underlying23 rfl (by kernel_rfl)) rfl ?_
  exact ⟨by first | rfl | (simp [errW_none, errW_some] <;> rfl) | (simp [*, errW_none, errW_some] <;> rfl), by repeat (first | (with_reducible first | exact HB.out | apply ba_ | apply pd_ | apply d1_ | refine bs_ ?_ GE304.out) | exact HB.out)⟩
 ·rw [if_neg c2] at H
  have c2b0 : ((l0.length : Int) == 0) = false := beq_eq_false_iff_ne.mpr c2
  have c2b1 : ((l0.length : Int) != 0) = true := bne_iff_ne.mpr c2
  have c2b2 : ¬ (l0 = []) := fun h_ => c2 (by rw [h_]; rfl)
  by_cases c5 : 0 < (l0.length : Int)
  ·rw [if_pos c5] at H
   have c5b0 : decide (0 < (l0.length : Int)) = true := dt_ c5
   have c5b1 : decide (0 < l0.length) = true := dt_ (by omega)
   clear c5
   have H' := sd_ H
   clear H
   go_enter Tryd.func22, Tryd.ntmps22
   go_wp2_with (first | ((with_reducible refine gate_dst (N := 2) rfl ?_); refine box_event ?hg (N := 2) ?hd (cs := #[.int .i64 0, .int .i64 0, .int .i64 0, .int .i64 0]) (t := 23) ?hr ?_; (case hd => rfl); (case hg => rfl); (case hr => first | (go_simp; done) | (go_simp; rfl)); intro gb304 hg w6 hbox hb; have n0_ := sd_ (bt_ (by repeat (first | (with_reducible first | exact HB.out | apply ba_ | apply pd_ | apply d1_) | exact HB.out)) hb); have n1_ := sd_ (hbox); have n2_ := sd_ ((by rw [hg]; exact (bz_ (by repeat (first | (with_reducible first | exact HB.out | apply ba_ | apply pd_ | apply d1_) | exact HB.out))) : w.heap.size ≤ gb304)); have n3_ := sd_ ((by rw [hg]; exact (bz_ (by repeat (first | (with_reducible first | exact HB.out | apply ba_ | apply pd_ | apply d1_) | exact HB.out))) : w.heap.size ≤ gb304)); clear HB; have HB := n0_; have BK304 := n1_; have GW304 := n2_; have GE304 := n3_; clear n0_ n1_ n2_ n3_; clear hb hbox hg; have p305 : 0 ≤ (0 : Int) := (by omega); have q305 : 0 < (l0.length : Int) := od_ (by first | (with_reducible assumption) | assumption); obtain ⟨ad305, e305, hx305_0, hx305_1, hx305_2, hx305_3⟩ := at_T23 HR0.out 0 p305 q305; cases e305; have qi305 : (0 < l0.length) = True := eq_true (by omega); (try rw [show ((0 : Int)).toNat = 0 from rfl] at hx305_0); (try rw [show 0 * 4 = 0 from rfl] at hx305_0); (try rw [Addr.add_zero'] at hx305_0); (try rw [show ((0 : Int)).toNat = 0 from rfl] at hx305_1); (try rw [show 0 * 4 = 0 from rfl] at hx305_1); (try rw [Addr.add_zero'] at hx305_1); (try rw [show ((0 : Int)).toNat = 0 from rfl] at hx305_2); (try rw [show 0 * 4 = 0 from rfl] at hx305_2); (try rw [Addr.add_zero'] at hx305_2); (try rw [show ((0 : Int)).toNat = 0 from rfl] at hx305_3); (try rw [show 0 * 4 = 0 from rfl] at hx305_3); (try rw [Addr.add_zero'] at hx305_3); replace hx305_0 := (HB.out.cell (wb_ w _ hx305_0)).trans hx305_0; replace hx305_1 := (HB.out.cell (wb_ w _ hx305_1)).trans hx305_1; replace hx305_2 := (HB.out.cell (wb_ w _ hx305_2)).trans hx305_2; replace hx305_3 := (HB.out.cell (wb_ w _ hx305_3)).trans hx305_3; replace p305 := eq_true p305; replace q305 := eq_true q305) | ((with_reducible refine gate_dst (N := 4) rfl ?_); refine box_event ?hg (N := 4) ?hd (cs := #[.int .i64 0, .int .i64 0, .int .i64 0, .int .i64 0]) (t := 23) ?hr ?_; (case hd => rfl); (case hg => rfl); (case hr => first | (go_simp; done) | (go_simp; rfl)); intro gb306 hg w7 hbox hb; have n0_ := sd_ (blk_below (g := gb304) (o := .cells #[.int .i64 0, .int .i64 0, .int .i64 0, .int .i64 0] 23 (0, 0)) (by (with_reducible repeat (first | refine kn_ ?_ _ | refine kd_ ?_ | refine ka_ ?_ _)); exact BK304.out) hb); have n1_ := sd_ (bt_ (by repeat (first | (with_reducible first | exact HB.out | apply ba_ | apply pd_ | apply d1_ | refine bs_ ?_ GE304.out) | exact HB.out)) hb); have n2_ := sd_ (hbox); have n3_ := sd_ ((by rw [hg]; exact (bz_ (by repeat (first | (with_reducible first | exact HB.out | apply ba_ | apply pd_ | apply d1_ | refine bs_ ?_ GE304.out) | exact HB.out))) : w.heap.size ≤ gb306)); have n4_ := sd_ ((by rw [hg]; exact (bz_ (by repeat (first | (with_reducible first | exact HB.out | apply ba_ | apply pd_ | apply d1_ | refine bs_ ?_ GE304.out) | exact HB.out))) : w.heap.size ≤ gb306)); have n5_ := sd_ ((by rw [hg]; exact nn_ (blk_lt (g := gb304) (o := .cells #[.int .i64 0, .int .i64 0, .int .i64 0, .int .i64 0] 23 (0, 0)) (by (with_reducible repeat (first | refine kn_ ?_ _ | refine kd_ ?_ | refine ka_ ?_ _)); exact BK304.out)) : gb304 ≠ gb306)); have n6_ := sd_ ((by rw [hg]; exact Nat.ne_of_gt (blk_lt (g := gb304) (o := .cells #[.int .i64 0, .int .i64 0, .int .i64 0, .int .i64 0] 23 (0, 0)) (by (with_reducible repeat (first | refine kn_ ?_ _ | refine kd_ ?_ | refine ka_ ?_ _)); exact BK304.out)) : gb306 ≠ gb304)); clear BK304; clear HB; have BK304 := n0_; have HB := n1_; have BK306 := n2_; have GW306 := n3_; have GE306 := n4_; have NB304_306 := n5_; have NB306_304 := n6_; clear n0_ n1_ n2_ n3_ n4_ n5_ n6_; clear hb hbox hg; have hnb8 := NB306_304.out; have hnc8 := NB304_306.out; have hcz9_0 : w7.cell? ⟨gb306, 0, none⟩ = some (.int .i64 0) := (kc_ BK306.out 0).trans rfl; have hcz9_1 : w7.cell? ⟨gb306, 1, none⟩ = some (.int .i64 0) := (kc_ BK306.out 1).trans rfl; have hcz9_2 : w7.cell? ⟨gb306, 2, none⟩ = some (.int .i64 0) := (kc_ BK306.out 2).trans rfl; have hcz9_3 : w7.cell? ⟨gb306, 3, none⟩ = some (.int .i64 0) := (kc_ BK306.out 3).trans rfl; have hfz9_0 := kf_ BK306.out 0; have hfz9_1 := kf_ BK306.out 1; have hfz9_2 := kf_ BK306.out 2; have hfz9_3 := kf_ BK306.out 3))
   go_loopg [5] k (fun kq v5 w' => ∃ (x5_1 : Int) (x305000_1 : Int) (x305001_1 : Int) (x305002_1 : Int) (x305003_1 : Int) (x307000_1 : Int) (x307001_1 : Int) (x307002_1 : Int) (x307003_1 : Int), v5 = .int .i64 x5_1 ∧ Aside0 (neumeref03_Bounds.l0 kq l0 x5_1 x307000_1 x307001_1 x307002_1 x307003_1 = some (r1, r2, r3, r4, r5)) ∧ Aside0 (kq ≤ k) ∧ Aside0 (w'.heap[gb304]? = some (.cells #[.int .i64 x305000_1, .int .i64 x305001_1, .int .i64 x305002_1, .int .i64 x305003_1] 23 (0, 0))) ∧ Aside0 (w'.heap[gb306]? = some (.cells #[.int .i64 x307000_1, .int .i64 x307001_1, .int .i64 x307002_1, .int .i64 x307003_1] 23 (0, 0))) ∧ Aside0 (Below w.heap.size w w'))
   case atStart => exact ⟨(0), (0), (0), (0), (0), ((rd_T23 l0 0).f0), ((rd_T23 l0 0).f1), ((rd_T23 l0 0).f2), ((rd_T23 l0 0).f3), (by first | rfl | (simp; done) | (simp [*]; done) | (simp [bne]; done)), H', ⟨Nat.le_refl _⟩, ⟨by (with_reducible repeat (first | refine kn_ ?_ _ | refine kd_ ?_ | refine ka_ ?_ _)); refine blk_far ?_ NB304_306.out _; (with_reducible repeat (first | refine kn_ ?_ _ | refine kd_ ?_ | refine ka_ ?_ _)); refine blk_far ?_ NB304_306.out _; (with_reducible repeat (first | refine kn_ ?_ _ | refine kd_ ?_ | refine ka_ ?_ _)); refine blk_far ?_ NB304_306.out _; (with_reducible repeat (first | refine kn_ ?_ _ | refine kd_ ?_ | refine ka_ ?_ _)); refine blk_far ?_ NB304_306.out _; (with_reducible repeat (first | refine kn_ ?_ _ | refine kd_ ?_ | refine ka_ ?_ _)); exact BK304.out⟩, ⟨by (with_reducible repeat (first | refine kn_ ?_ _ | refine kd_ ?_ | refine ka_ ?_ _)); refine blk_put (cs := #[.int .i64 ((rd_T23 l0 0).f0), .int .i64 ((rd_T23 l0 0).f1), .int .i64 ((rd_T23 l0 0).f2), .int .i64 0]) ?_ 3 _ rfl; (with_reducible repeat (first | refine kn_ ?_ _ | refine kd_ ?_ | refine ka_ ?_ _)); refine blk_put (cs := #[.int .i64 ((rd_T23 l0 0).f0), .int .i64 ((rd_T23 l0 0).f1), .int .i64 0, .int .i64 0]) ?_ 2 _ rfl; (with_reducible repeat (first | refine kn_ ?_ _ | refine kd_ ?_ | refine ka_ ?_ _)); refine blk_put (cs := #[.int .i64 ((rd_T23 l0 0).f0), .int .i64 0, .int .i64 0, .int .i64 0]) ?_ 1 _ rfl; (with_reducible repeat (first | refine kn_ ?_ _ | refine kd_ ?_ | refine ka_ ?_ _)); refine blk_put (cs := #[.int .i64 0, .int .i64 0, .int .i64 0, .int .i64 0]) ?_ 0 _ rfl; (with_reducible repeat (first | refine kn_ ?_ _ | refine kd_ ?_ | refine ka_ ?_ _)); exact BK306.out⟩, ⟨by repeat (first | (with_reducible first | exact HB.out | apply ba_ | apply pd_ | apply d1_ | refine bs_ ?_ GE304.out | refine bs_ ?_ GE306.out) | exact HB.out)⟩⟩
   case round =>
    clear H'
    try clear c2; try clear c2b0; try clear c2b1; try clear c2b2; try clear p2; try clear p3; try clear q3; try clear hx3; try clear qi3; try clear c5; try clear c5b0; try clear c5b1; try clear c8; try clear hcz4_0; try clear hcz4_1; try clear hcz4_2; try clear hcz4_3; try clear hcz9_0; try clear hcz9_1; try clear hcz9_2; try clear hcz9_3; try clear hfz4_0; try clear hfz4_1; try clear hfz4_2; try clear hfz4_3; try clear hfz9_0; try clear hfz9_1; try clear hfz9_2; try clear hfz9_3; try clear hx305_0; try clear hx305_1; try clear hx305_2; try clear hx305_3; try clear p305; try clear q305
    obtain ⟨x5_1, x305000_1, x305001_1, x305002_1, x305003_1, x307000_1, x307001_1, x307002_1, x307003_1, rfl, HA, HK1, BK304, BK306, HB⟩ := hrel
    cases gk with
    | zero => exact absurd HA.out (by simp [neumeref03_Bounds.l0])
    | succ k1 =>
     have H := HA.out
     clear HA
     simp only [neumeref03_Bounds.l0] at H
     by_cases c10 : x5_1 < (l0.length : Int)
     ·rw [if_pos c10] at H
      have c10b0 : decide (x5_1 < (l0.length : Int)) = true := dt_ c10
      clear c10
      by_cases c11 : 0 ≤ x5_1
      ·rw [if_pos c11] at H
       have c11b0 : decide (0 ≤ x5_1) = true := dt_ c11
       clear c11
       replace H := ob_ H
       obtain ⟨t308, A120, H⟩ := H
       replace H : (if t308 = true then ((neumeref03_Join.f k1 x307000_1 x307001_1 x307002_1 x307003_1 ((rd_T23 l0 x5_1).f0) ((rd_T23 l0 x5_1).f1) ((rd_T23 l0 x5_1).f2) ((rd_T23 l0 x5_1).f3)).bind fun bt310 => (neumeref03_Bounds.l0 k1 l0 (wrap64 (x5_1 + 1)) bt310.1 bt310.2.1 bt310.2.2.1 bt310.2.2.2)) else (some (0, 0, 0, 0, false))) = some (r1, r2, r3, r4, r5) := H
       have A12 := sd_ A120
       clear A120
       by_cases c13 : t308 = true
       ·subst c13
        have H1 : ((neumeref03_Join.f k1 x307000_1 x307001_1 x307002_1 x307003_1 ((rd_T23 l0 x5_1).f0) ((rd_T23 l0 x5_1).f1) ((rd_T23 l0 x5_1).f2) ((rd_T23 l0 x5_1).f3)).bind fun bt310 => (neumeref03_Bounds.l0 k1 l0 (wrap64 (x5_1 + 1)) bt310.1 bt310.2.1 bt310.2.2.1 bt310.2.2.2)) = some (r1, r2, r3, r4, r5) := by rw [if_pos rfl] at H; exact H
        clear H; have H := H1; clear H1
        replace H := ob_ H
        obtain ⟨⟨t310, t311, t312, t313⟩, A140, H⟩ := H
        replace H : (neumeref03_Bounds.l0 k1 l0 (wrap64 (x5_1 + 1)) t310 t311 t312 t313) = some (r1, r2, r3, r4, r5) := H
        have A14 := sd_ A140
        clear A140
        have H' := sd_ H
        clear H
        have p307 : 0 ≤ (x5_1 : Int) := od_ (by first | (with_reducible assumption) | assumption)
        have q307 : x5_1 < (l0.length : Int) := od_ (by first | (with_reducible assumption) | assumption)
        obtain ⟨ad307, e307, hx307_0, hx307_1, hx307_2, hx307_3⟩ := at_T23 HR0.out x5_1 p307 q307
        obtain rfl : ad305 = ad307 := (by injection e307)
        replace hx307_0 := (HB.out.cell (wb_ w _ hx307_0)).trans hx307_0
        replace hx307_1 := (HB.out.cell (wb_ w _ hx307_1)).trans hx307_1
        replace hx307_2 := (HB.out.cell (wb_ w _ hx307_2)).trans hx307_2
        replace hx307_3 := (HB.out.cell (wb_ w _ hx307_3)).trans hx307_3
        replace p307 := eq_true p307
        replace q307 := eq_true q307
        try go_wp2_with (first | ((with_reducible refine gate_callee (f := 13) rfl ?_); refine goesL_ (some 23) rfl rfl Tryd.func13 (by kernel_rfl) rfl #[.agg #[.int .i64 ((rd_T23 l0 x5_1).f0), .int .i64 ((rd_T23 l0 x5_1).f1), .int .i64 ((rd_T23 l0 x5_1).f2), .int .i64 ((rd_T23 l0 x5_1).f3)]] rfl (by (try simp only [lm_, lq_, lx_]); first | done | rfl | (simp only [ld_, lt_]; rfl)) ?_; (with_reducible refine (neumeref03_Check.calls ((rd_T23 l0 x5_1).f0) ((rd_T23 l0 x5_1).f1) ((rd_T23 l0 x5_1).f2) ((rd_T23 l0 x5_1).f3) true _ A12.out).mono ?_); rintro e w15 ⟨rfl, hb⟩; refine ⟨_, rfl, ?_⟩; have n0_ := sd_ (blk_below (g := gb304) (o := .cells #[.int .i64 x305000_1, .int .i64 x305001_1, .int .i64 x305002_1, .int .i64 x305003_1] 23 (0, 0)) (by (with_reducible repeat (first | refine kn_ ?_ _ | refine kd_ ?_ | refine ka_ ?_ _)); exact BK304.out) hb); have n1_ := sd_ (blk_below (g := gb306) (o := .cells #[.int .i64 x307000_1, .int .i64 x307001_1, .int .i64 x307002_1, .int .i64 x307003_1] 23 (0, 0)) (by (with_reducible repeat (first | refine kn_ ?_ _ | refine kd_ ?_ | refine ka_ ?_ _)); exact BK306.out) hb); have n2_ := sd_ (bt_ (by repeat (first | (with_reducible first | exact HB.out | apply ba_ | apply pd_ | apply d1_ | refine bs_ ?_ GE304.out | refine bs_ ?_ GE306.out) | exact HB.out)) hb); clear BK304; clear BK306; clear HB; have BK304 := n0_; have BK306 := n1_; have HB := n2_; clear n0_ n1_ n2_; (try clear hb); (try clear hb2); (try clear hk); (try clear hi)))
        have n0_ := sd_ (kd_ BK304.out)
        have n1_ := sd_ (kd_ BK306.out)
        have n2_ := sd_ (d1_ HB.out)
        clear BK304
        clear BK306
        clear HB
        have BK304 := n0_
        have BK306 := n1_
        have HB := n2_
        clear n0_ n1_ n2_
        have p309 : 0 ≤ (x5_1 : Int) := od_ (by first | (with_reducible assumption) | assumption)
        have q309 : x5_1 < (l0.length : Int) := od_ (by first | (with_reducible assumption) | assumption)
        obtain ⟨ad309, e309, hx309_0, hx309_1, hx309_2, hx309_3⟩ := at_T23 HR0.out x5_1 p309 q309
        have hw309_3 := hx309_3
        have hw309_2 := hx309_2
        have hw309_1 := hx309_1
        have hw309_0 := hx309_0
        obtain rfl : ad305 = ad309 := (by injection e309)
        replace hx309_0 := (HB.out.cell (wb_ w _ hx309_0)).trans hx309_0
        replace hx309_1 := (HB.out.cell (wb_ w _ hx309_1)).trans hx309_1
        replace hx309_2 := (HB.out.cell (wb_ w _ hx309_2)).trans hx309_2
        replace hx309_3 := (HB.out.cell (wb_ w _ hx309_3)).trans hx309_3
        replace p309 := eq_true p309
        replace q309 := eq_true q309
        refine start_ (n := 7) (S := fun w' => w'.cell? ⟨gb306, 0, none⟩ = some (.int .i64 x307000_1) ∧ w'.cell? ⟨gb306, 1, none⟩ = some (.int .i64 x307001_1) ∧ w'.cell? ⟨gb306, 2, none⟩ = some (.int .i64 x307002_1) ∧ w'.cell? ⟨gb306, 3, none⟩ = some (.int .i64 x307003_1) ∧ w'.cell? (ad305.add ((x5_1).toNat * 4)) = some (.int .i64 ((rd_T23 l0 x5_1).f0)) ∧ w'.cell? ⟨(ad305.add ((x5_1).toNat * 4)).block, (ad305.add ((x5_1).toNat * 4)).off + 1, none⟩ = some (.int .i64 ((rd_T23 l0 x5_1).f1)) ∧ w'.cell? ⟨(ad305.add ((x5_1).toNat * 4)).block, (ad305.add ((x5_1).toNat * 4)).off + 2, none⟩ = some (.int .i64 ((rd_T23 l0 x5_1).f2)) ∧ w'.cell? ⟨(ad305.add ((x5_1).toNat * 4)).block, (ad305.add ((x5_1).toNat * 4)).off + 3, none⟩ = some (.int .i64 ((rd_T23 l0 x5_1).f3))) (ds := [6]) #[false, false, false, false, false, false, false] (by kernel_rfl) rfl rfl ⟨(kc_ BK306.out 0).trans rfl, (kc_ BK306.out 1).trans rfl, (kc_ BK306.out 2).trans rfl, (kc_ BK306.out 3).trans rfl, ((HB.out.cell (wb_ w _ hw309_0)).trans hw309_0), ((HB.out.cell (wb_ w _ hw309_1)).trans hw309_1), ((HB.out.cell (wb_ w _ hw309_2)).trans hw309_2), ((HB.out.cell (wb_ w _ hw309_3)).trans hw309_3)⟩ (fun hHeld => ?_)
        generalize w15.drew = w16 at BK304 BK306 HB hx309_0 hx309_1 hx309_2 hx309_3 hHeld ⊢
        refine pure_ (i := 1) (N := some 27) (v := ?_) (a' := ?_) #[false, true, false, false, false, false, false] rfl rfl (by kernel_rfl) (fun _ _ _ h => h) (Or.inl ⟨by rfl, ?_⟩) ?_ ?_
        rotate_left; (intro w'; go_simp; with_reducible rfl); rotate_left; (simp only [Act.put, ls_, lz_, lc_, i64_w, i32_w]; rfl)
        refine pure_ (i := 2) (N := some 28) (v := ?_) (a' := ?_) #[false, true, true, false, false, false, false] rfl rfl (by kernel_rfl) (fun _ _ _ h => h) (Or.inl ⟨by rfl, ?_⟩) ?_ ?_
        rotate_left; (intro w'; go_simp; with_reducible rfl); rotate_left; (simp only [Act.put, ls_, lz_, lc_, i64_w, i32_w]; rfl)
        refine pure_ (i := 3) (N := some 29) (v := ?_) (a' := ?_) #[false, true, true, true, false, false, false] rfl rfl (by kernel_rfl) (fun _ _ _ h => h) (Or.inl ⟨by rfl, ?_⟩) ?_ ?_
        rotate_left; (intro w'; go_simp; with_reducible rfl); rotate_left; (simp only [Act.put, ls_, lz_, lc_, i64_w, i32_w]; rfl)
        refine take_ (i := 0) (N := some 26) (v := ?_) (a' := ?_) #[true, true, true, true, false, false, false] rfl rfl (by kernel_rfl) (fun _ _ _ h => h) (Or.inl ⟨by rfl, ?_⟩) hHeld ?_ ?_
        rotate_left
        ·rintro w' ⟨s0, s1, s2, s3, s4, s5, s6, s7⟩
         go_simp
         with_reducible rfl
        rotate_left
        ·simp only [Act.put, ls_, lz_, lc_, i64_w, i32_w]
         rfl
        refine take_ (i := 4) (N := some 30) (v := ?_) (a' := ?_) #[true, true, true, true, true, false, false] rfl rfl (by kernel_rfl) (fun _ _ _ h => h) (Or.inl ⟨by rfl, ?_⟩) hHeld ?_ ?_
        rotate_left
        ·rintro w' ⟨s0, s1, s2, s3, s4, s5, s6, s7⟩
         go_simp
         with_reducible rfl
        rotate_left
        ·simp only [Act.put, ls_, lz_, lc_, i64_w, i32_w]
         rfl
        refine one_ (i := 5) (N := some 31) #[true, true, true, true, true, true, false] rfl rfl (by kernel_rfl) (by decide) (fun K hK => ?_)
        refine goes_ Tryd.func15 (by kernel_rfl) rfl #[.agg #[.int .i64 x307000_1, .int .i64 x307001_1, .int .i64 x307002_1, .int .i64 x307003_1], .agg #[.int .i64 ((rd_T23 l0 x5_1).f0), .int .i64 ((rd_T23 l0 x5_1).f1), .int .i64 ((rd_T23 l0 x5_1).f2), .int .i64 ((rd_T23 l0 x5_1).f3)]] (by rfl) rfl rfl (by (try simp only [lm_, lq_, lx_]); first | done | rfl | (simp only [ld_, lt_]; rfl)) ?_
        with_reducible refine (neumeref03_Join.calls k1 x307000_1 x307001_1 x307002_1 x307003_1 ((rd_T23 l0 x5_1).f0) ((rd_T23 l0 x5_1).f1) ((rd_T23 l0 x5_1).f2) ((rd_T23 l0 x5_1).f3) t310 t311 t312 t313 _ A14.out).mono ?_
        rintro e w17 ⟨rfl, hb⟩
        refine ⟨_, rfl, ?_⟩
        have n0_ := sd_ (blk_below (g := gb304) (o := .cells #[.int .i64 x305000_1, .int .i64 x305001_1, .int .i64 x305002_1, .int .i64 x305003_1] 23 (0, 0)) (by (with_reducible repeat (first | refine kn_ ?_ _ | refine kd_ ?_ | refine ka_ ?_ _)); exact BK304.out) hb)
        have n1_ := sd_ (blk_below (g := gb306) (o := .cells #[.int .i64 x307000_1, .int .i64 x307001_1, .int .i64 x307002_1, .int .i64 x307003_1] 23 (0, 0)) (by (with_reducible repeat (first | refine kn_ ?_ _ | refine kd_ ?_ | refine ka_ ?_ _)); exact BK306.out) hb)
        have n2_ := sd_ (bt_ (by repeat (first | (with_reducible first | exact HB.out | apply ba_ | apply pd_ | apply d1_ | refine bs_ ?_ GE304.out | refine bs_ ?_ GE306.out) | exact HB.out)) hb)
        clear BK304
        clear BK306
        clear HB
        have BK304 := n0_
        have BK306 := n1_
        have HB := n2_
        clear n0_ n1_ n2_
        (try clear hb)
        (try clear hb2)
        (try clear hk)
        (try clear hi)
        refine hK.out _ _ ⟨(kc_ BK306.out 0).trans rfl, (kc_ BK306.out 1).trans rfl, (kc_ BK306.out 2).trans rfl, (kc_ BK306.out 3).trans rfl, ((HB.out.cell (wb_ w _ hw309_0)).trans hw309_0), ((HB.out.cell (wb_ w _ hw309_1)).trans hw309_1), ((HB.out.cell (wb_ w _ hw309_2)).trans hw309_2), ((HB.out.cell (wb_ w _ hw309_3)).trans hw309_3)⟩ (fun hHeld => ?_)
        clear hK K
        refine norm_ (a' := ?_) ?_ ?_
        rotate_left
        ·show Act.put _ (some 31) _ = _
         simp only [Act.put, ls_, lz_, lc_, i64_w, i32_w]
         rfl
        refine last_ (i := 6) (N := none) #[true, true, true, true, true, true, true] rfl rfl (by kernel_rfl) (by decide) (fun K hK => ?_)
        have hs18 : w17.cell? ⟨gb306, 0, none⟩ = some (.int .i64 x307000_1) := (kc_ BK306.out 0).trans rfl
        have hfs18 := kf_ BK306.out 0
        have hns18_0 := NB304_306.out
        have hms18_0 := NB306_304.out
        have hs19 : w17.cell? ⟨gb306, 1, none⟩ = some (.int .i64 x307001_1) := (kc_ BK306.out 1).trans rfl
        have hfs19 := kf_ BK306.out 1
        have hns19_0 := NB304_306.out
        have hms19_0 := NB306_304.out
        have hs20 : w17.cell? ⟨gb306, 2, none⟩ = some (.int .i64 x307002_1) := (kc_ BK306.out 2).trans rfl
        have hfs20 := kf_ BK306.out 2
        have hns20_0 := NB304_306.out
        have hms20_0 := NB306_304.out
        have hs21 : w17.cell? ⟨gb306, 3, none⟩ = some (.int .i64 x307003_1) := (kc_ BK306.out 3).trans rfl
        have hfs21 := kf_ BK306.out 3
        have hns21_0 := NB304_306.out
        have hms21_0 := NB306_304.out
        refine skip_ (w1 := ?_) (by rfl) rfl ?_ ?_
        rotate_left
        ·go_simp
         rfl
        refine hK.out _ _ ?_
        clear hK K
        refine done_ (by kernel_rfl) ?_
        try go_wp2
        go_roundg k1
        case measure => have := HK1.out; omega
        case rel => exact ⟨(wrap64 (x5_1 + 1)), (x305000_1), (x305001_1), (x305002_1), (x305003_1), (t310), (t311), (t312), (t313), (by first | rfl | (simp; done) | (simp [*]; done) | (simp [bne]; done)), H', ⟨by have := HK1.out; omega⟩, ⟨by (with_reducible repeat (first | refine kn_ ?_ _ | refine kd_ ?_ | refine ka_ ?_ _)); refine blk_far ?_ NB304_306.out _; (with_reducible repeat (first | refine kn_ ?_ _ | refine kd_ ?_ | refine ka_ ?_ _)); refine blk_far ?_ NB304_306.out _; (with_reducible repeat (first | refine kn_ ?_ _ | refine kd_ ?_ | refine ka_ ?_ _)); refine blk_far ?_ NB304_306.out _; (with_reducible repeat (first | refine kn_ ?_ _ | refine kd_ ?_ | refine ka_ ?_ _)); refine blk_far ?_ NB304_306.out _; (with_reducible repeat (first | refine kn_ ?_ _ | refine kd_ ?_ | refine ka_ ?_ _)); exact BK304.out⟩, ⟨by (with_reducible repeat (first | refine kn_ ?_ _ | refine kd_ ?_ | refine ka_ ?_ _)); refine blk_put (cs := #[.int .i64 t310, .int .i64 t311, .int .i64 t312, .int .i64 x307003_1]) ?_ 3 _ rfl; (with_reducible repeat (first | refine kn_ ?_ _ | refine kd_ ?_ | refine ka_ ?_ _)); refine blk_put (cs := #[.int .i64 t310, .int .i64 t311, .int .i64 x307002_1, .int .i64 x307003_1]) ?_ 2 _ rfl; (with_reducible repeat (first | refine kn_ ?_ _ | refine kd_ ?_ | refine ka_ ?_ _)); refine blk_put (cs := #[.int .i64 t310, .int .i64 x307001_1, .int .i64 x307002_1, .int .i64 x307003_1]) ?_ 1 _ rfl; (with_reducible repeat (first | refine kn_ ?_ _ | refine kd_ ?_ | refine ka_ ?_ _)); refine blk_put (cs := #[.int .i64 x307000_1, .int .i64 x307001_1, .int .i64 x307002_1, .int .i64 x307003_1]) ?_ 0 _ rfl; (with_reducible repeat (first | refine kn_ ?_ _ | refine kd_ ?_ | refine ka_ ?_ _)); exact BK306.out⟩, ⟨by repeat (first | (with_reducible first | exact HB.out | apply ba_ | apply pd_ | apply d1_ | refine bs_ ?_ GE304.out | refine bs_ ?_ GE306.out) | exact HB.out)⟩⟩
       ·replace c13 := bf_ c13
        subst c13
        have H1 : (some (0, 0, 0, 0, false)) = some (r1, r2, r3, r4, r5) := by rw [if_neg (show ¬ (false = true) by decide)] at H; exact H
        clear H; have H := H1; clear H1
        simp only [Option.some.injEq, Prod.mk.injEq] at H
        obtain ⟨rfl, rfl, rfl, rfl, rfl⟩ := H
        have p307 : 0 ≤ (x5_1 : Int) := od_ (by first | (with_reducible assumption) | assumption)
        have q307 : x5_1 < (l0.length : Int) := od_ (by first | (with_reducible assumption) | assumption)
        obtain ⟨ad307, e307, hx307_0, hx307_1, hx307_2, hx307_3⟩ := at_T23 HR0.out x5_1 p307 q307
        obtain rfl : ad305 = ad307 := (by injection e307)
        replace hx307_0 := (HB.out.cell (wb_ w _ hx307_0)).trans hx307_0
        replace hx307_1 := (HB.out.cell (wb_ w _ hx307_1)).trans hx307_1
        replace hx307_2 := (HB.out.cell (wb_ w _ hx307_2)).trans hx307_2
        replace hx307_3 := (HB.out.cell (wb_ w _ hx307_3)).trans hx307_3
        replace p307 := eq_true p307
        replace q307 := eq_true q307
        go_wp2_with (first | ((with_reducible refine gate_callee (f := 13) rfl ?_); refine goesL_ (some 23) rfl rfl Tryd.func13 (by kernel_rfl) rfl #[.agg #[.int .i64 ((rd_T23 l0 x5_1).f0), .int .i64 ((rd_T23 l0 x5_1).f1), .int .i64 ((rd_T23 l0 x5_1).f2), .int .i64 ((rd_T23 l0 x5_1).f3)]] rfl (by (try simp only [lm_, lq_, lx_]); first | done | rfl | (simp only [ld_, lt_]; rfl)) ?_; (with_reducible refine (neumeref03_Check.calls ((rd_T23 l0 x5_1).f0) ((rd_T23 l0 x5_1).f1) ((rd_T23 l0 x5_1).f2) ((rd_T23 l0 x5_1).f3) false _ A12.out).mono ?_); rintro e w22 ⟨rfl, hb⟩; refine ⟨_, rfl, ?_⟩; have n0_ := sd_ (blk_below (g := gb304) (o := .cells #[.int .i64 x305000_1, .int .i64 x305001_1, .int .i64 x305002_1, .int .i64 x305003_1] 23 (0, 0)) (by (with_reducible repeat (first | refine kn_ ?_ _ | refine kd_ ?_ | refine ka_ ?_ _)); exact BK304.out) hb); have n1_ := sd_ (blk_below (g := gb306) (o := .cells #[.int .i64 x307000_1, .int .i64 x307001_1, .int .i64 x307002_1, .int .i64 x307003_1] 23 (0, 0)) (by (with_reducible repeat (first | refine kn_ ?_ _ | refine kd_ ?_ | refine ka_ ?_ _)); exact BK306.out) hb); have n2_ := sd_ (bt_ (by repeat (first | (with_reducible first | exact HB.out | apply ba_ | apply pd_ | apply d1_ | refine bs_ ?_ GE304.out | refine bs_ ?_ GE306.out) | exact HB.out)) hb); clear BK304; clear BK306; clear HB; have BK304 := n0_; have BK306 := n1_; have HB := n2_; clear n0_ n1_ n2_; (try clear hb); (try clear hb2); (try clear hk); (try clear hi); have hnb23 := NB304_306.out; have hnc23 := NB306_304.out; have hcz24_0 : w22.cell? ⟨gb304, 0, none⟩ = some (.int .i64 x305000_1) := (kc_ BK304.out 0).trans rfl; have hcz24_1 : w22.cell? ⟨gb304, 1, none⟩ = some (.int .i64 x305001_1) := (kc_ BK304.out 1).trans rfl; have hcz24_2 : w22.cell? ⟨gb304, 2, none⟩ = some (.int .i64 x305002_1) := (kc_ BK304.out 2).trans rfl; have hcz24_3 : w22.cell? ⟨gb304, 3, none⟩ = some (.int .i64 x305003_1) := (kc_ BK304.out 3).trans rfl; have hfz24_0 := kf_ BK304.out 0; have hfz24_1 := kf_ BK304.out 1; have hfz24_2 := kf_ BK304.out 2; have hfz24_3 := kf_ BK304.out 3))
        refine bodyPost_ret (results_ct rfl _ _ gb304 23 #[.int .i64 0, .int .i64 0, .int .i64 0, .int .i64 0] (0, 0) _ rfl (by (with_reducible repeat (first | refine kn_ ?_ _ | refine kd_ ?_ | refine ka_ ?_ _)); refine blk_put (cs := #[.int .i64 0, .int .i64 0, .int .i64 0, .int .i64 x305003_1]) ?_ 3 _ rfl; (with_reducible repeat (first | refine kn_ ?_ _ | refine kd_ ?_ | refine ka_ ?_ _)); refine blk_put (cs := #[.int .i64 0, .int .i64 0, .int .i64 x305002_1, .int .i64 x305003_1]) ?_ 2 _ rfl; (with_reducible repeat (first | refine kn_ ?_ _ | refine kd_ ?_ | refine ka_ ?_ _)); refine blk_put (cs := #[.int .i64 0, .int .i64 x305001_1, .int .i64 x305002_1, .int .i64 x305003_1]) ?_ 1 _ rfl; (with_reducible repeat (first | refine kn_ ?_ _ | refine kd_ ?_ | refine ka_ ?_ _)); refine blk_put (cs := #[.int .i64 x305000_1, .int .i64 x305001_1, .int .i64 x305002_1, .int .i64 x305003_1]) ?_ 0 _ rfl; (with_reducible repeat (first | refine kn_ ?_ _ | refine kd_ ?_ | refine ka_ ?_ _)); exact BK304.out) Tryd.underlying23 rfl (by kernel_rfl)) rfl ?_
        exact ⟨by first | rfl | (simp [errW_none, errW_some] <;> rfl) | (simp [*, errW_none, errW_some] <;> rfl), by repeat (first | (with_reducible first | exact HB.out | apply ba_ | apply pd_ | apply d1_ | refine bs_ ?_ GE304.out | refine bs_ ?_ GE306.out) | exact HB.out)⟩
      ·rw [if_neg c11] at H
       exact absurd H (by simp)
     ·rw [if_neg c10] at H
      have c10b0 : decide (x5_1 < (l0.length : Int)) = false := df_ c10
      clear c10
      simp only [Option.some.injEq, Prod.mk.injEq] at H
      obtain ⟨rfl, rfl, rfl, rfl, rfl⟩ := H
      have hnb25 := NB306_304.out
      have hnc25 := NB304_306.out
      have hcz26_0 : wr.cell? ⟨gb306, 0, none⟩ = some (.int .i64 x307000_1) := (kc_ BK306.out 0).trans rfl
      have hcz26_1 : wr.cell? ⟨gb306, 1, none⟩ = some (.int .i64 x307001_1) := (kc_ BK306.out 1).trans rfl
      have hcz26_2 : wr.cell? ⟨gb306, 2, none⟩ = some (.int .i64 x307002_1) := (kc_ BK306.out 2).trans rfl
      have hcz26_3 : wr.cell? ⟨gb306, 3, none⟩ = some (.int .i64 x307003_1) := (kc_ BK306.out 3).trans rfl
      have hfz26_0 := kf_ BK306.out 0
      have hfz26_1 := kf_ BK306.out 1
      have hfz26_2 := kf_ BK306.out 2
      have hfz26_3 := kf_ BK306.out 3
      have hcz27_0 : wr.cell? ⟨gb304, 0, none⟩ = some (.int .i64 x305000_1) := (kc_ BK304.out 0).trans rfl
      have hcz27_1 : wr.cell? ⟨gb304, 1, none⟩ = some (.int .i64 x305001_1) := (kc_ BK304.out 1).trans rfl
      have hcz27_2 : wr.cell? ⟨gb304, 2, none⟩ = some (.int .i64 x305002_1) := (kc_ BK304.out 2).trans rfl
      have hcz27_3 : wr.cell? ⟨gb304, 3, none⟩ = some (.int .i64 x305003_1) := (kc_ BK304.out 3).trans rfl
      have hfz27_0 := kf_ BK304.out 0
      have hfz27_1 := kf_ BK304.out 1
      have hfz27_2 := kf_ BK304.out 2
      have hfz27_3 := kf_ BK304.out 3
      go_wp2
      refine bodyPost_ret (results_ct rfl _ _ gb304 23 #[.int .i64 x307000_1, .int .i64 x307001_1, .int .i64 x307002_1, .int .i64 x307003_1] (0, 0) _ rfl (by (with_reducible repeat (first | refine kn_ ?_ _ | refine kd_ ?_ | refine ka_ ?_ _)); refine blk_put (cs := #[.int .i64 x307000_1, .int .i64 x307001_1, .int .i64 x307002_1, .int .i64 x305003_1]) ?_ 3 _ rfl; (with_reducible repeat (first | refine kn_ ?_ _ | refine kd_ ?_ | refine ka_ ?_ _)); refine blk_put (cs := #[.int .i64 x307000_1, .int .i64 x307001_1, .int .i64 x305002_1, .int .i64 x305003_1]) ?_ 2 _ rfl; (with_reducible repeat (first | refine kn_ ?_ _ | refine kd_ ?_ | refine ka_ ?_ _)); refine blk_put (cs := #[.int .i64 x307000_1, .int .i64 x305001_1, .int .i64 x305002_1, .int .i64 x305003_1]) ?_ 1 _ rfl; (with_reducible repeat (first | refine kn_ ?_ _ | refine kd_ ?_ | refine ka_ ?_ _)); refine blk_put (cs := #[.int .i64 x305000_1, .int .i64 x305001_1, .int .i64 x305002_1, .int .i64 x305003_1]) ?_ 0 _ rfl; (with_reducible repeat (first | refine kn_ ?_ _ | refine kd_ ?_ | refine ka_ ?_ _)); exact BK304.out) Tryd.underlying23 rfl (by kernel_rfl)) rfl ?_
      exact ⟨by first | rfl | (simp [errW_none, errW_some] <;> rfl) | (simp [*, errW_none, errW_some] <;> rfl), by repeat (first | (with_reducible first | exact HB.out | apply ba_ | apply pd_ | apply d1_ | refine bs_ ?_ GE304.out | refine bs_ ?_ GE306.out) | exact HB.out)⟩
  ·rw [if_neg c5] at H
   exact absurd H (by simp)

end Go.Proofs.YteecpeggnejeaaaDoor.P
