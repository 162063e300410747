-- Written by a program of this session (wip/tools/xprint.py, over the kit's print): Lean checks it.
import Derived.Test.YteecpeggnejeaaaDoorPx0
import Derived.Test.YteecpeggnejeaaaDoorPx1
import Derived.Test.YteecpeggnejeaaaDoorPx2
import Derived.Test.YteecpeggnejeaaaDoorPx3
import Derived.Test.YteecpeggnejeaaaDoorPx9
import Derived.Test.YteecpeggnejeaaaDoorPx11
namespace Go.Proofs.YteecpeggnejeaaaDoor.P
open Go.RowKit Go.Proofs.YteecpeggnejeaaaDoorW.PrintWords Go.Proofs.YteecpeggnejeaaaDoorW.PrintLast Go.Proofs.YteecpeggnejeaaaDoorW.PrintMore
attribute [local go_sem] max2_int min2_int max_two min_two max_three min_three max_four min_four   -- for this text's walks alone
set_option linter.unusedVariables false
set_option linter.unusedSimpArgs false

attribute [local go_sem high] eqA23
/-! ### neumelaw03_BoxAround: function 6 -/
mutual
def neumelaw03_BoxAround.j0 : Nat → Bool → Int → Int → Int → Int → Int → Int → Int → Int → Int → Int → Int → Int → Option (Bool)
 | 0, _, _, _, _, _, _, _, _, _, _, _, _, _ => none
 | k + 1, x15, x368000, x368001, x368002, x368003, x369000, x369001, x369002, x369003, x370000, x370001, x370002, x370003 => if x15 = true then ((neumelaw03_heads.f k).bind fun t372 => (some t372)) else ((box_Join.f k x368000 x368001 x368002 x368003 x369000 x369001 x369002 x369003).bind fun bt373 => ((box_Inside.f k x368000 x368001 x368002 x368003 bt373.1 bt373.2.1 bt373.2.2.1 bt373.2.2.2).bind fun t378 => (if t378 = true then ((box_Inside.f k x369000 x369001 x369002 x369003 bt373.1 bt373.2.1 bt373.2.2.1 bt373.2.2.2).bind fun t379 => (if t379 = true then ((box_Check.f bt373.1 bt373.2.1 bt373.2.2.1 bt373.2.2.2).bind fun t380 => (if t380 = true then ((box_Join.f k x369000 x369001 x369002 x369003 x368000 x368001 x368002 x368003).bind fun bt381 => (neumelaw03_BoxAround.j1 k (!(bt373.1 == bt381.1) || (!(bt373.2.1 == bt381.2.1) || (!(bt373.2.2.1 == bt381.2.2.1) || (!(bt373.2.2.2 == bt381.2.2.2))))) x368000 x368001 x368002 x368003 x369000 x369001 x369002 x369003 x370000 x370001 x370002 x370003 bt373.1 bt373.2.1 bt373.2.2.1 bt373.2.2.2)) else (neumelaw03_BoxAround.j1 k true x368000 x368001 x368002 x368003 x369000 x369001 x369002 x369003 x370000 x370001 x370002 x370003 bt373.1 bt373.2.1 bt373.2.2.1 bt373.2.2.2))) else (neumelaw03_BoxAround.j1 k true x368000 x368001 x368002 x368003 x369000 x369001 x369002 x369003 x370000 x370001 x370002 x370003 bt373.1 bt373.2.1 bt373.2.2.1 bt373.2.2.2))) else (neumelaw03_BoxAround.j1 k true x368000 x368001 x368002 x368003 x369000 x369001 x369002 x369003 x370000 x370001 x370002 x370003 bt373.1 bt373.2.1 bt373.2.2.1 bt373.2.2.2))))
def neumelaw03_BoxAround.j1 : Nat → Bool → Int → Int → Int → Int → Int → Int → Int → Int → Int → Int → Int → Int → Int → Int → Int → Int → Option (Bool)
 | 0, _, _, _, _, _, _, _, _, _, _, _, _, _, _, _, _, _ => none
 | k + 1, x41, x368000, x368001, x368002, x368003, x369000, x369001, x369002, x369003, x370000, x370001, x370002, x370003, x378000, x378001, x378002, x378003 => if x41 = true then (some false) else ((box_Inside.f k x368000 x368001 x368002 x368003 x370000 x370001 x370002 x370003).bind fun t385 => (if t385 = true then ((box_Inside.f k x369000 x369001 x369002 x369003 x370000 x370001 x370002 x370003).bind fun t386 => (if t386 = true then ((box_Inside.f k x378000 x378001 x378002 x378003 x370000 x370001 x370002 x370003).bind fun t387 => (if t387 = true then ((neumelaw03_heads.f k).bind fun t388 => (some t388)) else (some false))) else ((neumelaw03_heads.f k).bind fun t389 => (some t389)))) else ((neumelaw03_heads.f k).bind fun t390 => (some t390))))
end
def neumelaw03_BoxAround.f (k : Nat) (a0_0 : Int) (a0_1 : Int) (a0_2 : Int) (a0_3 : Int) (a1_0 : Int) (a1_1 : Int) (a1_2 : Int) (a1_3 : Int) (a2_0 : Int) (a2_1 : Int) (a2_2 : Int) (a2_3 : Int) : Option (Bool) := (box_Check.f a0_0 a0_1 a0_2 a0_3).bind fun t370 => (if t370 = true then ((box_Check.f a1_0 a1_1 a1_2 a1_3).bind fun t371 => (neumelaw03_BoxAround.j0 k (!t371) a0_0 a0_1 a0_2 a0_3 a1_0 a1_1 a1_2 a1_3 a2_0 a2_1 a2_2 a2_3)) else (neumelaw03_BoxAround.j0 k true a0_0 a0_1 a0_2 a0_3 a1_0 a1_1 a1_2 a1_3 a2_0 a2_1 a2_2 a2_3))
theorem neumelaw03_BoxAround.mono_l : ∀ k, (∀ y0 y1 y2 y3 y4 y5 y6 y7 y8 y9 y10 y11 y12, LeO (neumelaw03_BoxAround.j0 k y0 y1 y2 y3 y4 y5 y6 y7 y8 y9 y10 y11 y12) (neumelaw03_BoxAround.j0 (k + 1) y0 y1 y2 y3 y4 y5 y6 y7 y8 y9 y10 y11 y12)) ∧ (∀ y0 y1 y2 y3 y4 y5 y6 y7 y8 y9 y10 y11 y12 y13 y14 y15 y16, LeO (neumelaw03_BoxAround.j1 k y0 y1 y2 y3 y4 y5 y6 y7 y8 y9 y10 y11 y12 y13 y14 y15 y16) (neumelaw03_BoxAround.j1 (k + 1) y0 y1 y2 y3 y4 y5 y6 y7 y8 y9 y10 y11 y12 y13 y14 y15 y16))
 | 0 => ⟨fun _ _ _ _ _ _ _ _ _ _ _ _ _ r h => by simp [neumelaw03_BoxAround.j0] at h, fun _ _ _ _ _ _ _ _ _ _ _ _ _ _ _ _ _ r h => by simp [neumelaw03_BoxAround.j1] at h⟩
 | k + 1 => by
  obtain ⟨ih0, ih1⟩ := neumelaw03_BoxAround.mono_l k
  refine ⟨?_, ?_⟩
  ·intro y0 y1 y2 y3 y4 y5 y6 y7 y8 y9 y10 y11 y12
   unfold neumelaw03_BoxAround.j0
   repeat' first
   | (with_reducible exact ih0 _ _ _ _ _ _ _ _ _ _ _ _ _)
   | (with_reducible exact ih1 _ _ _ _ _ _ _ _ _ _ _ _ _ _ _ _ _)
   | (with_reducible exact box_Inside.mono _ _ _ _ _ _ _ _ _)
   | (with_reducible exact box_Join.mono _ _ _ _ _ _ _ _ _)
   | (with_reducible exact neumelaw03_heads.mono _)
   | (with_reducible exact LeO.refl _)
   | (with_reducible exact LeO.none _)
   | (with_reducible refine LeO.ite ?_ ?_)
   | (with_reducible refine LeO.bind ?_ (fun _ => ?_))
   | exact ih0 _ _ _ _ _ _ _ _ _ _ _ _ _
   | exact ih1 _ _ _ _ _ _ _ _ _ _ _ _ _ _ _ _ _
   | exact box_Inside.mono _ _ _ _ _ _ _ _ _
   | exact box_Join.mono _ _ _ _ _ _ _ _ _
   | exact neumelaw03_heads.mono _
   | exact LeO.none _
   | refine LeO.ite ?_ ?_
   | refine LeO.bind ?_ (fun _ => ?_)
  ·intro y0 y1 y2 y3 y4 y5 y6 y7 y8 y9 y10 y11 y12 y13 y14 y15 y16
   unfold neumelaw03_BoxAround.j1
   repeat' first
   | (with_reducible exact ih0 _ _ _ _ _ _ _ _ _ _ _ _ _)
   | (with_reducible exact ih1 _ _ _ _ _ _ _ _ _ _ _ _ _ _ _ _ _)
   | (with_reducible exact box_Inside.mono _ _ _ _ _ _ _ _ _)
   | (with_reducible exact box_Join.mono _ _ _ _ _ _ _ _ _)
   | (with_reducible exact neumelaw03_heads.mono _)
   | (with_reducible exact LeO.refl _)
   | (with_reducible exact LeO.none _)
   | (with_reducible refine LeO.ite ?_ ?_)
   | (with_reducible refine LeO.bind ?_ (fun _ => ?_))
   | exact ih0 _ _ _ _ _ _ _ _ _ _ _ _ _
   | exact ih1 _ _ _ _ _ _ _ _ _ _ _ _ _ _ _ _ _
   | exact box_Inside.mono _ _ _ _ _ _ _ _ _
   | exact box_Join.mono _ _ _ _ _ _ _ _ _
   | exact neumelaw03_heads.mono _
   | exact LeO.none _
   | refine LeO.ite ?_ ?_
   | refine LeO.bind ?_ (fun _ => ?_)
theorem neumelaw03_BoxAround.mono : ∀ a0 a1 a2 a3 a4 a5 a6 a7 a8 a9 a10 a11 k, LeO (neumelaw03_BoxAround.f k a0 a1 a2 a3 a4 a5 a6 a7 a8 a9 a10 a11) (neumelaw03_BoxAround.f (k + 1) a0 a1 a2 a3 a4 a5 a6 a7 a8 a9 a10 a11) := by
 intro a0 a1 a2 a3 a4 a5 a6 a7 a8 a9 a10 a11 k
 obtain ⟨ih0, ih1⟩ := neumelaw03_BoxAround.mono_l k
 unfold neumelaw03_BoxAround.f
 repeat' first
   | (with_reducible exact ih0 _ _ _ _ _ _ _ _ _ _ _ _ _)
   | (with_reducible exact ih1 _ _ _ _ _ _ _ _ _ _ _ _ _ _ _ _ _)
   | (with_reducible exact box_Inside.mono _ _ _ _ _ _ _ _ _)
   | (with_reducible exact box_Join.mono _ _ _ _ _ _ _ _ _)
   | (with_reducible exact neumelaw03_heads.mono _)
   | (with_reducible exact LeO.refl _)
   | (with_reducible exact LeO.none _)
   | (with_reducible refine LeO.ite ?_ ?_)
   | (with_reducible refine LeO.bind ?_ (fun _ => ?_))
   | exact ih0 _ _ _ _ _ _ _ _ _ _ _ _ _
   | exact ih1 _ _ _ _ _ _ _ _ _ _ _ _ _ _ _ _ _
   | exact box_Inside.mono _ _ _ _ _ _ _ _ _
   | exact box_Join.mono _ _ _ _ _ _ _ _ _
   | exact neumelaw03_heads.mono _
   | exact LeO.none _
   | refine LeO.ite ?_ ?_
   | refine LeO.bind ?_ (fun _ => ?_)
def neumelaw03_BoxAround.T4 : Bool × List (List Nat × List Nat) := (true, [([], []), ([], []), ([0, 1], [0, 1]), ([2], [2]), ([3, 2], [3]), ([4], [4]), ([4], [4]), ([5, 6, 4, 4], [4, 5, 6]), ([7, 4], [4, 7]), ([4, 8], [4, 8]), ([9, 7], [9]), ([10], [10]), ([11, 10, 10], [10, 11]), ([12, 10], [10, 12]), ([10, 13], [10, 13]), ([14, 12], [14]), ([15], [15]), ([15], [15]), ([15], [15]), ([17, 18, 15, 15], [15, 17, 18]), ([16, 19, 15], [15, 16, 19]), ([15, 20], [15, 20])])
def neumelaw03_BoxAround.B4 : List Nat := [0, 0, 3, 7, 15, 31, 31, 127, 255, 511, 1023, 2047, 4095, 8191, 16383, 32767, 65535, 65535, 65535, 458751, 1048575, 2097151]
theorem neumelaw03_BoxAround.tab4 : rtab .any (opsOf Tryd.f6 4) = neumelaw03_BoxAround.T4 := by kernel_rfl
theorem neumelaw03_BoxAround.bits4 : waitsOk neumelaw03_BoxAround.T4.2 neumelaw03_BoxAround.B4 = true := by kernel_rfl
set_option maxHeartbeats 8000000 in
set_option maxRecDepth 100000 in
theorem neumelaw03_BoxAround.calls (k : Nat) (a0_0 : Int) (a0_1 : Int) (a0_2 : Int) (a0_3 : Int) (a1_0 : Int) (a1_1 : Int) (a1_2 : Int) (a1_3 : Int) (a2_0 : Int) (a2_1 : Int) (a2_2 : Int) (a2_3 : Int) (r : Bool) (w : World) (hE : Aside0 (LaidE w)) (hxt : Aside0 (r = true)) (h : neumelaw03_BoxAround.f k a0_0 a0_1 a0_2 a0_3 a1_0 a1_1 a1_2 a1_3 a2_0 a2_1 a2_2 a2_3 = some r) :
  Calls Tryd.prog 6 #[.agg #[.int .i64 a0_0, .int .i64 a0_1, .int .i64 a0_2, .int .i64 a0_3], .agg #[.int .i64 a1_0, .int .i64 a1_1, .int .i64 a1_2, .int .i64 a1_3], .agg #[.int .i64 a2_0, .int .i64 a2_1, .int .i64 a2_2, .int .i64 a2_3]] w fun e w' => e = .returned (.bool r) ∧ Below w.heap.size w w' := by
 have hu23 := Tryd.underlying23
 have HB := sd_ (Below.refl w.heap.size w)
 have H : ((box_Check.f a0_0 a0_1 a0_2 a0_3).bind fun t370 => (if t370 = true then ((box_Check.f a1_0 a1_1 a1_2 a1_3).bind fun t371 => (neumelaw03_BoxAround.j0 k (!t371) a0_0 a0_1 a0_2 a0_3 a1_0 a1_1 a1_2 a1_3 a2_0 a2_1 a2_2 a2_3)) else (neumelaw03_BoxAround.j0 k true a0_0 a0_1 a0_2 a0_3 a1_0 a1_1 a1_2 a1_3 a2_0 a2_1 a2_2 a2_3))) = some r := h
 clear h
 have HC4 := sd_ H
 clear H
 go_enter Tryd.func6, Tryd.ntmps6
 go_upto_region 1 with (first | ((with_reducible refine gate_dst (N := 3) rfl ?_); refine box_event ?hg (N := 3) ?hd (cs := #[.int .i64 a0_0, .int .i64 a0_1, .int .i64 a0_2, .int .i64 a0_3]) (t := 23) ?hr ?_; (case hd => rfl); (case hg => rfl); (case hr => first | (go_simp; done) | (go_simp; rfl)); intro gb367 hg w5 hbox hb; have n0_ := sd_ (bt_ (by repeat (first | (with_reducible first | exact HB.out | apply ba_ | apply pd_ | apply d1_) | exact HB.out)) hb); have n1_ := sd_ (hbox); have n2_ := sd_ ((by rw [hg]; exact (bz_ (by repeat (first | (with_reducible first | exact HB.out | apply ba_ | apply pd_ | apply d1_) | exact HB.out))) : w.heap.size ≤ gb367)); have n3_ := sd_ ((by rw [hg]; exact (bz_ (by repeat (first | (with_reducible first | exact HB.out | apply ba_ | apply pd_ | apply d1_) | exact HB.out))) : w.heap.size ≤ gb367)); clear HB; have HB := n0_; have BK367 := n1_; have GW367 := n2_; have GE367 := n3_; clear n0_ n1_ n2_ n3_; clear hb hbox hg) | ((with_reducible refine gate_dst (N := 4) rfl ?_); refine box_event ?hg (N := 4) ?hd (cs := #[.int .i64 a1_0, .int .i64 a1_1, .int .i64 a1_2, .int .i64 a1_3]) (t := 23) ?hr ?_; (case hd => rfl); (case hg => rfl); (case hr => first | (go_simp; done) | (go_simp; rfl)); intro gb368 hg w6 hbox hb; have n0_ := sd_ (blk_below (g := gb367) (o := .cells #[.int .i64 a0_0, .int .i64 a0_1, .int .i64 a0_2, .int .i64 a0_3] 23 (0, 0)) (by (with_reducible repeat (first | refine kn_ ?_ _ | refine kd_ ?_ | refine ka_ ?_ _)); exact BK367.out) hb); have n1_ := sd_ (bt_ (by repeat (first | (with_reducible first | exact HB.out | apply ba_ | apply pd_ | apply d1_ | refine bs_ ?_ GE367.out) | exact HB.out)) hb); have n2_ := sd_ (hbox); have n3_ := sd_ ((by rw [hg]; exact (bz_ (by repeat (first | (with_reducible first | exact HB.out | apply ba_ | apply pd_ | apply d1_ | refine bs_ ?_ GE367.out) | exact HB.out))) : w.heap.size ≤ gb368)); have n4_ := sd_ ((by rw [hg]; exact (bz_ (by repeat (first | (with_reducible first | exact HB.out | apply ba_ | apply pd_ | apply d1_ | refine bs_ ?_ GE367.out) | exact HB.out))) : w.heap.size ≤ gb368)); have n5_ := sd_ ((by rw [hg]; exact nn_ (blk_lt (g := gb367) (o := .cells #[.int .i64 a0_0, .int .i64 a0_1, .int .i64 a0_2, .int .i64 a0_3] 23 (0, 0)) (by (with_reducible repeat (first | refine kn_ ?_ _ | refine kd_ ?_ | refine ka_ ?_ _)); exact BK367.out)) : gb367 ≠ gb368)); have n6_ := sd_ ((by rw [hg]; exact Nat.ne_of_gt (blk_lt (g := gb367) (o := .cells #[.int .i64 a0_0, .int .i64 a0_1, .int .i64 a0_2, .int .i64 a0_3] 23 (0, 0)) (by (with_reducible repeat (first | refine kn_ ?_ _ | refine kd_ ?_ | refine ka_ ?_ _)); exact BK367.out)) : gb368 ≠ gb367)); clear BK367; clear HB; have BK367 := n0_; have HB := n1_; have BK368 := n2_; have GW368 := n3_; have GE368 := n4_; have NB367_368 := n5_; have NB368_367 := n6_; clear n0_ n1_ n2_ n3_ n4_ n5_ n6_; clear hb hbox hg) | ((with_reducible refine gate_dst (N := 5) rfl ?_); refine box_event ?hg (N := 5) ?hd (cs := #[.int .i64 a2_0, .int .i64 a2_1, .int .i64 a2_2, .int .i64 a2_3]) (t := 23) ?hr ?_; (case hd => rfl); (case hg => rfl); (case hr => first | (go_simp; done) | (go_simp; rfl)); intro gb369 hg w7 hbox hb; have n0_ := sd_ (blk_below (g := gb367) (o := .cells #[.int .i64 a0_0, .int .i64 a0_1, .int .i64 a0_2, .int .i64 a0_3] 23 (0, 0)) (by (with_reducible repeat (first | refine kn_ ?_ _ | refine kd_ ?_ | refine ka_ ?_ _)); exact BK367.out) hb); have n1_ := sd_ (blk_below (g := gb368) (o := .cells #[.int .i64 a1_0, .int .i64 a1_1, .int .i64 a1_2, .int .i64 a1_3] 23 (0, 0)) (by (with_reducible repeat (first | refine kn_ ?_ _ | refine kd_ ?_ | refine ka_ ?_ _)); exact BK368.out) hb); have n2_ := sd_ (bt_ (by repeat (first | (with_reducible first | exact HB.out | apply ba_ | apply pd_ | apply d1_ | refine bs_ ?_ GE367.out | refine bs_ ?_ GE368.out) | exact HB.out)) hb); have n3_ := sd_ (hbox); have n4_ := sd_ ((by rw [hg]; exact (bz_ (by repeat (first | (with_reducible first | exact HB.out | apply ba_ | apply pd_ | apply d1_ | refine bs_ ?_ GE367.out | refine bs_ ?_ GE368.out) | exact HB.out))) : w.heap.size ≤ gb369)); have n5_ := sd_ ((by rw [hg]; exact (bz_ (by repeat (first | (with_reducible first | exact HB.out | apply ba_ | apply pd_ | apply d1_ | refine bs_ ?_ GE367.out | refine bs_ ?_ GE368.out) | exact HB.out))) : w.heap.size ≤ gb369)); have n6_ := sd_ ((by rw [hg]; exact nn_ (blk_lt (g := gb367) (o := .cells #[.int .i64 a0_0, .int .i64 a0_1, .int .i64 a0_2, .int .i64 a0_3] 23 (0, 0)) (by (with_reducible repeat (first | refine kn_ ?_ _ | refine kd_ ?_ | refine ka_ ?_ _)); exact BK367.out)) : gb367 ≠ gb369)); have n7_ := sd_ ((by rw [hg]; exact Nat.ne_of_gt (blk_lt (g := gb367) (o := .cells #[.int .i64 a0_0, .int .i64 a0_1, .int .i64 a0_2, .int .i64 a0_3] 23 (0, 0)) (by (with_reducible repeat (first | refine kn_ ?_ _ | refine kd_ ?_ | refine ka_ ?_ _)); exact BK367.out)) : gb369 ≠ gb367)); have n8_ := sd_ ((by rw [hg]; exact nn_ (blk_lt (g := gb368) (o := .cells #[.int .i64 a1_0, .int .i64 a1_1, .int .i64 a1_2, .int .i64 a1_3] 23 (0, 0)) (by (with_reducible repeat (first | refine kn_ ?_ _ | refine kd_ ?_ | refine ka_ ?_ _)); exact BK368.out)) : gb368 ≠ gb369)); have n9_ := sd_ ((by rw [hg]; exact Nat.ne_of_gt (blk_lt (g := gb368) (o := .cells #[.int .i64 a1_0, .int .i64 a1_1, .int .i64 a1_2, .int .i64 a1_3] 23 (0, 0)) (by (with_reducible repeat (first | refine kn_ ?_ _ | refine kd_ ?_ | refine ka_ ?_ _)); exact BK368.out)) : gb369 ≠ gb368)); clear BK367; clear BK368; clear HB; have BK367 := n0_; have BK368 := n1_; have HB := n2_; have BK369 := n3_; have GW369 := n4_; have GE369 := n5_; have NB367_369 := n6_; have NB369_367 := n7_; have NB368_369 := n8_; have NB369_368 := n9_; clear n0_ n1_ n2_ n3_ n4_ n5_ n6_ n7_ n8_ n9_; clear hb hbox hg))
 (try simp only [Act.put, ls_, lz_, lc_])
 go_cut [15] (fun v15 wc => ∃ (kq : Nat) (x15_3 : Bool), v15 = .bool x15_3 ∧ Aside0 (neumelaw03_BoxAround.j0 kq x15_3 a0_0 a0_1 a0_2 a0_3 a1_0 a1_1 a1_2 a1_3 a2_0 a2_1 a2_2 a2_3 = some r) ∧ Aside0 (kq ≤ k) ∧ Aside0 (wc.heap[gb367]? = some (.cells #[.int .i64 a0_0, .int .i64 a0_1, .int .i64 a0_2, .int .i64 a0_3] 23 (0, 0))) ∧ Aside0 (wc.heap[gb368]? = some (.cells #[.int .i64 a1_0, .int .i64 a1_1, .int .i64 a1_2, .int .i64 a1_3] 23 (0, 0))) ∧ Aside0 (wc.heap[gb369]? = some (.cells #[.int .i64 a2_0, .int .i64 a2_1, .int .i64 a2_2, .int .i64 a2_3] 23 (0, 0))) ∧ Aside0 (Below w.heap.size w wc))
 case first =>
  have H := HC4.out
  clear HC4
  replace H := ob_ H
  obtain ⟨t370, A80, H⟩ := H
  replace H : (if t370 = true then ((box_Check.f a1_0 a1_1 a1_2 a1_3).bind fun t371 => (neumelaw03_BoxAround.j0 k (!t371) a0_0 a0_1 a0_2 a0_3 a1_0 a1_1 a1_2 a1_3 a2_0 a2_1 a2_2 a2_3)) else (neumelaw03_BoxAround.j0 k true a0_0 a0_1 a0_2 a0_3 a1_0 a1_1 a1_2 a1_3 a2_0 a2_1 a2_2 a2_3)) = some r := H
  have A8 := sd_ A80
  clear A80
  by_cases c9 : t370 = true
  ·subst c9
   have H1 : ((box_Check.f a1_0 a1_1 a1_2 a1_3).bind fun t371 => (neumelaw03_BoxAround.j0 k (!t371) a0_0 a0_1 a0_2 a0_3 a1_0 a1_1 a1_2 a1_3 a2_0 a2_1 a2_2 a2_3)) = some r := by rw [if_pos rfl] at H; exact H
   clear H; have H := H1; clear H1
   replace H := ob_ H
   obtain ⟨t371, A100, H⟩ := H
   replace H : (neumelaw03_BoxAround.j0 k (!t371) a0_0 a0_1 a0_2 a0_3 a1_0 a1_1 a1_2 a1_3 a2_0 a2_1 a2_2 a2_3) = some r := H
   have A10 := sd_ A100
   clear A100
   have H' := sd_ H
   clear H
   have hnb11 := NB367_368.out
   have hnc11 := NB368_367.out
   have hnb12 := NB367_369.out
   have hnc12 := NB369_367.out
   have hcz13_0 : w7.cell? ⟨gb367, 0, none⟩ = some (.int .i64 a0_0) := (kc_ BK367.out 0).trans rfl
   have hcz13_1 : w7.cell? ⟨gb367, 1, none⟩ = some (.int .i64 a0_1) := (kc_ BK367.out 1).trans rfl
   have hcz13_2 : w7.cell? ⟨gb367, 2, none⟩ = some (.int .i64 a0_2) := (kc_ BK367.out 2).trans rfl
   have hcz13_3 : w7.cell? ⟨gb367, 3, none⟩ = some (.int .i64 a0_3) := (kc_ BK367.out 3).trans rfl
   have hfz13_0 := kf_ BK367.out 0
   have hfz13_1 := kf_ BK367.out 1
   have hfz13_2 := kf_ BK367.out 2
   have hfz13_3 := kf_ BK367.out 3
   go_wp2_with (first | ((with_reducible refine gate_callee (f := 12) rfl ?_); refine goesL_ (some 9) rfl rfl Tryd.func12 (by kernel_rfl) rfl #[.agg #[.int .i64 a0_0, .int .i64 a0_1, .int .i64 a0_2, .int .i64 a0_3]] rfl (by (try simp only [lm_, lq_, lx_]); first | done | rfl | (simp only [ld_, lt_]; rfl)) ?_; (with_reducible refine (box_Check.calls a0_0 a0_1 a0_2 a0_3 true _ A8.out).mono ?_); rintro e w14 ⟨rfl, hb⟩; refine ⟨_, rfl, ?_⟩; have n0_ := sd_ (blk_below (g := gb367) (o := .cells #[.int .i64 a0_0, .int .i64 a0_1, .int .i64 a0_2, .int .i64 a0_3] 23 (0, 0)) (by (with_reducible repeat (first | refine kn_ ?_ _ | refine kd_ ?_ | refine ka_ ?_ _)); exact BK367.out) hb); have n1_ := sd_ (blk_below (g := gb368) (o := .cells #[.int .i64 a1_0, .int .i64 a1_1, .int .i64 a1_2, .int .i64 a1_3] 23 (0, 0)) (by (with_reducible repeat (first | refine kn_ ?_ _ | refine kd_ ?_ | refine ka_ ?_ _)); exact BK368.out) hb); have n2_ := sd_ (blk_below (g := gb369) (o := .cells #[.int .i64 a2_0, .int .i64 a2_1, .int .i64 a2_2, .int .i64 a2_3] 23 (0, 0)) (by (with_reducible repeat (first | refine kn_ ?_ _ | refine kd_ ?_ | refine ka_ ?_ _)); exact BK369.out) hb); have n3_ := sd_ (bt_ (by repeat (first | (with_reducible first | exact HB.out | apply ba_ | apply pd_ | apply d1_ | refine bs_ ?_ GE367.out | refine bs_ ?_ GE368.out | refine bs_ ?_ GE369.out) | exact HB.out)) hb); clear BK367; clear BK368; clear BK369; clear HB; have BK367 := n0_; have BK368 := n1_; have BK369 := n2_; have HB := n3_; clear n0_ n1_ n2_ n3_; (try clear hb); (try clear hb2); (try clear hk); (try clear hi); have hnb15 := NB368_369.out; have hnc15 := NB369_368.out; have hcz16_0 : w14.cell? ⟨gb368, 0, none⟩ = some (.int .i64 a1_0) := (kc_ BK368.out 0).trans rfl; have hcz16_1 : w14.cell? ⟨gb368, 1, none⟩ = some (.int .i64 a1_1) := (kc_ BK368.out 1).trans rfl; have hcz16_2 : w14.cell? ⟨gb368, 2, none⟩ = some (.int .i64 a1_2) := (kc_ BK368.out 2).trans rfl; have hcz16_3 : w14.cell? ⟨gb368, 3, none⟩ = some (.int .i64 a1_3) := (kc_ BK368.out 3).trans rfl; have hfz16_0 := kf_ BK368.out 0; have hfz16_1 := kf_ BK368.out 1; have hfz16_2 := kf_ BK368.out 2; have hfz16_3 := kf_ BK368.out 3) | (go_at_call 12; (with_reducible refine (box_Check.calls a1_0 a1_1 a1_2 a1_3 t371 _ A10.out).mono ?_); rintro e w17 ⟨rfl, hb⟩; have n0_ := sd_ (blk_below (g := gb367) (o := .cells #[.int .i64 a0_0, .int .i64 a0_1, .int .i64 a0_2, .int .i64 a0_3] 23 (0, 0)) (by (with_reducible repeat (first | refine kn_ ?_ _ | refine kd_ ?_ | refine ka_ ?_ _)); exact BK367.out) hb); have n1_ := sd_ (blk_below (g := gb368) (o := .cells #[.int .i64 a1_0, .int .i64 a1_1, .int .i64 a1_2, .int .i64 a1_3] 23 (0, 0)) (by (with_reducible repeat (first | refine kn_ ?_ _ | refine kd_ ?_ | refine ka_ ?_ _)); exact BK368.out) hb); have n2_ := sd_ (blk_below (g := gb369) (o := .cells #[.int .i64 a2_0, .int .i64 a2_1, .int .i64 a2_2, .int .i64 a2_3] 23 (0, 0)) (by (with_reducible repeat (first | refine kn_ ?_ _ | refine kd_ ?_ | refine ka_ ?_ _)); exact BK369.out) hb); have n3_ := sd_ (bt_ (by repeat (first | (with_reducible first | exact HB.out | apply ba_ | apply pd_ | apply d1_ | refine bs_ ?_ GE367.out | refine bs_ ?_ GE368.out | refine bs_ ?_ GE369.out) | exact HB.out)) hb); clear BK367; clear BK368; clear BK369; clear HB; have BK367 := n0_; have BK368 := n1_; have BK369 := n2_; have HB := n3_; clear n0_ n1_ n2_ n3_; (try clear hb); (try clear hb2); (try clear hk); (try clear hi)))
   go_meet
   case rel => exact ⟨_, (!t371), (by first | rfl | (simp; done) | (simp [*]; done) | (simp [bne]; done)), H', ⟨by first | omega | exact Nat.le_refl _⟩, ⟨by (with_reducible repeat (first | refine kn_ ?_ _ | refine kd_ ?_ | refine ka_ ?_ _)); exact BK367.out⟩, ⟨by (with_reducible repeat (first | refine kn_ ?_ _ | refine kd_ ?_ | refine ka_ ?_ _)); exact BK368.out⟩, ⟨by (with_reducible repeat (first | refine kn_ ?_ _ | refine kd_ ?_ | refine ka_ ?_ _)); exact BK369.out⟩, ⟨by repeat (first | (with_reducible first | exact HB.out | apply ba_ | apply pd_ | apply d1_ | refine bs_ ?_ GE367.out | refine bs_ ?_ GE368.out | refine bs_ ?_ GE369.out) | exact HB.out)⟩⟩
  ·replace c9 := bf_ c9
   subst c9
   have H1 : (neumelaw03_BoxAround.j0 k true a0_0 a0_1 a0_2 a0_3 a1_0 a1_1 a1_2 a1_3 a2_0 a2_1 a2_2 a2_3) = some r := by rw [if_neg (show ¬ (false = true) by decide)] at H; exact H
   clear H; have H := H1; clear H1
   have H' := sd_ H
   clear H
   have hnb18 := NB367_368.out
   have hnc18 := NB368_367.out
   have hnb19 := NB367_369.out
   have hnc19 := NB369_367.out
   have hcz20_0 : w7.cell? ⟨gb367, 0, none⟩ = some (.int .i64 a0_0) := (kc_ BK367.out 0).trans rfl
   have hcz20_1 : w7.cell? ⟨gb367, 1, none⟩ = some (.int .i64 a0_1) := (kc_ BK367.out 1).trans rfl
   have hcz20_2 : w7.cell? ⟨gb367, 2, none⟩ = some (.int .i64 a0_2) := (kc_ BK367.out 2).trans rfl
   have hcz20_3 : w7.cell? ⟨gb367, 3, none⟩ = some (.int .i64 a0_3) := (kc_ BK367.out 3).trans rfl
   have hfz20_0 := kf_ BK367.out 0
   have hfz20_1 := kf_ BK367.out 1
   have hfz20_2 := kf_ BK367.out 2
   have hfz20_3 := kf_ BK367.out 3
   go_wp2_with (first | ((with_reducible refine gate_callee (f := 12) rfl ?_); refine goesL_ (some 9) rfl rfl Tryd.func12 (by kernel_rfl) rfl #[.agg #[.int .i64 a0_0, .int .i64 a0_1, .int .i64 a0_2, .int .i64 a0_3]] rfl (by (try simp only [lm_, lq_, lx_]); first | done | rfl | (simp only [ld_, lt_]; rfl)) ?_; (with_reducible refine (box_Check.calls a0_0 a0_1 a0_2 a0_3 false _ A8.out).mono ?_); rintro e w21 ⟨rfl, hb⟩; refine ⟨_, rfl, ?_⟩; have n0_ := sd_ (blk_below (g := gb367) (o := .cells #[.int .i64 a0_0, .int .i64 a0_1, .int .i64 a0_2, .int .i64 a0_3] 23 (0, 0)) (by (with_reducible repeat (first | refine kn_ ?_ _ | refine kd_ ?_ | refine ka_ ?_ _)); exact BK367.out) hb); have n1_ := sd_ (blk_below (g := gb368) (o := .cells #[.int .i64 a1_0, .int .i64 a1_1, .int .i64 a1_2, .int .i64 a1_3] 23 (0, 0)) (by (with_reducible repeat (first | refine kn_ ?_ _ | refine kd_ ?_ | refine ka_ ?_ _)); exact BK368.out) hb); have n2_ := sd_ (blk_below (g := gb369) (o := .cells #[.int .i64 a2_0, .int .i64 a2_1, .int .i64 a2_2, .int .i64 a2_3] 23 (0, 0)) (by (with_reducible repeat (first | refine kn_ ?_ _ | refine kd_ ?_ | refine ka_ ?_ _)); exact BK369.out) hb); have n3_ := sd_ (bt_ (by repeat (first | (with_reducible first | exact HB.out | apply ba_ | apply pd_ | apply d1_ | refine bs_ ?_ GE367.out | refine bs_ ?_ GE368.out | refine bs_ ?_ GE369.out) | exact HB.out)) hb); clear BK367; clear BK368; clear BK369; clear HB; have BK367 := n0_; have BK368 := n1_; have BK369 := n2_; have HB := n3_; clear n0_ n1_ n2_ n3_; (try clear hb); (try clear hb2); (try clear hk); (try clear hi)))
   go_meet
   case rel => exact ⟨_, (true), (by first | rfl | (simp; done) | (simp [*]; done) | (simp [bne]; done)), H', ⟨by first | omega | exact Nat.le_refl _⟩, ⟨by (with_reducible repeat (first | refine kn_ ?_ _ | refine kd_ ?_ | refine ka_ ?_ _)); exact BK367.out⟩, ⟨by (with_reducible repeat (first | refine kn_ ?_ _ | refine kd_ ?_ | refine ka_ ?_ _)); exact BK368.out⟩, ⟨by (with_reducible repeat (first | refine kn_ ?_ _ | refine kd_ ?_ | refine ka_ ?_ _)); exact BK369.out⟩, ⟨by repeat (first | (with_reducible first | exact HB.out | apply ba_ | apply pd_ | apply d1_ | refine bs_ ?_ GE367.out | refine bs_ ?_ GE368.out | refine bs_ ?_ GE369.out) | exact HB.out)⟩⟩
 case rest =>
  clear HC4
  try clear c1; try clear p2; try clear c6; try clear c9; try clear c11; try clear c12; try clear c15; try clear c18; try clear c19; try clear hcz13_0; try clear hcz13_1; try clear hcz13_2; try clear hcz13_3; try clear hcz16_0; try clear hcz16_1; try clear hcz16_2; try clear hcz16_3; try clear hcz20_0; try clear hcz20_1; try clear hcz20_2; try clear hcz20_3; try clear hfz13_0; try clear hfz13_1; try clear hfz13_2; try clear hfz13_3; try clear hfz16_0; try clear hfz16_1; try clear hfz16_2; try clear hfz16_3; try clear hfz20_0; try clear hfz20_1; try clear hfz20_2; try clear hfz20_3
  obtain ⟨kq, x15_3, rfl, HA, HJ3, BK367, BK368, BK369, HB⟩ := hcut
  cases kq with
  | zero => exact absurd HA.out (by simp [neumelaw03_BoxAround.j0])
  | succ kj3 =>
   have H := HA.out
   clear HA
   simp only [neumelaw03_BoxAround.j0] at H
   by_cases c22 : x15_3 = true
   ·subst c22
    have H1 : ((neumelaw03_heads.f kj3).bind fun t372 => (some t372)) = some r := by rw [if_pos rfl] at H; exact H
    clear H; have H := H1; clear H1
    replace H := ob_ H
    obtain ⟨t372, A230, H⟩ := H
    replace H : (some t372) = some r := H
    have A23 := sd_ A230
    clear A230
    obtain rfl := Option.some.inj H
    go_wp2_with (first | ((with_reducible refine gate_callee (f := 20) rfl ?_); refine goesL_ (some 16) rfl rfl Tryd.func20 (by kernel_rfl) rfl #[] rfl (by (try simp only [lm_, lq_, lx_]); first | done | rfl | (simp only [ld_, lt_]; rfl)) ?_; (with_reducible refine (neumelaw03_heads.calls kj3  t372 _ ?side1 A23.out).mono ?_); (case side1 => first | (with_reducible exact hE) | exact sd_ (LaidE.below hE.out (by repeat (first | (with_reducible first | exact HB.out | apply ba_ | apply pd_ | apply d1_ | refine bs_ ?_ GE367.out | refine bs_ ?_ GE368.out | refine bs_ ?_ GE369.out) | exact HB.out)))); rintro e w24 ⟨rfl, hb⟩; refine ⟨_, rfl, ?_⟩; have n0_ := sd_ (blk_below (g := gb367) (o := .cells #[.int .i64 a0_0, .int .i64 a0_1, .int .i64 a0_2, .int .i64 a0_3] 23 (0, 0)) (by (with_reducible repeat (first | refine kn_ ?_ _ | refine kd_ ?_ | refine ka_ ?_ _)); exact BK367.out) hb); have n1_ := sd_ (blk_below (g := gb368) (o := .cells #[.int .i64 a1_0, .int .i64 a1_1, .int .i64 a1_2, .int .i64 a1_3] 23 (0, 0)) (by (with_reducible repeat (first | refine kn_ ?_ _ | refine kd_ ?_ | refine ka_ ?_ _)); exact BK368.out) hb); have n2_ := sd_ (blk_below (g := gb369) (o := .cells #[.int .i64 a2_0, .int .i64 a2_1, .int .i64 a2_2, .int .i64 a2_3] 23 (0, 0)) (by (with_reducible repeat (first | refine kn_ ?_ _ | refine kd_ ?_ | refine ka_ ?_ _)); exact BK369.out) hb); have n3_ := sd_ (bt_ (by repeat (first | (with_reducible first | exact HB.out | apply ba_ | apply pd_ | apply d1_ | refine bs_ ?_ GE367.out | refine bs_ ?_ GE368.out | refine bs_ ?_ GE369.out) | exact HB.out)) hb); clear BK367; clear BK368; clear BK369; clear HB; have BK367 := n0_; have BK368 := n1_; have BK369 := n2_; have HB := n3_; clear n0_ n1_ n2_ n3_; (try clear hb); (try clear hb2); (try clear hk); (try clear hi)))
    go_ret
    exact ⟨by first | rfl | (simp [errW_none, errW_some] <;> rfl) | (simp [*, errW_none, errW_some] <;> rfl), by repeat (first | (with_reducible first | exact HB.out | apply ba_ | apply pd_ | apply d1_ | refine bs_ ?_ GE367.out | refine bs_ ?_ GE368.out | refine bs_ ?_ GE369.out) | exact HB.out)⟩
   ·replace c22 := bf_ c22
    subst c22
    have H1 : ((box_Join.f kj3 a0_0 a0_1 a0_2 a0_3 a1_0 a1_1 a1_2 a1_3).bind fun bt373 => ((box_Inside.f kj3 a0_0 a0_1 a0_2 a0_3 bt373.1 bt373.2.1 bt373.2.2.1 bt373.2.2.2).bind fun t378 => (if t378 = true then ((box_Inside.f kj3 a1_0 a1_1 a1_2 a1_3 bt373.1 bt373.2.1 bt373.2.2.1 bt373.2.2.2).bind fun t379 => (if t379 = true then ((box_Check.f bt373.1 bt373.2.1 bt373.2.2.1 bt373.2.2.2).bind fun t380 => (if t380 = true then ((box_Join.f kj3 a1_0 a1_1 a1_2 a1_3 a0_0 a0_1 a0_2 a0_3).bind fun bt381 => (neumelaw03_BoxAround.j1 kj3 (!(bt373.1 == bt381.1) || (!(bt373.2.1 == bt381.2.1) || (!(bt373.2.2.1 == bt381.2.2.1) || (!(bt373.2.2.2 == bt381.2.2.2))))) a0_0 a0_1 a0_2 a0_3 a1_0 a1_1 a1_2 a1_3 a2_0 a2_1 a2_2 a2_3 bt373.1 bt373.2.1 bt373.2.2.1 bt373.2.2.2)) else (neumelaw03_BoxAround.j1 kj3 true a0_0 a0_1 a0_2 a0_3 a1_0 a1_1 a1_2 a1_3 a2_0 a2_1 a2_2 a2_3 bt373.1 bt373.2.1 bt373.2.2.1 bt373.2.2.2))) else (neumelaw03_BoxAround.j1 kj3 true a0_0 a0_1 a0_2 a0_3 a1_0 a1_1 a1_2 a1_3 a2_0 a2_1 a2_2 a2_3 bt373.1 bt373.2.1 bt373.2.2.1 bt373.2.2.2))) else (neumelaw03_BoxAround.j1 kj3 true a0_0 a0_1 a0_2 a0_3 a1_0 a1_1 a1_2 a1_3 a2_0 a2_1 a2_2 a2_3 bt373.1 bt373.2.1 bt373.2.2.1 bt373.2.2.2)))) = some r := by rw [if_neg (show ¬ (false = true) by decide)] at H; exact H
    clear H; have H := H1; clear H1
    replace H := ob_ H
    obtain ⟨⟨t373, t374, t375, t376⟩, A250, H⟩ := H
    replace H : ((box_Inside.f kj3 a0_0 a0_1 a0_2 a0_3 t373 t374 t375 t376).bind fun t378 => (if t378 = true then ((box_Inside.f kj3 a1_0 a1_1 a1_2 a1_3 t373 t374 t375 t376).bind fun t379 => (if t379 = true then ((box_Check.f t373 t374 t375 t376).bind fun t380 => (if t380 = true then ((box_Join.f kj3 a1_0 a1_1 a1_2 a1_3 a0_0 a0_1 a0_2 a0_3).bind fun bt381 => (neumelaw03_BoxAround.j1 kj3 (!(t373 == bt381.1) || (!(t374 == bt381.2.1) || (!(t375 == bt381.2.2.1) || (!(t376 == bt381.2.2.2))))) a0_0 a0_1 a0_2 a0_3 a1_0 a1_1 a1_2 a1_3 a2_0 a2_1 a2_2 a2_3 t373 t374 t375 t376)) else (neumelaw03_BoxAround.j1 kj3 true a0_0 a0_1 a0_2 a0_3 a1_0 a1_1 a1_2 a1_3 a2_0 a2_1 a2_2 a2_3 t373 t374 t375 t376))) else (neumelaw03_BoxAround.j1 kj3 true a0_0 a0_1 a0_2 a0_3 a1_0 a1_1 a1_2 a1_3 a2_0 a2_1 a2_2 a2_3 t373 t374 t375 t376))) else (neumelaw03_BoxAround.j1 kj3 true a0_0 a0_1 a0_2 a0_3 a1_0 a1_1 a1_2 a1_3 a2_0 a2_1 a2_2 a2_3 t373 t374 t375 t376))) = some r := H
    have A25 := sd_ A250
    clear A250
    have HC26 := sd_ H
    clear H
    have hnb27 := NB367_368.out
    have hnc27 := NB368_367.out
    have hnb28 := NB367_369.out
    have hnc28 := NB369_367.out
    have hcz29_0 : wc.cell? ⟨gb367, 0, none⟩ = some (.int .i64 a0_0) := (kc_ BK367.out 0).trans rfl
    have hcz29_1 : wc.cell? ⟨gb367, 1, none⟩ = some (.int .i64 a0_1) := (kc_ BK367.out 1).trans rfl
    have hcz29_2 : wc.cell? ⟨gb367, 2, none⟩ = some (.int .i64 a0_2) := (kc_ BK367.out 2).trans rfl
    have hcz29_3 : wc.cell? ⟨gb367, 3, none⟩ = some (.int .i64 a0_3) := (kc_ BK367.out 3).trans rfl
    have hfz29_0 := kf_ BK367.out 0
    have hfz29_1 := kf_ BK367.out 1
    have hfz29_2 := kf_ BK367.out 2
    have hfz29_3 := kf_ BK367.out 3
    have hnb30 := NB368_369.out
    have hnc30 := NB369_368.out
    have hcz31_0 : wc.cell? ⟨gb368, 0, none⟩ = some (.int .i64 a1_0) := (kc_ BK368.out 0).trans rfl
    have hcz31_1 : wc.cell? ⟨gb368, 1, none⟩ = some (.int .i64 a1_1) := (kc_ BK368.out 1).trans rfl
    have hcz31_2 : wc.cell? ⟨gb368, 2, none⟩ = some (.int .i64 a1_2) := (kc_ BK368.out 2).trans rfl
    have hcz31_3 : wc.cell? ⟨gb368, 3, none⟩ = some (.int .i64 a1_3) := (kc_ BK368.out 3).trans rfl
    have hfz31_0 := kf_ BK368.out 0
    have hfz31_1 := kf_ BK368.out 1
    have hfz31_2 := kf_ BK368.out 2
    have hfz31_3 := kf_ BK368.out 3
    go_upto_region 4 with (first | ((with_reducible refine gate_callee (f := 14) rfl ?_); refine goesL_ (some 19) rfl rfl Tryd.func14 (by kernel_rfl) rfl #[.agg #[.int .i64 a0_0, .int .i64 a0_1, .int .i64 a0_2, .int .i64 a0_3], .agg #[.int .i64 a1_0, .int .i64 a1_1, .int .i64 a1_2, .int .i64 a1_3]] rfl (by (try simp only [lm_, lq_, lx_]); first | done | rfl | (simp only [ld_, lt_]; rfl)) ?_; (with_reducible refine (box_Join.calls kj3 a0_0 a0_1 a0_2 a0_3 a1_0 a1_1 a1_2 a1_3 t373 t374 t375 t376 _ A25.out).mono ?_); rintro e w32 ⟨rfl, hb⟩; refine ⟨_, rfl, ?_⟩; have n0_ := sd_ (blk_below (g := gb367) (o := .cells #[.int .i64 a0_0, .int .i64 a0_1, .int .i64 a0_2, .int .i64 a0_3] 23 (0, 0)) (by (with_reducible repeat (first | refine kn_ ?_ _ | refine kd_ ?_ | refine ka_ ?_ _)); exact BK367.out) hb); have n1_ := sd_ (blk_below (g := gb368) (o := .cells #[.int .i64 a1_0, .int .i64 a1_1, .int .i64 a1_2, .int .i64 a1_3] 23 (0, 0)) (by (with_reducible repeat (first | refine kn_ ?_ _ | refine kd_ ?_ | refine ka_ ?_ _)); exact BK368.out) hb); have n2_ := sd_ (blk_below (g := gb369) (o := .cells #[.int .i64 a2_0, .int .i64 a2_1, .int .i64 a2_2, .int .i64 a2_3] 23 (0, 0)) (by (with_reducible repeat (first | refine kn_ ?_ _ | refine kd_ ?_ | refine ka_ ?_ _)); exact BK369.out) hb); have n3_ := sd_ (bt_ (by repeat (first | (with_reducible first | exact HB.out | apply ba_ | apply pd_ | apply d1_ | refine bs_ ?_ GE367.out | refine bs_ ?_ GE368.out | refine bs_ ?_ GE369.out) | exact HB.out)) hb); clear BK367; clear BK368; clear BK369; clear HB; have BK367 := n0_; have BK368 := n1_; have BK369 := n2_; have HB := n3_; clear n0_ n1_ n2_ n3_; (try clear hb); (try clear hb2); (try clear hk); (try clear hi)) | ((with_reducible refine gate_dst (N := 7) rfl ?_); refine box_event ?hg (N := 7) ?hd (cs := #[.int .i64 0, .int .i64 0, .int .i64 0, .int .i64 0]) (t := 23) ?hr ?_; (case hd => rfl); (case hg => rfl); (case hr => first | (go_simp; done) | (go_simp; rfl)); intro gb377 hg w33 hbox hb; have n0_ := sd_ (blk_below (g := gb367) (o := .cells #[.int .i64 a0_0, .int .i64 a0_1, .int .i64 a0_2, .int .i64 a0_3] 23 (0, 0)) (by (with_reducible repeat (first | refine kn_ ?_ _ | refine kd_ ?_ | refine ka_ ?_ _)); exact BK367.out) hb); have n1_ := sd_ (blk_below (g := gb368) (o := .cells #[.int .i64 a1_0, .int .i64 a1_1, .int .i64 a1_2, .int .i64 a1_3] 23 (0, 0)) (by (with_reducible repeat (first | refine kn_ ?_ _ | refine kd_ ?_ | refine ka_ ?_ _)); exact BK368.out) hb); have n2_ := sd_ (blk_below (g := gb369) (o := .cells #[.int .i64 a2_0, .int .i64 a2_1, .int .i64 a2_2, .int .i64 a2_3] 23 (0, 0)) (by (with_reducible repeat (first | refine kn_ ?_ _ | refine kd_ ?_ | refine ka_ ?_ _)); exact BK369.out) hb); have n3_ := sd_ (bt_ (by repeat (first | (with_reducible first | exact HB.out | apply ba_ | apply pd_ | apply d1_ | refine bs_ ?_ GE367.out | refine bs_ ?_ GE368.out | refine bs_ ?_ GE369.out) | exact HB.out)) hb); have n4_ := sd_ (hbox); have n5_ := sd_ ((by rw [hg]; exact (bz_ (by repeat (first | (with_reducible first | exact HB.out | apply ba_ | apply pd_ | apply d1_ | refine bs_ ?_ GE367.out | refine bs_ ?_ GE368.out | refine bs_ ?_ GE369.out) | exact HB.out))) : w.heap.size ≤ gb377)); have n6_ := sd_ ((by rw [hg]; exact (bz_ (by repeat (first | (with_reducible first | exact HB.out | apply ba_ | apply pd_ | apply d1_ | refine bs_ ?_ GE367.out | refine bs_ ?_ GE368.out | refine bs_ ?_ GE369.out) | exact HB.out))) : w.heap.size ≤ gb377)); have n7_ := sd_ ((by rw [hg]; exact nn_ (blk_lt (g := gb367) (o := .cells #[.int .i64 a0_0, .int .i64 a0_1, .int .i64 a0_2, .int .i64 a0_3] 23 (0, 0)) (by (with_reducible repeat (first | refine kn_ ?_ _ | refine kd_ ?_ | refine ka_ ?_ _)); exact BK367.out)) : gb367 ≠ gb377)); have n8_ := sd_ ((by rw [hg]; exact Nat.ne_of_gt (blk_lt (g := gb367) (o := .cells #[.int .i64 a0_0, .int .i64 a0_1, .int .i64 a0_2, .int .i64 a0_3] 23 (0, 0)) (by (with_reducible repeat (first | refine kn_ ?_ _ | refine kd_ ?_ | refine ka_ ?_ _)); exact BK367.out)) : gb377 ≠ gb367)); have n9_ := sd_ ((by rw [hg]; exact nn_ (blk_lt (g := gb368) (o := .cells #[.int .i64 a1_0, .int .i64 a1_1, .int .i64 a1_2, .int .i64 a1_3] 23 (0, 0)) (by (with_reducible repeat (first | refine kn_ ?_ _ | refine kd_ ?_ | refine ka_ ?_ _)); exact BK368.out)) : gb368 ≠ gb377)); have n10_ := sd_ ((by rw [hg]; exact Nat.ne_of_gt (blk_lt (g := gb368) (o := .cells #[.int .i64 a1_0, .int .i64 a1_1, .int .i64 a1_2, .int .i64 a1_3] 23 (0, 0)) (by (with_reducible repeat (first | refine kn_ ?_ _ | refine kd_ ?_ | refine ka_ ?_ _)); exact BK368.out)) : gb377 ≠ gb368)); have n11_ := sd_ ((by rw [hg]; exact nn_ (blk_lt (g := gb369) (o := .cells #[.int .i64 a2_0, .int .i64 a2_1, .int .i64 a2_2, .int .i64 a2_3] 23 (0, 0)) (by (with_reducible repeat (first | refine kn_ ?_ _ | refine kd_ ?_ | refine ka_ ?_ _)); exact BK369.out)) : gb369 ≠ gb377)); have n12_ := sd_ ((by rw [hg]; exact Nat.ne_of_gt (blk_lt (g := gb369) (o := .cells #[.int .i64 a2_0, .int .i64 a2_1, .int .i64 a2_2, .int .i64 a2_3] 23 (0, 0)) (by (with_reducible repeat (first | refine kn_ ?_ _ | refine kd_ ?_ | refine ka_ ?_ _)); exact BK369.out)) : gb377 ≠ gb369)); clear BK367; clear BK368; clear BK369; clear HB; have BK367 := n0_; have BK368 := n1_; have BK369 := n2_; have HB := n3_; have BK377 := n4_; have GW377 := n5_; have GE377 := n6_; have NB367_377 := n7_; have NB377_367 := n8_; have NB368_377 := n9_; have NB377_368 := n10_; have NB369_377 := n11_; have NB377_369 := n12_; clear n0_ n1_ n2_ n3_ n4_ n5_ n6_ n7_ n8_ n9_ n10_ n11_ n12_; clear hb hbox hg; have hnb34 := NB377_367.out; have hnc34 := NB367_377.out; have hnb35 := NB377_368.out; have hnc35 := NB368_377.out; have hnb36 := NB377_369.out; have hnc36 := NB369_377.out; have hcz37_0 : w33.cell? ⟨gb377, 0, none⟩ = some (.int .i64 0) := (kc_ BK377.out 0).trans rfl; have hcz37_1 : w33.cell? ⟨gb377, 1, none⟩ = some (.int .i64 0) := (kc_ BK377.out 1).trans rfl; have hcz37_2 : w33.cell? ⟨gb377, 2, none⟩ = some (.int .i64 0) := (kc_ BK377.out 2).trans rfl; have hcz37_3 : w33.cell? ⟨gb377, 3, none⟩ = some (.int .i64 0) := (kc_ BK377.out 3).trans rfl; have hfz37_0 := kf_ BK377.out 0; have hfz37_1 := kf_ BK377.out 1; have hfz37_2 := kf_ BK377.out 2; have hfz37_3 := kf_ BK377.out 3))
    (try simp only [Act.put, ls_, lz_, lc_])
    go_cut [41] (fun v41 wc => ∃ (kq : Nat) (x41_25 : Bool), v41 = .bool x41_25 ∧ Aside0 (neumelaw03_BoxAround.j1 kq x41_25 a0_0 a0_1 a0_2 a0_3 a1_0 a1_1 a1_2 a1_3 a2_0 a2_1 a2_2 a2_3 t373 t374 t375 t376 = some r) ∧ Aside0 (kq ≤ kj3) ∧ Aside0 (wc.heap[gb367]? = some (.cells #[.int .i64 a0_0, .int .i64 a0_1, .int .i64 a0_2, .int .i64 a0_3] 23 (0, 0))) ∧ Aside0 (wc.heap[gb368]? = some (.cells #[.int .i64 a1_0, .int .i64 a1_1, .int .i64 a1_2, .int .i64 a1_3] 23 (0, 0))) ∧ Aside0 (wc.heap[gb369]? = some (.cells #[.int .i64 a2_0, .int .i64 a2_1, .int .i64 a2_2, .int .i64 a2_3] 23 (0, 0))) ∧ Aside0 (wc.heap[gb377]? = some (.cells #[.int .i64 t373, .int .i64 t374, .int .i64 t375, .int .i64 t376] 23 (0, 0))) ∧ Aside0 (Below w.heap.size w wc))
    case first =>
     have H := HC26.out
     clear HC26
     replace H := ob_ H
     obtain ⟨t378, A380, H⟩ := H
     replace H : (if t378 = true then ((box_Inside.f kj3 a1_0 a1_1 a1_2 a1_3 t373 t374 t375 t376).bind fun t379 => (if t379 = true then ((box_Check.f t373 t374 t375 t376).bind fun t380 => (if t380 = true then ((box_Join.f kj3 a1_0 a1_1 a1_2 a1_3 a0_0 a0_1 a0_2 a0_3).bind fun bt381 => (neumelaw03_BoxAround.j1 kj3 (!(t373 == bt381.1) || (!(t374 == bt381.2.1) || (!(t375 == bt381.2.2.1) || (!(t376 == bt381.2.2.2))))) a0_0 a0_1 a0_2 a0_3 a1_0 a1_1 a1_2 a1_3 a2_0 a2_1 a2_2 a2_3 t373 t374 t375 t376)) else (neumelaw03_BoxAround.j1 kj3 true a0_0 a0_1 a0_2 a0_3 a1_0 a1_1 a1_2 a1_3 a2_0 a2_1 a2_2 a2_3 t373 t374 t375 t376))) else (neumelaw03_BoxAround.j1 kj3 true a0_0 a0_1 a0_2 a0_3 a1_0 a1_1 a1_2 a1_3 a2_0 a2_1 a2_2 a2_3 t373 t374 t375 t376))) else (neumelaw03_BoxAround.j1 kj3 true a0_0 a0_1 a0_2 a0_3 a1_0 a1_1 a1_2 a1_3 a2_0 a2_1 a2_2 a2_3 t373 t374 t375 t376)) = some r := H
     have A38 := sd_ A380
     clear A380
     by_cases c39 : t378 = true
     ·subst c39
      have H1 : ((box_Inside.f kj3 a1_0 a1_1 a1_2 a1_3 t373 t374 t375 t376).bind fun t379 => (if t379 = true then ((box_Check.f t373 t374 t375 t376).bind fun t380 => (if t380 = true then ((box_Join.f kj3 a1_0 a1_1 a1_2 a1_3 a0_0 a0_1 a0_2 a0_3).bind fun bt381 => (neumelaw03_BoxAround.j1 kj3 (!(t373 == bt381.1) || (!(t374 == bt381.2.1) || (!(t375 == bt381.2.2.1) || (!(t376 == bt381.2.2.2))))) a0_0 a0_1 a0_2 a0_3 a1_0 a1_1 a1_2 a1_3 a2_0 a2_1 a2_2 a2_3 t373 t374 t375 t376)) else (neumelaw03_BoxAround.j1 kj3 true a0_0 a0_1 a0_2 a0_3 a1_0 a1_1 a1_2 a1_3 a2_0 a2_1 a2_2 a2_3 t373 t374 t375 t376))) else (neumelaw03_BoxAround.j1 kj3 true a0_0 a0_1 a0_2 a0_3 a1_0 a1_1 a1_2 a1_3 a2_0 a2_1 a2_2 a2_3 t373 t374 t375 t376))) = some r := by rw [if_pos rfl] at H; exact H
      clear H; have H := H1; clear H1
      replace H := ob_ H
      obtain ⟨t379, A400, H⟩ := H
      replace H : (if t379 = true then ((box_Check.f t373 t374 t375 t376).bind fun t380 => (if t380 = true then ((box_Join.f kj3 a1_0 a1_1 a1_2 a1_3 a0_0 a0_1 a0_2 a0_3).bind fun bt381 => (neumelaw03_BoxAround.j1 kj3 (!(t373 == bt381.1) || (!(t374 == bt381.2.1) || (!(t375 == bt381.2.2.1) || (!(t376 == bt381.2.2.2))))) a0_0 a0_1 a0_2 a0_3 a1_0 a1_1 a1_2 a1_3 a2_0 a2_1 a2_2 a2_3 t373 t374 t375 t376)) else (neumelaw03_BoxAround.j1 kj3 true a0_0 a0_1 a0_2 a0_3 a1_0 a1_1 a1_2 a1_3 a2_0 a2_1 a2_2 a2_3 t373 t374 t375 t376))) else (neumelaw03_BoxAround.j1 kj3 true a0_0 a0_1 a0_2 a0_3 a1_0 a1_1 a1_2 a1_3 a2_0 a2_1 a2_2 a2_3 t373 t374 t375 t376)) = some r := H
      have A40 := sd_ A400
      clear A400
      by_cases c41 : t379 = true
      ·subst c41
       have H1 : ((box_Check.f t373 t374 t375 t376).bind fun t380 => (if t380 = true then ((box_Join.f kj3 a1_0 a1_1 a1_2 a1_3 a0_0 a0_1 a0_2 a0_3).bind fun bt381 => (neumelaw03_BoxAround.j1 kj3 (!(t373 == bt381.1) || (!(t374 == bt381.2.1) || (!(t375 == bt381.2.2.1) || (!(t376 == bt381.2.2.2))))) a0_0 a0_1 a0_2 a0_3 a1_0 a1_1 a1_2 a1_3 a2_0 a2_1 a2_2 a2_3 t373 t374 t375 t376)) else (neumelaw03_BoxAround.j1 kj3 true a0_0 a0_1 a0_2 a0_3 a1_0 a1_1 a1_2 a1_3 a2_0 a2_1 a2_2 a2_3 t373 t374 t375 t376))) = some r := by rw [if_pos rfl] at H; exact H
       clear H; have H := H1; clear H1
       replace H := ob_ H
       obtain ⟨t380, A420, H⟩ := H
       replace H : (if t380 = true then ((box_Join.f kj3 a1_0 a1_1 a1_2 a1_3 a0_0 a0_1 a0_2 a0_3).bind fun bt381 => (neumelaw03_BoxAround.j1 kj3 (!(t373 == bt381.1) || (!(t374 == bt381.2.1) || (!(t375 == bt381.2.2.1) || (!(t376 == bt381.2.2.2))))) a0_0 a0_1 a0_2 a0_3 a1_0 a1_1 a1_2 a1_3 a2_0 a2_1 a2_2 a2_3 t373 t374 t375 t376)) else (neumelaw03_BoxAround.j1 kj3 true a0_0 a0_1 a0_2 a0_3 a1_0 a1_1 a1_2 a1_3 a2_0 a2_1 a2_2 a2_3 t373 t374 t375 t376)) = some r := H
       have A42 := sd_ A420
       clear A420
       by_cases c43 : t380 = true
       ·subst c43
        have H1 : ((box_Join.f kj3 a1_0 a1_1 a1_2 a1_3 a0_0 a0_1 a0_2 a0_3).bind fun bt381 => (neumelaw03_BoxAround.j1 kj3 (!(t373 == bt381.1) || (!(t374 == bt381.2.1) || (!(t375 == bt381.2.2.1) || (!(t376 == bt381.2.2.2))))) a0_0 a0_1 a0_2 a0_3 a1_0 a1_1 a1_2 a1_3 a2_0 a2_1 a2_2 a2_3 t373 t374 t375 t376)) = some r := by rw [if_pos rfl] at H; exact H
        clear H; have H := H1; clear H1
        replace H := ob_ H
        obtain ⟨⟨t381, t382, t383, t384⟩, A440, H⟩ := H
        replace H : (neumelaw03_BoxAround.j1 kj3 (!(t373 == t381) || (!(t374 == t382) || (!(t375 == t383) || (!(t376 == t384))))) a0_0 a0_1 a0_2 a0_3 a1_0 a1_1 a1_2 a1_3 a2_0 a2_1 a2_2 a2_3 t373 t374 t375 t376) = some r := H
        have A44 := sd_ A440
        clear A440
        have H' := sd_ H
        clear H
        try go_wp2
        have n0_ : Aside0 (((((w33.setCell ⟨gb377, 0, none⟩ (.int .i64 t373)).setCell ⟨gb377, 1, none⟩ (.int .i64 t374)).setCell ⟨gb377, 2, none⟩ (.int .i64 t375)).setCell ⟨gb377, 3, none⟩ (.int .i64 t376)).heap[gb367]? = some (.cells #[.int .i64 a0_0, .int .i64 a0_1, .int .i64 a0_2, .int .i64 a0_3] 23 (0, 0))) := ⟨by (with_reducible repeat (first | refine kn_ ?_ _ | refine kd_ ?_ | refine ka_ ?_ _)); refine blk_far ?_ NB367_377.out _; (with_reducible repeat (first | refine kn_ ?_ _ | refine kd_ ?_ | refine ka_ ?_ _)); refine blk_far ?_ NB367_377.out _; (with_reducible repeat (first | refine kn_ ?_ _ | refine kd_ ?_ | refine ka_ ?_ _)); refine blk_far ?_ NB367_377.out _; (with_reducible repeat (first | refine kn_ ?_ _ | refine kd_ ?_ | refine ka_ ?_ _)); refine blk_far ?_ NB367_377.out _; (with_reducible repeat (first | refine kn_ ?_ _ | refine kd_ ?_ | refine ka_ ?_ _)); exact BK367.out⟩
        have n1_ : Aside0 (((((w33.setCell ⟨gb377, 0, none⟩ (.int .i64 t373)).setCell ⟨gb377, 1, none⟩ (.int .i64 t374)).setCell ⟨gb377, 2, none⟩ (.int .i64 t375)).setCell ⟨gb377, 3, none⟩ (.int .i64 t376)).heap[gb368]? = some (.cells #[.int .i64 a1_0, .int .i64 a1_1, .int .i64 a1_2, .int .i64 a1_3] 23 (0, 0))) := ⟨by (with_reducible repeat (first | refine kn_ ?_ _ | refine kd_ ?_ | refine ka_ ?_ _)); refine blk_far ?_ NB368_377.out _; (with_reducible repeat (first | refine kn_ ?_ _ | refine kd_ ?_ | refine ka_ ?_ _)); refine blk_far ?_ NB368_377.out _; (with_reducible repeat (first | refine kn_ ?_ _ | refine kd_ ?_ | refine ka_ ?_ _)); refine blk_far ?_ NB368_377.out _; (with_reducible repeat (first | refine kn_ ?_ _ | refine kd_ ?_ | refine ka_ ?_ _)); refine blk_far ?_ NB368_377.out _; (with_reducible repeat (first | refine kn_ ?_ _ | refine kd_ ?_ | refine ka_ ?_ _)); exact BK368.out⟩
        have n2_ : Aside0 (((((w33.setCell ⟨gb377, 0, none⟩ (.int .i64 t373)).setCell ⟨gb377, 1, none⟩ (.int .i64 t374)).setCell ⟨gb377, 2, none⟩ (.int .i64 t375)).setCell ⟨gb377, 3, none⟩ (.int .i64 t376)).heap[gb369]? = some (.cells #[.int .i64 a2_0, .int .i64 a2_1, .int .i64 a2_2, .int .i64 a2_3] 23 (0, 0))) := ⟨by (with_reducible repeat (first | refine kn_ ?_ _ | refine kd_ ?_ | refine ka_ ?_ _)); refine blk_far ?_ NB369_377.out _; (with_reducible repeat (first | refine kn_ ?_ _ | refine kd_ ?_ | refine ka_ ?_ _)); refine blk_far ?_ NB369_377.out _; (with_reducible repeat (first | refine kn_ ?_ _ | refine kd_ ?_ | refine ka_ ?_ _)); refine blk_far ?_ NB369_377.out _; (with_reducible repeat (first | refine kn_ ?_ _ | refine kd_ ?_ | refine ka_ ?_ _)); refine blk_far ?_ NB369_377.out _; (with_reducible repeat (first | refine kn_ ?_ _ | refine kd_ ?_ | refine ka_ ?_ _)); exact BK369.out⟩
        have n3_ : Aside0 (((((w33.setCell ⟨gb377, 0, none⟩ (.int .i64 t373)).setCell ⟨gb377, 1, none⟩ (.int .i64 t374)).setCell ⟨gb377, 2, none⟩ (.int .i64 t375)).setCell ⟨gb377, 3, none⟩ (.int .i64 t376)).heap[gb377]? = some (.cells #[.int .i64 t373, .int .i64 t374, .int .i64 t375, .int .i64 t376] 23 (0, 0))) := ⟨by (with_reducible repeat (first | refine kn_ ?_ _ | refine kd_ ?_ | refine ka_ ?_ _)); refine blk_put (cs := #[.int .i64 t373, .int .i64 t374, .int .i64 t375, .int .i64 0]) ?_ 3 _ rfl; (with_reducible repeat (first | refine kn_ ?_ _ | refine kd_ ?_ | refine ka_ ?_ _)); refine blk_put (cs := #[.int .i64 t373, .int .i64 t374, .int .i64 0, .int .i64 0]) ?_ 2 _ rfl; (with_reducible repeat (first | refine kn_ ?_ _ | refine kd_ ?_ | refine ka_ ?_ _)); refine blk_put (cs := #[.int .i64 t373, .int .i64 0, .int .i64 0, .int .i64 0]) ?_ 1 _ rfl; (with_reducible repeat (first | refine kn_ ?_ _ | refine kd_ ?_ | refine ka_ ?_ _)); refine blk_put (cs := #[.int .i64 0, .int .i64 0, .int .i64 0, .int .i64 0]) ?_ 0 _ rfl; (with_reducible repeat (first | refine kn_ ?_ _ | refine kd_ ?_ | refine ka_ ?_ _)); exact BK377.out⟩
        have n4_ : Aside0 (Below w.heap.size w ((((w33.setCell ⟨gb377, 0, none⟩ (.int .i64 t373)).setCell ⟨gb377, 1, none⟩ (.int .i64 t374)).setCell ⟨gb377, 2, none⟩ (.int .i64 t375)).setCell ⟨gb377, 3, none⟩ (.int .i64 t376))) := ⟨by repeat (first | (with_reducible first | exact HB.out | apply ba_ | apply pd_ | apply d1_ | refine bs_ ?_ GE367.out | refine bs_ ?_ GE368.out | refine bs_ ?_ GE369.out | refine bs_ ?_ GE377.out) | exact HB.out)⟩
        (try clear BK367)
        (try clear BK368)
        (try clear BK369)
        (try clear BK377)
        (try clear HB)
        generalize ((((w33.setCell ⟨gb377, 0, none⟩ (.int .i64 t373)).setCell ⟨gb377, 1, none⟩ (.int .i64 t374)).setCell ⟨gb377, 2, none⟩ (.int .i64 t375)).setCell ⟨gb377, 3, none⟩ (.int .i64 t376)) = w45 at n0_ n1_ n2_ n3_ n4_ ⊢
        have BK367 := n0_
        have BK368 := n1_
        have BK369 := n2_
        have BK377 := n3_
        have HB := n4_
        clear n0_ n1_ n2_ n3_ n4_
        have n0_ := sd_ (kd_ BK367.out)
        have n1_ := sd_ (kd_ BK368.out)
        have n2_ := sd_ (kd_ BK369.out)
        have n3_ := sd_ (kd_ BK377.out)
        have n4_ := sd_ (d1_ HB.out)
        clear BK367
        clear BK368
        clear BK369
        clear BK377
        clear HB
        have BK367 := n0_
        have BK368 := n1_
        have BK369 := n2_
        have BK377 := n3_
        have HB := n4_
        clear n0_ n1_ n2_ n3_ n4_
        refine start_ (n := 22) (S := fun w' => w'.cell? ⟨gb367, 0, none⟩ = some (.int .i64 a0_0) ∧ w'.cell? ⟨gb367, 1, none⟩ = some (.int .i64 a0_1) ∧ w'.cell? ⟨gb367, 2, none⟩ = some (.int .i64 a0_2) ∧ w'.cell? ⟨gb367, 3, none⟩ = some (.int .i64 a0_3) ∧ w'.cell? ⟨gb377, 0, none⟩ = some (.int .i64 t373) ∧ w'.cell? ⟨gb377, 1, none⟩ = some (.int .i64 t374) ∧ w'.cell? ⟨gb377, 2, none⟩ = some (.int .i64 t375) ∧ w'.cell? ⟨gb377, 3, none⟩ = some (.int .i64 t376) ∧ w'.cell? ⟨gb368, 0, none⟩ = some (.int .i64 a1_0) ∧ w'.cell? ⟨gb368, 1, none⟩ = some (.int .i64 a1_1) ∧ w'.cell? ⟨gb368, 2, none⟩ = some (.int .i64 a1_2) ∧ w'.cell? ⟨gb368, 3, none⟩ = some (.int .i64 a1_3)) (ds := []) #[false, false, false, false, false, false, false, false, false, false, false, false, false, false, false, false, false, false, false, false, false, false] (by kernel_rfl) rfl rfl ⟨(kc_ BK367.out 0).trans rfl, (kc_ BK367.out 1).trans rfl, (kc_ BK367.out 2).trans rfl, (kc_ BK367.out 3).trans rfl, (kc_ BK377.out 0).trans rfl, (kc_ BK377.out 1).trans rfl, (kc_ BK377.out 2).trans rfl, (kc_ BK377.out 3).trans rfl, (kc_ BK368.out 0).trans rfl, (kc_ BK368.out 1).trans rfl, (kc_ BK368.out 2).trans rfl, (kc_ BK368.out 3).trans rfl⟩ (fun hHeld => ?_); refine with_tabW neumelaw03_BoxAround.tab4 neumelaw03_BoxAround.bits4 (fun HT_ HW_ => ?_)
        generalize w45.drew = w46 at BK367 BK368 BK369 BK377 HB hHeld ⊢
        refine take_ (i := 0) (N := some 20) (v := ?_) (a' := ?_) #[true, false, false, false, false, false, false, false, false, false, false, false, false, false, false, false, false, false, false, false, false, false] rfl rfl (take_ofW HT_.out HW_.out (by kernel_rfl)) (fun _ _ _ h => h) (Or.inl ⟨by rfl, ?_⟩) hHeld ?_ ?_
        rotate_left
        ·rintro w' ⟨s0, s1, s2, s3, s4, s5, s6, s7, s8, s9, s10, s11⟩
         go_simp
         with_reducible rfl
        rotate_left
        ·simp only [Act.put, ls_, lz_, lc_, i64_w, i32_w]
         rfl
        refine take_ (i := 1) (N := some 21) (v := ?_) (a' := ?_) #[true, true, false, false, false, false, false, false, false, false, false, false, false, false, false, false, false, false, false, false, false, false] rfl rfl (take_ofW HT_.out HW_.out (by kernel_rfl)) (fun _ _ _ h => h) (Or.inl ⟨by rfl, ?_⟩) hHeld ?_ ?_
        rotate_left
        ·rintro w' ⟨s0, s1, s2, s3, s4, s5, s6, s7, s8, s9, s10, s11⟩
         go_simp
         with_reducible rfl
        rotate_left
        ·simp only [Act.put, ls_, lz_, lc_, i64_w, i32_w]
         rfl
        refine one_ (i := 2) (N := some 22) #[true, true, true, false, false, false, false, false, false, false, false, false, false, false, false, false, false, false, false, false, false, false] rfl rfl (one_of HT_.out (by kernel_rfl)) (by decide) (fun K hK => ?_)
        refine goes_ Tryd.func18 (by kernel_rfl) rfl #[.agg #[.int .i64 a0_0, .int .i64 a0_1, .int .i64 a0_2, .int .i64 a0_3], .agg #[.int .i64 t373, .int .i64 t374, .int .i64 t375, .int .i64 t376]] (by rfl) rfl rfl (by (try simp only [lm_, lq_, lx_]); first | done | rfl | (simp only [ld_, lt_]; rfl)) ?_
        with_reducible refine (box_Inside.calls kj3 a0_0 a0_1 a0_2 a0_3 t373 t374 t375 t376 true _ A38.out).mono ?_
        rintro e w47 ⟨rfl, hb⟩
        refine ⟨_, rfl, ?_⟩
        have n0_ := sd_ (blk_below (g := gb367) (o := .cells #[.int .i64 a0_0, .int .i64 a0_1, .int .i64 a0_2, .int .i64 a0_3] 23 (0, 0)) (by (with_reducible repeat (first | refine kn_ ?_ _ | refine kd_ ?_ | refine ka_ ?_ _)); exact BK367.out) hb)
        have n1_ := sd_ (blk_below (g := gb368) (o := .cells #[.int .i64 a1_0, .int .i64 a1_1, .int .i64 a1_2, .int .i64 a1_3] 23 (0, 0)) (by (with_reducible repeat (first | refine kn_ ?_ _ | refine kd_ ?_ | refine ka_ ?_ _)); exact BK368.out) hb)
        have n2_ := sd_ (blk_below (g := gb369) (o := .cells #[.int .i64 a2_0, .int .i64 a2_1, .int .i64 a2_2, .int .i64 a2_3] 23 (0, 0)) (by (with_reducible repeat (first | refine kn_ ?_ _ | refine kd_ ?_ | refine ka_ ?_ _)); exact BK369.out) hb)
        have n3_ := sd_ (blk_below (g := gb377) (o := .cells #[.int .i64 t373, .int .i64 t374, .int .i64 t375, .int .i64 t376] 23 (0, 0)) (by (with_reducible repeat (first | refine kn_ ?_ _ | refine kd_ ?_ | refine ka_ ?_ _)); exact BK377.out) hb)
        have n4_ := sd_ (bt_ (by repeat (first | (with_reducible first | exact HB.out | apply ba_ | apply pd_ | apply d1_ | refine bs_ ?_ GE367.out | refine bs_ ?_ GE368.out | refine bs_ ?_ GE369.out | refine bs_ ?_ GE377.out) | exact HB.out)) hb)
        clear BK367
        clear BK368
        clear BK369
        clear BK377
        clear HB
        have BK367 := n0_
        have BK368 := n1_
        have BK369 := n2_
        have BK377 := n3_
        have HB := n4_
        clear n0_ n1_ n2_ n3_ n4_
        (try clear hb)
        (try clear hb2)
        (try clear hk)
        (try clear hi)
        refine hK.out _ _ ⟨(kc_ BK367.out 0).trans rfl, (kc_ BK367.out 1).trans rfl, (kc_ BK367.out 2).trans rfl, (kc_ BK367.out 3).trans rfl, (kc_ BK377.out 0).trans rfl, (kc_ BK377.out 1).trans rfl, (kc_ BK377.out 2).trans rfl, (kc_ BK377.out 3).trans rfl, (kc_ BK368.out 0).trans rfl, (kc_ BK368.out 1).trans rfl, (kc_ BK368.out 2).trans rfl, (kc_ BK368.out 3).trans rfl⟩ (fun hHeld => ?_)
        clear hK K
        refine norm_ (a' := ?_) ?_ ?_
        rotate_left
        ·show Act.put _ (some 22) _ = _
         simp only [Act.put, ls_, lz_, lc_, i64_w, i32_w]
         rfl
        refine pure_ (i := 3) (N := some 23) (v := ?_) (a' := ?_) #[true, true, true, true, false, false, false, false, false, false, false, false, false, false, false, false, false, false, false, false, false, false] rfl rfl (any_of HT_.out (by kernel_rfl)) (fun _ _ _ h => h) (Or.inl ⟨by rfl, ?_⟩) ?_ ?_
        rotate_left; (intro w'; go_simp; with_reducible rfl); rotate_left; (simp only [Act.put, ls_, lz_, lc_, i64_w, i32_w]; rfl)
        refine pure_ (i := 4) (N := some 24) (v := ?_) (a' := ?_) #[true, true, true, true, true, false, false, false, false, false, false, false, false, false, false, false, false, false, false, false, false, false] rfl rfl (any_of HT_.out (by kernel_rfl)) (fun _ _ _ h => h) (Or.inl ⟨by rfl, ?_⟩) ?_ ?_
        rotate_left; (intro w'; go_simp; with_reducible rfl); rotate_left; (simp only [Act.put, ls_, lz_, lc_, i64_w, i32_w]; rfl)
        refine take_ (i := 5) (N := some 25) (v := ?_) (a' := ?_) #[true, true, true, true, true, true, false, false, false, false, false, false, false, false, false, false, false, false, false, false, false, false] rfl rfl (take_ofW HT_.out HW_.out (by kernel_rfl)) (fun _ _ _ h => h) (Or.inl ⟨by rfl, ?_⟩) hHeld ?_ ?_
        rotate_left
        ·rintro w' ⟨s0, s1, s2, s3, s4, s5, s6, s7, s8, s9, s10, s11⟩
         go_simp
         with_reducible rfl
        rotate_left
        ·simp only [Act.put, ls_, lz_, lc_, i64_w, i32_w]
         rfl
        refine take_ (i := 6) (N := some 26) (v := ?_) (a' := ?_) #[true, true, true, true, true, true, true, false, false, false, false, false, false, false, false, false, false, false, false, false, false, false] rfl rfl (take_ofW HT_.out HW_.out (by kernel_rfl)) (fun _ _ _ h => h) (Or.inl ⟨by rfl, ?_⟩) hHeld ?_ ?_
        rotate_left
        ·rintro w' ⟨s0, s1, s2, s3, s4, s5, s6, s7, s8, s9, s10, s11⟩
         go_simp
         with_reducible rfl
        rotate_left
        ·simp only [Act.put, ls_, lz_, lc_, i64_w, i32_w]
         rfl
        refine one_ (i := 7) (N := some 27) #[true, true, true, true, true, true, true, true, false, false, false, false, false, false, false, false, false, false, false, false, false, false] rfl rfl (one_of HT_.out (by kernel_rfl)) (by decide) (fun K hK => ?_)
        refine goes_ Tryd.func18 (by kernel_rfl) rfl #[.agg #[.int .i64 a1_0, .int .i64 a1_1, .int .i64 a1_2, .int .i64 a1_3], .agg #[.int .i64 t373, .int .i64 t374, .int .i64 t375, .int .i64 t376]] (by rfl) rfl rfl (by (try simp only [lm_, lq_, lx_]); first | done | rfl | (simp only [ld_, lt_]; rfl)) ?_
        with_reducible refine (box_Inside.calls kj3 a1_0 a1_1 a1_2 a1_3 t373 t374 t375 t376 true _ A40.out).mono ?_
        rintro e w48 ⟨rfl, hb⟩
        refine ⟨_, rfl, ?_⟩
        have n0_ := sd_ (blk_below (g := gb367) (o := .cells #[.int .i64 a0_0, .int .i64 a0_1, .int .i64 a0_2, .int .i64 a0_3] 23 (0, 0)) (by (with_reducible repeat (first | refine kn_ ?_ _ | refine kd_ ?_ | refine ka_ ?_ _)); exact BK367.out) hb)
        have n1_ := sd_ (blk_below (g := gb368) (o := .cells #[.int .i64 a1_0, .int .i64 a1_1, .int .i64 a1_2, .int .i64 a1_3] 23 (0, 0)) (by (with_reducible repeat (first | refine kn_ ?_ _ | refine kd_ ?_ | refine ka_ ?_ _)); exact BK368.out) hb)
        have n2_ := sd_ (blk_below (g := gb369) (o := .cells #[.int .i64 a2_0, .int .i64 a2_1, .int .i64 a2_2, .int .i64 a2_3] 23 (0, 0)) (by (with_reducible repeat (first | refine kn_ ?_ _ | refine kd_ ?_ | refine ka_ ?_ _)); exact BK369.out) hb)
        have n3_ := sd_ (blk_below (g := gb377) (o := .cells #[.int .i64 t373, .int .i64 t374, .int .i64 t375, .int .i64 t376] 23 (0, 0)) (by (with_reducible repeat (first | refine kn_ ?_ _ | refine kd_ ?_ | refine ka_ ?_ _)); exact BK377.out) hb)
        have n4_ := sd_ (bt_ (by repeat (first | (with_reducible first | exact HB.out | apply ba_ | apply pd_ | apply d1_ | refine bs_ ?_ GE367.out | refine bs_ ?_ GE368.out | refine bs_ ?_ GE369.out | refine bs_ ?_ GE377.out) | exact HB.out)) hb)
        clear BK367
        clear BK368
        clear BK369
        clear BK377
        clear HB
        have BK367 := n0_
        have BK368 := n1_
        have BK369 := n2_
        have BK377 := n3_
        have HB := n4_
        clear n0_ n1_ n2_ n3_ n4_
        (try clear hb)
        (try clear hb2)
        (try clear hk)
        (try clear hi)
        refine hK.out _ _ ⟨(kc_ BK367.out 0).trans rfl, (kc_ BK367.out 1).trans rfl, (kc_ BK367.out 2).trans rfl, (kc_ BK367.out 3).trans rfl, (kc_ BK377.out 0).trans rfl, (kc_ BK377.out 1).trans rfl, (kc_ BK377.out 2).trans rfl, (kc_ BK377.out 3).trans rfl, (kc_ BK368.out 0).trans rfl, (kc_ BK368.out 1).trans rfl, (kc_ BK368.out 2).trans rfl, (kc_ BK368.out 3).trans rfl⟩ (fun hHeld => ?_)
        clear hK K
        refine norm_ (a' := ?_) ?_ ?_
        rotate_left
        ·show Act.put _ (some 27) _ = _
         simp only [Act.put, ls_, lz_, lc_, i64_w, i32_w]
         rfl
        refine pure_ (i := 8) (N := some 28) (v := ?_) (a' := ?_) #[true, true, true, true, true, true, true, true, true, false, false, false, false, false, false, false, false, false, false, false, false, false] rfl rfl (any_of HT_.out (by kernel_rfl)) (fun _ _ _ h => h) (Or.inl ⟨by rfl, ?_⟩) ?_ ?_
        rotate_left; (intro w'; go_simp; with_reducible rfl); rotate_left; (simp only [Act.put, ls_, lz_, lc_, i64_w, i32_w]; rfl)
        refine pure_ (i := 9) (N := some 29) (v := ?_) (a' := ?_) #[true, true, true, true, true, true, true, true, true, true, false, false, false, false, false, false, false, false, false, false, false, false] rfl rfl (any_of HT_.out (by kernel_rfl)) (fun _ _ _ h => h) (Or.inl ⟨by rfl, ?_⟩) ?_ ?_
        rotate_left; (intro w'; go_simp; with_reducible rfl); rotate_left; (simp only [Act.put, ls_, lz_, lc_, i64_w, i32_w]; rfl)
        refine pure_ (i := 10) (N := some 30) (v := ?_) (a' := ?_) #[true, true, true, true, true, true, true, true, true, true, true, false, false, false, false, false, false, false, false, false, false, false] rfl rfl (any_of HT_.out (by kernel_rfl)) (fun _ _ _ h => h) (Or.inl ⟨by rfl, ?_⟩) ?_ ?_
        rotate_left; (intro w'; go_simp; with_reducible rfl); rotate_left; (simp only [Act.put, ls_, lz_, lc_, i64_w, i32_w]; rfl)
        refine take_ (i := 11) (N := some 31) (v := ?_) (a' := ?_) #[true, true, true, true, true, true, true, true, true, true, true, true, false, false, false, false, false, false, false, false, false, false] rfl rfl (take_ofW HT_.out HW_.out (by kernel_rfl)) (fun _ _ _ h => h) (Or.inl ⟨by rfl, ?_⟩) hHeld ?_ ?_
        rotate_left
        ·rintro w' ⟨s0, s1, s2, s3, s4, s5, s6, s7, s8, s9, s10, s11⟩
         go_simp
         with_reducible rfl
        rotate_left
        ·simp only [Act.put, ls_, lz_, lc_, i64_w, i32_w]
         rfl
        refine one_ (i := 12) (N := some 32) #[true, true, true, true, true, true, true, true, true, true, true, true, true, false, false, false, false, false, false, false, false, false] rfl rfl (one_of HT_.out (by kernel_rfl)) (by decide) (fun K hK => ?_)
        refine goes_ Tryd.func12 (by kernel_rfl) rfl #[.agg #[.int .i64 t373, .int .i64 t374, .int .i64 t375, .int .i64 t376]] (by rfl) rfl rfl (by (try simp only [lm_, lq_, lx_]); first | done | rfl | (simp only [ld_, lt_]; rfl)) ?_
        with_reducible refine (box_Check.calls t373 t374 t375 t376 true _ A42.out).mono ?_
        rintro e w49 ⟨rfl, hb⟩
        refine ⟨_, rfl, ?_⟩
        have n0_ := sd_ (blk_below (g := gb367) (o := .cells #[.int .i64 a0_0, .int .i64 a0_1, .int .i64 a0_2, .int .i64 a0_3] 23 (0, 0)) (by (with_reducible repeat (first | refine kn_ ?_ _ | refine kd_ ?_ | refine ka_ ?_ _)); exact BK367.out) hb)
        have n1_ := sd_ (blk_below (g := gb368) (o := .cells #[.int .i64 a1_0, .int .i64 a1_1, .int .i64 a1_2, .int .i64 a1_3] 23 (0, 0)) (by (with_reducible repeat (first | refine kn_ ?_ _ | refine kd_ ?_ | refine ka_ ?_ _)); exact BK368.out) hb)
        have n2_ := sd_ (blk_below (g := gb369) (o := .cells #[.int .i64 a2_0, .int .i64 a2_1, .int .i64 a2_2, .int .i64 a2_3] 23 (0, 0)) (by (with_reducible repeat (first | refine kn_ ?_ _ | refine kd_ ?_ | refine ka_ ?_ _)); exact BK369.out) hb)
        have n3_ := sd_ (blk_below (g := gb377) (o := .cells #[.int .i64 t373, .int .i64 t374, .int .i64 t375, .int .i64 t376] 23 (0, 0)) (by (with_reducible repeat (first | refine kn_ ?_ _ | refine kd_ ?_ | refine ka_ ?_ _)); exact BK377.out) hb)
        have n4_ := sd_ (bt_ (by repeat (first | (with_reducible first | exact HB.out | apply ba_ | apply pd_ | apply d1_ | refine bs_ ?_ GE367.out | refine bs_ ?_ GE368.out | refine bs_ ?_ GE369.out | refine bs_ ?_ GE377.out) | exact HB.out)) hb)
        clear BK367
        clear BK368
        clear BK369
        clear BK377
        clear HB
        have BK367 := n0_
        have BK368 := n1_
        have BK369 := n2_
        have BK377 := n3_
        have HB := n4_
        clear n0_ n1_ n2_ n3_ n4_
        (try clear hb)
        (try clear hb2)
        (try clear hk)
        (try clear hi)
        refine hK.out _ _ ⟨(kc_ BK367.out 0).trans rfl, (kc_ BK367.out 1).trans rfl, (kc_ BK367.out 2).trans rfl, (kc_ BK367.out 3).trans rfl, (kc_ BK377.out 0).trans rfl, (kc_ BK377.out 1).trans rfl, (kc_ BK377.out 2).trans rfl, (kc_ BK377.out 3).trans rfl, (kc_ BK368.out 0).trans rfl, (kc_ BK368.out 1).trans rfl, (kc_ BK368.out 2).trans rfl, (kc_ BK368.out 3).trans rfl⟩ (fun hHeld => ?_)
        clear hK K
        refine norm_ (a' := ?_) ?_ ?_
        rotate_left
        ·show Act.put _ (some 32) _ = _
         simp only [Act.put, ls_, lz_, lc_, i64_w, i32_w]
         rfl
        refine pure_ (i := 13) (N := some 33) (v := ?_) (a' := ?_) #[true, true, true, true, true, true, true, true, true, true, true, true, true, true, false, false, false, false, false, false, false, false] rfl rfl (any_of HT_.out (by kernel_rfl)) (fun _ _ _ h => h) (Or.inl ⟨by rfl, ?_⟩) ?_ ?_
        rotate_left; (intro w'; go_simp; with_reducible rfl); rotate_left; (simp only [Act.put, ls_, lz_, lc_, i64_w, i32_w]; rfl)
        refine pure_ (i := 14) (N := some 34) (v := ?_) (a' := ?_) #[true, true, true, true, true, true, true, true, true, true, true, true, true, true, true, false, false, false, false, false, false, false] rfl rfl (any_of HT_.out (by kernel_rfl)) (fun _ _ _ h => h) (Or.inl ⟨by rfl, ?_⟩) ?_ ?_
        rotate_left; (intro w'; go_simp; with_reducible rfl); rotate_left; (simp only [Act.put, ls_, lz_, lc_, i64_w, i32_w]; rfl)
        refine pure_ (i := 15) (N := some 35) (v := ?_) (a' := ?_) #[true, true, true, true, true, true, true, true, true, true, true, true, true, true, true, true, false, false, false, false, false, false] rfl rfl (any_of HT_.out (by kernel_rfl)) (fun _ _ _ h => h) (Or.inl ⟨by rfl, ?_⟩) ?_ ?_
        rotate_left; (intro w'; go_simp; with_reducible rfl); rotate_left; (simp only [Act.put, ls_, lz_, lc_, i64_w, i32_w]; rfl)
        refine take_ (i := 16) (N := some 36) (v := ?_) (a' := ?_) #[true, true, true, true, true, true, true, true, true, true, true, true, true, true, true, true, true, false, false, false, false, false] rfl rfl (take_ofW HT_.out HW_.out (by kernel_rfl)) (fun _ _ _ h => h) (Or.inl ⟨by rfl, ?_⟩) hHeld ?_ ?_
        rotate_left
        ·rintro w' ⟨s0, s1, s2, s3, s4, s5, s6, s7, s8, s9, s10, s11⟩
         go_simp
         with_reducible rfl
        rotate_left
        ·simp only [Act.put, ls_, lz_, lc_, i64_w, i32_w]
         rfl
        refine take_ (i := 17) (N := some 37) (v := ?_) (a' := ?_) #[true, true, true, true, true, true, true, true, true, true, true, true, true, true, true, true, true, true, false, false, false, false] rfl rfl (take_ofW HT_.out HW_.out (by kernel_rfl)) (fun _ _ _ h => h) (Or.inl ⟨by rfl, ?_⟩) hHeld ?_ ?_
        rotate_left
        ·rintro w' ⟨s0, s1, s2, s3, s4, s5, s6, s7, s8, s9, s10, s11⟩
         go_simp
         with_reducible rfl
        rotate_left
        ·simp only [Act.put, ls_, lz_, lc_, i64_w, i32_w]
         rfl
        refine take_ (i := 18) (N := some 38) (v := ?_) (a' := ?_) #[true, true, true, true, true, true, true, true, true, true, true, true, true, true, true, true, true, true, true, false, false, false] rfl rfl (take_ofW HT_.out HW_.out (by kernel_rfl)) (fun _ _ _ h => h) (Or.inl ⟨by rfl, ?_⟩) hHeld ?_ ?_
        rotate_left
        ·rintro w' ⟨s0, s1, s2, s3, s4, s5, s6, s7, s8, s9, s10, s11⟩
         go_simp
         with_reducible rfl
        rotate_left
        ·simp only [Act.put, ls_, lz_, lc_, i64_w, i32_w]
         rfl
        refine one_ (i := 19) (N := some 39) #[true, true, true, true, true, true, true, true, true, true, true, true, true, true, true, true, true, true, true, true, false, false] rfl rfl (one_of HT_.out (by kernel_rfl)) (by decide) (fun K hK => ?_)
        refine goes_ Tryd.func14 (by kernel_rfl) rfl #[.agg #[.int .i64 a1_0, .int .i64 a1_1, .int .i64 a1_2, .int .i64 a1_3], .agg #[.int .i64 a0_0, .int .i64 a0_1, .int .i64 a0_2, .int .i64 a0_3]] (by rfl) rfl rfl (by (try simp only [lm_, lq_, lx_]); first | done | rfl | (simp only [ld_, lt_]; rfl)) ?_
        with_reducible refine (box_Join.calls kj3 a1_0 a1_1 a1_2 a1_3 a0_0 a0_1 a0_2 a0_3 t381 t382 t383 t384 _ A44.out).mono ?_
        rintro e w50 ⟨rfl, hb⟩
        refine ⟨_, rfl, ?_⟩
        have n0_ := sd_ (blk_below (g := gb367) (o := .cells #[.int .i64 a0_0, .int .i64 a0_1, .int .i64 a0_2, .int .i64 a0_3] 23 (0, 0)) (by (with_reducible repeat (first | refine kn_ ?_ _ | refine kd_ ?_ | refine ka_ ?_ _)); exact BK367.out) hb)
        have n1_ := sd_ (blk_below (g := gb368) (o := .cells #[.int .i64 a1_0, .int .i64 a1_1, .int .i64 a1_2, .int .i64 a1_3] 23 (0, 0)) (by (with_reducible repeat (first | refine kn_ ?_ _ | refine kd_ ?_ | refine ka_ ?_ _)); exact BK368.out) hb)
        have n2_ := sd_ (blk_below (g := gb369) (o := .cells #[.int .i64 a2_0, .int .i64 a2_1, .int .i64 a2_2, .int .i64 a2_3] 23 (0, 0)) (by (with_reducible repeat (first | refine kn_ ?_ _ | refine kd_ ?_ | refine ka_ ?_ _)); exact BK369.out) hb)
        have n3_ := sd_ (blk_below (g := gb377) (o := .cells #[.int .i64 t373, .int .i64 t374, .int .i64 t375, .int .i64 t376] 23 (0, 0)) (by (with_reducible repeat (first | refine kn_ ?_ _ | refine kd_ ?_ | refine ka_ ?_ _)); exact BK377.out) hb)
        have n4_ := sd_ (bt_ (by repeat (first | (with_reducible first | exact HB.out | apply ba_ | apply pd_ | apply d1_ | refine bs_ ?_ GE367.out | refine bs_ ?_ GE368.out | refine bs_ ?_ GE369.out | refine bs_ ?_ GE377.out) | exact HB.out)) hb)
        clear BK367
        clear BK368
        clear BK369
        clear BK377
        clear HB
        have BK367 := n0_
        have BK368 := n1_
        have BK369 := n2_
        have BK377 := n3_
        have HB := n4_
        clear n0_ n1_ n2_ n3_ n4_
        (try clear hb)
        (try clear hb2)
        (try clear hk)
        (try clear hi)
        refine hK.out _ _ ⟨(kc_ BK367.out 0).trans rfl, (kc_ BK367.out 1).trans rfl, (kc_ BK367.out 2).trans rfl, (kc_ BK367.out 3).trans rfl, (kc_ BK377.out 0).trans rfl, (kc_ BK377.out 1).trans rfl, (kc_ BK377.out 2).trans rfl, (kc_ BK377.out 3).trans rfl, (kc_ BK368.out 0).trans rfl, (kc_ BK368.out 1).trans rfl, (kc_ BK368.out 2).trans rfl, (kc_ BK368.out 3).trans rfl⟩ (fun hHeld => ?_)
        clear hK K
        refine norm_ (a' := ?_) ?_ ?_
        rotate_left
        ·show Act.put _ (some 39) _ = _
         simp only [Act.put, ls_, lz_, lc_, i64_w, i32_w]
         rfl
        refine pure_ (i := 20) (N := some 40) (v := ?_) (a' := ?_) #[true, true, true, true, true, true, true, true, true, true, true, true, true, true, true, true, true, true, true, true, true, false] rfl rfl (any_of HT_.out (by kernel_rfl)) (fun _ _ _ h => h) (Or.inl ⟨by rfl, ?_⟩) ?_ ?_
        rotate_left; (intro w'; go_simp; with_reducible rfl); rotate_left; (simp only [Act.put, ls_, lz_, lc_, i64_w, i32_w]; rfl)
        refine pure_ (i := 21) (N := some 41) (v := ?_) (a' := ?_) #[true, true, true, true, true, true, true, true, true, true, true, true, true, true, true, true, true, true, true, true, true, true] rfl rfl (any_of HT_.out (by kernel_rfl)) (fun _ _ _ h => h) (Or.inl ⟨by rfl, ?_⟩) ?_ ?_
        rotate_left; (intro w'; go_simp; with_reducible rfl); rotate_left; (simp only [Act.put, ls_, lz_, lc_, i64_w, i32_w]; rfl)
        refine done_ (done_of HT_.out (by kernel_rfl)) ?_
        try go_wp2
        go_meet
        case rel => exact ⟨_, ((!(t373 == t381) || (!(t374 == t382) || (!(t375 == t383) || (!(t376 == t384)))))), (by first | rfl | (simp; done) | (simp [*]; done) | (simp [bne]; done)), H', ⟨by have := HJ3.out; first | omega | exact Nat.le_refl _⟩, ⟨by (with_reducible repeat (first | refine kn_ ?_ _ | refine kd_ ?_ | refine ka_ ?_ _)); exact BK367.out⟩, ⟨by (with_reducible repeat (first | refine kn_ ?_ _ | refine kd_ ?_ | refine ka_ ?_ _)); exact BK368.out⟩, ⟨by (with_reducible repeat (first | refine kn_ ?_ _ | refine kd_ ?_ | refine ka_ ?_ _)); exact BK369.out⟩, ⟨by (with_reducible repeat (first | refine kn_ ?_ _ | refine kd_ ?_ | refine ka_ ?_ _)); exact BK377.out⟩, ⟨by repeat (first | (with_reducible first | exact HB.out | apply ba_ | apply pd_ | apply d1_ | refine bs_ ?_ GE367.out | refine bs_ ?_ GE368.out | refine bs_ ?_ GE369.out | refine bs_ ?_ GE377.out) | exact HB.out)⟩⟩
       ·replace c43 := bf_ c43
        subst c43
        have H1 : (neumelaw03_BoxAround.j1 kj3 true a0_0 a0_1 a0_2 a0_3 a1_0 a1_1 a1_2 a1_3 a2_0 a2_1 a2_2 a2_3 t373 t374 t375 t376) = some r := by rw [if_neg (show ¬ (false = true) by decide)] at H; exact H
        clear H; have H := H1; clear H1
        have H' := sd_ H
        clear H
        try go_wp2
        have n0_ : Aside0 (((((w33.setCell ⟨gb377, 0, none⟩ (.int .i64 t373)).setCell ⟨gb377, 1, none⟩ (.int .i64 t374)).setCell ⟨gb377, 2, none⟩ (.int .i64 t375)).setCell ⟨gb377, 3, none⟩ (.int .i64 t376)).heap[gb367]? = some (.cells #[.int .i64 a0_0, .int .i64 a0_1, .int .i64 a0_2, .int .i64 a0_3] 23 (0, 0))) := ⟨by (with_reducible repeat (first | refine kn_ ?_ _ | refine kd_ ?_ | refine ka_ ?_ _)); refine blk_far ?_ NB367_377.out _; (with_reducible repeat (first | refine kn_ ?_ _ | refine kd_ ?_ | refine ka_ ?_ _)); refine blk_far ?_ NB367_377.out _; (with_reducible repeat (first | refine kn_ ?_ _ | refine kd_ ?_ | refine ka_ ?_ _)); refine blk_far ?_ NB367_377.out _; (with_reducible repeat (first | refine kn_ ?_ _ | refine kd_ ?_ | refine ka_ ?_ _)); refine blk_far ?_ NB367_377.out _; (with_reducible repeat (first | refine kn_ ?_ _ | refine kd_ ?_ | refine ka_ ?_ _)); exact BK367.out⟩
        have n1_ : Aside0 (((((w33.setCell ⟨gb377, 0, none⟩ (.int .i64 t373)).setCell ⟨gb377, 1, none⟩ (.int .i64 t374)).setCell ⟨gb377, 2, none⟩ (.int .i64 t375)).setCell ⟨gb377, 3, none⟩ (.int .i64 t376)).heap[gb368]? = some (.cells #[.int .i64 a1_0, .int .i64 a1_1, .int .i64 a1_2, .int .i64 a1_3] 23 (0, 0))) := ⟨by (with_reducible repeat (first | refine kn_ ?_ _ | refine kd_ ?_ | refine ka_ ?_ _)); refine blk_far ?_ NB368_377.out _; (with_reducible repeat (first | refine kn_ ?_ _ | refine kd_ ?_ | refine ka_ ?_ _)); refine blk_far ?_ NB368_377.out _; (with_reducible repeat (first | refine kn_ ?_ _ | refine kd_ ?_ | refine ka_ ?_ _)); refine blk_far ?_ NB368_377.out _; (with_reducible repeat (first | refine kn_ ?_ _ | refine kd_ ?_ | refine ka_ ?_ _)); refine blk_far ?_ NB368_377.out _; (with_reducible repeat (first | refine kn_ ?_ _ | refine kd_ ?_ | refine ka_ ?_ _)); exact BK368.out⟩
        have n2_ : Aside0 (((((w33.setCell ⟨gb377, 0, none⟩ (.int .i64 t373)).setCell ⟨gb377, 1, none⟩ (.int .i64 t374)).setCell ⟨gb377, 2, none⟩ (.int .i64 t375)).setCell ⟨gb377, 3, none⟩ (.int .i64 t376)).heap[gb369]? = some (.cells #[.int .i64 a2_0, .int .i64 a2_1, .int .i64 a2_2, .int .i64 a2_3] 23 (0, 0))) := ⟨by (with_reducible repeat (first | refine kn_ ?_ _ | refine kd_ ?_ | refine ka_ ?_ _)); refine blk_far ?_ NB369_377.out _; (with_reducible repeat (first | refine kn_ ?_ _ | refine kd_ ?_ | refine ka_ ?_ _)); refine blk_far ?_ NB369_377.out _; (with_reducible repeat (first | refine kn_ ?_ _ | refine kd_ ?_ | refine ka_ ?_ _)); refine blk_far ?_ NB369_377.out _; (with_reducible repeat (first | refine kn_ ?_ _ | refine kd_ ?_ | refine ka_ ?_ _)); refine blk_far ?_ NB369_377.out _; (with_reducible repeat (first | refine kn_ ?_ _ | refine kd_ ?_ | refine ka_ ?_ _)); exact BK369.out⟩
        have n3_ : Aside0 (((((w33.setCell ⟨gb377, 0, none⟩ (.int .i64 t373)).setCell ⟨gb377, 1, none⟩ (.int .i64 t374)).setCell ⟨gb377, 2, none⟩ (.int .i64 t375)).setCell ⟨gb377, 3, none⟩ (.int .i64 t376)).heap[gb377]? = some (.cells #[.int .i64 t373, .int .i64 t374, .int .i64 t375, .int .i64 t376] 23 (0, 0))) := ⟨by (with_reducible repeat (first | refine kn_ ?_ _ | refine kd_ ?_ | refine ka_ ?_ _)); refine blk_put (cs := #[.int .i64 t373, .int .i64 t374, .int .i64 t375, .int .i64 0]) ?_ 3 _ rfl; (with_reducible repeat (first | refine kn_ ?_ _ | refine kd_ ?_ | refine ka_ ?_ _)); refine blk_put (cs := #[.int .i64 t373, .int .i64 t374, .int .i64 0, .int .i64 0]) ?_ 2 _ rfl; (with_reducible repeat (first | refine kn_ ?_ _ | refine kd_ ?_ | refine ka_ ?_ _)); refine blk_put (cs := #[.int .i64 t373, .int .i64 0, .int .i64 0, .int .i64 0]) ?_ 1 _ rfl; (with_reducible repeat (first | refine kn_ ?_ _ | refine kd_ ?_ | refine ka_ ?_ _)); refine blk_put (cs := #[.int .i64 0, .int .i64 0, .int .i64 0, .int .i64 0]) ?_ 0 _ rfl; (with_reducible repeat (first | refine kn_ ?_ _ | refine kd_ ?_ | refine ka_ ?_ _)); exact BK377.out⟩
        have n4_ : Aside0 (Below w.heap.size w ((((w33.setCell ⟨gb377, 0, none⟩ (.int .i64 t373)).setCell ⟨gb377, 1, none⟩ (.int .i64 t374)).setCell ⟨gb377, 2, none⟩ (.int .i64 t375)).setCell ⟨gb377, 3, none⟩ (.int .i64 t376))) := ⟨by repeat (first | (with_reducible first | exact HB.out | apply ba_ | apply pd_ | apply d1_ | refine bs_ ?_ GE367.out | refine bs_ ?_ GE368.out | refine bs_ ?_ GE369.out | refine bs_ ?_ GE377.out) | exact HB.out)⟩
        (try clear BK367)
        (try clear BK368)
        (try clear BK369)
        (try clear BK377)
        (try clear HB)
        generalize ((((w33.setCell ⟨gb377, 0, none⟩ (.int .i64 t373)).setCell ⟨gb377, 1, none⟩ (.int .i64 t374)).setCell ⟨gb377, 2, none⟩ (.int .i64 t375)).setCell ⟨gb377, 3, none⟩ (.int .i64 t376)) = w51 at n0_ n1_ n2_ n3_ n4_ ⊢
        have BK367 := n0_
        have BK368 := n1_
        have BK369 := n2_
        have BK377 := n3_
        have HB := n4_
        clear n0_ n1_ n2_ n3_ n4_
        have n0_ := sd_ (kd_ BK367.out)
        have n1_ := sd_ (kd_ BK368.out)
        have n2_ := sd_ (kd_ BK369.out)
        have n3_ := sd_ (kd_ BK377.out)
        have n4_ := sd_ (d1_ HB.out)
        clear BK367
        clear BK368
        clear BK369
        clear BK377
        clear HB
        have BK367 := n0_
        have BK368 := n1_
        have BK369 := n2_
        have BK377 := n3_
        have HB := n4_
        clear n0_ n1_ n2_ n3_ n4_
        refine start_ (n := 22) (S := fun w' => w'.cell? ⟨gb367, 0, none⟩ = some (.int .i64 a0_0) ∧ w'.cell? ⟨gb367, 1, none⟩ = some (.int .i64 a0_1) ∧ w'.cell? ⟨gb367, 2, none⟩ = some (.int .i64 a0_2) ∧ w'.cell? ⟨gb367, 3, none⟩ = some (.int .i64 a0_3) ∧ w'.cell? ⟨gb377, 0, none⟩ = some (.int .i64 t373) ∧ w'.cell? ⟨gb377, 1, none⟩ = some (.int .i64 t374) ∧ w'.cell? ⟨gb377, 2, none⟩ = some (.int .i64 t375) ∧ w'.cell? ⟨gb377, 3, none⟩ = some (.int .i64 t376) ∧ w'.cell? ⟨gb368, 0, none⟩ = some (.int .i64 a1_0) ∧ w'.cell? ⟨gb368, 1, none⟩ = some (.int .i64 a1_1) ∧ w'.cell? ⟨gb368, 2, none⟩ = some (.int .i64 a1_2) ∧ w'.cell? ⟨gb368, 3, none⟩ = some (.int .i64 a1_3)) (ds := []) #[false, false, false, false, false, false, false, false, false, false, false, false, false, false, false, false, false, false, false, false, false, false] (by kernel_rfl) rfl rfl ⟨(kc_ BK367.out 0).trans rfl, (kc_ BK367.out 1).trans rfl, (kc_ BK367.out 2).trans rfl, (kc_ BK367.out 3).trans rfl, (kc_ BK377.out 0).trans rfl, (kc_ BK377.out 1).trans rfl, (kc_ BK377.out 2).trans rfl, (kc_ BK377.out 3).trans rfl, (kc_ BK368.out 0).trans rfl, (kc_ BK368.out 1).trans rfl, (kc_ BK368.out 2).trans rfl, (kc_ BK368.out 3).trans rfl⟩ (fun hHeld => ?_); refine with_tabW neumelaw03_BoxAround.tab4 neumelaw03_BoxAround.bits4 (fun HT_ HW_ => ?_)
        generalize w51.drew = w52 at BK367 BK368 BK369 BK377 HB hHeld ⊢
        refine take_ (i := 0) (N := some 20) (v := ?_) (a' := ?_) #[true, false, false, false, false, false, false, false, false, false, false, false, false, false, false, false, false, false, false, false, false, false] rfl rfl (take_ofW HT_.out HW_.out (by kernel_rfl)) (fun _ _ _ h => h) (Or.inl ⟨by rfl, ?_⟩) hHeld ?_ ?_
        rotate_left
        ·rintro w' ⟨s0, s1, s2, s3, s4, s5, s6, s7, s8, s9, s10, s11⟩
         go_simp
         with_reducible rfl
        rotate_left
        ·simp only [Act.put, ls_, lz_, lc_, i64_w, i32_w]
         rfl
        refine take_ (i := 1) (N := some 21) (v := ?_) (a' := ?_) #[true, true, false, false, false, false, false, false, false, false, false, false, false, false, false, false, false, false, false, false, false, false] rfl rfl (take_ofW HT_.out HW_.out (by kernel_rfl)) (fun _ _ _ h => h) (Or.inl ⟨by rfl, ?_⟩) hHeld ?_ ?_
        rotate_left
        ·rintro w' ⟨s0, s1, s2, s3, s4, s5, s6, s7, s8, s9, s10, s11⟩
         go_simp
         with_reducible rfl
        rotate_left
        ·simp only [Act.put, ls_, lz_, lc_, i64_w, i32_w]
         rfl
        refine one_ (i := 2) (N := some 22) #[true, true, true, false, false, false, false, false, false, false, false, false, false, false, false, false, false, false, false, false, false, false] rfl rfl (one_of HT_.out (by kernel_rfl)) (by decide) (fun K hK => ?_)
        refine goes_ Tryd.func18 (by kernel_rfl) rfl #[.agg #[.int .i64 a0_0, .int .i64 a0_1, .int .i64 a0_2, .int .i64 a0_3], .agg #[.int .i64 t373, .int .i64 t374, .int .i64 t375, .int .i64 t376]] (by rfl) rfl rfl (by (try simp only [lm_, lq_, lx_]); first | done | rfl | (simp only [ld_, lt_]; rfl)) ?_
        with_reducible refine (box_Inside.calls kj3 a0_0 a0_1 a0_2 a0_3 t373 t374 t375 t376 true _ A38.out).mono ?_
        rintro e w53 ⟨rfl, hb⟩
        refine ⟨_, rfl, ?_⟩
        have n0_ := sd_ (blk_below (g := gb367) (o := .cells #[.int .i64 a0_0, .int .i64 a0_1, .int .i64 a0_2, .int .i64 a0_3] 23 (0, 0)) (by (with_reducible repeat (first | refine kn_ ?_ _ | refine kd_ ?_ | refine ka_ ?_ _)); exact BK367.out) hb)
        have n1_ := sd_ (blk_below (g := gb368) (o := .cells #[.int .i64 a1_0, .int .i64 a1_1, .int .i64 a1_2, .int .i64 a1_3] 23 (0, 0)) (by (with_reducible repeat (first | refine kn_ ?_ _ | refine kd_ ?_ | refine ka_ ?_ _)); exact BK368.out) hb)
        have n2_ := sd_ (blk_below (g := gb369) (o := .cells #[.int .i64 a2_0, .int .i64 a2_1, .int .i64 a2_2, .int .i64 a2_3] 23 (0, 0)) (by (with_reducible repeat (first | refine kn_ ?_ _ | refine kd_ ?_ | refine ka_ ?_ _)); exact BK369.out) hb)
        have n3_ := sd_ (blk_below (g := gb377) (o := .cells #[.int .i64 t373, .int .i64 t374, .int .i64 t375, .int .i64 t376] 23 (0, 0)) (by (with_reducible repeat (first | refine kn_ ?_ _ | refine kd_ ?_ | refine ka_ ?_ _)); exact BK377.out) hb)
        have n4_ := sd_ (bt_ (by repeat (first | (with_reducible first | exact HB.out | apply ba_ | apply pd_ | apply d1_ | refine bs_ ?_ GE367.out | refine bs_ ?_ GE368.out | refine bs_ ?_ GE369.out | refine bs_ ?_ GE377.out) | exact HB.out)) hb)
        clear BK367
        clear BK368
        clear BK369
        clear BK377
        clear HB
        have BK367 := n0_
        have BK368 := n1_
        have BK369 := n2_
        have BK377 := n3_
        have HB := n4_
        clear n0_ n1_ n2_ n3_ n4_
        (try clear hb)
        (try clear hb2)
        (try clear hk)
        (try clear hi)
        refine hK.out _ _ ⟨(kc_ BK367.out 0).trans rfl, (kc_ BK367.out 1).trans rfl, (kc_ BK367.out 2).trans rfl, (kc_ BK367.out 3).trans rfl, (kc_ BK377.out 0).trans rfl, (kc_ BK377.out 1).trans rfl, (kc_ BK377.out 2).trans rfl, (kc_ BK377.out 3).trans rfl, (kc_ BK368.out 0).trans rfl, (kc_ BK368.out 1).trans rfl, (kc_ BK368.out 2).trans rfl, (kc_ BK368.out 3).trans rfl⟩ (fun hHeld => ?_)
        clear hK K
        refine norm_ (a' := ?_) ?_ ?_
        rotate_left
        ·show Act.put _ (some 22) _ = _
         simp only [Act.put, ls_, lz_, lc_, i64_w, i32_w]
         rfl
        refine pure_ (i := 3) (N := some 23) (v := ?_) (a' := ?_) #[true, true, true, true, false, false, false, false, false, false, false, false, false, false, false, false, false, false, false, false, false, false] rfl rfl (any_of HT_.out (by kernel_rfl)) (fun _ _ _ h => h) (Or.inl ⟨by rfl, ?_⟩) ?_ ?_
        rotate_left; (intro w'; go_simp; with_reducible rfl); rotate_left; (simp only [Act.put, ls_, lz_, lc_, i64_w, i32_w]; rfl)
        refine pure_ (i := 4) (N := some 24) (v := ?_) (a' := ?_) #[true, true, true, true, true, false, false, false, false, false, false, false, false, false, false, false, false, false, false, false, false, false] rfl rfl (any_of HT_.out (by kernel_rfl)) (fun _ _ _ h => h) (Or.inl ⟨by rfl, ?_⟩) ?_ ?_
        rotate_left; (intro w'; go_simp; with_reducible rfl); rotate_left; (simp only [Act.put, ls_, lz_, lc_, i64_w, i32_w]; rfl)
        refine take_ (i := 5) (N := some 25) (v := ?_) (a' := ?_) #[true, true, true, true, true, true, false, false, false, false, false, false, false, false, false, false, false, false, false, false, false, false] rfl rfl (take_ofW HT_.out HW_.out (by kernel_rfl)) (fun _ _ _ h => h) (Or.inl ⟨by rfl, ?_⟩) hHeld ?_ ?_
        rotate_left
        ·rintro w' ⟨s0, s1, s2, s3, s4, s5, s6, s7, s8, s9, s10, s11⟩
         go_simp
         with_reducible rfl
        rotate_left
        ·simp only [Act.put, ls_, lz_, lc_, i64_w, i32_w]
         rfl
        refine take_ (i := 6) (N := some 26) (v := ?_) (a' := ?_) #[true, true, true, true, true, true, true, false, false, false, false, false, false, false, false, false, false, false, false, false, false, false] rfl rfl (take_ofW HT_.out HW_.out (by kernel_rfl)) (fun _ _ _ h => h) (Or.inl ⟨by rfl, ?_⟩) hHeld ?_ ?_
        rotate_left
        ·rintro w' ⟨s0, s1, s2, s3, s4, s5, s6, s7, s8, s9, s10, s11⟩
         go_simp
         with_reducible rfl
        rotate_left
        ·simp only [Act.put, ls_, lz_, lc_, i64_w, i32_w]
         rfl
        refine one_ (i := 7) (N := some 27) #[true, true, true, true, true, true, true, true, false, false, false, false, false, false, false, false, false, false, false, false, false, false] rfl rfl (one_of HT_.out (by kernel_rfl)) (by decide) (fun K hK => ?_)
        refine goes_ Tryd.func18 (by kernel_rfl) rfl #[.agg #[.int .i64 a1_0, .int .i64 a1_1, .int .i64 a1_2, .int .i64 a1_3], .agg #[.int .i64 t373, .int .i64 t374, .int .i64 t375, .int .i64 t376]] (by rfl) rfl rfl (by (try simp only [lm_, lq_, lx_]); first | done | rfl | (simp only [ld_, lt_]; rfl)) ?_
        with_reducible refine (box_Inside.calls kj3 a1_0 a1_1 a1_2 a1_3 t373 t374 t375 t376 true _ A40.out).mono ?_
        rintro e w54 ⟨rfl, hb⟩
        refine ⟨_, rfl, ?_⟩
        have n0_ := sd_ (blk_below (g := gb367) (o := .cells #[.int .i64 a0_0, .int .i64 a0_1, .int .i64 a0_2, .int .i64 a0_3] 23 (0, 0)) (by (with_reducible repeat (first | refine kn_ ?_ _ | refine kd_ ?_ | refine ka_ ?_ _)); exact BK367.out) hb)
        have n1_ := sd_ (blk_below (g := gb368) (o := .cells #[.int .i64 a1_0, .int .i64 a1_1, .int .i64 a1_2, .int .i64 a1_3] 23 (0, 0)) (by (with_reducible repeat (first | refine kn_ ?_ _ | refine kd_ ?_ | refine ka_ ?_ _)); exact BK368.out) hb)
        have n2_ := sd_ (blk_below (g := gb369) (o := .cells #[.int .i64 a2_0, .int .i64 a2_1, .int .i64 a2_2, .int .i64 a2_3] 23 (0, 0)) (by (with_reducible repeat (first | refine kn_ ?_ _ | refine kd_ ?_ | refine ka_ ?_ _)); exact BK369.out) hb)
        have n3_ := sd_ (blk_below (g := gb377) (o := .cells #[.int .i64 t373, .int .i64 t374, .int .i64 t375, .int .i64 t376] 23 (0, 0)) (by (with_reducible repeat (first | refine kn_ ?_ _ | refine kd_ ?_ | refine ka_ ?_ _)); exact BK377.out) hb)
        have n4_ := sd_ (bt_ (by repeat (first | (with_reducible first | exact HB.out | apply ba_ | apply pd_ | apply d1_ | refine bs_ ?_ GE367.out | refine bs_ ?_ GE368.out | refine bs_ ?_ GE369.out | refine bs_ ?_ GE377.out) | exact HB.out)) hb)
        clear BK367
        clear BK368
        clear BK369
        clear BK377
        clear HB
        have BK367 := n0_
        have BK368 := n1_
        have BK369 := n2_
        have BK377 := n3_
        have HB := n4_
        clear n0_ n1_ n2_ n3_ n4_
        (try clear hb)
        (try clear hb2)
        (try clear hk)
        (try clear hi)
        refine hK.out _ _ ⟨(kc_ BK367.out 0).trans rfl, (kc_ BK367.out 1).trans rfl, (kc_ BK367.out 2).trans rfl, (kc_ BK367.out 3).trans rfl, (kc_ BK377.out 0).trans rfl, (kc_ BK377.out 1).trans rfl, (kc_ BK377.out 2).trans rfl, (kc_ BK377.out 3).trans rfl, (kc_ BK368.out 0).trans rfl, (kc_ BK368.out 1).trans rfl, (kc_ BK368.out 2).trans rfl, (kc_ BK368.out 3).trans rfl⟩ (fun hHeld => ?_)
        clear hK K
        refine norm_ (a' := ?_) ?_ ?_
        rotate_left
        ·show Act.put _ (some 27) _ = _
         simp only [Act.put, ls_, lz_, lc_, i64_w, i32_w]
         rfl
        refine pure_ (i := 8) (N := some 28) (v := ?_) (a' := ?_) #[true, true, true, true, true, true, true, true, true, false, false, false, false, false, false, false, false, false, false, false, false, false] rfl rfl (any_of HT_.out (by kernel_rfl)) (fun _ _ _ h => h) (Or.inl ⟨by rfl, ?_⟩) ?_ ?_
        rotate_left; (intro w'; go_simp; with_reducible rfl); rotate_left; (simp only [Act.put, ls_, lz_, lc_, i64_w, i32_w]; rfl)
        refine pure_ (i := 9) (N := some 29) (v := ?_) (a' := ?_) #[true, true, true, true, true, true, true, true, true, true, false, false, false, false, false, false, false, false, false, false, false, false] rfl rfl (any_of HT_.out (by kernel_rfl)) (fun _ _ _ h => h) (Or.inl ⟨by rfl, ?_⟩) ?_ ?_
        rotate_left; (intro w'; go_simp; with_reducible rfl); rotate_left; (simp only [Act.put, ls_, lz_, lc_, i64_w, i32_w]; rfl)
        refine pure_ (i := 10) (N := some 30) (v := ?_) (a' := ?_) #[true, true, true, true, true, true, true, true, true, true, true, false, false, false, false, false, false, false, false, false, false, false] rfl rfl (any_of HT_.out (by kernel_rfl)) (fun _ _ _ h => h) (Or.inl ⟨by rfl, ?_⟩) ?_ ?_
        rotate_left; (intro w'; go_simp; with_reducible rfl); rotate_left; (simp only [Act.put, ls_, lz_, lc_, i64_w, i32_w]; rfl)
        refine take_ (i := 11) (N := some 31) (v := ?_) (a' := ?_) #[true, true, true, true, true, true, true, true, true, true, true, true, false, false, false, false, false, false, false, false, false, false] rfl rfl (take_ofW HT_.out HW_.out (by kernel_rfl)) (fun _ _ _ h => h) (Or.inl ⟨by rfl, ?_⟩) hHeld ?_ ?_
        rotate_left
        ·rintro w' ⟨s0, s1, s2, s3, s4, s5, s6, s7, s8, s9, s10, s11⟩
         go_simp
         with_reducible rfl
        rotate_left
        ·simp only [Act.put, ls_, lz_, lc_, i64_w, i32_w]
         rfl
        refine one_ (i := 12) (N := some 32) #[true, true, true, true, true, true, true, true, true, true, true, true, true, false, false, false, false, false, false, false, false, false] rfl rfl (one_of HT_.out (by kernel_rfl)) (by decide) (fun K hK => ?_)
        refine goes_ Tryd.func12 (by kernel_rfl) rfl #[.agg #[.int .i64 t373, .int .i64 t374, .int .i64 t375, .int .i64 t376]] (by rfl) rfl rfl (by (try simp only [lm_, lq_, lx_]); first | done | rfl | (simp only [ld_, lt_]; rfl)) ?_
        with_reducible refine (box_Check.calls t373 t374 t375 t376 false _ A42.out).mono ?_
        rintro e w55 ⟨rfl, hb⟩
        refine ⟨_, rfl, ?_⟩
        have n0_ := sd_ (blk_below (g := gb367) (o := .cells #[.int .i64 a0_0, .int .i64 a0_1, .int .i64 a0_2, .int .i64 a0_3] 23 (0, 0)) (by (with_reducible repeat (first | refine kn_ ?_ _ | refine kd_ ?_ | refine ka_ ?_ _)); exact BK367.out) hb)
        have n1_ := sd_ (blk_below (g := gb368) (o := .cells #[.int .i64 a1_0, .int .i64 a1_1, .int .i64 a1_2, .int .i64 a1_3] 23 (0, 0)) (by (with_reducible repeat (first | refine kn_ ?_ _ | refine kd_ ?_ | refine ka_ ?_ _)); exact BK368.out) hb)
        have n2_ := sd_ (blk_below (g := gb369) (o := .cells #[.int .i64 a2_0, .int .i64 a2_1, .int .i64 a2_2, .int .i64 a2_3] 23 (0, 0)) (by (with_reducible repeat (first | refine kn_ ?_ _ | refine kd_ ?_ | refine ka_ ?_ _)); exact BK369.out) hb)
        have n3_ := sd_ (blk_below (g := gb377) (o := .cells #[.int .i64 t373, .int .i64 t374, .int .i64 t375, .int .i64 t376] 23 (0, 0)) (by (with_reducible repeat (first | refine kn_ ?_ _ | refine kd_ ?_ | refine ka_ ?_ _)); exact BK377.out) hb)
        have n4_ := sd_ (bt_ (by repeat (first | (with_reducible first | exact HB.out | apply ba_ | apply pd_ | apply d1_ | refine bs_ ?_ GE367.out | refine bs_ ?_ GE368.out | refine bs_ ?_ GE369.out | refine bs_ ?_ GE377.out) | exact HB.out)) hb)
        clear BK367
        clear BK368
        clear BK369
        clear BK377
        clear HB
        have BK367 := n0_
        have BK368 := n1_
        have BK369 := n2_
        have BK377 := n3_
        have HB := n4_
        clear n0_ n1_ n2_ n3_ n4_
        (try clear hb)
        (try clear hb2)
        (try clear hk)
        (try clear hi)
        refine hK.out _ _ ⟨(kc_ BK367.out 0).trans rfl, (kc_ BK367.out 1).trans rfl, (kc_ BK367.out 2).trans rfl, (kc_ BK367.out 3).trans rfl, (kc_ BK377.out 0).trans rfl, (kc_ BK377.out 1).trans rfl, (kc_ BK377.out 2).trans rfl, (kc_ BK377.out 3).trans rfl, (kc_ BK368.out 0).trans rfl, (kc_ BK368.out 1).trans rfl, (kc_ BK368.out 2).trans rfl, (kc_ BK368.out 3).trans rfl⟩ (fun hHeld => ?_)
        clear hK K
        refine norm_ (a' := ?_) ?_ ?_
        rotate_left
        ·show Act.put _ (some 32) _ = _
         simp only [Act.put, ls_, lz_, lc_, i64_w, i32_w]
         rfl
        refine pure_ (i := 13) (N := some 33) (v := ?_) (a' := ?_) #[true, true, true, true, true, true, true, true, true, true, true, true, true, true, false, false, false, false, false, false, false, false] rfl rfl (any_of HT_.out (by kernel_rfl)) (fun _ _ _ h => h) (Or.inl ⟨by rfl, ?_⟩) ?_ ?_
        rotate_left; (intro w'; go_simp; with_reducible rfl); rotate_left; (simp only [Act.put, ls_, lz_, lc_, i64_w, i32_w]; rfl)
        refine pure_ (i := 14) (N := some 34) (v := ?_) (a' := ?_) #[true, true, true, true, true, true, true, true, true, true, true, true, true, true, true, false, false, false, false, false, false, false] rfl rfl (any_of HT_.out (by kernel_rfl)) (fun _ _ _ h => h) (Or.inl ⟨by rfl, ?_⟩) ?_ ?_
        rotate_left; (intro w'; go_simp; with_reducible rfl); rotate_left; (simp only [Act.put, ls_, lz_, lc_, i64_w, i32_w]; rfl)
        refine pure_ (i := 15) (N := some 35) (v := ?_) (a' := ?_) #[true, true, true, true, true, true, true, true, true, true, true, true, true, true, true, true, false, false, false, false, false, false] rfl rfl (any_of HT_.out (by kernel_rfl)) (fun _ _ _ h => h) (Or.inl ⟨by rfl, ?_⟩) ?_ ?_
        rotate_left; (intro w'; go_simp; with_reducible rfl); rotate_left; (simp only [Act.put, ls_, lz_, lc_, i64_w, i32_w]; rfl)
        refine pure_ (i := 16) (N := some 36) (v := undef) (a' := ?_) #[true, true, true, true, true, true, true, true, true, true, true, true, true, true, true, true, true, false, false, false, false, false] rfl rfl (any_of HT_.out (by kernel_rfl)) (fun _ _ _ h => h) (Or.inr ⟨by rfl, rfl⟩) ?_ ?_
        rotate_left
        ·simp only [Act.put, ls_, lz_, lc_, i64_w, i32_w]
         rfl
        refine pure_ (i := 17) (N := some 37) (v := undef) (a' := ?_) #[true, true, true, true, true, true, true, true, true, true, true, true, true, true, true, true, true, true, false, false, false, false] rfl rfl (any_of HT_.out (by kernel_rfl)) (fun _ _ _ h => h) (Or.inr ⟨by rfl, rfl⟩) ?_ ?_
        rotate_left
        ·simp only [Act.put, ls_, lz_, lc_, i64_w, i32_w]
         rfl
        refine pure_ (i := 18) (N := some 38) (v := undef) (a' := ?_) #[true, true, true, true, true, true, true, true, true, true, true, true, true, true, true, true, true, true, true, false, false, false] rfl rfl (any_of HT_.out (by kernel_rfl)) (fun _ _ _ h => h) (Or.inr ⟨by rfl, rfl⟩) ?_ ?_
        rotate_left
        ·simp only [Act.put, ls_, lz_, lc_, i64_w, i32_w]
         rfl
        refine pure_ (i := 19) (N := some 39) (v := undef) (a' := ?_) #[true, true, true, true, true, true, true, true, true, true, true, true, true, true, true, true, true, true, true, true, false, false] rfl rfl (any_of HT_.out (by kernel_rfl)) (fun _ _ _ h => h) (Or.inr ⟨by rfl, rfl⟩) ?_ ?_
        rotate_left
        ·simp only [Act.put, ls_, lz_, lc_, i64_w, i32_w]
         rfl
        refine pure_ (i := 20) (N := some 40) (v := undef) (a' := ?_) #[true, true, true, true, true, true, true, true, true, true, true, true, true, true, true, true, true, true, true, true, true, false] rfl rfl (any_of HT_.out (by kernel_rfl)) (fun _ _ _ h => h) (Or.inr ⟨by rfl, rfl⟩) ?_ ?_
        rotate_left
        ·simp only [Act.put, ls_, lz_, lc_, i64_w, i32_w]
         rfl
        refine pure_ (i := 21) (N := some 41) (v := ?_) (a' := ?_) #[true, true, true, true, true, true, true, true, true, true, true, true, true, true, true, true, true, true, true, true, true, true] rfl rfl (any_of HT_.out (by kernel_rfl)) (fun _ _ _ h => h) (Or.inl ⟨by rfl, ?_⟩) ?_ ?_
        rotate_left; (intro w'; go_simp; with_reducible rfl); rotate_left; (simp only [Act.put, ls_, lz_, lc_, i64_w, i32_w]; rfl)
        refine done_ (done_of HT_.out (by kernel_rfl)) ?_
        try go_wp2
        go_meet
        case rel => exact ⟨_, (true), (by first | rfl | (simp; done) | (simp [*]; done) | (simp [bne]; done)), H', ⟨by have := HJ3.out; first | omega | exact Nat.le_refl _⟩, ⟨by (with_reducible repeat (first | refine kn_ ?_ _ | refine kd_ ?_ | refine ka_ ?_ _)); exact BK367.out⟩, ⟨by (with_reducible repeat (first | refine kn_ ?_ _ | refine kd_ ?_ | refine ka_ ?_ _)); exact BK368.out⟩, ⟨by (with_reducible repeat (first | refine kn_ ?_ _ | refine kd_ ?_ | refine ka_ ?_ _)); exact BK369.out⟩, ⟨by (with_reducible repeat (first | refine kn_ ?_ _ | refine kd_ ?_ | refine ka_ ?_ _)); exact BK377.out⟩, ⟨by repeat (first | (with_reducible first | exact HB.out | apply ba_ | apply pd_ | apply d1_ | refine bs_ ?_ GE367.out | refine bs_ ?_ GE368.out | refine bs_ ?_ GE369.out | refine bs_ ?_ GE377.out) | exact HB.out)⟩⟩
      ·replace c41 := bf_ c41
       subst c41
       have H1 : (neumelaw03_BoxAround.j1 kj3 true a0_0 a0_1 a0_2 a0_3 a1_0 a1_1 a1_2 a1_3 a2_0 a2_1 a2_2 a2_3 t373 t374 t375 t376) = some r := by rw [if_neg (show ¬ (false = true) by decide)] at H; exact H
       clear H; have H := H1; clear H1
       have H' := sd_ H
       clear H
       try go_wp2
       have n0_ : Aside0 (((((w33.setCell ⟨gb377, 0, none⟩ (.int .i64 t373)).setCell ⟨gb377, 1, none⟩ (.int .i64 t374)).setCell ⟨gb377, 2, none⟩ (.int .i64 t375)).setCell ⟨gb377, 3, none⟩ (.int .i64 t376)).heap[gb367]? = some (.cells #[.int .i64 a0_0, .int .i64 a0_1, .int .i64 a0_2, .int .i64 a0_3] 23 (0, 0))) := ⟨by (with_reducible repeat (first | refine kn_ ?_ _ | refine kd_ ?_ | refine ka_ ?_ _)); refine blk_far ?_ NB367_377.out _; (with_reducible repeat (first | refine kn_ ?_ _ | refine kd_ ?_ | refine ka_ ?_ _)); refine blk_far ?_ NB367_377.out _; (with_reducible repeat (first | refine kn_ ?_ _ | refine kd_ ?_ | refine ka_ ?_ _)); refine blk_far ?_ NB367_377.out _; (with_reducible repeat (first | refine kn_ ?_ _ | refine kd_ ?_ | refine ka_ ?_ _)); refine blk_far ?_ NB367_377.out _; (with_reducible repeat (first | refine kn_ ?_ _ | refine kd_ ?_ | refine ka_ ?_ _)); exact BK367.out⟩
       have n1_ : Aside0 (((((w33.setCell ⟨gb377, 0, none⟩ (.int .i64 t373)).setCell ⟨gb377, 1, none⟩ (.int .i64 t374)).setCell ⟨gb377, 2, none⟩ (.int .i64 t375)).setCell ⟨gb377, 3, none⟩ (.int .i64 t376)).heap[gb368]? = some (.cells #[.int .i64 a1_0, .int .i64 a1_1, .int .i64 a1_2, .int .i64 a1_3] 23 (0, 0))) := ⟨by (with_reducible repeat (first | refine kn_ ?_ _ | refine kd_ ?_ | refine ka_ ?_ _)); refine blk_far ?_ NB368_377.out _; (with_reducible repeat (first | refine kn_ ?_ _ | refine kd_ ?_ | refine ka_ ?_ _)); refine blk_far ?_ NB368_377.out _; (with_reducible repeat (first | refine kn_ ?_ _ | refine kd_ ?_ | refine ka_ ?_ _)); refine blk_far ?_ NB368_377.out _; (with_reducible repeat (first | refine kn_ ?_ _ | refine kd_ ?_ | refine ka_ ?_ _)); refine blk_far ?_ NB368_377.out _; (with_reducible repeat (first | refine kn_ ?_ _ | refine kd_ ?_ | refine ka_ ?_ _)); exact BK368.out⟩
       have n2_ : Aside0 (((((w33.setCell ⟨gb377, 0, none⟩ (.int .i64 t373)).setCell ⟨gb377, 1, none⟩ (.int .i64 t374)).setCell ⟨gb377, 2, none⟩ (.int .i64 t375)).setCell ⟨gb377, 3, none⟩ (.int .i64 t376)).heap[gb369]? = some (.cells #[.int .i64 a2_0, .int .i64 a2_1, .int .i64 a2_2, .int .i64 a2_3] 23 (0, 0))) := ⟨by (with_reducible repeat (first | refine kn_ ?_ _ | refine kd_ ?_ | refine ka_ ?_ _)); refine blk_far ?_ NB369_377.out _; (with_reducible repeat (first | refine kn_ ?_ _ | refine kd_ ?_ | refine ka_ ?_ _)); refine blk_far ?_ NB369_377.out _; (with_reducible repeat (first | refine kn_ ?_ _ | refine kd_ ?_ | refine ka_ ?_ _)); refine blk_far ?_ NB369_377.out _; (with_reducible repeat (first | refine kn_ ?_ _ | refine kd_ ?_ | refine ka_ ?_ _)); refine blk_far ?_ NB369_377.out _; (with_reducible repeat (first | refine kn_ ?_ _ | refine kd_ ?_ | refine ka_ ?_ _)); exact BK369.out⟩
       have n3_ : Aside0 (((((w33.setCell ⟨gb377, 0, none⟩ (.int .i64 t373)).setCell ⟨gb377, 1, none⟩ (.int .i64 t374)).setCell ⟨gb377, 2, none⟩ (.int .i64 t375)).setCell ⟨gb377, 3, none⟩ (.int .i64 t376)).heap[gb377]? = some (.cells #[.int .i64 t373, .int .i64 t374, .int .i64 t375, .int .i64 t376] 23 (0, 0))) := ⟨by (with_reducible repeat (first | refine kn_ ?_ _ | refine kd_ ?_ | refine ka_ ?_ _)); refine blk_put (cs := #[.int .i64 t373, .int .i64 t374, .int .i64 t375, .int .i64 0]) ?_ 3 _ rfl; (with_reducible repeat (first | refine kn_ ?_ _ | refine kd_ ?_ | refine ka_ ?_ _)); refine blk_put (cs := #[.int .i64 t373, .int .i64 t374, .int .i64 0, .int .i64 0]) ?_ 2 _ rfl; (with_reducible repeat (first | refine kn_ ?_ _ | refine kd_ ?_ | refine ka_ ?_ _)); refine blk_put (cs := #[.int .i64 t373, .int .i64 0, .int .i64 0, .int .i64 0]) ?_ 1 _ rfl; (with_reducible repeat (first | refine kn_ ?_ _ | refine kd_ ?_ | refine ka_ ?_ _)); refine blk_put (cs := #[.int .i64 0, .int .i64 0, .int .i64 0, .int .i64 0]) ?_ 0 _ rfl; (with_reducible repeat (first | refine kn_ ?_ _ | refine kd_ ?_ | refine ka_ ?_ _)); exact BK377.out⟩
       have n4_ : Aside0 (Below w.heap.size w ((((w33.setCell ⟨gb377, 0, none⟩ (.int .i64 t373)).setCell ⟨gb377, 1, none⟩ (.int .i64 t374)).setCell ⟨gb377, 2, none⟩ (.int .i64 t375)).setCell ⟨gb377, 3, none⟩ (.int .i64 t376))) := ⟨by repeat (first | (with_reducible first | exact HB.out | apply ba_ | apply pd_ | apply d1_ | refine bs_ ?_ GE367.out | refine bs_ ?_ GE368.out | refine bs_ ?_ GE369.out | refine bs_ ?_ GE377.out) | exact HB.out)⟩
       (try clear BK367)
       (try clear BK368)
       (try clear BK369)
       (try clear BK377)
       (try clear HB)
       generalize ((((w33.setCell ⟨gb377, 0, none⟩ (.int .i64 t373)).setCell ⟨gb377, 1, none⟩ (.int .i64 t374)).setCell ⟨gb377, 2, none⟩ (.int .i64 t375)).setCell ⟨gb377, 3, none⟩ (.int .i64 t376)) = w56 at n0_ n1_ n2_ n3_ n4_ ⊢
       have BK367 := n0_
       have BK368 := n1_
       have BK369 := n2_
       have BK377 := n3_
       have HB := n4_
       clear n0_ n1_ n2_ n3_ n4_
       have n0_ := sd_ (kd_ BK367.out)
       have n1_ := sd_ (kd_ BK368.out)
       have n2_ := sd_ (kd_ BK369.out)
       have n3_ := sd_ (kd_ BK377.out)
       have n4_ := sd_ (d1_ HB.out)
       clear BK367
       clear BK368
       clear BK369
       clear BK377
       clear HB
       have BK367 := n0_
       have BK368 := n1_
       have BK369 := n2_
       have BK377 := n3_
       have HB := n4_
       clear n0_ n1_ n2_ n3_ n4_
       refine start_ (n := 22) (S := fun w' => w'.cell? ⟨gb367, 0, none⟩ = some (.int .i64 a0_0) ∧ w'.cell? ⟨gb367, 1, none⟩ = some (.int .i64 a0_1) ∧ w'.cell? ⟨gb367, 2, none⟩ = some (.int .i64 a0_2) ∧ w'.cell? ⟨gb367, 3, none⟩ = some (.int .i64 a0_3) ∧ w'.cell? ⟨gb377, 0, none⟩ = some (.int .i64 t373) ∧ w'.cell? ⟨gb377, 1, none⟩ = some (.int .i64 t374) ∧ w'.cell? ⟨gb377, 2, none⟩ = some (.int .i64 t375) ∧ w'.cell? ⟨gb377, 3, none⟩ = some (.int .i64 t376) ∧ w'.cell? ⟨gb368, 0, none⟩ = some (.int .i64 a1_0) ∧ w'.cell? ⟨gb368, 1, none⟩ = some (.int .i64 a1_1) ∧ w'.cell? ⟨gb368, 2, none⟩ = some (.int .i64 a1_2) ∧ w'.cell? ⟨gb368, 3, none⟩ = some (.int .i64 a1_3)) (ds := []) #[false, false, false, false, false, false, false, false, false, false, false, false, false, false, false, false, false, false, false, false, false, false] (by kernel_rfl) rfl rfl ⟨(kc_ BK367.out 0).trans rfl, (kc_ BK367.out 1).trans rfl, (kc_ BK367.out 2).trans rfl, (kc_ BK367.out 3).trans rfl, (kc_ BK377.out 0).trans rfl, (kc_ BK377.out 1).trans rfl, (kc_ BK377.out 2).trans rfl, (kc_ BK377.out 3).trans rfl, (kc_ BK368.out 0).trans rfl, (kc_ BK368.out 1).trans rfl, (kc_ BK368.out 2).trans rfl, (kc_ BK368.out 3).trans rfl⟩ (fun hHeld => ?_); refine with_tabW neumelaw03_BoxAround.tab4 neumelaw03_BoxAround.bits4 (fun HT_ HW_ => ?_)
       generalize w56.drew = w57 at BK367 BK368 BK369 BK377 HB hHeld ⊢
       refine take_ (i := 0) (N := some 20) (v := ?_) (a' := ?_) #[true, false, false, false, false, false, false, false, false, false, false, false, false, false, false, false, false, false, false, false, false, false] rfl rfl (take_ofW HT_.out HW_.out (by kernel_rfl)) (fun _ _ _ h => h) (Or.inl ⟨by rfl, ?_⟩) hHeld ?_ ?_
       rotate_left
       ·rintro w' ⟨s0, s1, s2, s3, s4, s5, s6, s7, s8, s9, s10, s11⟩
        go_simp
        with_reducible rfl
       rotate_left
       ·simp only [Act.put, ls_, lz_, lc_, i64_w, i32_w]
        rfl
       refine take_ (i := 1) (N := some 21) (v := ?_) (a' := ?_) #[true, true, false, false, false, false, false, false, false, false, false, false, false, false, false, false, false, false, false, false, false, false] rfl rfl (take_ofW HT_.out HW_.out (by kernel_rfl)) (fun _ _ _ h => h) (Or.inl ⟨by rfl, ?_⟩) hHeld ?_ ?_
       rotate_left
       ·rintro w' ⟨s0, s1, s2, s3, s4, s5, s6, s7, s8, s9, s10, s11⟩
        go_simp
        with_reducible rfl
       rotate_left
       ·simp only [Act.put, ls_, lz_, lc_, i64_w, i32_w]
        rfl
       refine one_ (i := 2) (N := some 22) #[true, true, true, false, false, false, false, false, false, false, false, false, false, false, false, false, false, false, false, false, false, false] rfl rfl (one_of HT_.out (by kernel_rfl)) (by decide) (fun K hK => ?_)
       refine goes_ Tryd.func18 (by kernel_rfl) rfl #[.agg #[.int .i64 a0_0, .int .i64 a0_1, .int .i64 a0_2, .int .i64 a0_3], .agg #[.int .i64 t373, .int .i64 t374, .int .i64 t375, .int .i64 t376]] (by rfl) rfl rfl (by (try simp only [lm_, lq_, lx_]); first | done | rfl | (simp only [ld_, lt_]; rfl)) ?_
       with_reducible refine (box_Inside.calls kj3 a0_0 a0_1 a0_2 a0_3 t373 t374 t375 t376 true _ A38.out).mono ?_
       rintro e w58 ⟨rfl, hb⟩
       refine ⟨_, rfl, ?_⟩
       have n0_ := sd_ (blk_below (g := gb367) (o := .cells #[.int .i64 a0_0, .int .i64 a0_1, .int .i64 a0_2, .int .i64 a0_3] 23 (0, 0)) (by (with_reducible repeat (first | refine kn_ ?_ _ | refine kd_ ?_ | refine ka_ ?_ _)); exact BK367.out) hb)
       have n1_ := sd_ (blk_below (g := gb368) (o := .cells #[.int .i64 a1_0, .int .i64 a1_1, .int .i64 a1_2, .int .i64 a1_3] 23 (0, 0)) (by (with_reducible repeat (first | refine kn_ ?_ _ | refine kd_ ?_ | refine ka_ ?_ _)); exact BK368.out) hb)
       have n2_ := sd_ (blk_below (g := gb369) (o := .cells #[.int .i64 a2_0, .int .i64 a2_1, .int .i64 a2_2, .int .i64 a2_3] 23 (0, 0)) (by (with_reducible repeat (first | refine kn_ ?_ _ | refine kd_ ?_ | refine ka_ ?_ _)); exact BK369.out) hb)
       have n3_ := sd_ (blk_below (g := gb377) (o := .cells #[.int .i64 t373, .int .i64 t374, .int .i64 t375, .int .i64 t376] 23 (0, 0)) (by (with_reducible repeat (first | refine kn_ ?_ _ | refine kd_ ?_ | refine ka_ ?_ _)); exact BK377.out) hb)
       have n4_ := sd_ (bt_ (by repeat (first | (with_reducible first | exact HB.out | apply ba_ | apply pd_ | apply d1_ | refine bs_ ?_ GE367.out | refine bs_ ?_ GE368.out | refine bs_ ?_ GE369.out | refine bs_ ?_ GE377.out) | exact HB.out)) hb)
       clear BK367
       clear BK368
       clear BK369
       clear BK377
       clear HB
       have BK367 := n0_
       have BK368 := n1_
       have BK369 := n2_
       have BK377 := n3_
       have HB := n4_
       clear n0_ n1_ n2_ n3_ n4_
       (try clear hb)
       (try clear hb2)
       (try clear hk)
       (try clear hi)
       refine hK.out _ _ ⟨(kc_ BK367.out 0).trans rfl, (kc_ BK367.out 1).trans rfl, (kc_ BK367.out 2).trans rfl, (kc_ BK367.out 3).trans rfl, (kc_ BK377.out 0).trans rfl, (kc_ BK377.out 1).trans rfl, (kc_ BK377.out 2).trans rfl, (kc_ BK377.out 3).trans rfl, (kc_ BK368.out 0).trans rfl, (kc_ BK368.out 1).trans rfl, (kc_ BK368.out 2).trans rfl, (kc_ BK368.out 3).trans rfl⟩ (fun hHeld => ?_)
       clear hK K
       refine norm_ (a' := ?_) ?_ ?_
       rotate_left
       ·show Act.put _ (some 22) _ = _
        simp only [Act.put, ls_, lz_, lc_, i64_w, i32_w]
        rfl
       refine pure_ (i := 3) (N := some 23) (v := ?_) (a' := ?_) #[true, true, true, true, false, false, false, false, false, false, false, false, false, false, false, false, false, false, false, false, false, false] rfl rfl (any_of HT_.out (by kernel_rfl)) (fun _ _ _ h => h) (Or.inl ⟨by rfl, ?_⟩) ?_ ?_
       rotate_left; (intro w'; go_simp; with_reducible rfl); rotate_left; (simp only [Act.put, ls_, lz_, lc_, i64_w, i32_w]; rfl)
       refine pure_ (i := 4) (N := some 24) (v := ?_) (a' := ?_) #[true, true, true, true, true, false, false, false, false, false, false, false, false, false, false, false, false, false, false, false, false, false] rfl rfl (any_of HT_.out (by kernel_rfl)) (fun _ _ _ h => h) (Or.inl ⟨by rfl, ?_⟩) ?_ ?_
       rotate_left; (intro w'; go_simp; with_reducible rfl); rotate_left; (simp only [Act.put, ls_, lz_, lc_, i64_w, i32_w]; rfl)
       refine take_ (i := 5) (N := some 25) (v := ?_) (a' := ?_) #[true, true, true, true, true, true, false, false, false, false, false, false, false, false, false, false, false, false, false, false, false, false] rfl rfl (take_ofW HT_.out HW_.out (by kernel_rfl)) (fun _ _ _ h => h) (Or.inl ⟨by rfl, ?_⟩) hHeld ?_ ?_
       rotate_left
       ·rintro w' ⟨s0, s1, s2, s3, s4, s5, s6, s7, s8, s9, s10, s11⟩
        go_simp
        with_reducible rfl
       rotate_left
       ·simp only [Act.put, ls_, lz_, lc_, i64_w, i32_w]
        rfl
       refine take_ (i := 6) (N := some 26) (v := ?_) (a' := ?_) #[true, true, true, true, true, true, true, false, false, false, false, false, false, false, false, false, false, false, false, false, false, false] rfl rfl (take_ofW HT_.out HW_.out (by kernel_rfl)) (fun _ _ _ h => h) (Or.inl ⟨by rfl, ?_⟩) hHeld ?_ ?_
       rotate_left
       ·rintro w' ⟨s0, s1, s2, s3, s4, s5, s6, s7, s8, s9, s10, s11⟩
        go_simp
        with_reducible rfl
       rotate_left
       ·simp only [Act.put, ls_, lz_, lc_, i64_w, i32_w]
        rfl
       refine one_ (i := 7) (N := some 27) #[true, true, true, true, true, true, true, true, false, false, false, false, false, false, false, false, false, false, false, false, false, false] rfl rfl (one_of HT_.out (by kernel_rfl)) (by decide) (fun K hK => ?_)
       refine goes_ Tryd.func18 (by kernel_rfl) rfl #[.agg #[.int .i64 a1_0, .int .i64 a1_1, .int .i64 a1_2, .int .i64 a1_3], .agg #[.int .i64 t373, .int .i64 t374, .int .i64 t375, .int .i64 t376]] (by rfl) rfl rfl (by (try simp only [lm_, lq_, lx_]); first | done | rfl | (simp only [ld_, lt_]; rfl)) ?_
       with_reducible refine (box_Inside.calls kj3 a1_0 a1_1 a1_2 a1_3 t373 t374 t375 t376 false _ A40.out).mono ?_
       rintro e w59 ⟨rfl, hb⟩
       refine ⟨_, rfl, ?_⟩
       have n0_ := sd_ (blk_below (g := gb367) (o := .cells #[.int .i64 a0_0, .int .i64 a0_1, .int .i64 a0_2, .int .i64 a0_3] 23 (0, 0)) (by (with_reducible repeat (first | refine kn_ ?_ _ | refine kd_ ?_ | refine ka_ ?_ _)); exact BK367.out) hb)
       have n1_ := sd_ (blk_below (g := gb368) (o := .cells #[.int .i64 a1_0, .int .i64 a1_1, .int .i64 a1_2, .int .i64 a1_3] 23 (0, 0)) (by (with_reducible repeat (first | refine kn_ ?_ _ | refine kd_ ?_ | refine ka_ ?_ _)); exact BK368.out) hb)
       have n2_ := sd_ (blk_below (g := gb369) (o := .cells #[.int .i64 a2_0, .int .i64 a2_1, .int .i64 a2_2, .int .i64 a2_3] 23 (0, 0)) (by (with_reducible repeat (first | refine kn_ ?_ _ | refine kd_ ?_ | refine ka_ ?_ _)); exact BK369.out) hb)
       have n3_ := sd_ (blk_below (g := gb377) (o := .cells #[.int .i64 t373, .int .i64 t374, .int .i64 t375, .int .i64 t376] 23 (0, 0)) (by (with_reducible repeat (first | refine kn_ ?_ _ | refine kd_ ?_ | refine ka_ ?_ _)); exact BK377.out) hb)
       have n4_ := sd_ (bt_ (by repeat (first | (with_reducible first | exact HB.out | apply ba_ | apply pd_ | apply d1_ | refine bs_ ?_ GE367.out | refine bs_ ?_ GE368.out | refine bs_ ?_ GE369.out | refine bs_ ?_ GE377.out) | exact HB.out)) hb)
       clear BK367
       clear BK368
       clear BK369
       clear BK377
       clear HB
       have BK367 := n0_
       have BK368 := n1_
       have BK369 := n2_
       have BK377 := n3_
       have HB := n4_
       clear n0_ n1_ n2_ n3_ n4_
       (try clear hb)
       (try clear hb2)
       (try clear hk)
       (try clear hi)
       refine hK.out _ _ ⟨(kc_ BK367.out 0).trans rfl, (kc_ BK367.out 1).trans rfl, (kc_ BK367.out 2).trans rfl, (kc_ BK367.out 3).trans rfl, (kc_ BK377.out 0).trans rfl, (kc_ BK377.out 1).trans rfl, (kc_ BK377.out 2).trans rfl, (kc_ BK377.out 3).trans rfl, (kc_ BK368.out 0).trans rfl, (kc_ BK368.out 1).trans rfl, (kc_ BK368.out 2).trans rfl, (kc_ BK368.out 3).trans rfl⟩ (fun hHeld => ?_)
       clear hK K
       refine norm_ (a' := ?_) ?_ ?_
       rotate_left
       ·show Act.put _ (some 27) _ = _
        simp only [Act.put, ls_, lz_, lc_, i64_w, i32_w]
        rfl
       refine pure_ (i := 8) (N := some 28) (v := ?_) (a' := ?_) #[true, true, true, true, true, true, true, true, true, false, false, false, false, false, false, false, false, false, false, false, false, false] rfl rfl (any_of HT_.out (by kernel_rfl)) (fun _ _ _ h => h) (Or.inl ⟨by rfl, ?_⟩) ?_ ?_
       rotate_left; (intro w'; go_simp; with_reducible rfl); rotate_left; (simp only [Act.put, ls_, lz_, lc_, i64_w, i32_w]; rfl)
       refine pure_ (i := 9) (N := some 29) (v := ?_) (a' := ?_) #[true, true, true, true, true, true, true, true, true, true, false, false, false, false, false, false, false, false, false, false, false, false] rfl rfl (any_of HT_.out (by kernel_rfl)) (fun _ _ _ h => h) (Or.inl ⟨by rfl, ?_⟩) ?_ ?_
       rotate_left; (intro w'; go_simp; with_reducible rfl); rotate_left; (simp only [Act.put, ls_, lz_, lc_, i64_w, i32_w]; rfl)
       refine pure_ (i := 10) (N := some 30) (v := ?_) (a' := ?_) #[true, true, true, true, true, true, true, true, true, true, true, false, false, false, false, false, false, false, false, false, false, false] rfl rfl (any_of HT_.out (by kernel_rfl)) (fun _ _ _ h => h) (Or.inl ⟨by rfl, ?_⟩) ?_ ?_
       rotate_left; (intro w'; go_simp; with_reducible rfl); rotate_left; (simp only [Act.put, ls_, lz_, lc_, i64_w, i32_w]; rfl)
       refine pure_ (i := 11) (N := some 31) (v := undef) (a' := ?_) #[true, true, true, true, true, true, true, true, true, true, true, true, false, false, false, false, false, false, false, false, false, false] rfl rfl (any_of HT_.out (by kernel_rfl)) (fun _ _ _ h => h) (Or.inr ⟨by rfl, rfl⟩) ?_ ?_
       rotate_left
       ·simp only [Act.put, ls_, lz_, lc_, i64_w, i32_w]
        rfl
       refine pure_ (i := 12) (N := some 32) (v := undef) (a' := ?_) #[true, true, true, true, true, true, true, true, true, true, true, true, true, false, false, false, false, false, false, false, false, false] rfl rfl (any_of HT_.out (by kernel_rfl)) (fun _ _ _ h => h) (Or.inr ⟨by rfl, rfl⟩) ?_ ?_
       rotate_left
       ·simp only [Act.put, ls_, lz_, lc_, i64_w, i32_w]
        rfl
       refine pure_ (i := 13) (N := some 33) (v := undef) (a' := ?_) #[true, true, true, true, true, true, true, true, true, true, true, true, true, true, false, false, false, false, false, false, false, false] rfl rfl (any_of HT_.out (by kernel_rfl)) (fun _ _ _ h => h) (Or.inr ⟨by rfl, rfl⟩) ?_ ?_
       rotate_left
       ·simp only [Act.put, ls_, lz_, lc_, i64_w, i32_w]
        rfl
       refine pure_ (i := 14) (N := some 34) (v := ?_) (a' := ?_) #[true, true, true, true, true, true, true, true, true, true, true, true, true, true, true, false, false, false, false, false, false, false] rfl rfl (any_of HT_.out (by kernel_rfl)) (fun _ _ _ h => h) (Or.inl ⟨by rfl, ?_⟩) ?_ ?_
       rotate_left; (intro w'; go_simp; with_reducible rfl); rotate_left; (simp only [Act.put, ls_, lz_, lc_, i64_w, i32_w]; rfl)
       refine pure_ (i := 15) (N := some 35) (v := ?_) (a' := ?_) #[true, true, true, true, true, true, true, true, true, true, true, true, true, true, true, true, false, false, false, false, false, false] rfl rfl (any_of HT_.out (by kernel_rfl)) (fun _ _ _ h => h) (Or.inl ⟨by rfl, ?_⟩) ?_ ?_
       rotate_left; (intro w'; go_simp; with_reducible rfl); rotate_left; (simp only [Act.put, ls_, lz_, lc_, i64_w, i32_w]; rfl)
       refine pure_ (i := 16) (N := some 36) (v := undef) (a' := ?_) #[true, true, true, true, true, true, true, true, true, true, true, true, true, true, true, true, true, false, false, false, false, false] rfl rfl (any_of HT_.out (by kernel_rfl)) (fun _ _ _ h => h) (Or.inr ⟨by rfl, rfl⟩) ?_ ?_
       rotate_left
       ·simp only [Act.put, ls_, lz_, lc_, i64_w, i32_w]
        rfl
       refine pure_ (i := 17) (N := some 37) (v := undef) (a' := ?_) #[true, true, true, true, true, true, true, true, true, true, true, true, true, true, true, true, true, true, false, false, false, false] rfl rfl (any_of HT_.out (by kernel_rfl)) (fun _ _ _ h => h) (Or.inr ⟨by rfl, rfl⟩) ?_ ?_
       rotate_left
       ·simp only [Act.put, ls_, lz_, lc_, i64_w, i32_w]
        rfl
       refine pure_ (i := 18) (N := some 38) (v := undef) (a' := ?_) #[true, true, true, true, true, true, true, true, true, true, true, true, true, true, true, true, true, true, true, false, false, false] rfl rfl (any_of HT_.out (by kernel_rfl)) (fun _ _ _ h => h) (Or.inr ⟨by rfl, rfl⟩) ?_ ?_
       rotate_left
       ·simp only [Act.put, ls_, lz_, lc_, i64_w, i32_w]
        rfl
       refine pure_ (i := 19) (N := some 39) (v := undef) (a' := ?_) #[true, true, true, true, true, true, true, true, true, true, true, true, true, true, true, true, true, true, true, true, false, false] rfl rfl (any_of HT_.out (by kernel_rfl)) (fun _ _ _ h => h) (Or.inr ⟨by rfl, rfl⟩) ?_ ?_
       rotate_left
       ·simp only [Act.put, ls_, lz_, lc_, i64_w, i32_w]
        rfl
       refine pure_ (i := 20) (N := some 40) (v := undef) (a' := ?_) #[true, true, true, true, true, true, true, true, true, true, true, true, true, true, true, true, true, true, true, true, true, false] rfl rfl (any_of HT_.out (by kernel_rfl)) (fun _ _ _ h => h) (Or.inr ⟨by rfl, rfl⟩) ?_ ?_
       rotate_left
       ·simp only [Act.put, ls_, lz_, lc_, i64_w, i32_w]
        rfl
       refine pure_ (i := 21) (N := some 41) (v := ?_) (a' := ?_) #[true, true, true, true, true, true, true, true, true, true, true, true, true, true, true, true, true, true, true, true, true, true] rfl rfl (any_of HT_.out (by kernel_rfl)) (fun _ _ _ h => h) (Or.inl ⟨by rfl, ?_⟩) ?_ ?_
       rotate_left; (intro w'; go_simp; with_reducible rfl); rotate_left; (simp only [Act.put, ls_, lz_, lc_, i64_w, i32_w]; rfl)
       refine done_ (done_of HT_.out (by kernel_rfl)) ?_
       try go_wp2
       go_meet
       case rel => exact ⟨_, (true), (by first | rfl | (simp; done) | (simp [*]; done) | (simp [bne]; done)), H', ⟨by have := HJ3.out; first | omega | exact Nat.le_refl _⟩, ⟨by (with_reducible repeat (first | refine kn_ ?_ _ | refine kd_ ?_ | refine ka_ ?_ _)); exact BK367.out⟩, ⟨by (with_reducible repeat (first | refine kn_ ?_ _ | refine kd_ ?_ | refine ka_ ?_ _)); exact BK368.out⟩, ⟨by (with_reducible repeat (first | refine kn_ ?_ _ | refine kd_ ?_ | refine ka_ ?_ _)); exact BK369.out⟩, ⟨by (with_reducible repeat (first | refine kn_ ?_ _ | refine kd_ ?_ | refine ka_ ?_ _)); exact BK377.out⟩, ⟨by repeat (first | (with_reducible first | exact HB.out | apply ba_ | apply pd_ | apply d1_ | refine bs_ ?_ GE367.out | refine bs_ ?_ GE368.out | refine bs_ ?_ GE369.out | refine bs_ ?_ GE377.out) | exact HB.out)⟩⟩
     ·replace c39 := bf_ c39
      subst c39
      have H1 : (neumelaw03_BoxAround.j1 kj3 true a0_0 a0_1 a0_2 a0_3 a1_0 a1_1 a1_2 a1_3 a2_0 a2_1 a2_2 a2_3 t373 t374 t375 t376) = some r := by rw [if_neg (show ¬ (false = true) by decide)] at H; exact H
      clear H; have H := H1; clear H1
      have H' := sd_ H
      clear H
      try go_wp2
      have n0_ : Aside0 (((((w33.setCell ⟨gb377, 0, none⟩ (.int .i64 t373)).setCell ⟨gb377, 1, none⟩ (.int .i64 t374)).setCell ⟨gb377, 2, none⟩ (.int .i64 t375)).setCell ⟨gb377, 3, none⟩ (.int .i64 t376)).heap[gb367]? = some (.cells #[.int .i64 a0_0, .int .i64 a0_1, .int .i64 a0_2, .int .i64 a0_3] 23 (0, 0))) := ⟨by (with_reducible repeat (first | refine kn_ ?_ _ | refine kd_ ?_ | refine ka_ ?_ _)); refine blk_far ?_ NB367_377.out _; (with_reducible repeat (first | refine kn_ ?_ _ | refine kd_ ?_ | refine ka_ ?_ _)); refine blk_far ?_ NB367_377.out _; (with_reducible repeat (first | refine kn_ ?_ _ | refine kd_ ?_ | refine ka_ ?_ _)); refine blk_far ?_ NB367_377.out _; (with_reducible repeat (first | refine kn_ ?_ _ | refine kd_ ?_ | refine ka_ ?_ _)); refine blk_far ?_ NB367_377.out _; (with_reducible repeat (first | refine kn_ ?_ _ | refine kd_ ?_ | refine ka_ ?_ _)); exact BK367.out⟩
      have n1_ : Aside0 (((((w33.setCell ⟨gb377, 0, none⟩ (.int .i64 t373)).setCell ⟨gb377, 1, none⟩ (.int .i64 t374)).setCell ⟨gb377, 2, none⟩ (.int .i64 t375)).setCell ⟨gb377, 3, none⟩ (.int .i64 t376)).heap[gb368]? = some (.cells #[.int .i64 a1_0, .int .i64 a1_1, .int .i64 a1_2, .int .i64 a1_3] 23 (0, 0))) := ⟨by (with_reducible repeat (first | refine kn_ ?_ _ | refine kd_ ?_ | refine ka_ ?_ _)); refine blk_far ?_ NB368_377.out _; (with_reducible repeat (first | refine kn_ ?_ _ | refine kd_ ?_ | refine ka_ ?_ _)); refine blk_far ?_ NB368_377.out _; (with_reducible repeat (first | refine kn_ ?_ _ | refine kd_ ?_ | refine ka_ ?_ _)); refine blk_far ?_ NB368_377.out _; (with_reducible repeat (first | refine kn_ ?_ _ | refine kd_ ?_ | refine ka_ ?_ _)); refine blk_far ?_ NB368_377.out _; (with_reducible repeat (first | refine kn_ ?_ _ | refine kd_ ?_ | refine ka_ ?_ _)); exact BK368.out⟩
      have n2_ : Aside0 (((((w33.setCell ⟨gb377, 0, none⟩ (.int .i64 t373)).setCell ⟨gb377, 1, none⟩ (.int .i64 t374)).setCell ⟨gb377, 2, none⟩ (.int .i64 t375)).setCell ⟨gb377, 3, none⟩ (.int .i64 t376)).heap[gb369]? = some (.cells #[.int .i64 a2_0, .int .i64 a2_1, .int .i64 a2_2, .int .i64 a2_3] 23 (0, 0))) := ⟨by (with_reducible repeat (first | refine kn_ ?_ _ | refine kd_ ?_ | refine ka_ ?_ _)); refine blk_far ?_ NB369_377.out _; (with_reducible repeat (first | refine kn_ ?_ _ | refine kd_ ?_ | refine ka_ ?_ _)); refine blk_far ?_ NB369_377.out _; (with_reducible repeat (first | refine kn_ ?_ _ | refine kd_ ?_ | refine ka_ ?_ _)); refine blk_far ?_ NB369_377.out _; (with_reducible repeat (first | refine kn_ ?_ _ | refine kd_ ?_ | refine ka_ ?_ _)); refine blk_far ?_ NB369_377.out _; (with_reducible repeat (first | refine kn_ ?_ _ | refine kd_ ?_ | refine ka_ ?_ _)); exact BK369.out⟩
      have n3_ : Aside0 (((((w33.setCell ⟨gb377, 0, none⟩ (.int .i64 t373)).setCell ⟨gb377, 1, none⟩ (.int .i64 t374)).setCell ⟨gb377, 2, none⟩ (.int .i64 t375)).setCell ⟨gb377, 3, none⟩ (.int .i64 t376)).heap[gb377]? = some (.cells #[.int .i64 t373, .int .i64 t374, .int .i64 t375, .int .i64 t376] 23 (0, 0))) := ⟨by (with_reducible repeat (first | refine kn_ ?_ _ | refine kd_ ?_ | refine ka_ ?_ _)); refine blk_put (cs := #[.int .i64 t373, .int .i64 t374, .int .i64 t375, .int .i64 0]) ?_ 3 _ rfl; (with_reducible repeat (first | refine kn_ ?_ _ | refine kd_ ?_ | refine ka_ ?_ _)); refine blk_put (cs := #[.int .i64 t373, .int .i64 t374, .int .i64 0, .int .i64 0]) ?_ 2 _ rfl; (with_reducible repeat (first | refine kn_ ?_ _ | refine kd_ ?_ | refine ka_ ?_ _)); refine blk_put (cs := #[.int .i64 t373, .int .i64 0, .int .i64 0, .int .i64 0]) ?_ 1 _ rfl; (with_reducible repeat (first | refine kn_ ?_ _ | refine kd_ ?_ | refine ka_ ?_ _)); refine blk_put (cs := #[.int .i64 0, .int .i64 0, .int .i64 0, .int .i64 0]) ?_ 0 _ rfl; (with_reducible repeat (first | refine kn_ ?_ _ | refine kd_ ?_ | refine ka_ ?_ _)); exact BK377.out⟩
      have n4_ : Aside0 (Below w.heap.size w ((((w33.setCell ⟨gb377, 0, none⟩ (.int .i64 t373)).setCell ⟨gb377, 1, none⟩ (.int .i64 t374)).setCell ⟨gb377, 2, none⟩ (.int .i64 t375)).setCell ⟨gb377, 3, none⟩ (.int .i64 t376))) := ⟨by repeat (first | (with_reducible first | exact HB.out | apply ba_ | apply pd_ | apply d1_ | refine bs_ ?_ GE367.out | refine bs_ ?_ GE368.out | refine bs_ ?_ GE369.out | refine bs_ ?_ GE377.out) | exact HB.out)⟩
      (try clear BK367)
      (try clear BK368)
      (try clear BK369)
      (try clear BK377)
      (try clear HB)
      generalize ((((w33.setCell ⟨gb377, 0, none⟩ (.int .i64 t373)).setCell ⟨gb377, 1, none⟩ (.int .i64 t374)).setCell ⟨gb377, 2, none⟩ (.int .i64 t375)).setCell ⟨gb377, 3, none⟩ (.int .i64 t376)) = w60 at n0_ n1_ n2_ n3_ n4_ ⊢
      have BK367 := n0_
      have BK368 := n1_
      have BK369 := n2_
      have BK377 := n3_
      have HB := n4_
      clear n0_ n1_ n2_ n3_ n4_
      have n0_ := sd_ (kd_ BK367.out)
      have n1_ := sd_ (kd_ BK368.out)
      have n2_ := sd_ (kd_ BK369.out)
      have n3_ := sd_ (kd_ BK377.out)
      have n4_ := sd_ (d1_ HB.out)
      clear BK367
      clear BK368
      clear BK369
      clear BK377
      clear HB
      have BK367 := n0_
      have BK368 := n1_
      have BK369 := n2_
      have BK377 := n3_
      have HB := n4_
      clear n0_ n1_ n2_ n3_ n4_
      refine start_ (n := 22) (S := fun w' => w'.cell? ⟨gb367, 0, none⟩ = some (.int .i64 a0_0) ∧ w'.cell? ⟨gb367, 1, none⟩ = some (.int .i64 a0_1) ∧ w'.cell? ⟨gb367, 2, none⟩ = some (.int .i64 a0_2) ∧ w'.cell? ⟨gb367, 3, none⟩ = some (.int .i64 a0_3) ∧ w'.cell? ⟨gb377, 0, none⟩ = some (.int .i64 t373) ∧ w'.cell? ⟨gb377, 1, none⟩ = some (.int .i64 t374) ∧ w'.cell? ⟨gb377, 2, none⟩ = some (.int .i64 t375) ∧ w'.cell? ⟨gb377, 3, none⟩ = some (.int .i64 t376)) (ds := []) #[false, false, false, false, false, false, false, false, false, false, false, false, false, false, false, false, false, false, false, false, false, false] (by kernel_rfl) rfl rfl ⟨(kc_ BK367.out 0).trans rfl, (kc_ BK367.out 1).trans rfl, (kc_ BK367.out 2).trans rfl, (kc_ BK367.out 3).trans rfl, (kc_ BK377.out 0).trans rfl, (kc_ BK377.out 1).trans rfl, (kc_ BK377.out 2).trans rfl, (kc_ BK377.out 3).trans rfl⟩ (fun hHeld => ?_); refine with_tabW neumelaw03_BoxAround.tab4 neumelaw03_BoxAround.bits4 (fun HT_ HW_ => ?_)
      generalize w60.drew = w61 at BK367 BK368 BK369 BK377 HB hHeld ⊢
      refine take_ (i := 0) (N := some 20) (v := ?_) (a' := ?_) #[true, false, false, false, false, false, false, false, false, false, false, false, false, false, false, false, false, false, false, false, false, false] rfl rfl (take_ofW HT_.out HW_.out (by kernel_rfl)) (fun _ _ _ h => h) (Or.inl ⟨by rfl, ?_⟩) hHeld ?_ ?_
      rotate_left
      ·rintro w' ⟨s0, s1, s2, s3, s4, s5, s6, s7⟩
       go_simp
       with_reducible rfl
      rotate_left
      ·simp only [Act.put, ls_, lz_, lc_, i64_w, i32_w]
       rfl
      refine take_ (i := 1) (N := some 21) (v := ?_) (a' := ?_) #[true, true, false, false, false, false, false, false, false, false, false, false, false, false, false, false, false, false, false, false, false, false] rfl rfl (take_ofW HT_.out HW_.out (by kernel_rfl)) (fun _ _ _ h => h) (Or.inl ⟨by rfl, ?_⟩) hHeld ?_ ?_
      rotate_left
      ·rintro w' ⟨s0, s1, s2, s3, s4, s5, s6, s7⟩
       go_simp
       with_reducible rfl
      rotate_left
      ·simp only [Act.put, ls_, lz_, lc_, i64_w, i32_w]
       rfl
      refine one_ (i := 2) (N := some 22) #[true, true, true, false, false, false, false, false, false, false, false, false, false, false, false, false, false, false, false, false, false, false] rfl rfl (one_of HT_.out (by kernel_rfl)) (by decide) (fun K hK => ?_)
      refine goes_ Tryd.func18 (by kernel_rfl) rfl #[.agg #[.int .i64 a0_0, .int .i64 a0_1, .int .i64 a0_2, .int .i64 a0_3], .agg #[.int .i64 t373, .int .i64 t374, .int .i64 t375, .int .i64 t376]] (by rfl) rfl rfl (by (try simp only [lm_, lq_, lx_]); first | done | rfl | (simp only [ld_, lt_]; rfl)) ?_
      with_reducible refine (box_Inside.calls kj3 a0_0 a0_1 a0_2 a0_3 t373 t374 t375 t376 false _ A38.out).mono ?_
      rintro e w62 ⟨rfl, hb⟩
      refine ⟨_, rfl, ?_⟩
      have n0_ := sd_ (blk_below (g := gb367) (o := .cells #[.int .i64 a0_0, .int .i64 a0_1, .int .i64 a0_2, .int .i64 a0_3] 23 (0, 0)) (by (with_reducible repeat (first | refine kn_ ?_ _ | refine kd_ ?_ | refine ka_ ?_ _)); exact BK367.out) hb)
      have n1_ := sd_ (blk_below (g := gb368) (o := .cells #[.int .i64 a1_0, .int .i64 a1_1, .int .i64 a1_2, .int .i64 a1_3] 23 (0, 0)) (by (with_reducible repeat (first | refine kn_ ?_ _ | refine kd_ ?_ | refine ka_ ?_ _)); exact BK368.out) hb)
      have n2_ := sd_ (blk_below (g := gb369) (o := .cells #[.int .i64 a2_0, .int .i64 a2_1, .int .i64 a2_2, .int .i64 a2_3] 23 (0, 0)) (by (with_reducible repeat (first | refine kn_ ?_ _ | refine kd_ ?_ | refine ka_ ?_ _)); exact BK369.out) hb)
      have n3_ := sd_ (blk_below (g := gb377) (o := .cells #[.int .i64 t373, .int .i64 t374, .int .i64 t375, .int .i64 t376] 23 (0, 0)) (by (with_reducible repeat (first | refine kn_ ?_ _ | refine kd_ ?_ | refine ka_ ?_ _)); exact BK377.out) hb)
      have n4_ := sd_ (bt_ (by repeat (first | (with_reducible first | exact HB.out | apply ba_ | apply pd_ | apply d1_ | refine bs_ ?_ GE367.out | refine bs_ ?_ GE368.out | refine bs_ ?_ GE369.out | refine bs_ ?_ GE377.out) | exact HB.out)) hb)
      clear BK367
      clear BK368
      clear BK369
      clear BK377
      clear HB
      have BK367 := n0_
      have BK368 := n1_
      have BK369 := n2_
      have BK377 := n3_
      have HB := n4_
      clear n0_ n1_ n2_ n3_ n4_
      (try clear hb)
      (try clear hb2)
      (try clear hk)
      (try clear hi)
      refine hK.out _ _ ⟨(kc_ BK367.out 0).trans rfl, (kc_ BK367.out 1).trans rfl, (kc_ BK367.out 2).trans rfl, (kc_ BK367.out 3).trans rfl, (kc_ BK377.out 0).trans rfl, (kc_ BK377.out 1).trans rfl, (kc_ BK377.out 2).trans rfl, (kc_ BK377.out 3).trans rfl⟩ (fun hHeld => ?_)
      clear hK K
      refine norm_ (a' := ?_) ?_ ?_
      rotate_left
      ·show Act.put _ (some 22) _ = _
       simp only [Act.put, ls_, lz_, lc_, i64_w, i32_w]
       rfl
      refine pure_ (i := 3) (N := some 23) (v := ?_) (a' := ?_) #[true, true, true, true, false, false, false, false, false, false, false, false, false, false, false, false, false, false, false, false, false, false] rfl rfl (any_of HT_.out (by kernel_rfl)) (fun _ _ _ h => h) (Or.inl ⟨by rfl, ?_⟩) ?_ ?_
      rotate_left; (intro w'; go_simp; with_reducible rfl); rotate_left; (simp only [Act.put, ls_, lz_, lc_, i64_w, i32_w]; rfl)
      refine pure_ (i := 4) (N := some 24) (v := ?_) (a' := ?_) #[true, true, true, true, true, false, false, false, false, false, false, false, false, false, false, false, false, false, false, false, false, false] rfl rfl (any_of HT_.out (by kernel_rfl)) (fun _ _ _ h => h) (Or.inl ⟨by rfl, ?_⟩) ?_ ?_
      rotate_left; (intro w'; go_simp; with_reducible rfl); rotate_left; (simp only [Act.put, ls_, lz_, lc_, i64_w, i32_w]; rfl)
      refine pure_ (i := 5) (N := some 25) (v := undef) (a' := ?_) #[true, true, true, true, true, true, false, false, false, false, false, false, false, false, false, false, false, false, false, false, false, false] rfl rfl (any_of HT_.out (by kernel_rfl)) (fun _ _ _ h => h) (Or.inr ⟨by rfl, rfl⟩) ?_ ?_
      rotate_left
      ·simp only [Act.put, ls_, lz_, lc_, i64_w, i32_w]
       rfl
      refine pure_ (i := 6) (N := some 26) (v := undef) (a' := ?_) #[true, true, true, true, true, true, true, false, false, false, false, false, false, false, false, false, false, false, false, false, false, false] rfl rfl (any_of HT_.out (by kernel_rfl)) (fun _ _ _ h => h) (Or.inr ⟨by rfl, rfl⟩) ?_ ?_
      rotate_left
      ·simp only [Act.put, ls_, lz_, lc_, i64_w, i32_w]
       rfl
      refine pure_ (i := 7) (N := some 27) (v := undef) (a' := ?_) #[true, true, true, true, true, true, true, true, false, false, false, false, false, false, false, false, false, false, false, false, false, false] rfl rfl (any_of HT_.out (by kernel_rfl)) (fun _ _ _ h => h) (Or.inr ⟨by rfl, rfl⟩) ?_ ?_
      rotate_left
      ·simp only [Act.put, ls_, lz_, lc_, i64_w, i32_w]
       rfl
      refine pure_ (i := 8) (N := some 28) (v := undef) (a' := ?_) #[true, true, true, true, true, true, true, true, true, false, false, false, false, false, false, false, false, false, false, false, false, false] rfl rfl (any_of HT_.out (by kernel_rfl)) (fun _ _ _ h => h) (Or.inr ⟨by rfl, rfl⟩) ?_ ?_
      rotate_left
      ·simp only [Act.put, ls_, lz_, lc_, i64_w, i32_w]
       rfl
      refine pure_ (i := 9) (N := some 29) (v := ?_) (a' := ?_) #[true, true, true, true, true, true, true, true, true, true, false, false, false, false, false, false, false, false, false, false, false, false] rfl rfl (any_of HT_.out (by kernel_rfl)) (fun _ _ _ h => h) (Or.inl ⟨by rfl, ?_⟩) ?_ ?_
      rotate_left; (intro w'; go_simp; with_reducible rfl); rotate_left; (simp only [Act.put, ls_, lz_, lc_, i64_w, i32_w]; rfl)
      refine pure_ (i := 10) (N := some 30) (v := ?_) (a' := ?_) #[true, true, true, true, true, true, true, true, true, true, true, false, false, false, false, false, false, false, false, false, false, false] rfl rfl (any_of HT_.out (by kernel_rfl)) (fun _ _ _ h => h) (Or.inl ⟨by rfl, ?_⟩) ?_ ?_
      rotate_left; (intro w'; go_simp; with_reducible rfl); rotate_left; (simp only [Act.put, ls_, lz_, lc_, i64_w, i32_w]; rfl)
      refine pure_ (i := 11) (N := some 31) (v := undef) (a' := ?_) #[true, true, true, true, true, true, true, true, true, true, true, true, false, false, false, false, false, false, false, false, false, false] rfl rfl (any_of HT_.out (by kernel_rfl)) (fun _ _ _ h => h) (Or.inr ⟨by rfl, rfl⟩) ?_ ?_
      rotate_left
      ·simp only [Act.put, ls_, lz_, lc_, i64_w, i32_w]
       rfl
      refine pure_ (i := 12) (N := some 32) (v := undef) (a' := ?_) #[true, true, true, true, true, true, true, true, true, true, true, true, true, false, false, false, false, false, false, false, false, false] rfl rfl (any_of HT_.out (by kernel_rfl)) (fun _ _ _ h => h) (Or.inr ⟨by rfl, rfl⟩) ?_ ?_
      rotate_left
      ·simp only [Act.put, ls_, lz_, lc_, i64_w, i32_w]
       rfl
      refine pure_ (i := 13) (N := some 33) (v := undef) (a' := ?_) #[true, true, true, true, true, true, true, true, true, true, true, true, true, true, false, false, false, false, false, false, false, false] rfl rfl (any_of HT_.out (by kernel_rfl)) (fun _ _ _ h => h) (Or.inr ⟨by rfl, rfl⟩) ?_ ?_
      rotate_left
      ·simp only [Act.put, ls_, lz_, lc_, i64_w, i32_w]
       rfl
      refine pure_ (i := 14) (N := some 34) (v := ?_) (a' := ?_) #[true, true, true, true, true, true, true, true, true, true, true, true, true, true, true, false, false, false, false, false, false, false] rfl rfl (any_of HT_.out (by kernel_rfl)) (fun _ _ _ h => h) (Or.inl ⟨by rfl, ?_⟩) ?_ ?_
      rotate_left; (intro w'; go_simp; with_reducible rfl); rotate_left; (simp only [Act.put, ls_, lz_, lc_, i64_w, i32_w]; rfl)
      refine pure_ (i := 15) (N := some 35) (v := ?_) (a' := ?_) #[true, true, true, true, true, true, true, true, true, true, true, true, true, true, true, true, false, false, false, false, false, false] rfl rfl (any_of HT_.out (by kernel_rfl)) (fun _ _ _ h => h) (Or.inl ⟨by rfl, ?_⟩) ?_ ?_
      rotate_left; (intro w'; go_simp; with_reducible rfl); rotate_left; (simp only [Act.put, ls_, lz_, lc_, i64_w, i32_w]; rfl)
      refine pure_ (i := 16) (N := some 36) (v := undef) (a' := ?_) #[true, true, true, true, true, true, true, true, true, true, true, true, true, true, true, true, true, false, false, false, false, false] rfl rfl (any_of HT_.out (by kernel_rfl)) (fun _ _ _ h => h) (Or.inr ⟨by rfl, rfl⟩) ?_ ?_
      rotate_left
      ·simp only [Act.put, ls_, lz_, lc_, i64_w, i32_w]
       rfl
      refine pure_ (i := 17) (N := some 37) (v := undef) (a' := ?_) #[true, true, true, true, true, true, true, true, true, true, true, true, true, true, true, true, true, true, false, false, false, false] rfl rfl (any_of HT_.out (by kernel_rfl)) (fun _ _ _ h => h) (Or.inr ⟨by rfl, rfl⟩) ?_ ?_
      rotate_left
      ·simp only [Act.put, ls_, lz_, lc_, i64_w, i32_w]
       rfl
      refine pure_ (i := 18) (N := some 38) (v := undef) (a' := ?_) #[true, true, true, true, true, true, true, true, true, true, true, true, true, true, true, true, true, true, true, false, false, false] rfl rfl (any_of HT_.out (by kernel_rfl)) (fun _ _ _ h => h) (Or.inr ⟨by rfl, rfl⟩) ?_ ?_
      rotate_left
      ·simp only [Act.put, ls_, lz_, lc_, i64_w, i32_w]
       rfl
      refine pure_ (i := 19) (N := some 39) (v := undef) (a' := ?_) #[true, true, true, true, true, true, true, true, true, true, true, true, true, true, true, true, true, true, true, true, false, false] rfl rfl (any_of HT_.out (by kernel_rfl)) (fun _ _ _ h => h) (Or.inr ⟨by rfl, rfl⟩) ?_ ?_
      rotate_left
      ·simp only [Act.put, ls_, lz_, lc_, i64_w, i32_w]
       rfl
      refine pure_ (i := 20) (N := some 40) (v := undef) (a' := ?_) #[true, true, true, true, true, true, true, true, true, true, true, true, true, true, true, true, true, true, true, true, true, false] rfl rfl (any_of HT_.out (by kernel_rfl)) (fun _ _ _ h => h) (Or.inr ⟨by rfl, rfl⟩) ?_ ?_
      rotate_left
      ·simp only [Act.put, ls_, lz_, lc_, i64_w, i32_w]
       rfl
      refine pure_ (i := 21) (N := some 41) (v := ?_) (a' := ?_) #[true, true, true, true, true, true, true, true, true, true, true, true, true, true, true, true, true, true, true, true, true, true] rfl rfl (any_of HT_.out (by kernel_rfl)) (fun _ _ _ h => h) (Or.inl ⟨by rfl, ?_⟩) ?_ ?_
      rotate_left; (intro w'; go_simp; with_reducible rfl); rotate_left; (simp only [Act.put, ls_, lz_, lc_, i64_w, i32_w]; rfl)
      refine done_ (done_of HT_.out (by kernel_rfl)) ?_
      try go_wp2
      go_meet
      case rel => exact ⟨_, (true), (by first | rfl | (simp; done) | (simp [*]; done) | (simp [bne]; done)), H', ⟨by have := HJ3.out; first | omega | exact Nat.le_refl _⟩, ⟨by (with_reducible repeat (first | refine kn_ ?_ _ | refine kd_ ?_ | refine ka_ ?_ _)); exact BK367.out⟩, ⟨by (with_reducible repeat (first | refine kn_ ?_ _ | refine kd_ ?_ | refine ka_ ?_ _)); exact BK368.out⟩, ⟨by (with_reducible repeat (first | refine kn_ ?_ _ | refine kd_ ?_ | refine ka_ ?_ _)); exact BK369.out⟩, ⟨by (with_reducible repeat (first | refine kn_ ?_ _ | refine kd_ ?_ | refine ka_ ?_ _)); exact BK377.out⟩, ⟨by repeat (first | (with_reducible first | exact HB.out | apply ba_ | apply pd_ | apply d1_ | refine bs_ ?_ GE367.out | refine bs_ ?_ GE368.out | refine bs_ ?_ GE369.out | refine bs_ ?_ GE377.out) | exact HB.out)⟩⟩
    case rest =>
     clear HC26
     try clear c1; try clear p2; try clear c3; try clear c4; try clear c12; try clear c18; try clear c39; try clear c41
     obtain ⟨kq, x41_25, rfl, HA, HJ25, BK367, BK368, BK369, BK377, HB⟩ := hcut
     cases kq with
     | zero => exact absurd HA.out (by simp [neumelaw03_BoxAround.j1])
     | succ kj25 =>
      have H := HA.out
      clear HA
      simp only [neumelaw03_BoxAround.j1] at H
      by_cases c63 : x41_25 = true
      ·subst c63
       have H1 : (some false) = some r := by rw [if_pos rfl] at H; exact H
       clear H; have H := H1; clear H1
       exact absurd ((Option.some.inj H).trans hxt.out) (by decide)
      ·replace c63 := bf_ c63
       subst c63
       have H1 : ((box_Inside.f kj25 a0_0 a0_1 a0_2 a0_3 a2_0 a2_1 a2_2 a2_3).bind fun t385 => (if t385 = true then ((box_Inside.f kj25 a1_0 a1_1 a1_2 a1_3 a2_0 a2_1 a2_2 a2_3).bind fun t386 => (if t386 = true then ((box_Inside.f kj25 t373 t374 t375 t376 a2_0 a2_1 a2_2 a2_3).bind fun t387 => (if t387 = true then ((neumelaw03_heads.f kj25).bind fun t388 => (some t388)) else (some false))) else ((neumelaw03_heads.f kj25).bind fun t389 => (some t389)))) else ((neumelaw03_heads.f kj25).bind fun t390 => (some t390)))) = some r := by rw [if_neg (show ¬ (false = true) by decide)] at H; exact H
       clear H; have H := H1; clear H1
       replace H := ob_ H
       obtain ⟨t385, A640, H⟩ := H
       replace H : (if t385 = true then ((box_Inside.f kj25 a1_0 a1_1 a1_2 a1_3 a2_0 a2_1 a2_2 a2_3).bind fun t386 => (if t386 = true then ((box_Inside.f kj25 t373 t374 t375 t376 a2_0 a2_1 a2_2 a2_3).bind fun t387 => (if t387 = true then ((neumelaw03_heads.f kj25).bind fun t388 => (some t388)) else (some false))) else ((neumelaw03_heads.f kj25).bind fun t389 => (some t389)))) else ((neumelaw03_heads.f kj25).bind fun t390 => (some t390))) = some r := H
       have A64 := sd_ A640
       clear A640
       by_cases c65 : t385 = true
       ·subst c65
        have H1 : ((box_Inside.f kj25 a1_0 a1_1 a1_2 a1_3 a2_0 a2_1 a2_2 a2_3).bind fun t386 => (if t386 = true then ((box_Inside.f kj25 t373 t374 t375 t376 a2_0 a2_1 a2_2 a2_3).bind fun t387 => (if t387 = true then ((neumelaw03_heads.f kj25).bind fun t388 => (some t388)) else (some false))) else ((neumelaw03_heads.f kj25).bind fun t389 => (some t389)))) = some r := by rw [if_pos rfl] at H; exact H
        clear H; have H := H1; clear H1
        replace H := ob_ H
        obtain ⟨t386, A660, H⟩ := H
        replace H : (if t386 = true then ((box_Inside.f kj25 t373 t374 t375 t376 a2_0 a2_1 a2_2 a2_3).bind fun t387 => (if t387 = true then ((neumelaw03_heads.f kj25).bind fun t388 => (some t388)) else (some false))) else ((neumelaw03_heads.f kj25).bind fun t389 => (some t389))) = some r := H
        have A66 := sd_ A660
        clear A660
        by_cases c67 : t386 = true
        ·subst c67
         have H1 : ((box_Inside.f kj25 t373 t374 t375 t376 a2_0 a2_1 a2_2 a2_3).bind fun t387 => (if t387 = true then ((neumelaw03_heads.f kj25).bind fun t388 => (some t388)) else (some false))) = some r := by rw [if_pos rfl] at H; exact H
         clear H; have H := H1; clear H1
         replace H := ob_ H
         obtain ⟨t387, A680, H⟩ := H
         replace H : (if t387 = true then ((neumelaw03_heads.f kj25).bind fun t388 => (some t388)) else (some false)) = some r := H
         have A68 := sd_ A680
         clear A680
         by_cases c69 : t387 = true
         ·subst c69
          have H1 : ((neumelaw03_heads.f kj25).bind fun t388 => (some t388)) = some r := by rw [if_pos rfl] at H; exact H
          clear H; have H := H1; clear H1
          replace H := ob_ H
          obtain ⟨t388, A700, H⟩ := H
          replace H : (some t388) = some r := H
          have A70 := sd_ A700
          clear A700
          obtain rfl := Option.some.inj H
          have hnb71 := NB367_368.out
          have hnc71 := NB368_367.out
          have hnb72 := NB367_369.out
          have hnc72 := NB369_367.out
          have hnb73 := NB367_377.out
          have hnc73 := NB377_367.out
          have hcz74_0 : wc.cell? ⟨gb367, 0, none⟩ = some (.int .i64 a0_0) := (kc_ BK367.out 0).trans rfl
          have hcz74_1 : wc.cell? ⟨gb367, 1, none⟩ = some (.int .i64 a0_1) := (kc_ BK367.out 1).trans rfl
          have hcz74_2 : wc.cell? ⟨gb367, 2, none⟩ = some (.int .i64 a0_2) := (kc_ BK367.out 2).trans rfl
          have hcz74_3 : wc.cell? ⟨gb367, 3, none⟩ = some (.int .i64 a0_3) := (kc_ BK367.out 3).trans rfl
          have hfz74_0 := kf_ BK367.out 0
          have hfz74_1 := kf_ BK367.out 1
          have hfz74_2 := kf_ BK367.out 2
          have hfz74_3 := kf_ BK367.out 3
          have hnb75 := NB369_368.out
          have hnc75 := NB368_369.out
          have hnb76 := NB369_377.out
          have hnc76 := NB377_369.out
          have hcz77_0 : wc.cell? ⟨gb369, 0, none⟩ = some (.int .i64 a2_0) := (kc_ BK369.out 0).trans rfl
          have hcz77_1 : wc.cell? ⟨gb369, 1, none⟩ = some (.int .i64 a2_1) := (kc_ BK369.out 1).trans rfl
          have hcz77_2 : wc.cell? ⟨gb369, 2, none⟩ = some (.int .i64 a2_2) := (kc_ BK369.out 2).trans rfl
          have hcz77_3 : wc.cell? ⟨gb369, 3, none⟩ = some (.int .i64 a2_3) := (kc_ BK369.out 3).trans rfl
          have hfz77_0 := kf_ BK369.out 0
          have hfz77_1 := kf_ BK369.out 1
          have hfz77_2 := kf_ BK369.out 2
          have hfz77_3 := kf_ BK369.out 3
          go_wp2_with (first | ((with_reducible refine gate_callee (f := 18) rfl ?_); refine goesL_ (some 44) rfl rfl Tryd.func18 (by kernel_rfl) rfl #[.agg #[.int .i64 a0_0, .int .i64 a0_1, .int .i64 a0_2, .int .i64 a0_3], .agg #[.int .i64 a2_0, .int .i64 a2_1, .int .i64 a2_2, .int .i64 a2_3]] rfl (by (try simp only [lm_, lq_, lx_]); first | done | rfl | (simp only [ld_, lt_]; rfl)) ?_; (with_reducible refine (box_Inside.calls kj25 a0_0 a0_1 a0_2 a0_3 a2_0 a2_1 a2_2 a2_3 true _ A64.out).mono ?_); rintro e w78 ⟨rfl, hb⟩; refine ⟨_, rfl, ?_⟩; have n0_ := sd_ (blk_below (g := gb367) (o := .cells #[.int .i64 a0_0, .int .i64 a0_1, .int .i64 a0_2, .int .i64 a0_3] 23 (0, 0)) (by (with_reducible repeat (first | refine kn_ ?_ _ | refine kd_ ?_ | refine ka_ ?_ _)); exact BK367.out) hb); have n1_ := sd_ (blk_below (g := gb368) (o := .cells #[.int .i64 a1_0, .int .i64 a1_1, .int .i64 a1_2, .int .i64 a1_3] 23 (0, 0)) (by (with_reducible repeat (first | refine kn_ ?_ _ | refine kd_ ?_ | refine ka_ ?_ _)); exact BK368.out) hb); have n2_ := sd_ (blk_below (g := gb369) (o := .cells #[.int .i64 a2_0, .int .i64 a2_1, .int .i64 a2_2, .int .i64 a2_3] 23 (0, 0)) (by (with_reducible repeat (first | refine kn_ ?_ _ | refine kd_ ?_ | refine ka_ ?_ _)); exact BK369.out) hb); have n3_ := sd_ (blk_below (g := gb377) (o := .cells #[.int .i64 t373, .int .i64 t374, .int .i64 t375, .int .i64 t376] 23 (0, 0)) (by (with_reducible repeat (first | refine kn_ ?_ _ | refine kd_ ?_ | refine ka_ ?_ _)); exact BK377.out) hb); have n4_ := sd_ (bt_ (by repeat (first | (with_reducible first | exact HB.out | apply ba_ | apply pd_ | apply d1_ | refine bs_ ?_ GE367.out | refine bs_ ?_ GE368.out | refine bs_ ?_ GE369.out | refine bs_ ?_ GE377.out) | exact HB.out)) hb); clear BK367; clear BK368; clear BK369; clear BK377; clear HB; have BK367 := n0_; have BK368 := n1_; have BK369 := n2_; have BK377 := n3_; have HB := n4_; clear n0_ n1_ n2_ n3_ n4_; (try clear hb); (try clear hb2); (try clear hk); (try clear hi); have hnb79 := NB368_377.out; have hnc79 := NB377_368.out; have hcz80_0 : w78.cell? ⟨gb368, 0, none⟩ = some (.int .i64 a1_0) := (kc_ BK368.out 0).trans rfl; have hcz80_1 : w78.cell? ⟨gb368, 1, none⟩ = some (.int .i64 a1_1) := (kc_ BK368.out 1).trans rfl; have hcz80_2 : w78.cell? ⟨gb368, 2, none⟩ = some (.int .i64 a1_2) := (kc_ BK368.out 2).trans rfl; have hcz80_3 : w78.cell? ⟨gb368, 3, none⟩ = some (.int .i64 a1_3) := (kc_ BK368.out 3).trans rfl; have hfz80_0 := kf_ BK368.out 0; have hfz80_1 := kf_ BK368.out 1; have hfz80_2 := kf_ BK368.out 2; have hfz80_3 := kf_ BK368.out 3; have hcz81_0 : w78.cell? ⟨gb369, 0, none⟩ = some (.int .i64 a2_0) := (kc_ BK369.out 0).trans rfl; have hcz81_1 : w78.cell? ⟨gb369, 1, none⟩ = some (.int .i64 a2_1) := (kc_ BK369.out 1).trans rfl; have hcz81_2 : w78.cell? ⟨gb369, 2, none⟩ = some (.int .i64 a2_2) := (kc_ BK369.out 2).trans rfl; have hcz81_3 : w78.cell? ⟨gb369, 3, none⟩ = some (.int .i64 a2_3) := (kc_ BK369.out 3).trans rfl; have hfz81_0 := kf_ BK369.out 0; have hfz81_1 := kf_ BK369.out 1; have hfz81_2 := kf_ BK369.out 2; have hfz81_3 := kf_ BK369.out 3) | (go_at_call 18; (with_reducible refine (box_Inside.calls kj25 a1_0 a1_1 a1_2 a1_3 a2_0 a2_1 a2_2 a2_3 true _ A66.out).mono ?_); rintro e w82 ⟨rfl, hb⟩; have n0_ := sd_ (blk_below (g := gb367) (o := .cells #[.int .i64 a0_0, .int .i64 a0_1, .int .i64 a0_2, .int .i64 a0_3] 23 (0, 0)) (by (with_reducible repeat (first | refine kn_ ?_ _ | refine kd_ ?_ | refine ka_ ?_ _)); exact BK367.out) hb); have n1_ := sd_ (blk_below (g := gb368) (o := .cells #[.int .i64 a1_0, .int .i64 a1_1, .int .i64 a1_2, .int .i64 a1_3] 23 (0, 0)) (by (with_reducible repeat (first | refine kn_ ?_ _ | refine kd_ ?_ | refine ka_ ?_ _)); exact BK368.out) hb); have n2_ := sd_ (blk_below (g := gb369) (o := .cells #[.int .i64 a2_0, .int .i64 a2_1, .int .i64 a2_2, .int .i64 a2_3] 23 (0, 0)) (by (with_reducible repeat (first | refine kn_ ?_ _ | refine kd_ ?_ | refine ka_ ?_ _)); exact BK369.out) hb); have n3_ := sd_ (blk_below (g := gb377) (o := .cells #[.int .i64 t373, .int .i64 t374, .int .i64 t375, .int .i64 t376] 23 (0, 0)) (by (with_reducible repeat (first | refine kn_ ?_ _ | refine kd_ ?_ | refine ka_ ?_ _)); exact BK377.out) hb); have n4_ := sd_ (bt_ (by repeat (first | (with_reducible first | exact HB.out | apply ba_ | apply pd_ | apply d1_ | refine bs_ ?_ GE367.out | refine bs_ ?_ GE368.out | refine bs_ ?_ GE369.out | refine bs_ ?_ GE377.out) | exact HB.out)) hb); clear BK367; clear BK368; clear BK369; clear BK377; clear HB; have BK367 := n0_; have BK368 := n1_; have BK369 := n2_; have BK377 := n3_; have HB := n4_; clear n0_ n1_ n2_ n3_ n4_; (try clear hb); (try clear hb2); (try clear hk); (try clear hi); have hcz83_0 : w82.cell? ⟨gb377, 0, none⟩ = some (.int .i64 t373) := (kc_ BK377.out 0).trans rfl; have hcz83_1 : w82.cell? ⟨gb377, 1, none⟩ = some (.int .i64 t374) := (kc_ BK377.out 1).trans rfl; have hcz83_2 : w82.cell? ⟨gb377, 2, none⟩ = some (.int .i64 t375) := (kc_ BK377.out 2).trans rfl; have hcz83_3 : w82.cell? ⟨gb377, 3, none⟩ = some (.int .i64 t376) := (kc_ BK377.out 3).trans rfl; have hfz83_0 := kf_ BK377.out 0; have hfz83_1 := kf_ BK377.out 1; have hfz83_2 := kf_ BK377.out 2; have hfz83_3 := kf_ BK377.out 3; have hcz84_0 : w82.cell? ⟨gb369, 0, none⟩ = some (.int .i64 a2_0) := (kc_ BK369.out 0).trans rfl; have hcz84_1 : w82.cell? ⟨gb369, 1, none⟩ = some (.int .i64 a2_1) := (kc_ BK369.out 1).trans rfl; have hcz84_2 : w82.cell? ⟨gb369, 2, none⟩ = some (.int .i64 a2_2) := (kc_ BK369.out 2).trans rfl; have hcz84_3 : w82.cell? ⟨gb369, 3, none⟩ = some (.int .i64 a2_3) := (kc_ BK369.out 3).trans rfl; have hfz84_0 := kf_ BK369.out 0; have hfz84_1 := kf_ BK369.out 1; have hfz84_2 := kf_ BK369.out 2; have hfz84_3 := kf_ BK369.out 3) | (go_at_call 18; (with_reducible refine (box_Inside.calls kj25 t373 t374 t375 t376 a2_0 a2_1 a2_2 a2_3 true _ A68.out).mono ?_); rintro e w85 ⟨rfl, hb⟩; have n0_ := sd_ (blk_below (g := gb367) (o := .cells #[.int .i64 a0_0, .int .i64 a0_1, .int .i64 a0_2, .int .i64 a0_3] 23 (0, 0)) (by (with_reducible repeat (first | refine kn_ ?_ _ | refine kd_ ?_ | refine ka_ ?_ _)); exact BK367.out) hb); have n1_ := sd_ (blk_below (g := gb368) (o := .cells #[.int .i64 a1_0, .int .i64 a1_1, .int .i64 a1_2, .int .i64 a1_3] 23 (0, 0)) (by (with_reducible repeat (first | refine kn_ ?_ _ | refine kd_ ?_ | refine ka_ ?_ _)); exact BK368.out) hb); have n2_ := sd_ (blk_below (g := gb369) (o := .cells #[.int .i64 a2_0, .int .i64 a2_1, .int .i64 a2_2, .int .i64 a2_3] 23 (0, 0)) (by (with_reducible repeat (first | refine kn_ ?_ _ | refine kd_ ?_ | refine ka_ ?_ _)); exact BK369.out) hb); have n3_ := sd_ (blk_below (g := gb377) (o := .cells #[.int .i64 t373, .int .i64 t374, .int .i64 t375, .int .i64 t376] 23 (0, 0)) (by (with_reducible repeat (first | refine kn_ ?_ _ | refine kd_ ?_ | refine ka_ ?_ _)); exact BK377.out) hb); have n4_ := sd_ (bt_ (by repeat (first | (with_reducible first | exact HB.out | apply ba_ | apply pd_ | apply d1_ | refine bs_ ?_ GE367.out | refine bs_ ?_ GE368.out | refine bs_ ?_ GE369.out | refine bs_ ?_ GE377.out) | exact HB.out)) hb); clear BK367; clear BK368; clear BK369; clear BK377; clear HB; have BK367 := n0_; have BK368 := n1_; have BK369 := n2_; have BK377 := n3_; have HB := n4_; clear n0_ n1_ n2_ n3_ n4_; (try clear hb); (try clear hb2); (try clear hk); (try clear hi)) | (go_at_call 20; (with_reducible refine (neumelaw03_heads.calls kj25  t388 _ ?side1 A70.out).mono ?_); (case side1 => first | (with_reducible exact hE) | exact sd_ (LaidE.below hE.out (by repeat (first | (with_reducible first | exact HB.out | apply ba_ | apply pd_ | apply d1_ | refine bs_ ?_ GE367.out | refine bs_ ?_ GE368.out | refine bs_ ?_ GE369.out | refine bs_ ?_ GE377.out) | exact HB.out)))); rintro e w86 ⟨rfl, hb⟩; have n0_ := sd_ (blk_below (g := gb367) (o := .cells #[.int .i64 a0_0, .int .i64 a0_1, .int .i64 a0_2, .int .i64 a0_3] 23 (0, 0)) (by (with_reducible repeat (first | refine kn_ ?_ _ | refine kd_ ?_ | refine ka_ ?_ _)); exact BK367.out) hb); have n1_ := sd_ (blk_below (g := gb368) (o := .cells #[.int .i64 a1_0, .int .i64 a1_1, .int .i64 a1_2, .int .i64 a1_3] 23 (0, 0)) (by (with_reducible repeat (first | refine kn_ ?_ _ | refine kd_ ?_ | refine ka_ ?_ _)); exact BK368.out) hb); have n2_ := sd_ (blk_below (g := gb369) (o := .cells #[.int .i64 a2_0, .int .i64 a2_1, .int .i64 a2_2, .int .i64 a2_3] 23 (0, 0)) (by (with_reducible repeat (first | refine kn_ ?_ _ | refine kd_ ?_ | refine ka_ ?_ _)); exact BK369.out) hb); have n3_ := sd_ (blk_below (g := gb377) (o := .cells #[.int .i64 t373, .int .i64 t374, .int .i64 t375, .int .i64 t376] 23 (0, 0)) (by (with_reducible repeat (first | refine kn_ ?_ _ | refine kd_ ?_ | refine ka_ ?_ _)); exact BK377.out) hb); have n4_ := sd_ (bt_ (by repeat (first | (with_reducible first | exact HB.out | apply ba_ | apply pd_ | apply d1_ | refine bs_ ?_ GE367.out | refine bs_ ?_ GE368.out | refine bs_ ?_ GE369.out | refine bs_ ?_ GE377.out) | exact HB.out)) hb); clear BK367; clear BK368; clear BK369; clear BK377; clear HB; have BK367 := n0_; have BK368 := n1_; have BK369 := n2_; have BK377 := n3_; have HB := n4_; clear n0_ n1_ n2_ n3_ n4_; (try clear hb); (try clear hb2); (try clear hk); (try clear hi)))
          go_ret
          exact ⟨by first | rfl | (simp [errW_none, errW_some] <;> rfl) | (simp [*, errW_none, errW_some] <;> rfl), by repeat (first | (with_reducible first | exact HB.out | apply ba_ | apply pd_ | apply d1_ | refine bs_ ?_ GE367.out | refine bs_ ?_ GE368.out | refine bs_ ?_ GE369.out | refine bs_ ?_ GE377.out) | exact HB.out)⟩
         ·replace c69 := bf_ c69
          subst c69
          have H1 : (some false) = some r := by rw [if_neg (show ¬ (false = true) by decide)] at H; exact H
          clear H; have H := H1; clear H1
          exact absurd ((Option.some.inj H).trans hxt.out) (by decide)
        ·replace c67 := bf_ c67
         subst c67
         have H1 : ((neumelaw03_heads.f kj25).bind fun t389 => (some t389)) = some r := by rw [if_neg (show ¬ (false = true) by decide)] at H; exact H
         clear H; have H := H1; clear H1
         replace H := ob_ H
         obtain ⟨t389, A870, H⟩ := H
         replace H : (some t389) = some r := H
         have A87 := sd_ A870
         clear A870
         obtain rfl := Option.some.inj H
         have hnb88 := NB367_368.out
         have hnc88 := NB368_367.out
         have hnb89 := NB367_369.out
         have hnc89 := NB369_367.out
         have hnb90 := NB367_377.out
         have hnc90 := NB377_367.out
         have hcz91_0 : wc.cell? ⟨gb367, 0, none⟩ = some (.int .i64 a0_0) := (kc_ BK367.out 0).trans rfl
         have hcz91_1 : wc.cell? ⟨gb367, 1, none⟩ = some (.int .i64 a0_1) := (kc_ BK367.out 1).trans rfl
         have hcz91_2 : wc.cell? ⟨gb367, 2, none⟩ = some (.int .i64 a0_2) := (kc_ BK367.out 2).trans rfl
         have hcz91_3 : wc.cell? ⟨gb367, 3, none⟩ = some (.int .i64 a0_3) := (kc_ BK367.out 3).trans rfl
         have hfz91_0 := kf_ BK367.out 0
         have hfz91_1 := kf_ BK367.out 1
         have hfz91_2 := kf_ BK367.out 2
         have hfz91_3 := kf_ BK367.out 3
         have hnb92 := NB369_368.out
         have hnc92 := NB368_369.out
         have hnb93 := NB369_377.out
         have hnc93 := NB377_369.out
         have hcz94_0 : wc.cell? ⟨gb369, 0, none⟩ = some (.int .i64 a2_0) := (kc_ BK369.out 0).trans rfl
         have hcz94_1 : wc.cell? ⟨gb369, 1, none⟩ = some (.int .i64 a2_1) := (kc_ BK369.out 1).trans rfl
         have hcz94_2 : wc.cell? ⟨gb369, 2, none⟩ = some (.int .i64 a2_2) := (kc_ BK369.out 2).trans rfl
         have hcz94_3 : wc.cell? ⟨gb369, 3, none⟩ = some (.int .i64 a2_3) := (kc_ BK369.out 3).trans rfl
         have hfz94_0 := kf_ BK369.out 0
         have hfz94_1 := kf_ BK369.out 1
         have hfz94_2 := kf_ BK369.out 2
         have hfz94_3 := kf_ BK369.out 3
         go_wp2_with (first | ((with_reducible refine gate_callee (f := 18) rfl ?_); refine goesL_ (some 44) rfl rfl Tryd.func18 (by kernel_rfl) rfl #[.agg #[.int .i64 a0_0, .int .i64 a0_1, .int .i64 a0_2, .int .i64 a0_3], .agg #[.int .i64 a2_0, .int .i64 a2_1, .int .i64 a2_2, .int .i64 a2_3]] rfl (by (try simp only [lm_, lq_, lx_]); first | done | rfl | (simp only [ld_, lt_]; rfl)) ?_; (with_reducible refine (box_Inside.calls kj25 a0_0 a0_1 a0_2 a0_3 a2_0 a2_1 a2_2 a2_3 true _ A64.out).mono ?_); rintro e w95 ⟨rfl, hb⟩; refine ⟨_, rfl, ?_⟩; have n0_ := sd_ (blk_below (g := gb367) (o := .cells #[.int .i64 a0_0, .int .i64 a0_1, .int .i64 a0_2, .int .i64 a0_3] 23 (0, 0)) (by (with_reducible repeat (first | refine kn_ ?_ _ | refine kd_ ?_ | refine ka_ ?_ _)); exact BK367.out) hb); have n1_ := sd_ (blk_below (g := gb368) (o := .cells #[.int .i64 a1_0, .int .i64 a1_1, .int .i64 a1_2, .int .i64 a1_3] 23 (0, 0)) (by (with_reducible repeat (first | refine kn_ ?_ _ | refine kd_ ?_ | refine ka_ ?_ _)); exact BK368.out) hb); have n2_ := sd_ (blk_below (g := gb369) (o := .cells #[.int .i64 a2_0, .int .i64 a2_1, .int .i64 a2_2, .int .i64 a2_3] 23 (0, 0)) (by (with_reducible repeat (first | refine kn_ ?_ _ | refine kd_ ?_ | refine ka_ ?_ _)); exact BK369.out) hb); have n3_ := sd_ (blk_below (g := gb377) (o := .cells #[.int .i64 t373, .int .i64 t374, .int .i64 t375, .int .i64 t376] 23 (0, 0)) (by (with_reducible repeat (first | refine kn_ ?_ _ | refine kd_ ?_ | refine ka_ ?_ _)); exact BK377.out) hb); have n4_ := sd_ (bt_ (by repeat (first | (with_reducible first | exact HB.out | apply ba_ | apply pd_ | apply d1_ | refine bs_ ?_ GE367.out | refine bs_ ?_ GE368.out | refine bs_ ?_ GE369.out | refine bs_ ?_ GE377.out) | exact HB.out)) hb); clear BK367; clear BK368; clear BK369; clear BK377; clear HB; have BK367 := n0_; have BK368 := n1_; have BK369 := n2_; have BK377 := n3_; have HB := n4_; clear n0_ n1_ n2_ n3_ n4_; (try clear hb); (try clear hb2); (try clear hk); (try clear hi); have hnb96 := NB368_377.out; have hnc96 := NB377_368.out; have hcz97_0 : w95.cell? ⟨gb368, 0, none⟩ = some (.int .i64 a1_0) := (kc_ BK368.out 0).trans rfl; have hcz97_1 : w95.cell? ⟨gb368, 1, none⟩ = some (.int .i64 a1_1) := (kc_ BK368.out 1).trans rfl; have hcz97_2 : w95.cell? ⟨gb368, 2, none⟩ = some (.int .i64 a1_2) := (kc_ BK368.out 2).trans rfl; have hcz97_3 : w95.cell? ⟨gb368, 3, none⟩ = some (.int .i64 a1_3) := (kc_ BK368.out 3).trans rfl; have hfz97_0 := kf_ BK368.out 0; have hfz97_1 := kf_ BK368.out 1; have hfz97_2 := kf_ BK368.out 2; have hfz97_3 := kf_ BK368.out 3; have hcz98_0 : w95.cell? ⟨gb369, 0, none⟩ = some (.int .i64 a2_0) := (kc_ BK369.out 0).trans rfl; have hcz98_1 : w95.cell? ⟨gb369, 1, none⟩ = some (.int .i64 a2_1) := (kc_ BK369.out 1).trans rfl; have hcz98_2 : w95.cell? ⟨gb369, 2, none⟩ = some (.int .i64 a2_2) := (kc_ BK369.out 2).trans rfl; have hcz98_3 : w95.cell? ⟨gb369, 3, none⟩ = some (.int .i64 a2_3) := (kc_ BK369.out 3).trans rfl; have hfz98_0 := kf_ BK369.out 0; have hfz98_1 := kf_ BK369.out 1; have hfz98_2 := kf_ BK369.out 2; have hfz98_3 := kf_ BK369.out 3) | (go_at_call 18; (with_reducible refine (box_Inside.calls kj25 a1_0 a1_1 a1_2 a1_3 a2_0 a2_1 a2_2 a2_3 false _ A66.out).mono ?_); rintro e w99 ⟨rfl, hb⟩; have n0_ := sd_ (blk_below (g := gb367) (o := .cells #[.int .i64 a0_0, .int .i64 a0_1, .int .i64 a0_2, .int .i64 a0_3] 23 (0, 0)) (by (with_reducible repeat (first | refine kn_ ?_ _ | refine kd_ ?_ | refine ka_ ?_ _)); exact BK367.out) hb); have n1_ := sd_ (blk_below (g := gb368) (o := .cells #[.int .i64 a1_0, .int .i64 a1_1, .int .i64 a1_2, .int .i64 a1_3] 23 (0, 0)) (by (with_reducible repeat (first | refine kn_ ?_ _ | refine kd_ ?_ | refine ka_ ?_ _)); exact BK368.out) hb); have n2_ := sd_ (blk_below (g := gb369) (o := .cells #[.int .i64 a2_0, .int .i64 a2_1, .int .i64 a2_2, .int .i64 a2_3] 23 (0, 0)) (by (with_reducible repeat (first | refine kn_ ?_ _ | refine kd_ ?_ | refine ka_ ?_ _)); exact BK369.out) hb); have n3_ := sd_ (blk_below (g := gb377) (o := .cells #[.int .i64 t373, .int .i64 t374, .int .i64 t375, .int .i64 t376] 23 (0, 0)) (by (with_reducible repeat (first | refine kn_ ?_ _ | refine kd_ ?_ | refine ka_ ?_ _)); exact BK377.out) hb); have n4_ := sd_ (bt_ (by repeat (first | (with_reducible first | exact HB.out | apply ba_ | apply pd_ | apply d1_ | refine bs_ ?_ GE367.out | refine bs_ ?_ GE368.out | refine bs_ ?_ GE369.out | refine bs_ ?_ GE377.out) | exact HB.out)) hb); clear BK367; clear BK368; clear BK369; clear BK377; clear HB; have BK367 := n0_; have BK368 := n1_; have BK369 := n2_; have BK377 := n3_; have HB := n4_; clear n0_ n1_ n2_ n3_ n4_; (try clear hb); (try clear hb2); (try clear hk); (try clear hi)) | (go_at_call 20; (with_reducible refine (neumelaw03_heads.calls kj25  t389 _ ?side1 A87.out).mono ?_); (case side1 => first | (with_reducible exact hE) | exact sd_ (LaidE.below hE.out (by repeat (first | (with_reducible first | exact HB.out | apply ba_ | apply pd_ | apply d1_ | refine bs_ ?_ GE367.out | refine bs_ ?_ GE368.out | refine bs_ ?_ GE369.out | refine bs_ ?_ GE377.out) | exact HB.out)))); rintro e w100 ⟨rfl, hb⟩; have n0_ := sd_ (blk_below (g := gb367) (o := .cells #[.int .i64 a0_0, .int .i64 a0_1, .int .i64 a0_2, .int .i64 a0_3] 23 (0, 0)) (by (with_reducible repeat (first | refine kn_ ?_ _ | refine kd_ ?_ | refine ka_ ?_ _)); exact BK367.out) hb); have n1_ := sd_ (blk_below (g := gb368) (o := .cells #[.int .i64 a1_0, .int .i64 a1_1, .int .i64 a1_2, .int .i64 a1_3] 23 (0, 0)) (by (with_reducible repeat (first | refine kn_ ?_ _ | refine kd_ ?_ | refine ka_ ?_ _)); exact BK368.out) hb); have n2_ := sd_ (blk_below (g := gb369) (o := .cells #[.int .i64 a2_0, .int .i64 a2_1, .int .i64 a2_2, .int .i64 a2_3] 23 (0, 0)) (by (with_reducible repeat (first | refine kn_ ?_ _ | refine kd_ ?_ | refine ka_ ?_ _)); exact BK369.out) hb); have n3_ := sd_ (blk_below (g := gb377) (o := .cells #[.int .i64 t373, .int .i64 t374, .int .i64 t375, .int .i64 t376] 23 (0, 0)) (by (with_reducible repeat (first | refine kn_ ?_ _ | refine kd_ ?_ | refine ka_ ?_ _)); exact BK377.out) hb); have n4_ := sd_ (bt_ (by repeat (first | (with_reducible first | exact HB.out | apply ba_ | apply pd_ | apply d1_ | refine bs_ ?_ GE367.out | refine bs_ ?_ GE368.out | refine bs_ ?_ GE369.out | refine bs_ ?_ GE377.out) | exact HB.out)) hb); clear BK367; clear BK368; clear BK369; clear BK377; clear HB; have BK367 := n0_; have BK368 := n1_; have BK369 := n2_; have BK377 := n3_; have HB := n4_; clear n0_ n1_ n2_ n3_ n4_; (try clear hb); (try clear hb2); (try clear hk); (try clear hi)))
         go_ret
         exact ⟨by first | rfl | (simp [errW_none, errW_some] <;> rfl) | (simp [*, errW_none, errW_some] <;> rfl), by repeat (first | (with_reducible first | exact HB.out | apply ba_ | apply pd_ | apply d1_ | refine bs_ ?_ GE367.out | refine bs_ ?_ GE368.out | refine bs_ ?_ GE369.out | refine bs_ ?_ GE377.out) | exact HB.out)⟩
       ·replace c65 := bf_ c65
        subst c65
        have H1 : ((neumelaw03_heads.f kj25).bind fun t390 => (some t390)) = some r := by rw [if_neg (show ¬ (false = true) by decide)] at H; exact H
        clear H; have H := H1; clear H1
        replace H := ob_ H
        obtain ⟨t390, A1010, H⟩ := H
        replace H : (some t390) = some r := H
        have A101 := sd_ A1010
        clear A1010
        obtain rfl := Option.some.inj H
        have hnb102 := NB367_368.out
        have hnc102 := NB368_367.out
        have hnb103 := NB367_369.out
        have hnc103 := NB369_367.out
        have hnb104 := NB367_377.out
        have hnc104 := NB377_367.out
        have hcz105_0 : wc.cell? ⟨gb367, 0, none⟩ = some (.int .i64 a0_0) := (kc_ BK367.out 0).trans rfl
        have hcz105_1 : wc.cell? ⟨gb367, 1, none⟩ = some (.int .i64 a0_1) := (kc_ BK367.out 1).trans rfl
        have hcz105_2 : wc.cell? ⟨gb367, 2, none⟩ = some (.int .i64 a0_2) := (kc_ BK367.out 2).trans rfl
        have hcz105_3 : wc.cell? ⟨gb367, 3, none⟩ = some (.int .i64 a0_3) := (kc_ BK367.out 3).trans rfl
        have hfz105_0 := kf_ BK367.out 0
        have hfz105_1 := kf_ BK367.out 1
        have hfz105_2 := kf_ BK367.out 2
        have hfz105_3 := kf_ BK367.out 3
        have hnb106 := NB369_368.out
        have hnc106 := NB368_369.out
        have hnb107 := NB369_377.out
        have hnc107 := NB377_369.out
        have hcz108_0 : wc.cell? ⟨gb369, 0, none⟩ = some (.int .i64 a2_0) := (kc_ BK369.out 0).trans rfl
        have hcz108_1 : wc.cell? ⟨gb369, 1, none⟩ = some (.int .i64 a2_1) := (kc_ BK369.out 1).trans rfl
        have hcz108_2 : wc.cell? ⟨gb369, 2, none⟩ = some (.int .i64 a2_2) := (kc_ BK369.out 2).trans rfl
        have hcz108_3 : wc.cell? ⟨gb369, 3, none⟩ = some (.int .i64 a2_3) := (kc_ BK369.out 3).trans rfl
        have hfz108_0 := kf_ BK369.out 0
        have hfz108_1 := kf_ BK369.out 1
        have hfz108_2 := kf_ BK369.out 2
        have hfz108_3 := kf_ BK369.out 3
        go_wp2_with (first | ((with_reducible refine gate_callee (f := 18) rfl ?_); refine goesL_ (some 44) rfl rfl Tryd.func18 (by kernel_rfl) rfl #[.agg #[.int .i64 a0_0, .int .i64 a0_1, .int .i64 a0_2, .int .i64 a0_3], .agg #[.int .i64 a2_0, .int .i64 a2_1, .int .i64 a2_2, .int .i64 a2_3]] rfl (by (try simp only [lm_, lq_, lx_]); first | done | rfl | (simp only [ld_, lt_]; rfl)) ?_; (with_reducible refine (box_Inside.calls kj25 a0_0 a0_1 a0_2 a0_3 a2_0 a2_1 a2_2 a2_3 false _ A64.out).mono ?_); rintro e w109 ⟨rfl, hb⟩; refine ⟨_, rfl, ?_⟩; have n0_ := sd_ (blk_below (g := gb367) (o := .cells #[.int .i64 a0_0, .int .i64 a0_1, .int .i64 a0_2, .int .i64 a0_3] 23 (0, 0)) (by (with_reducible repeat (first | refine kn_ ?_ _ | refine kd_ ?_ | refine ka_ ?_ _)); exact BK367.out) hb); have n1_ := sd_ (blk_below (g := gb368) (o := .cells #[.int .i64 a1_0, .int .i64 a1_1, .int .i64 a1_2, .int .i64 a1_3] 23 (0, 0)) (by (with_reducible repeat (first | refine kn_ ?_ _ | refine kd_ ?_ | refine ka_ ?_ _)); exact BK368.out) hb); have n2_ := sd_ (blk_below (g := gb369) (o := .cells #[.int .i64 a2_0, .int .i64 a2_1, .int .i64 a2_2, .int .i64 a2_3] 23 (0, 0)) (by (with_reducible repeat (first | refine kn_ ?_ _ | refine kd_ ?_ | refine ka_ ?_ _)); exact BK369.out) hb); have n3_ := sd_ (blk_below (g := gb377) (o := .cells #[.int .i64 t373, .int .i64 t374, .int .i64 t375, .int .i64 t376] 23 (0, 0)) (by (with_reducible repeat (first | refine kn_ ?_ _ | refine kd_ ?_ | refine ka_ ?_ _)); exact BK377.out) hb); have n4_ := sd_ (bt_ (by repeat (first | (with_reducible first | exact HB.out | apply ba_ | apply pd_ | apply d1_ | refine bs_ ?_ GE367.out | refine bs_ ?_ GE368.out | refine bs_ ?_ GE369.out | refine bs_ ?_ GE377.out) | exact HB.out)) hb); clear BK367; clear BK368; clear BK369; clear BK377; clear HB; have BK367 := n0_; have BK368 := n1_; have BK369 := n2_; have BK377 := n3_; have HB := n4_; clear n0_ n1_ n2_ n3_ n4_; (try clear hb); (try clear hb2); (try clear hk); (try clear hi)) | (go_at_call 20; (with_reducible refine (neumelaw03_heads.calls kj25  t390 _ ?side1 A101.out).mono ?_); (case side1 => first | (with_reducible exact hE) | exact sd_ (LaidE.below hE.out (by repeat (first | (with_reducible first | exact HB.out | apply ba_ | apply pd_ | apply d1_ | refine bs_ ?_ GE367.out | refine bs_ ?_ GE368.out | refine bs_ ?_ GE369.out | refine bs_ ?_ GE377.out) | exact HB.out)))); rintro e w110 ⟨rfl, hb⟩; have n0_ := sd_ (blk_below (g := gb367) (o := .cells #[.int .i64 a0_0, .int .i64 a0_1, .int .i64 a0_2, .int .i64 a0_3] 23 (0, 0)) (by (with_reducible repeat (first | refine kn_ ?_ _ | refine kd_ ?_ | refine ka_ ?_ _)); exact BK367.out) hb); have n1_ := sd_ (blk_below (g := gb368) (o := .cells #[.int .i64 a1_0, .int .i64 a1_1, .int .i64 a1_2, .int .i64 a1_3] 23 (0, 0)) (by (with_reducible repeat (first | refine kn_ ?_ _ | refine kd_ ?_ | refine ka_ ?_ _)); exact BK368.out) hb); have n2_ := sd_ (blk_below (g := gb369) (o := .cells #[.int .i64 a2_0, .int .i64 a2_1, .int .i64 a2_2, .int .i64 a2_3] 23 (0, 0)) (by (with_reducible repeat (first | refine kn_ ?_ _ | refine kd_ ?_ | refine ka_ ?_ _)); exact BK369.out) hb); have n3_ := sd_ (blk_below (g := gb377) (o := .cells #[.int .i64 t373, .int .i64 t374, .int .i64 t375, .int .i64 t376] 23 (0, 0)) (by (with_reducible repeat (first | refine kn_ ?_ _ | refine kd_ ?_ | refine ka_ ?_ _)); exact BK377.out) hb); have n4_ := sd_ (bt_ (by repeat (first | (with_reducible first | exact HB.out | apply ba_ | apply pd_ | apply d1_ | refine bs_ ?_ GE367.out | refine bs_ ?_ GE368.out | refine bs_ ?_ GE369.out | refine bs_ ?_ GE377.out) | exact HB.out)) hb); clear BK367; clear BK368; clear BK369; clear BK377; clear HB; have BK367 := n0_; have BK368 := n1_; have BK369 := n2_; have BK377 := n3_; have HB := n4_; clear n0_ n1_ n2_ n3_ n4_; (try clear hb); (try clear hb2); (try clear hk); (try clear hi)))
        go_ret
        exact ⟨by first | rfl | (simp [errW_none, errW_some] <;> rfl) | (simp [*, errW_none, errW_some] <;> rfl), by repeat (first | (with_reducible first | exact HB.out | apply ba_ | apply pd_ | apply d1_ | refine bs_ ?_ GE367.out | refine bs_ ?_ GE368.out | refine bs_ ?_ GE369.out | refine bs_ ?_ GE377.out) | exact HB.out)⟩

end Go.Proofs.YteecpeggnejeaaaDoor.P
