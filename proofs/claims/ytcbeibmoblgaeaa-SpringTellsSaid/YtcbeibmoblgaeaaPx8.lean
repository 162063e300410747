-- Written by a program of this session (wip/tools/xprint.py, over the kit's print): Lean checks it.
import Derived.Test.YtcbeibmoblgaeaaPx0
import Derived.Test.YtcbeibmoblgaeaaPx5
import Derived.Test.YtcbeibmoblgaeaaPx6
import Derived.Test.YtcbeibmoblgaeaaPx7
namespace Go.Proofs.Ytcbeibmoblgaeaa.P
open Go.RowKit Go.Proofs.YtcbeibmoblgaeaaW.PrintWords Go.Proofs.YtcbeibmoblgaeaaW.PrintLast Go.Proofs.YtcbeibmoblgaeaaW.PrintMore
attribute [local go_sem] max2_int min2_int max_two min_two max_three min_three max_four min_four   -- for this text's walks alone
set_option linter.unusedVariables false
set_option linter.unusedSimpArgs false

/-! ### neumeref02_Add: function 17 -/
def neumeref02_Add.j0 : Nat → Bool → Int → Int → Int → Int → Option (Int × Int × Int)
 | 0, _, _, _, _, _ => none
 | k + 1, x15, x207000, x207001, x208000, x208001 => if x15 = true then (some (0, 0, 2)) else ((neumeref02_gcd.f k x207001 x208001).bind fun t211 => (if t211 = 0 then (none) else ((neumeref02_lowest.f k (wrap64 ((wrap64 (x207000 * (wrap64 (Int.tdiv x208001 t211)))) + (wrap64 (x208000 * (wrap64 (Int.tdiv x207001 t211)))))) (wrap64 ((wrap64 (Int.tdiv x207001 t211)) * x208001))).bind fun bt212 => (some (bt212.1, bt212.2.1, bt212.2.2)))))
def neumeref02_Add.f (k : Nat) (a0_0 : Int) (a0_1 : Int) (a1_0 : Int) (a1_1 : Int) : Option (Int × Int × Int) := (neumeref02_Check.f k a0_0 a0_1).bind fun t209 => (if t209 = true then ((neumeref02_Check.f k a1_0 a1_1).bind fun t210 => (neumeref02_Add.j0 k (!t210) a0_0 a0_1 a1_0 a1_1)) else (neumeref02_Add.j0 k true a0_0 a0_1 a1_0 a1_1))
theorem neumeref02_Add.mono_l : ∀ k, (∀ y0 y1 y2 y3 y4, LeO (neumeref02_Add.j0 k y0 y1 y2 y3 y4) (neumeref02_Add.j0 (k + 1) y0 y1 y2 y3 y4))
 | 0 => fun _ _ _ _ _ r h => by simp [neumeref02_Add.j0] at h
 | k + 1 => by
  have ih0 := neumeref02_Add.mono_l k
  ·intro y0 y1 y2 y3 y4
   unfold neumeref02_Add.j0
   repeat' first
   | (with_reducible exact ih0 _ _ _ _ _)
   | (with_reducible exact neumeref02_Check.mono _ _ _)
   | (with_reducible exact neumeref02_gcd.mono _ _ _)
   | (with_reducible exact neumeref02_lowest.mono _ _ _)
   | (with_reducible exact LeO.refl _)
   | (with_reducible exact LeO.none _)
   | (with_reducible refine LeO.ite ?_ ?_)
   | (with_reducible refine LeO.bind ?_ (fun _ => ?_))
   | exact ih0 _ _ _ _ _
   | exact neumeref02_Check.mono _ _ _
   | exact neumeref02_gcd.mono _ _ _
   | exact neumeref02_lowest.mono _ _ _
   | exact LeO.none _
   | refine LeO.ite ?_ ?_
   | refine LeO.bind ?_ (fun _ => ?_)
theorem neumeref02_Add.mono : ∀ a0 a1 a2 a3 k, LeO (neumeref02_Add.f k a0 a1 a2 a3) (neumeref02_Add.f (k + 1) a0 a1 a2 a3) := by
 intro a0 a1 a2 a3 k
 have ih0 := neumeref02_Add.mono_l k
 unfold neumeref02_Add.f
 repeat' first
   | (with_reducible exact ih0 _ _ _ _ _)
   | (with_reducible exact neumeref02_Check.mono _ _ _)
   | (with_reducible exact neumeref02_gcd.mono _ _ _)
   | (with_reducible exact neumeref02_lowest.mono _ _ _)
   | (with_reducible exact LeO.refl _)
   | (with_reducible exact LeO.none _)
   | (with_reducible refine LeO.ite ?_ ?_)
   | (with_reducible refine LeO.bind ?_ (fun _ => ?_))
   | exact ih0 _ _ _ _ _
   | exact neumeref02_Check.mono _ _ _
   | exact neumeref02_gcd.mono _ _ _
   | exact neumeref02_lowest.mono _ _ _
   | exact LeO.none _
   | refine LeO.ite ?_ ?_
   | refine LeO.bind ?_ (fun _ => ?_)
def neumeref02_Add.T4 : Bool × List (List Nat × List Nat) := (true, [([], []), ([0], [0]), ([], []), ([2], [2]), ([], []), ([3, 4], [3, 4]), ([1, 5], [1, 5]), ([], []), ([7], [7]), ([], []), ([9], [9]), ([], []), ([10, 11], [10, 11]), ([8, 12], [8, 12]), ([6, 13], [6, 13]), ([14, 0, 1, 2, 3, 4, 5, 6, 7, 8, 9, 10, 11, 12, 13, 14], [14])])
def neumeref02_Add.B4 : List Nat := [0, 1, 0, 4, 0, 28, 63, 0, 128, 0, 512, 0, 3584, 8064, 16383, 32767]
theorem neumeref02_Add.tab4 : rtab .any (opsOf Try.f17 4) = neumeref02_Add.T4 := by kernel_rfl
theorem neumeref02_Add.bits4 : waitsOk neumeref02_Add.T4.2 neumeref02_Add.B4 = true := by kernel_rfl
def neumeref02_Add.T5 : Bool × List (List Nat × List Nat) := (true, [([], []), ([], []), ([1], [1]), ([], []), ([2, 3], [2, 3]), ([], []), ([5], [5]), ([4, 6], [4, 6]), ([0, 7], [0, 7]), ([8], [8]), ([8], [8]), ([9, 8, 0, 1, 2, 3, 4, 5, 6, 7, 8, 9, 10], [9]), ([10, 11, 0, 1, 2, 3, 4, 5, 6, 7, 8, 9, 10, 11], [10])])
def neumeref02_Add.B5 : List Nat := [0, 0, 2, 0, 14, 0, 32, 126, 255, 511, 511, 2047, 4095]
theorem neumeref02_Add.tab5 : rtab .any (opsOf Try.f17 5) = neumeref02_Add.T5 := by kernel_rfl
theorem neumeref02_Add.bits5 : waitsOk neumeref02_Add.T5.2 neumeref02_Add.B5 = true := by kernel_rfl
set_option maxHeartbeats 8000000 in
set_option maxRecDepth 100000 in
theorem neumeref02_Add.calls (k : Nat) (a0_0 : Int) (a0_1 : Int) (a1_0 : Int) (a1_1 : Int) (r1 : Int) (r2 : Int) (r3 : Int) (w : World) (h : neumeref02_Add.f k a0_0 a0_1 a1_0 a1_1 = some (r1, r2, r3)) :
  Calls Try.prog 17 #[.agg #[.int .i64 a0_0, .int .i64 a0_1], .agg #[.int .i64 a1_0, .int .i64 a1_1]] w fun e w' => e = .returned (.tuple #[.agg #[.int .i64 r1, .int .i64 r2], .int .i64 r3]) ∧ Below w.heap.size w w' := by
 have hu23 := Try.underlying23
 have HB := sd_ (Below.refl w.heap.size w)
 have H : ((neumeref02_Check.f k a0_0 a0_1).bind fun t209 => (if t209 = true then ((neumeref02_Check.f k a1_0 a1_1).bind fun t210 => (neumeref02_Add.j0 k (!t210) a0_0 a0_1 a1_0 a1_1)) else (neumeref02_Add.j0 k true a0_0 a0_1 a1_0 a1_1))) = some (r1, r2, r3) := h
 clear h
 have HC3 := sd_ H
 clear H
 go_enter Try.func17, Try.ntmps17
 go_upto_region 1 with (first | ((with_reducible refine gate_dst (N := 2) rfl ?_); refine box_event ?hg (N := 2) ?hd (cs := #[.int .i64 a0_0, .int .i64 a0_1]) (t := 23) ?hr ?_; (case hd => rfl); (case hg => rfl); (case hr => first | (go_simp; done) | (go_simp; rfl)); intro gb206 hg w4 hbox hb; have n0_ := sd_ (bt_ (by repeat first | exact HB.out | apply ba_ | apply pd_ | apply d1_) hb); have n1_ := sd_ (hbox); have n2_ := sd_ ((by rw [hg]; exact (bz_ (by repeat first | exact HB.out | apply ba_ | apply pd_ | apply d1_)) : w.heap.size ≤ gb206)); have n3_ := sd_ ((by rw [hg]; exact (bz_ (by repeat first | exact HB.out | apply ba_ | apply pd_ | apply d1_)) : w.heap.size ≤ gb206)); clear HB; have HB := n0_; have BK206 := n1_; have GW206 := n2_; have GE206 := n3_; clear n0_ n1_ n2_ n3_; clear hb hbox hg) | ((with_reducible refine gate_dst (N := 3) rfl ?_); refine box_event ?hg (N := 3) ?hd (cs := #[.int .i64 a1_0, .int .i64 a1_1]) (t := 23) ?hr ?_; (case hd => rfl); (case hg => rfl); (case hr => first | (go_simp; done) | (go_simp; rfl)); intro gb207 hg w5 hbox hb; have n0_ := sd_ (blk_below (g := gb206) (o := .cells #[.int .i64 a0_0, .int .i64 a0_1] 23 (0, 0)) (by (with_reducible repeat (first | refine kn_ ?_ _ | refine kd_ ?_ | refine ka_ ?_ _)); exact BK206.out) hb); have n1_ := sd_ (bt_ (by repeat first | exact HB.out | apply ba_ | apply pd_ | apply d1_ | refine bs_ ?_ GE206.out) hb); have n2_ := sd_ (hbox); have n3_ := sd_ ((by rw [hg]; exact (bz_ (by repeat first | exact HB.out | apply ba_ | apply pd_ | apply d1_ | refine bs_ ?_ GE206.out)) : w.heap.size ≤ gb207)); have n4_ := sd_ ((by rw [hg]; exact (bz_ (by repeat first | exact HB.out | apply ba_ | apply pd_ | apply d1_ | refine bs_ ?_ GE206.out)) : w.heap.size ≤ gb207)); have n5_ := sd_ ((by rw [hg]; exact nn_ (blk_lt (g := gb206) (o := .cells #[.int .i64 a0_0, .int .i64 a0_1] 23 (0, 0)) (by (with_reducible repeat (first | refine kn_ ?_ _ | refine kd_ ?_ | refine ka_ ?_ _)); exact BK206.out)) : gb206 ≠ gb207)); have n6_ := sd_ ((by rw [hg]; exact Nat.ne_of_gt (blk_lt (g := gb206) (o := .cells #[.int .i64 a0_0, .int .i64 a0_1] 23 (0, 0)) (by (with_reducible repeat (first | refine kn_ ?_ _ | refine kd_ ?_ | refine ka_ ?_ _)); exact BK206.out)) : gb207 ≠ gb206)); clear BK206; clear HB; have BK206 := n0_; have HB := n1_; have BK207 := n2_; have GW207 := n3_; have GE207 := n4_; have NB206_207 := n5_; have NB207_206 := n6_; clear n0_ n1_ n2_ n3_ n4_ n5_ n6_; clear hb hbox hg) | ((with_reducible refine gate_dst (N := 4) rfl ?_); refine box_event ?hg (N := 4) ?hd (cs := #[.int .i64 0, .int .i64 0]) (t := 23) ?hr ?_; (case hd => rfl); (case hg => rfl); (case hr => first | (go_simp; done) | (go_simp; rfl)); intro gb208 hg w6 hbox hb; have n0_ := sd_ (blk_below (g := gb206) (o := .cells #[.int .i64 a0_0, .int .i64 a0_1] 23 (0, 0)) (by (with_reducible repeat (first | refine kn_ ?_ _ | refine kd_ ?_ | refine ka_ ?_ _)); exact BK206.out) hb); have n1_ := sd_ (blk_below (g := gb207) (o := .cells #[.int .i64 a1_0, .int .i64 a1_1] 23 (0, 0)) (by (with_reducible repeat (first | refine kn_ ?_ _ | refine kd_ ?_ | refine ka_ ?_ _)); exact BK207.out) hb); have n2_ := sd_ (bt_ (by repeat first | exact HB.out | apply ba_ | apply pd_ | apply d1_ | refine bs_ ?_ GE206.out | refine bs_ ?_ GE207.out) hb); have n3_ := sd_ (hbox); have n4_ := sd_ ((by rw [hg]; exact (bz_ (by repeat first | exact HB.out | apply ba_ | apply pd_ | apply d1_ | refine bs_ ?_ GE206.out | refine bs_ ?_ GE207.out)) : w.heap.size ≤ gb208)); have n5_ := sd_ ((by rw [hg]; exact (bz_ (by repeat first | exact HB.out | apply ba_ | apply pd_ | apply d1_ | refine bs_ ?_ GE206.out | refine bs_ ?_ GE207.out)) : w.heap.size ≤ gb208)); have n6_ := sd_ ((by rw [hg]; exact nn_ (blk_lt (g := gb206) (o := .cells #[.int .i64 a0_0, .int .i64 a0_1] 23 (0, 0)) (by (with_reducible repeat (first | refine kn_ ?_ _ | refine kd_ ?_ | refine ka_ ?_ _)); exact BK206.out)) : gb206 ≠ gb208)); have n7_ := sd_ ((by rw [hg]; exact Nat.ne_of_gt (blk_lt (g := gb206) (o := .cells #[.int .i64 a0_0, .int .i64 a0_1] 23 (0, 0)) (by (with_reducible repeat (first | refine kn_ ?_ _ | refine kd_ ?_ | refine ka_ ?_ _)); exact BK206.out)) : gb208 ≠ gb206)); have n8_ := sd_ ((by rw [hg]; exact nn_ (blk_lt (g := gb207) (o := .cells #[.int .i64 a1_0, .int .i64 a1_1] 23 (0, 0)) (by (with_reducible repeat (first | refine kn_ ?_ _ | refine kd_ ?_ | refine ka_ ?_ _)); exact BK207.out)) : gb207 ≠ gb208)); have n9_ := sd_ ((by rw [hg]; exact Nat.ne_of_gt (blk_lt (g := gb207) (o := .cells #[.int .i64 a1_0, .int .i64 a1_1] 23 (0, 0)) (by (with_reducible repeat (first | refine kn_ ?_ _ | refine kd_ ?_ | refine ka_ ?_ _)); exact BK207.out)) : gb208 ≠ gb207)); clear BK206; clear BK207; clear HB; have BK206 := n0_; have BK207 := n1_; have HB := n2_; have BK208 := n3_; have GW208 := n4_; have GE208 := n5_; have NB206_208 := n6_; have NB208_206 := n7_; have NB207_208 := n8_; have NB208_207 := n9_; clear n0_ n1_ n2_ n3_ n4_ n5_ n6_ n7_ n8_ n9_; clear hb hbox hg))
 (try simp only [Act.put, ls_, lz_, lc_])
 go_cut [15] (fun v15 wc => ∃ (kq : Nat) (x15_2 : Bool), v15 = .bool x15_2 ∧ Aside0 (neumeref02_Add.j0 kq x15_2 a0_0 a0_1 a1_0 a1_1 = some (r1, r2, r3)) ∧ Aside0 (kq ≤ k) ∧ Aside0 (wc.heap[gb206]? = some (.cells #[.int .i64 a0_0, .int .i64 a0_1] 23 (0, 0))) ∧ Aside0 (wc.heap[gb207]? = some (.cells #[.int .i64 a1_0, .int .i64 a1_1] 23 (0, 0))) ∧ Aside0 (wc.heap[gb208]? = some (.cells #[.int .i64 0, .int .i64 0] 23 (0, 0))) ∧ Aside0 (Below w.heap.size w wc))
 case first =>
  have H := HC3.out
  clear HC3
  replace H := ob_ H
  obtain ⟨t209, A70, H⟩ := H
  replace H : (if t209 = true then ((neumeref02_Check.f k a1_0 a1_1).bind fun t210 => (neumeref02_Add.j0 k (!t210) a0_0 a0_1 a1_0 a1_1)) else (neumeref02_Add.j0 k true a0_0 a0_1 a1_0 a1_1)) = some (r1, r2, r3) := H
  have A7 := sd_ A70
  clear A70
  by_cases c8 : t209 = true
  ·subst c8
   have H1 : ((neumeref02_Check.f k a1_0 a1_1).bind fun t210 => (neumeref02_Add.j0 k (!t210) a0_0 a0_1 a1_0 a1_1)) = some (r1, r2, r3) := by rw [if_pos rfl] at H; exact H
   clear H; have H := H1; clear H1
   replace H := ob_ H
   obtain ⟨t210, A90, H⟩ := H
   replace H : (neumeref02_Add.j0 k (!t210) a0_0 a0_1 a1_0 a1_1) = some (r1, r2, r3) := H
   have A9 := sd_ A90
   clear A90
   have H' := sd_ H
   clear H
   have hnb10 := NB206_207.out
   have hnc10 := NB207_206.out
   have hnb11 := NB206_208.out
   have hnc11 := NB208_206.out
   have hcz12_0 : w6.cell? ⟨gb206, 0, none⟩ = some (.int .i64 a0_0) := (kc_ BK206.out 0).trans rfl
   have hcz12_1 : w6.cell? ⟨gb206, 1, none⟩ = some (.int .i64 a0_1) := (kc_ BK206.out 1).trans rfl
   have hfz12_0 := kf_ BK206.out 0
   have hfz12_1 := kf_ BK206.out 1
   go_wp2_with (first | ((with_reducible refine gate_callee (f := 20) rfl ?_); refine goesL_ (some 9) rfl rfl Try.func20 (by kernel_rfl) rfl #[.agg #[.int .i64 a0_0, .int .i64 a0_1]] rfl (by (try simp only [lm_, lq_, lx_]); first | done | rfl | (simp only [ld_, lt_]; rfl)) ?_; (with_reducible refine (neumeref02_Check.calls k a0_0 a0_1 true _ A7.out).mono ?_); rintro e w13 ⟨rfl, hb⟩; refine ⟨_, rfl, ?_⟩; have n0_ := sd_ (blk_below (g := gb206) (o := .cells #[.int .i64 a0_0, .int .i64 a0_1] 23 (0, 0)) (by (with_reducible repeat (first | refine kn_ ?_ _ | refine kd_ ?_ | refine ka_ ?_ _)); exact BK206.out) hb); have n1_ := sd_ (blk_below (g := gb207) (o := .cells #[.int .i64 a1_0, .int .i64 a1_1] 23 (0, 0)) (by (with_reducible repeat (first | refine kn_ ?_ _ | refine kd_ ?_ | refine ka_ ?_ _)); exact BK207.out) hb); have n2_ := sd_ (blk_below (g := gb208) (o := .cells #[.int .i64 0, .int .i64 0] 23 (0, 0)) (by (with_reducible repeat (first | refine kn_ ?_ _ | refine kd_ ?_ | refine ka_ ?_ _)); exact BK208.out) hb); have n3_ := sd_ (bt_ (by repeat first | exact HB.out | apply ba_ | apply pd_ | apply d1_ | refine bs_ ?_ GE206.out | refine bs_ ?_ GE207.out | refine bs_ ?_ GE208.out) hb); clear BK206; clear BK207; clear BK208; clear HB; have BK206 := n0_; have BK207 := n1_; have BK208 := n2_; have HB := n3_; clear n0_ n1_ n2_ n3_; (try clear hb); (try clear hb2); (try clear hk); (try clear hi); have hnb14 := NB207_208.out; have hnc14 := NB208_207.out; have hcz15_0 : w13.cell? ⟨gb207, 0, none⟩ = some (.int .i64 a1_0) := (kc_ BK207.out 0).trans rfl; have hcz15_1 : w13.cell? ⟨gb207, 1, none⟩ = some (.int .i64 a1_1) := (kc_ BK207.out 1).trans rfl; have hfz15_0 := kf_ BK207.out 0; have hfz15_1 := kf_ BK207.out 1) | (go_at_call 20; (with_reducible refine (neumeref02_Check.calls k a1_0 a1_1 t210 _ A9.out).mono ?_); rintro e w16 ⟨rfl, hb⟩; have n0_ := sd_ (blk_below (g := gb206) (o := .cells #[.int .i64 a0_0, .int .i64 a0_1] 23 (0, 0)) (by (with_reducible repeat (first | refine kn_ ?_ _ | refine kd_ ?_ | refine ka_ ?_ _)); exact BK206.out) hb); have n1_ := sd_ (blk_below (g := gb207) (o := .cells #[.int .i64 a1_0, .int .i64 a1_1] 23 (0, 0)) (by (with_reducible repeat (first | refine kn_ ?_ _ | refine kd_ ?_ | refine ka_ ?_ _)); exact BK207.out) hb); have n2_ := sd_ (blk_below (g := gb208) (o := .cells #[.int .i64 0, .int .i64 0] 23 (0, 0)) (by (with_reducible repeat (first | refine kn_ ?_ _ | refine kd_ ?_ | refine ka_ ?_ _)); exact BK208.out) hb); have n3_ := sd_ (bt_ (by repeat first | exact HB.out | apply ba_ | apply pd_ | apply d1_ | refine bs_ ?_ GE206.out | refine bs_ ?_ GE207.out | refine bs_ ?_ GE208.out) hb); clear BK206; clear BK207; clear BK208; clear HB; have BK206 := n0_; have BK207 := n1_; have BK208 := n2_; have HB := n3_; clear n0_ n1_ n2_ n3_; (try clear hb); (try clear hb2); (try clear hk); (try clear hi)))
   go_meet
   case rel => exact ⟨_, (!t210), (by first | rfl | (simp; done) | (simp [*]; done)), H', ⟨by first | omega | exact Nat.le_refl _⟩, ⟨by (with_reducible repeat (first | refine kn_ ?_ _ | refine kd_ ?_ | refine ka_ ?_ _)); exact BK206.out⟩, ⟨by (with_reducible repeat (first | refine kn_ ?_ _ | refine kd_ ?_ | refine ka_ ?_ _)); exact BK207.out⟩, ⟨by (with_reducible repeat (first | refine kn_ ?_ _ | refine kd_ ?_ | refine ka_ ?_ _)); exact BK208.out⟩, ⟨by repeat first | exact HB.out | apply ba_ | apply pd_ | apply d1_ | refine bs_ ?_ GE206.out | refine bs_ ?_ GE207.out | refine bs_ ?_ GE208.out⟩⟩
  ·replace c8 := bf_ c8
   subst c8
   have H1 : (neumeref02_Add.j0 k true a0_0 a0_1 a1_0 a1_1) = some (r1, r2, r3) := by rw [if_neg (show ¬ (false = true) by decide)] at H; exact H
   clear H; have H := H1; clear H1
   have H' := sd_ H
   clear H
   have hnb17 := NB206_207.out
   have hnc17 := NB207_206.out
   have hnb18 := NB206_208.out
   have hnc18 := NB208_206.out
   have hcz19_0 : w6.cell? ⟨gb206, 0, none⟩ = some (.int .i64 a0_0) := (kc_ BK206.out 0).trans rfl
   have hcz19_1 : w6.cell? ⟨gb206, 1, none⟩ = some (.int .i64 a0_1) := (kc_ BK206.out 1).trans rfl
   have hfz19_0 := kf_ BK206.out 0
   have hfz19_1 := kf_ BK206.out 1
   go_wp2_with (first | ((with_reducible refine gate_callee (f := 20) rfl ?_); refine goesL_ (some 9) rfl rfl Try.func20 (by kernel_rfl) rfl #[.agg #[.int .i64 a0_0, .int .i64 a0_1]] rfl (by (try simp only [lm_, lq_, lx_]); first | done | rfl | (simp only [ld_, lt_]; rfl)) ?_; (with_reducible refine (neumeref02_Check.calls k a0_0 a0_1 false _ A7.out).mono ?_); rintro e w20 ⟨rfl, hb⟩; refine ⟨_, rfl, ?_⟩; have n0_ := sd_ (blk_below (g := gb206) (o := .cells #[.int .i64 a0_0, .int .i64 a0_1] 23 (0, 0)) (by (with_reducible repeat (first | refine kn_ ?_ _ | refine kd_ ?_ | refine ka_ ?_ _)); exact BK206.out) hb); have n1_ := sd_ (blk_below (g := gb207) (o := .cells #[.int .i64 a1_0, .int .i64 a1_1] 23 (0, 0)) (by (with_reducible repeat (first | refine kn_ ?_ _ | refine kd_ ?_ | refine ka_ ?_ _)); exact BK207.out) hb); have n2_ := sd_ (blk_below (g := gb208) (o := .cells #[.int .i64 0, .int .i64 0] 23 (0, 0)) (by (with_reducible repeat (first | refine kn_ ?_ _ | refine kd_ ?_ | refine ka_ ?_ _)); exact BK208.out) hb); have n3_ := sd_ (bt_ (by repeat first | exact HB.out | apply ba_ | apply pd_ | apply d1_ | refine bs_ ?_ GE206.out | refine bs_ ?_ GE207.out | refine bs_ ?_ GE208.out) hb); clear BK206; clear BK207; clear BK208; clear HB; have BK206 := n0_; have BK207 := n1_; have BK208 := n2_; have HB := n3_; clear n0_ n1_ n2_ n3_; (try clear hb); (try clear hb2); (try clear hk); (try clear hi)))
   go_meet
   case rel => exact ⟨_, (true), (by first | rfl | (simp; done) | (simp [*]; done)), H', ⟨by first | omega | exact Nat.le_refl _⟩, ⟨by (with_reducible repeat (first | refine kn_ ?_ _ | refine kd_ ?_ | refine ka_ ?_ _)); exact BK206.out⟩, ⟨by (with_reducible repeat (first | refine kn_ ?_ _ | refine kd_ ?_ | refine ka_ ?_ _)); exact BK207.out⟩, ⟨by (with_reducible repeat (first | refine kn_ ?_ _ | refine kd_ ?_ | refine ka_ ?_ _)); exact BK208.out⟩, ⟨by repeat first | exact HB.out | apply ba_ | apply pd_ | apply d1_ | refine bs_ ?_ GE206.out | refine bs_ ?_ GE207.out | refine bs_ ?_ GE208.out⟩⟩
 case rest =>
  clear HC3
  try clear c1; try clear c2; try clear p2; try clear c8; try clear c10; try clear c11; try clear c14; try clear c17; try clear c18; try clear c20; try clear hcz12_0; try clear hcz12_1; try clear hcz15_0; try clear hcz15_1; try clear hcz19_0; try clear hcz19_1; try clear hfz12_0; try clear hfz12_1; try clear hfz15_0; try clear hfz15_1; try clear hfz19_0; try clear hfz19_1
  obtain ⟨kq, x15_2, rfl, HA, HJ2, BK206, BK207, BK208, HB⟩ := hcut
  cases kq with
  | zero => exact absurd HA.out (by simp [neumeref02_Add.j0])
  | succ kj2 =>
   have H := HA.out
   clear HA
   simp only [neumeref02_Add.j0] at H
   by_cases c21 : x15_2 = true
   ·subst c21
    have H1 : (some (0, 0, 2)) = some (r1, r2, r3) := by rw [if_pos rfl] at H; exact H
    clear H; have H := H1; clear H1
    simp only [Option.some.injEq, Prod.mk.injEq] at H
    obtain ⟨rfl, rfl, rfl⟩ := H
    have hnb22 := NB208_206.out
    have hnc22 := NB206_208.out
    have hnb23 := NB208_207.out
    have hnc23 := NB207_208.out
    have hcz24_0 : wc.cell? ⟨gb208, 0, none⟩ = some (.int .i64 0) := (kc_ BK208.out 0).trans rfl
    have hcz24_1 : wc.cell? ⟨gb208, 1, none⟩ = some (.int .i64 0) := (kc_ BK208.out 1).trans rfl
    have hfz24_0 := kf_ BK208.out 0
    have hfz24_1 := kf_ BK208.out 1
    go_wp2
    refine bodyPost_ret (results_ct rfl _ _ gb208 23 #[.int .i64 0, .int .i64 0] (0, 0) _ rfl (by (with_reducible repeat (first | refine kn_ ?_ _ | refine kd_ ?_ | refine ka_ ?_ _)); refine blk_put (cs := #[.int .i64 0, .int .i64 0]) ?_ 1 _ rfl; (with_reducible repeat (first | refine kn_ ?_ _ | refine kd_ ?_ | refine ka_ ?_ _)); refine blk_put (cs := #[.int .i64 0, .int .i64 0]) ?_ 0 _ rfl; (with_reducible repeat (first | refine kn_ ?_ _ | refine kd_ ?_ | refine ka_ ?_ _)); exact BK208.out) Try.underlying23 rfl (by kernel_rfl)) rfl ?_
    exact ⟨by first | rfl | (simp [errW_none, errW_some] <;> rfl) | (simp [*, errW_none, errW_some] <;> rfl), by repeat first | exact HB.out | apply ba_ | apply pd_ | apply d1_ | refine bs_ ?_ GE206.out | refine bs_ ?_ GE207.out | refine bs_ ?_ GE208.out⟩
   ·replace c21 := bf_ c21
    subst c21
    have H1 : ((neumeref02_gcd.f kj2 a0_1 a1_1).bind fun t211 => (if t211 = 0 then (none) else ((neumeref02_lowest.f kj2 (wrap64 ((wrap64 (a0_0 * (wrap64 (Int.tdiv a1_1 t211)))) + (wrap64 (a1_0 * (wrap64 (Int.tdiv a0_1 t211)))))) (wrap64 ((wrap64 (Int.tdiv a0_1 t211)) * a1_1))).bind fun bt212 => (some (bt212.1, bt212.2.1, bt212.2.2))))) = some (r1, r2, r3) := by rw [if_neg (show ¬ (false = true) by decide)] at H; exact H
    clear H; have H := H1; clear H1
    replace H := ob_ H
    obtain ⟨t211, A250, H⟩ := H
    replace H : (if t211 = 0 then (none) else ((neumeref02_lowest.f kj2 (wrap64 ((wrap64 (a0_0 * (wrap64 (Int.tdiv a1_1 t211)))) + (wrap64 (a1_0 * (wrap64 (Int.tdiv a0_1 t211)))))) (wrap64 ((wrap64 (Int.tdiv a0_1 t211)) * a1_1))).bind fun bt212 => (some (bt212.1, bt212.2.1, bt212.2.2)))) = some (r1, r2, r3) := H
    have A25 := sd_ A250
    clear A250
    by_cases c26 : t211 = 0
    ·rw [if_pos c26] at H
     exact absurd H (by simp)
    ·rw [if_neg c26] at H
     have c26b0 : (t211 == 0) = false := beq_eq_false_iff_ne.mpr c26
     have c26b1 : (t211 != 0) = true := bne_iff_ne.mpr c26
     replace H := ob_ H
     obtain ⟨⟨t212, t213, t214⟩, A270, H⟩ := H
     replace H : (some (t212, t213, t214)) = some (r1, r2, r3) := H
     have A27 := sd_ A270
     clear A270
     simp only [Option.some.injEq, Prod.mk.injEq] at H
     obtain ⟨rfl, rfl, rfl⟩ := H
     have hnb28 := NB206_207.out
     have hnc28 := NB207_206.out
     have hnb29 := NB206_208.out
     have hnc29 := NB208_206.out
     have hcz30_0 : wc.cell? ⟨gb206, 0, none⟩ = some (.int .i64 a0_0) := (kc_ BK206.out 0).trans rfl
     have hcz30_1 : wc.cell? ⟨gb206, 1, none⟩ = some (.int .i64 a0_1) := (kc_ BK206.out 1).trans rfl
     have hfz30_0 := kf_ BK206.out 0
     have hfz30_1 := kf_ BK206.out 1
     have hnb31 := NB207_208.out
     have hnc31 := NB208_207.out
     have hcz32_0 : wc.cell? ⟨gb207, 0, none⟩ = some (.int .i64 a1_0) := (kc_ BK207.out 0).trans rfl
     have hcz32_1 : wc.cell? ⟨gb207, 1, none⟩ = some (.int .i64 a1_1) := (kc_ BK207.out 1).trans rfl
     have hfz32_0 := kf_ BK207.out 0
     have hfz32_1 := kf_ BK207.out 1
     try go_wp2_with (first | ((with_reducible refine gate_callee (f := 23) rfl ?_); refine goesL_ (some 21) rfl rfl Try.func23 (by kernel_rfl) rfl #[.int .i64 a0_1, .int .i64 a1_1] rfl (by (try simp only [lm_, lq_, lx_]); first | done | rfl | (simp only [ld_, lt_]; rfl)) ?_; (with_reducible refine (neumeref02_gcd.calls kj2 a0_1 a1_1 t211 _ A25.out).mono ?_); rintro e w' ⟨rfl, ⟨nd, rfl⟩⟩; refine ⟨_, rfl, ?_⟩; (try (rw [drewN_self wc]; generalize hq_ : World.drewN wc _ = wc; have n0_ : Aside0 (wc.heap[gb206]? = some (.cells #[.int .i64 a0_0, .int .i64 a0_1] 23 (0, 0))) := ⟨by rw [← hq_]; exact (by (with_reducible repeat (first | refine kn_ ?_ _ | refine kd_ ?_ | refine ka_ ?_ _)); exact BK206.out)⟩; have n1_ : Aside0 (wc.heap[gb207]? = some (.cells #[.int .i64 a1_0, .int .i64 a1_1] 23 (0, 0))) := ⟨by rw [← hq_]; exact (by (with_reducible repeat (first | refine kn_ ?_ _ | refine kd_ ?_ | refine ka_ ?_ _)); exact BK207.out)⟩; have n2_ : Aside0 (wc.heap[gb208]? = some (.cells #[.int .i64 0, .int .i64 0] 23 (0, 0))) := ⟨by rw [← hq_]; exact (by (with_reducible repeat (first | refine kn_ ?_ _ | refine kd_ ?_ | refine ka_ ?_ _)); exact BK208.out)⟩; have n3_ : Aside0 (Below w.heap.size w wc) := ⟨by rw [← hq_]; exact (by repeat first | exact HB.out | apply ba_ | apply pd_ | apply d1_ | refine bs_ ?_ GE206.out | refine bs_ ?_ GE207.out | refine bs_ ?_ GE208.out)⟩; clear BK206 BK207 BK208 HB hq_; have BK206 := n0_; have BK207 := n1_; have BK208 := n2_; have HB := n3_; clear n0_ n1_ n2_ n3_))))
     have n0_ := sd_ (kd_ BK206.out)
     have n1_ := sd_ (kd_ BK207.out)
     have n2_ := sd_ (kd_ BK208.out)
     have n3_ := sd_ (d1_ HB.out)
     clear BK206
     clear BK207
     clear BK208
     clear HB
     have BK206 := n0_
     have BK207 := n1_
     have BK208 := n2_
     have HB := n3_
     clear n0_ n1_ n2_ n3_
     refine start_ (n := 16) (S := fun w' => w'.cell? ⟨gb206, 0, none⟩ = some (.int .i64 a0_0) ∧ w'.cell? ⟨gb206, 1, none⟩ = some (.int .i64 a0_1) ∧ w'.cell? ⟨gb207, 0, none⟩ = some (.int .i64 a1_0) ∧ w'.cell? ⟨gb207, 1, none⟩ = some (.int .i64 a1_1)) (ds := []) #[false, false, false, false, false, false, false, false, false, false, false, false, false, false, false, false] (by kernel_rfl) rfl rfl ⟨(kc_ BK206.out 0).trans rfl, (kc_ BK206.out 1).trans rfl, (kc_ BK207.out 0).trans rfl, (kc_ BK207.out 1).trans rfl⟩ (fun hHeld => ?_); refine with_tabW neumeref02_Add.tab4 neumeref02_Add.bits4 (fun HT_ HW_ => ?_)
     generalize wc.drew = w33 at BK206 BK207 BK208 HB hHeld ⊢
     refine pure_ (i := 0) (N := some 22) (v := ?_) (a' := ?_) #[true, false, false, false, false, false, false, false, false, false, false, false, false, false, false, false] rfl rfl (any_of HT_.out (by kernel_rfl)) (fun _ _ _ h => h) (Or.inl ⟨by rfl, ?_⟩) ?_ ?_
     rotate_left; (intro w'; go_simp; with_reducible rfl); rotate_left; (simp only [Act.put, ls_, lz_, lc_, i64_w, i32_w]; rfl)
     refine pure_ (i := 2) (N := some 24) (v := ?_) (a' := ?_) #[true, false, true, false, false, false, false, false, false, false, false, false, false, false, false, false] rfl rfl (any_of HT_.out (by kernel_rfl)) (fun _ _ _ h => h) (Or.inl ⟨by rfl, ?_⟩) ?_ ?_
     rotate_left; (intro w'; go_simp; with_reducible rfl); rotate_left; (simp only [Act.put, ls_, lz_, lc_, i64_w, i32_w]; rfl)
     refine pure_ (i := 4) (N := some 26) (v := ?_) (a' := ?_) #[true, false, true, false, true, false, false, false, false, false, false, false, false, false, false, false] rfl rfl (any_of HT_.out (by kernel_rfl)) (fun _ _ _ h => h) (Or.inl ⟨by rfl, ?_⟩) ?_ ?_
     rotate_left; (intro w'; go_simp; with_reducible rfl); rotate_left; (simp only [Act.put, ls_, lz_, lc_, i64_w, i32_w]; rfl)
     refine pure_ (i := 7) (N := some 29) (v := ?_) (a' := ?_) #[true, false, true, false, true, false, false, true, false, false, false, false, false, false, false, false] rfl rfl (any_of HT_.out (by kernel_rfl)) (fun _ _ _ h => h) (Or.inl ⟨by rfl, ?_⟩) ?_ ?_
     rotate_left; (intro w'; go_simp; with_reducible rfl); rotate_left; (simp only [Act.put, ls_, lz_, lc_, i64_w, i32_w]; rfl)
     refine pure_ (i := 9) (N := some 31) (v := ?_) (a' := ?_) #[true, false, true, false, true, false, false, true, false, true, false, false, false, false, false, false] rfl rfl (any_of HT_.out (by kernel_rfl)) (fun _ _ _ h => h) (Or.inl ⟨by rfl, ?_⟩) ?_ ?_
     rotate_left; (intro w'; go_simp; with_reducible rfl); rotate_left; (simp only [Act.put, ls_, lz_, lc_, i64_w, i32_w]; rfl)
     refine pure_ (i := 11) (N := some 33) (v := ?_) (a' := ?_) #[true, false, true, false, true, false, false, true, false, true, false, true, false, false, false, false] rfl rfl (any_of HT_.out (by kernel_rfl)) (fun _ _ _ h => h) (Or.inl ⟨by rfl, ?_⟩) ?_ ?_
     rotate_left; (intro w'; go_simp; with_reducible rfl); rotate_left; (simp only [Act.put, ls_, lz_, lc_, i64_w, i32_w]; rfl)
     refine take_ (i := 1) (N := some 23) (v := ?_) (a' := ?_) #[true, true, true, false, true, false, false, true, false, true, false, true, false, false, false, false] rfl rfl (take_ofW HT_.out HW_.out (by kernel_rfl)) (fun _ _ _ h => h) (Or.inl ⟨by rfl, ?_⟩) hHeld ?_ ?_
     rotate_left
     ·rintro w' ⟨s0, s1, s2, s3⟩
      go_simp
      with_reducible rfl
     rotate_left
     ·simp only [Act.put, ls_, lz_, lc_, i64_w, i32_w]
      rfl
     refine take_ (i := 3) (N := some 25) (v := ?_) (a' := ?_) #[true, true, true, true, true, false, false, true, false, true, false, true, false, false, false, false] rfl rfl (take_ofW HT_.out HW_.out (by kernel_rfl)) (fun _ _ _ h => h) (Or.inl ⟨by rfl, ?_⟩) hHeld ?_ ?_
     rotate_left
     ·rintro w' ⟨s0, s1, s2, s3⟩
      go_simp
      with_reducible rfl
     rotate_left
     ·simp only [Act.put, ls_, lz_, lc_, i64_w, i32_w]
      rfl
     refine pure_ (i := 5) (N := some 27) (v := ?_) (a' := ?_) #[true, true, true, true, true, true, false, true, false, true, false, true, false, false, false, false] rfl rfl (any_of HT_.out (by kernel_rfl)) (fun _ _ _ h => h) (Or.inl ⟨by rfl, ?_⟩) ?_ ?_
     rotate_left; (intro w'; go_simp; with_reducible rfl); rotate_left; (simp only [Act.put, ls_, lz_, lc_, i64_w, i32_w]; rfl)
     refine pure_ (i := 6) (N := some 28) (v := ?_) (a' := ?_) #[true, true, true, true, true, true, true, true, false, true, false, true, false, false, false, false] rfl rfl (any_of HT_.out (by kernel_rfl)) (fun _ _ _ h => h) (Or.inl ⟨by rfl, ?_⟩) ?_ ?_
     rotate_left; (intro w'; go_simp; with_reducible rfl); rotate_left; (simp only [Act.put, ls_, lz_, lc_, i64_w, i32_w]; rfl)
     refine take_ (i := 8) (N := some 30) (v := ?_) (a' := ?_) #[true, true, true, true, true, true, true, true, true, true, false, true, false, false, false, false] rfl rfl (take_ofW HT_.out HW_.out (by kernel_rfl)) (fun _ _ _ h => h) (Or.inl ⟨by rfl, ?_⟩) hHeld ?_ ?_
     rotate_left
     ·rintro w' ⟨s0, s1, s2, s3⟩
      go_simp
      with_reducible rfl
     rotate_left
     ·simp only [Act.put, ls_, lz_, lc_, i64_w, i32_w]
      rfl
     refine take_ (i := 10) (N := some 32) (v := ?_) (a' := ?_) #[true, true, true, true, true, true, true, true, true, true, true, true, false, false, false, false] rfl rfl (take_ofW HT_.out HW_.out (by kernel_rfl)) (fun _ _ _ h => h) (Or.inl ⟨by rfl, ?_⟩) hHeld ?_ ?_
     rotate_left
     ·rintro w' ⟨s0, s1, s2, s3⟩
      go_simp
      with_reducible rfl
     rotate_left
     ·simp only [Act.put, ls_, lz_, lc_, i64_w, i32_w]
      rfl
     refine pure_ (i := 12) (N := some 34) (v := ?_) (a' := ?_) #[true, true, true, true, true, true, true, true, true, true, true, true, true, false, false, false] rfl rfl (any_of HT_.out (by kernel_rfl)) (fun _ _ _ h => h) (Or.inl ⟨by rfl, ?_⟩) ?_ ?_
     rotate_left; (intro w'; go_simp; with_reducible rfl); rotate_left; (simp only [Act.put, ls_, lz_, lc_, i64_w, i32_w]; rfl)
     refine pure_ (i := 13) (N := some 35) (v := ?_) (a' := ?_) #[true, true, true, true, true, true, true, true, true, true, true, true, true, true, false, false] rfl rfl (any_of HT_.out (by kernel_rfl)) (fun _ _ _ h => h) (Or.inl ⟨by rfl, ?_⟩) ?_ ?_
     rotate_left; (intro w'; go_simp; with_reducible rfl); rotate_left; (simp only [Act.put, ls_, lz_, lc_, i64_w, i32_w]; rfl)
     refine pure_ (i := 14) (N := some 36) (v := ?_) (a' := ?_) #[true, true, true, true, true, true, true, true, true, true, true, true, true, true, true, false] rfl rfl (any_of HT_.out (by kernel_rfl)) (fun _ _ _ h => h) (Or.inl ⟨by rfl, ?_⟩) ?_ ?_
     rotate_left; (intro w'; go_simp; with_reducible rfl); rotate_left; (simp only [Act.put, ls_, lz_, lc_, i64_w, i32_w]; rfl)
     refine pure_ (i := 15) (N := some 7) (v := ?_) (a' := ?_) #[true, true, true, true, true, true, true, true, true, true, true, true, true, true, true, true] rfl rfl (any_of HT_.out (by kernel_rfl)) (fun _ _ _ h => h) (Or.inl ⟨by rfl, ?_⟩) ?_ ?_
     rotate_left; (intro w'; go_simp; with_reducible rfl); rotate_left; (simp only [Act.put, ls_, lz_, lc_, i64_w, i32_w]; rfl)
     refine done_ (done_of HT_.out (by kernel_rfl)) ?_
     try go_wp2
     have n0_ := sd_ (kd_ BK206.out)
     have n1_ := sd_ (kd_ BK207.out)
     have n2_ := sd_ (kd_ BK208.out)
     have n3_ := sd_ (d1_ HB.out)
     clear BK206
     clear BK207
     clear BK208
     clear HB
     have BK206 := n0_
     have BK207 := n1_
     have BK208 := n2_
     have HB := n3_
     clear n0_ n1_ n2_ n3_
     refine start_ (n := 13) (S := fun w' => w'.cell? ⟨gb206, 0, none⟩ = some (.int .i64 a0_0) ∧ w'.cell? ⟨gb206, 1, none⟩ = some (.int .i64 a0_1) ∧ w'.cell? ⟨gb207, 0, none⟩ = some (.int .i64 a1_0) ∧ w'.cell? ⟨gb207, 1, none⟩ = some (.int .i64 a1_1)) (ds := []) #[false, false, false, false, false, false, false, false, false, false, false, false, false] (by kernel_rfl) rfl rfl ⟨(kc_ BK206.out 0).trans rfl, (kc_ BK206.out 1).trans rfl, (kc_ BK207.out 0).trans rfl, (kc_ BK207.out 1).trans rfl⟩ (fun hHeld => ?_); refine with_tabW neumeref02_Add.tab5 neumeref02_Add.bits5 (fun HT_ HW_ => ?_)
     generalize w33.drew = w34 at BK206 BK207 BK208 HB hHeld ⊢
     refine pure_ (i := 0) (N := some 37) (v := ?_) (a' := ?_) #[true, false, false, false, false, false, false, false, false, false, false, false, false] rfl rfl (any_of HT_.out (by kernel_rfl)) (fun _ _ _ h => h) (Or.inl ⟨by rfl, ?_⟩) ?_ ?_
     rotate_left; (intro w'; go_simp; with_reducible rfl); rotate_left; (simp only [Act.put, ls_, lz_, lc_, i64_w, i32_w]; rfl)
     refine pure_ (i := 1) (N := some 38) (v := ?_) (a' := ?_) #[true, true, false, false, false, false, false, false, false, false, false, false, false] rfl rfl (any_of HT_.out (by kernel_rfl)) (fun _ _ _ h => h) (Or.inl ⟨by rfl, ?_⟩) ?_ ?_
     rotate_left; (intro w'; go_simp; with_reducible rfl); rotate_left; (simp only [Act.put, ls_, lz_, lc_, i64_w, i32_w]; rfl)
     refine pure_ (i := 3) (N := some 40) (v := ?_) (a' := ?_) #[true, true, false, true, false, false, false, false, false, false, false, false, false] rfl rfl (any_of HT_.out (by kernel_rfl)) (fun _ _ _ h => h) (Or.inl ⟨by rfl, ?_⟩) ?_ ?_
     rotate_left; (intro w'; go_simp; with_reducible rfl); rotate_left; (simp only [Act.put, ls_, lz_, lc_, i64_w, i32_w]; rfl)
     refine pure_ (i := 5) (N := some 42) (v := ?_) (a' := ?_) #[true, true, false, true, false, true, false, false, false, false, false, false, false] rfl rfl (any_of HT_.out (by kernel_rfl)) (fun _ _ _ h => h) (Or.inl ⟨by rfl, ?_⟩) ?_ ?_
     rotate_left; (intro w'; go_simp; with_reducible rfl); rotate_left; (simp only [Act.put, ls_, lz_, lc_, i64_w, i32_w]; rfl)
     refine take_ (i := 2) (N := some 39) (v := ?_) (a' := ?_) #[true, true, true, true, false, true, false, false, false, false, false, false, false] rfl rfl (take_ofW HT_.out HW_.out (by kernel_rfl)) (fun _ _ _ h => h) (Or.inl ⟨by rfl, ?_⟩) hHeld ?_ ?_
     rotate_left
     ·rintro w' ⟨s0, s1, s2, s3⟩
      go_simp
      with_reducible rfl
     rotate_left
     ·simp only [Act.put, ls_, lz_, lc_, i64_w, i32_w]
      rfl
     refine pure_ (i := 4) (N := some 41) (v := ?_) (a' := ?_) #[true, true, true, true, true, true, false, false, false, false, false, false, false] rfl rfl (any_of HT_.out (by kernel_rfl)) (fun _ _ _ h => h) (Or.inl ⟨by rfl, ?_⟩) ?_ ?_
     rotate_left; (intro w'; go_simp; with_reducible rfl); rotate_left; (simp only [Act.put, ls_, lz_, lc_, i64_w, i32_w]; rfl)
     refine take_ (i := 6) (N := some 43) (v := ?_) (a' := ?_) #[true, true, true, true, true, true, true, false, false, false, false, false, false] rfl rfl (take_ofW HT_.out HW_.out (by kernel_rfl)) (fun _ _ _ h => h) (Or.inl ⟨by rfl, ?_⟩) hHeld ?_ ?_
     rotate_left
     ·rintro w' ⟨s0, s1, s2, s3⟩
      go_simp
      with_reducible rfl
     rotate_left
     ·simp only [Act.put, ls_, lz_, lc_, i64_w, i32_w]
      rfl
     refine pure_ (i := 7) (N := some 44) (v := ?_) (a' := ?_) #[true, true, true, true, true, true, true, true, false, false, false, false, false] rfl rfl (any_of HT_.out (by kernel_rfl)) (fun _ _ _ h => h) (Or.inl ⟨by rfl, ?_⟩) ?_ ?_
     rotate_left; (intro w'; go_simp; with_reducible rfl); rotate_left; (simp only [Act.put, ls_, lz_, lc_, i64_w, i32_w]; rfl)
     refine one_ (i := 8) (N := some 45) #[true, true, true, true, true, true, true, true, true, false, false, false, false] rfl rfl (one_of HT_.out (by kernel_rfl)) (by decide) (fun K hK => ?_)
     refine goes_ Try.func24 (by kernel_rfl) rfl #[.int .i64 (wrap64 ((wrap64 (a0_0 * (wrap64 (Int.tdiv a1_1 t211)))) + (wrap64 (a1_0 * (wrap64 (Int.tdiv a0_1 t211)))))), .int .i64 (wrap64 ((wrap64 (Int.tdiv a0_1 t211)) * a1_1))] (by rfl) rfl rfl (by (try simp only [lm_, lq_, lx_]); first | done | rfl | (simp only [ld_, lt_]; rfl)) ?_
     with_reducible refine (neumeref02_lowest.calls kj2 (wrap64 ((wrap64 (a0_0 * (wrap64 (Int.tdiv a1_1 t211)))) + (wrap64 (a1_0 * (wrap64 (Int.tdiv a0_1 t211)))))) (wrap64 ((wrap64 (Int.tdiv a0_1 t211)) * a1_1)) t212 t213 t214 _ A27.out).mono ?_
     rintro e w35 ⟨rfl, hb⟩
     refine ⟨_, rfl, ?_⟩
     have n0_ := sd_ (blk_below (g := gb206) (o := .cells #[.int .i64 a0_0, .int .i64 a0_1] 23 (0, 0)) (by (with_reducible repeat (first | refine kn_ ?_ _ | refine kd_ ?_ | refine ka_ ?_ _)); exact BK206.out) hb)
     have n1_ := sd_ (blk_below (g := gb207) (o := .cells #[.int .i64 a1_0, .int .i64 a1_1] 23 (0, 0)) (by (with_reducible repeat (first | refine kn_ ?_ _ | refine kd_ ?_ | refine ka_ ?_ _)); exact BK207.out) hb)
     have n2_ := sd_ (blk_below (g := gb208) (o := .cells #[.int .i64 0, .int .i64 0] 23 (0, 0)) (by (with_reducible repeat (first | refine kn_ ?_ _ | refine kd_ ?_ | refine ka_ ?_ _)); exact BK208.out) hb)
     have n3_ := sd_ (bt_ (by repeat first | exact HB.out | apply ba_ | apply pd_ | apply d1_ | refine bs_ ?_ GE206.out | refine bs_ ?_ GE207.out | refine bs_ ?_ GE208.out) hb)
     clear BK206
     clear BK207
     clear BK208
     clear HB
     have BK206 := n0_
     have BK207 := n1_
     have BK208 := n2_
     have HB := n3_
     clear n0_ n1_ n2_ n3_
     (try clear hb)
     (try clear hb2)
     (try clear hk)
     (try clear hi)
     refine hK.out _ _ ⟨(kc_ BK206.out 0).trans rfl, (kc_ BK206.out 1).trans rfl, (kc_ BK207.out 0).trans rfl, (kc_ BK207.out 1).trans rfl⟩ (fun hHeld => ?_)
     clear hK K
     refine norm_ (a' := ?_) ?_ ?_
     rotate_left
     ·show Act.put _ (some 45) _ = _
      simp only [Act.put, ls_, lz_, lc_, i64_w, i32_w]
      rfl
     refine pure_ (i := 9) (N := some 46) (v := ?_) (a' := ?_) #[true, true, true, true, true, true, true, true, true, true, false, false, false] rfl rfl (any_of HT_.out (by kernel_rfl)) (fun _ _ _ h => h) (Or.inl ⟨by rfl, ?_⟩) ?_ ?_
     rotate_left; (intro w'; go_simp; with_reducible rfl); rotate_left; (simp only [Act.put, ls_, lz_, lc_, i64_w, i32_w]; rfl)
     refine pure_ (i := 10) (N := some 47) (v := ?_) (a' := ?_) #[true, true, true, true, true, true, true, true, true, true, true, false, false] rfl rfl (any_of HT_.out (by kernel_rfl)) (fun _ _ _ h => h) (Or.inl ⟨by rfl, ?_⟩) ?_ ?_
     rotate_left; (intro w'; go_simp; with_reducible rfl); rotate_left; (simp only [Act.put, ls_, lz_, lc_, i64_w, i32_w]; rfl)
     refine one_ (i := 11) (N := none) #[true, true, true, true, true, true, true, true, true, true, true, true, false] rfl rfl (one_of HT_.out (by kernel_rfl)) (by decide) (fun K hK => ?_)
     have hs36 : w35.cell? ⟨gb208, 0, none⟩ = some (.int .i64 0) := (kc_ BK208.out 0).trans rfl
     have hfs36 := kf_ BK208.out 0
     have hns36_0 := NB206_208.out
     have hns36_1 := NB207_208.out
     have hms36_0 := NB208_206.out
     have hms36_1 := NB208_207.out
     have hs37 : w35.cell? ⟨gb208, 1, none⟩ = some (.int .i64 0) := (kc_ BK208.out 1).trans rfl
     have hfs37 := kf_ BK208.out 1
     have hns37_0 := NB206_208.out
     have hns37_1 := NB207_208.out
     have hms37_0 := NB208_206.out
     have hms37_1 := NB208_207.out
     refine skip_ (w1 := ?_) (by rfl) rfl ?_ ?_
     rotate_left
     ·go_simp
      rfl
     refine hK.out _ _ ⟨((cell_far (p := ⟨gb208, _, none⟩) NB206_208.out _).trans (((cell_far (p := ⟨gb208, _, none⟩) NB206_208.out _).trans (hHeld.1)))), ((cell_far (p := ⟨gb208, _, none⟩) NB206_208.out _).trans (((cell_far (p := ⟨gb208, _, none⟩) NB206_208.out _).trans (hHeld.2.1)))), ((cell_far (p := ⟨gb208, _, none⟩) NB207_208.out _).trans (((cell_far (p := ⟨gb208, _, none⟩) NB207_208.out _).trans (hHeld.2.2.1)))), ((cell_far (p := ⟨gb208, _, none⟩) NB207_208.out _).trans (((cell_far (p := ⟨gb208, _, none⟩) NB207_208.out _).trans (hHeld.2.2.2))))⟩ (fun hHeld => ?_)
     clear hK K
     refine pure_ (i := 12) (N := some 5) (v := ?_) (a' := ?_) #[true, true, true, true, true, true, true, true, true, true, true, true, true] rfl rfl (any_of HT_.out (by kernel_rfl)) (fun _ _ _ h => h) (Or.inl ⟨by rfl, ?_⟩) ?_ ?_
     rotate_left; (intro w'; go_simp; with_reducible rfl); rotate_left; (simp only [Act.put, ls_, lz_, lc_, i64_w, i32_w]; rfl)
     refine done_ (done_of HT_.out (by kernel_rfl)) ?_
     try go_wp2
     refine bodyPost_ret (results_ct rfl _ _ gb208 23 #[.int .i64 t212, .int .i64 t213] (0, 0) _ rfl (by (with_reducible repeat (first | refine kn_ ?_ _ | refine kd_ ?_ | refine ka_ ?_ _)); refine blk_put (cs := #[.int .i64 t212, .int .i64 0]) ?_ 1 _ rfl; (with_reducible repeat (first | refine kn_ ?_ _ | refine kd_ ?_ | refine ka_ ?_ _)); refine blk_put (cs := #[.int .i64 0, .int .i64 0]) ?_ 0 _ rfl; (with_reducible repeat (first | refine kn_ ?_ _ | refine kd_ ?_ | refine ka_ ?_ _)); exact BK208.out) Try.underlying23 rfl (by kernel_rfl)) rfl ?_
     exact ⟨by first | rfl | (simp [errW_none, errW_some] <;> rfl) | (simp [*, errW_none, errW_some] <;> rfl), by repeat first | exact HB.out | apply ba_ | apply pd_ | apply d1_ | refine bs_ ?_ GE206.out | refine bs_ ?_ GE207.out | refine bs_ ?_ GE208.out⟩

end Go.Proofs.Ytcbeibmoblgaeaa.P
