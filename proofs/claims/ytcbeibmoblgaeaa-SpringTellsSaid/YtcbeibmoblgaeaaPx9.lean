-- Written by a program of this session (wip/tools/xprint.py, over the kit's print): Lean checks it.
import Derived.Test.YtcbeibmoblgaeaaPx0
import Derived.Test.YtcbeibmoblgaeaaPx6
import Derived.Test.YtcbeibmoblgaeaaPx8
namespace Go.Proofs.Ytcbeibmoblgaeaa.P
open Go.RowKit Go.Proofs.YtcbeibmoblgaeaaW.PrintWords Go.Proofs.YtcbeibmoblgaeaaW.PrintLast Go.Proofs.YtcbeibmoblgaeaaW.PrintMore
attribute [local go_sem] max2_int min2_int max_two min_two max_three min_three max_four min_four   -- for this text's walks alone
set_option linter.unusedVariables false
set_option linter.unusedSimpArgs false

/-! ### neumeref28_Ideal: function 8 -/
mutual
def neumeref28_Ideal.j0 : Nat → Bool → Int → Int → Option (Int × Int)
 | 0, _, _, _ => none
 | k + 1, x15, x200000, x200001 => if x15 = true then (some (0, 2)) else (neumeref28_Ideal.l0 k x200000 x200001 0)
def neumeref28_Ideal.l0 : Nat → Int → Int → Int → Option (Int × Int)
 | 0, _, _, _ => none
 | k + 1, x4, x5, x6 => if x4 ≥ (wrap64 (2 * x5)) then (neumeref28_Ideal.l0 k x4 (wrap64 (2 * x5)) (wrap64 (x6 + 1))) else (neumeref28_Ideal.l1 k x4 x5 x6)
def neumeref28_Ideal.l1 : Nat → Int → Int → Int → Option (Int × Int)
 | 0, _, _, _ => none
 | k + 1, x4, x5, x6 => if x4 < x5 then (neumeref28_Ideal.l1 k (wrap64 (2 * x4)) x5 (wrap64 (x6 - 1))) else (if x5 = 0 then (none) else (some (mx 600 (mn (wrap64 ((wrap64 (2458 + (wrap64 (1228 * (wrap64 (x6 + 3)))))) + (wrap64 (Int.tdiv (wrap64 (1228 * (wrap64 (x4 - x5)))) x5)))) 1048576), 0)))
end
def neumeref28_Ideal.f (k : Nat) (a0_0 : Int) (a0_1 : Int) : Option (Int × Int) := (neumeref02_Check.f k a0_0 a0_1).bind fun t200 => (if t200 = true then (neumeref28_Ideal.j0 k (decide (a0_0 ≤ 0)) a0_0 a0_1) else (neumeref28_Ideal.j0 k true a0_0 a0_1))
theorem neumeref28_Ideal.mono_l : ∀ k, (∀ y0 y1 y2, LeO (neumeref28_Ideal.j0 k y0 y1 y2) (neumeref28_Ideal.j0 (k + 1) y0 y1 y2)) ∧ (∀ y0 y1 y2, LeO (neumeref28_Ideal.l0 k y0 y1 y2) (neumeref28_Ideal.l0 (k + 1) y0 y1 y2)) ∧ (∀ y0 y1 y2, LeO (neumeref28_Ideal.l1 k y0 y1 y2) (neumeref28_Ideal.l1 (k + 1) y0 y1 y2))
 | 0 => ⟨fun _ _ _ r h => by simp [neumeref28_Ideal.j0] at h, fun _ _ _ r h => by simp [neumeref28_Ideal.l0] at h, fun _ _ _ r h => by simp [neumeref28_Ideal.l1] at h⟩
 | k + 1 => by
  obtain ⟨ih0, ih1, ih2⟩ := neumeref28_Ideal.mono_l k
  refine ⟨?_, ?_, ?_⟩
  ·intro y0 y1 y2
   unfold neumeref28_Ideal.j0
   repeat' first
   | (with_reducible exact ih0 _ _ _)
   | (with_reducible exact ih1 _ _ _)
   | (with_reducible exact ih2 _ _ _)
   | (with_reducible exact neumeref02_Check.mono _ _ _)
   | (with_reducible exact LeO.refl _)
   | (with_reducible exact LeO.none _)
   | (with_reducible refine LeO.ite ?_ ?_)
   | (with_reducible refine LeO.bind ?_ (fun _ => ?_))
   | exact ih0 _ _ _
   | exact ih1 _ _ _
   | exact ih2 _ _ _
   | exact neumeref02_Check.mono _ _ _
   | exact LeO.none _
   | refine LeO.ite ?_ ?_
   | refine LeO.bind ?_ (fun _ => ?_)
  ·intro y0 y1 y2
   unfold neumeref28_Ideal.l0
   repeat' first
   | (with_reducible exact ih0 _ _ _)
   | (with_reducible exact ih1 _ _ _)
   | (with_reducible exact ih2 _ _ _)
   | (with_reducible exact neumeref02_Check.mono _ _ _)
   | (with_reducible exact LeO.refl _)
   | (with_reducible exact LeO.none _)
   | (with_reducible refine LeO.ite ?_ ?_)
   | (with_reducible refine LeO.bind ?_ (fun _ => ?_))
   | exact ih0 _ _ _
   | exact ih1 _ _ _
   | exact ih2 _ _ _
   | exact neumeref02_Check.mono _ _ _
   | exact LeO.none _
   | refine LeO.ite ?_ ?_
   | refine LeO.bind ?_ (fun _ => ?_)
  ·intro y0 y1 y2
   unfold neumeref28_Ideal.l1
   repeat' first
   | (with_reducible exact ih0 _ _ _)
   | (with_reducible exact ih1 _ _ _)
   | (with_reducible exact ih2 _ _ _)
   | (with_reducible exact neumeref02_Check.mono _ _ _)
   | (with_reducible exact LeO.refl _)
   | (with_reducible exact LeO.none _)
   | (with_reducible refine LeO.ite ?_ ?_)
   | (with_reducible refine LeO.bind ?_ (fun _ => ?_))
   | exact ih0 _ _ _
   | exact ih1 _ _ _
   | exact ih2 _ _ _
   | exact neumeref02_Check.mono _ _ _
   | exact LeO.none _
   | refine LeO.ite ?_ ?_
   | refine LeO.bind ?_ (fun _ => ?_)
theorem neumeref28_Ideal.mono : ∀ a0 a1 k, LeO (neumeref28_Ideal.f k a0 a1) (neumeref28_Ideal.f (k + 1) a0 a1) := by
 intro a0 a1 k
 obtain ⟨ih0, ih1, ih2⟩ := neumeref28_Ideal.mono_l k
 unfold neumeref28_Ideal.f
 repeat' first
   | (with_reducible exact ih0 _ _ _)
   | (with_reducible exact ih1 _ _ _)
   | (with_reducible exact ih2 _ _ _)
   | (with_reducible exact neumeref02_Check.mono _ _ _)
   | (with_reducible exact LeO.refl _)
   | (with_reducible exact LeO.none _)
   | (with_reducible refine LeO.ite ?_ ?_)
   | (with_reducible refine LeO.bind ?_ (fun _ => ?_))
   | exact ih0 _ _ _
   | exact ih1 _ _ _
   | exact ih2 _ _ _
   | exact neumeref02_Check.mono _ _ _
   | exact LeO.none _
   | refine LeO.ite ?_ ?_
   | refine LeO.bind ?_ (fun _ => ?_)
set_option maxHeartbeats 8000000 in
set_option maxRecDepth 100000 in
theorem neumeref28_Ideal.calls (k : Nat) (a0_0 : Int) (a0_1 : Int) (r1 : Int) (r2 : Int) (w : World) (h : neumeref28_Ideal.f k a0_0 a0_1 = some (r1, r2)) :
  Calls Try.prog 8 #[.agg #[.int .i64 a0_0, .int .i64 a0_1]] w fun e w' => e = .returned (.tuple #[.int .i64 r1, .int .i64 r2]) ∧ Below w.heap.size w w' := by
 have hu23 := Try.underlying23
 have HB := sd_ (Below.refl w.heap.size w)
 have H : ((neumeref02_Check.f k a0_0 a0_1).bind fun t200 => (if t200 = true then (neumeref28_Ideal.j0 k (decide (a0_0 ≤ 0)) a0_0 a0_1) else (neumeref28_Ideal.j0 k true a0_0 a0_1))) = some (r1, r2) := h
 clear h
 have HC2 := sd_ H
 clear H
 go_enter Try.func8, Try.ntmps8
 go_upto_region 1 with (first | ((with_reducible refine gate_dst (N := 1) rfl ?_); refine box_event ?hg (N := 1) ?hd (cs := #[.int .i64 a0_0, .int .i64 a0_1]) (t := 23) ?hr ?_; (case hd => rfl); (case hg => rfl); (case hr => first | (go_simp; done) | (go_simp; rfl)); intro gb199 hg w3 hbox hb; have n0_ := sd_ (bt_ (by repeat first | exact HB.out | apply ba_ | apply pd_ | apply d1_) hb); have n1_ := sd_ (hbox); have n2_ := sd_ ((by rw [hg]; exact (bz_ (by repeat first | exact HB.out | apply ba_ | apply pd_ | apply d1_)) : w.heap.size ≤ gb199)); have n3_ := sd_ ((by rw [hg]; exact (bz_ (by repeat first | exact HB.out | apply ba_ | apply pd_ | apply d1_)) : w.heap.size ≤ gb199)); clear HB; have HB := n0_; have BK199 := n1_; have GW199 := n2_; have GE199 := n3_; clear n0_ n1_ n2_ n3_; clear hb hbox hg))
 repeat (go_quiet (first | ((with_reducible refine gate_dst (N := 1) rfl ?_); refine box_event ?hg (N := 1) ?hd (cs := #[.int .i64 a0_0, .int .i64 a0_1]) (t := 23) ?hr ?_; (case hd => rfl); (case hg => rfl); (case hr => first | (go_simp; done) | (go_simp; rfl)); intro gb199 hg w3 hbox hb; have n0_ := sd_ (bt_ (by repeat first | exact HB.out | apply ba_ | apply pd_ | apply d1_) hb); have n1_ := sd_ (hbox); have n2_ := sd_ ((by rw [hg]; exact (bz_ (by repeat first | exact HB.out | apply ba_ | apply pd_ | apply d1_)) : w.heap.size ≤ gb199)); have n3_ := sd_ ((by rw [hg]; exact (bz_ (by repeat first | exact HB.out | apply ba_ | apply pd_ | apply d1_)) : w.heap.size ≤ gb199)); clear HB; have HB := n0_; have BK199 := n1_; have GW199 := n2_; have GE199 := n3_; clear n0_ n1_ n2_ n3_; clear hb hbox hg)); go_upto_region 1 with (first | ((with_reducible refine gate_dst (N := 1) rfl ?_); refine box_event ?hg (N := 1) ?hd (cs := #[.int .i64 a0_0, .int .i64 a0_1]) (t := 23) ?hr ?_; (case hd => rfl); (case hg => rfl); (case hr => first | (go_simp; done) | (go_simp; rfl)); intro gb199 hg w3 hbox hb; have n0_ := sd_ (bt_ (by repeat first | exact HB.out | apply ba_ | apply pd_ | apply d1_) hb); have n1_ := sd_ (hbox); have n2_ := sd_ ((by rw [hg]; exact (bz_ (by repeat first | exact HB.out | apply ba_ | apply pd_ | apply d1_)) : w.heap.size ≤ gb199)); have n3_ := sd_ ((by rw [hg]; exact (bz_ (by repeat first | exact HB.out | apply ba_ | apply pd_ | apply d1_)) : w.heap.size ≤ gb199)); clear HB; have HB := n0_; have BK199 := n1_; have GW199 := n2_; have GE199 := n3_; clear n0_ n1_ n2_ n3_; clear hb hbox hg)))
 (try simp only [Act.put, ls_, lz_, lc_])
 go_cut [15] (fun v15 wc => ∃ (kq : Nat) (x15_1 : Bool), v15 = .bool x15_1 ∧ Aside0 (neumeref28_Ideal.j0 kq x15_1 a0_0 a0_1 = some (r1, r2)) ∧ Aside0 (kq ≤ k) ∧ Aside0 (wc.heap[gb199]? = some (.cells #[.int .i64 a0_0, .int .i64 a0_1] 23 (0, 0))) ∧ Aside0 (Below w.heap.size w wc))
 case first =>
  have H := HC2.out
  clear HC2
  replace H := ob_ H
  obtain ⟨t200, A40, H⟩ := H
  replace H : (if t200 = true then (neumeref28_Ideal.j0 k (decide (a0_0 ≤ 0)) a0_0 a0_1) else (neumeref28_Ideal.j0 k true a0_0 a0_1)) = some (r1, r2) := H
  have A4 := sd_ A40
  clear A40
  by_cases c5 : t200 = true
  ·subst c5
   have H1 : (neumeref28_Ideal.j0 k (decide (a0_0 ≤ 0)) a0_0 a0_1) = some (r1, r2) := by rw [if_pos rfl] at H; exact H
   clear H; have H := H1; clear H1
   have H' := sd_ H
   clear H
   have hcz6_0 : w3.cell? ⟨gb199, 0, none⟩ = some (.int .i64 a0_0) := (kc_ BK199.out 0).trans rfl
   have hcz6_1 : w3.cell? ⟨gb199, 1, none⟩ = some (.int .i64 a0_1) := (kc_ BK199.out 1).trans rfl
   have hfz6_0 := kf_ BK199.out 0
   have hfz6_1 := kf_ BK199.out 1
   go_wp2_with (first | (go_at_call 20; (with_reducible refine (neumeref02_Check.calls k a0_0 a0_1 true _ A4.out).mono ?_); rintro e w7 ⟨rfl, hb⟩; have n0_ := sd_ (blk_below (g := gb199) (o := .cells #[.int .i64 a0_0, .int .i64 a0_1] 23 (0, 0)) (by (with_reducible repeat (first | refine kn_ ?_ _ | refine kd_ ?_ | refine ka_ ?_ _)); exact BK199.out) hb); have n1_ := sd_ (bt_ (by repeat first | exact HB.out | apply ba_ | apply pd_ | apply d1_ | refine bs_ ?_ GE199.out) hb); clear BK199; clear HB; have BK199 := n0_; have HB := n1_; clear n0_ n1_; (try clear hb); (try clear hb2); (try clear hk); (try clear hi); have hcz8_0 : w7.cell? ⟨gb199, 0, none⟩ = some (.int .i64 a0_0) := (kc_ BK199.out 0).trans rfl; have hcz8_1 : w7.cell? ⟨gb199, 1, none⟩ = some (.int .i64 a0_1) := (kc_ BK199.out 1).trans rfl; have hfz8_0 := kf_ BK199.out 0; have hfz8_1 := kf_ BK199.out 1))
   repeat (go_quiet (first | (go_at_call 20; (with_reducible refine (neumeref02_Check.calls k a0_0 a0_1 true _ A4.out).mono ?_); rintro e w7 ⟨rfl, hb⟩; have n0_ := sd_ (blk_below (g := gb199) (o := .cells #[.int .i64 a0_0, .int .i64 a0_1] 23 (0, 0)) (by (with_reducible repeat (first | refine kn_ ?_ _ | refine kd_ ?_ | refine ka_ ?_ _)); exact BK199.out) hb); have n1_ := sd_ (bt_ (by repeat first | exact HB.out | apply ba_ | apply pd_ | apply d1_ | refine bs_ ?_ GE199.out) hb); clear BK199; clear HB; have BK199 := n0_; have HB := n1_; clear n0_ n1_; (try clear hb); (try clear hb2); (try clear hk); (try clear hi); have hcz8_0 : w7.cell? ⟨gb199, 0, none⟩ = some (.int .i64 a0_0) := (kc_ BK199.out 0).trans rfl; have hcz8_1 : w7.cell? ⟨gb199, 1, none⟩ = some (.int .i64 a0_1) := (kc_ BK199.out 1).trans rfl; have hfz8_0 := kf_ BK199.out 0; have hfz8_1 := kf_ BK199.out 1)); try go_wp2_with (first | (go_at_call 20; (with_reducible refine (neumeref02_Check.calls k a0_0 a0_1 true _ A4.out).mono ?_); rintro e w7 ⟨rfl, hb⟩; have n0_ := sd_ (blk_below (g := gb199) (o := .cells #[.int .i64 a0_0, .int .i64 a0_1] 23 (0, 0)) (by (with_reducible repeat (first | refine kn_ ?_ _ | refine kd_ ?_ | refine ka_ ?_ _)); exact BK199.out) hb); have n1_ := sd_ (bt_ (by repeat first | exact HB.out | apply ba_ | apply pd_ | apply d1_ | refine bs_ ?_ GE199.out) hb); clear BK199; clear HB; have BK199 := n0_; have HB := n1_; clear n0_ n1_; (try clear hb); (try clear hb2); (try clear hk); (try clear hi); have hcz8_0 : w7.cell? ⟨gb199, 0, none⟩ = some (.int .i64 a0_0) := (kc_ BK199.out 0).trans rfl; have hcz8_1 : w7.cell? ⟨gb199, 1, none⟩ = some (.int .i64 a0_1) := (kc_ BK199.out 1).trans rfl; have hfz8_0 := kf_ BK199.out 0; have hfz8_1 := kf_ BK199.out 1)))
   go_meet
   case rel => exact ⟨_, (decide (a0_0 ≤ 0)), (by first | rfl | (simp; done) | (simp [*]; done)), H', ⟨by first | omega | exact Nat.le_refl _⟩, ⟨by (with_reducible repeat (first | refine kn_ ?_ _ | refine kd_ ?_ | refine ka_ ?_ _)); exact BK199.out⟩, ⟨by repeat first | exact HB.out | apply ba_ | apply pd_ | apply d1_ | refine bs_ ?_ GE199.out⟩⟩
  ·replace c5 := bf_ c5
   subst c5
   have H1 : (neumeref28_Ideal.j0 k true a0_0 a0_1) = some (r1, r2) := by rw [if_neg (show ¬ (false = true) by decide)] at H; exact H
   clear H; have H := H1; clear H1
   have H' := sd_ H
   clear H
   have hcz9_0 : w3.cell? ⟨gb199, 0, none⟩ = some (.int .i64 a0_0) := (kc_ BK199.out 0).trans rfl
   have hcz9_1 : w3.cell? ⟨gb199, 1, none⟩ = some (.int .i64 a0_1) := (kc_ BK199.out 1).trans rfl
   have hfz9_0 := kf_ BK199.out 0
   have hfz9_1 := kf_ BK199.out 1
   go_wp2_with (first | (go_at_call 20; (with_reducible refine (neumeref02_Check.calls k a0_0 a0_1 false _ A4.out).mono ?_); rintro e w10 ⟨rfl, hb⟩; have n0_ := sd_ (blk_below (g := gb199) (o := .cells #[.int .i64 a0_0, .int .i64 a0_1] 23 (0, 0)) (by (with_reducible repeat (first | refine kn_ ?_ _ | refine kd_ ?_ | refine ka_ ?_ _)); exact BK199.out) hb); have n1_ := sd_ (bt_ (by repeat first | exact HB.out | apply ba_ | apply pd_ | apply d1_ | refine bs_ ?_ GE199.out) hb); clear BK199; clear HB; have BK199 := n0_; have HB := n1_; clear n0_ n1_; (try clear hb); (try clear hb2); (try clear hk); (try clear hi)))
   repeat (go_quiet (first | (go_at_call 20; (with_reducible refine (neumeref02_Check.calls k a0_0 a0_1 false _ A4.out).mono ?_); rintro e w10 ⟨rfl, hb⟩; have n0_ := sd_ (blk_below (g := gb199) (o := .cells #[.int .i64 a0_0, .int .i64 a0_1] 23 (0, 0)) (by (with_reducible repeat (first | refine kn_ ?_ _ | refine kd_ ?_ | refine ka_ ?_ _)); exact BK199.out) hb); have n1_ := sd_ (bt_ (by repeat first | exact HB.out | apply ba_ | apply pd_ | apply d1_ | refine bs_ ?_ GE199.out) hb); clear BK199; clear HB; have BK199 := n0_; have HB := n1_; clear n0_ n1_; (try clear hb); (try clear hb2); (try clear hk); (try clear hi))); try go_wp2_with (first | (go_at_call 20; (with_reducible refine (neumeref02_Check.calls k a0_0 a0_1 false _ A4.out).mono ?_); rintro e w10 ⟨rfl, hb⟩; have n0_ := sd_ (blk_below (g := gb199) (o := .cells #[.int .i64 a0_0, .int .i64 a0_1] 23 (0, 0)) (by (with_reducible repeat (first | refine kn_ ?_ _ | refine kd_ ?_ | refine ka_ ?_ _)); exact BK199.out) hb); have n1_ := sd_ (bt_ (by repeat first | exact HB.out | apply ba_ | apply pd_ | apply d1_ | refine bs_ ?_ GE199.out) hb); clear BK199; clear HB; have BK199 := n0_; have HB := n1_; clear n0_ n1_; (try clear hb); (try clear hb2); (try clear hk); (try clear hi))))
   go_meet
   case rel => exact ⟨_, (true), (by first | rfl | (simp; done) | (simp [*]; done)), H', ⟨by first | omega | exact Nat.le_refl _⟩, ⟨by (with_reducible repeat (first | refine kn_ ?_ _ | refine kd_ ?_ | refine ka_ ?_ _)); exact BK199.out⟩, ⟨by repeat first | exact HB.out | apply ba_ | apply pd_ | apply d1_ | refine bs_ ?_ GE199.out⟩⟩
 case rest =>
  clear HC2
  try clear p2; try clear c5; try clear c8; try clear hcz6_0; try clear hcz6_1; try clear hcz8_0; try clear hcz8_1; try clear hcz9_0; try clear hcz9_1; try clear hfz6_0; try clear hfz6_1; try clear hfz8_0; try clear hfz8_1; try clear hfz9_0; try clear hfz9_1
  obtain ⟨kq, x15_1, rfl, HA, HJ1, BK199, HB⟩ := hcut
  cases kq with
  | zero => exact absurd HA.out (by simp [neumeref28_Ideal.j0])
  | succ kj1 =>
   have H := HA.out
   clear HA
   simp only [neumeref28_Ideal.j0] at H
   by_cases c11 : x15_1 = true
   ·subst c11
    have H1 : (some (0, 2)) = some (r1, r2) := by rw [if_pos rfl] at H; exact H
    clear H; have H := H1; clear H1
    simp only [Option.some.injEq, Prod.mk.injEq] at H
    obtain ⟨rfl, rfl⟩ := H
    go_wp2
    repeat (go_quiet (fail); try go_wp2)
    go_ret2
    exact ⟨by first | rfl | (simp [errW_none, errW_some] <;> rfl) | (simp [*, errW_none, errW_some] <;> rfl), by repeat first | exact HB.out | apply ba_ | apply pd_ | apply d1_ | refine bs_ ?_ GE199.out⟩
   ·replace c11 := bf_ c11
    subst c11
    have H1 : (neumeref28_Ideal.l0 kj1 a0_0 a0_1 0) = some (r1, r2) := by rw [if_neg (show ¬ (false = true) by decide)] at H; exact H
    clear H; have H := H1; clear H1
    have H' := sd_ H
    clear H
    have hcz12_0 : wc.cell? ⟨gb199, 0, none⟩ = some (.int .i64 a0_0) := (kc_ BK199.out 0).trans rfl
    have hcz12_1 : wc.cell? ⟨gb199, 1, none⟩ = some (.int .i64 a0_1) := (kc_ BK199.out 1).trans rfl
    have hfz12_0 := kf_ BK199.out 0
    have hfz12_1 := kf_ BK199.out 1
    go_wp2
    repeat (go_quiet (fail); try go_wp2)
    go_loopg [5, 6] kj1 (fun kq v5 v6 w' => ∃ (x5_2 : Int) (x6_2 : Int), v5 = .int .i64 x5_2 ∧ v6 = .int .i64 x6_2 ∧ Aside0 (neumeref28_Ideal.l0 kq a0_0 x5_2 x6_2 = some (r1, r2)) ∧ Aside0 (kq ≤ kj1) ∧ Aside0 (w'.heap[gb199]? = some (.cells #[.int .i64 a0_0, .int .i64 a0_1] 23 (0, 0))) ∧ Aside0 (Below w.heap.size w w'))
    case atStart => exact ⟨(a0_1), (0), (by first | rfl | (simp; done) | (simp [*]; done)), (by first | rfl | (simp; done) | (simp [*]; done)), H', ⟨Nat.le_refl _⟩, ⟨by (with_reducible repeat (first | refine kn_ ?_ _ | refine kd_ ?_ | refine ka_ ?_ _)); exact BK199.out⟩, ⟨by repeat first | exact HB.out | apply ba_ | apply pd_ | apply d1_ | refine bs_ ?_ GE199.out⟩⟩
    case round =>
     clear H'
     try clear c1; try clear p2; try clear c5; try clear c8; try clear c11; try clear hcz12_0; try clear hcz12_1; try clear hcz6_0; try clear hcz6_1; try clear hcz8_0; try clear hcz8_1; try clear hcz9_0; try clear hcz9_1; try clear hfz12_0; try clear hfz12_1; try clear hfz6_0; try clear hfz6_1; try clear hfz8_0; try clear hfz8_1; try clear hfz9_0; try clear hfz9_1; try clear p2
     obtain ⟨x5_2, x6_2, rfl, rfl, HA, HK2, BK199, HB⟩ := hrel
     cases gk with
     | zero => exact absurd HA.out (by simp [neumeref28_Ideal.l0])
     | succ k2 =>
      have H := HA.out
      clear HA
      simp only [neumeref28_Ideal.l0] at H
      by_cases c13 : a0_0 ≥ (wrap64 (2 * x5_2))
      ·rw [if_pos c13] at H
       have c13b0 : decide ((wrap64 (2 * x5_2)) ≤ a0_0) = true := dt_ c13
       clear c13
       have H' := sd_ H
       clear H
       go_wp2
       repeat (go_quiet (fail); try go_wp2)
       go_roundg k2
       case measure => have := HJ1.out; have := HK2.out; omega
       case rel => exact ⟨(wrap64 (2 * x5_2)), (wrap64 (x6_2 + 1)), (by first | rfl | (simp; done) | (simp [*]; done)), (by first | rfl | (simp; done) | (simp [*]; done)), H', ⟨by have := HJ1.out; have := HK2.out; omega⟩, ⟨by (with_reducible repeat (first | refine kn_ ?_ _ | refine kd_ ?_ | refine ka_ ?_ _)); exact BK199.out⟩, ⟨by repeat first | exact HB.out | apply ba_ | apply pd_ | apply d1_ | refine bs_ ?_ GE199.out⟩⟩
      ·rw [if_neg c13] at H
       have c13b0 : decide ((wrap64 (2 * x5_2)) ≤ a0_0) = false := df_ c13
       clear c13
       have H' := sd_ H
       clear H
       go_wp2
       repeat (go_quiet (fail); try go_wp2)
       go_loopg [4, 6] k2 (fun kq v4 v6 w' => ∃ (x4_3 : Int) (x6_3 : Int), v4 = .int .i64 x4_3 ∧ v6 = .int .i64 x6_3 ∧ Aside0 (neumeref28_Ideal.l1 kq x4_3 x5_2 x6_3 = some (r1, r2)) ∧ Aside0 (kq ≤ k2) ∧ Aside0 (w'.heap[gb199]? = some (.cells #[.int .i64 a0_0, .int .i64 a0_1] 23 (0, 0))) ∧ Aside0 (Below w.heap.size w w'))
       case atStart => exact ⟨(a0_0), (x6_2), (by first | rfl | (simp; done) | (simp [*]; done)), (by first | rfl | (simp; done) | (simp [*]; done)), H', ⟨Nat.le_refl _⟩, ⟨by (with_reducible repeat (first | refine kn_ ?_ _ | refine kd_ ?_ | refine ka_ ?_ _)); exact BK199.out⟩, ⟨by repeat first | exact HB.out | apply ba_ | apply pd_ | apply d1_ | refine bs_ ?_ GE199.out⟩⟩
       case round =>
        clear H'
        try clear c1; try clear p2; try clear c5; try clear p6; try clear c8; try clear c11; try clear c13; try clear c13b0; try clear hcz12_0; try clear hcz12_1; try clear hcz6_0; try clear hcz6_1; try clear hcz8_0; try clear hcz8_1; try clear hcz9_0; try clear hcz9_1; try clear hfz12_0; try clear hfz12_1; try clear hfz6_0; try clear hfz6_1; try clear hfz8_0; try clear hfz8_1; try clear hfz9_0; try clear hfz9_1; try clear p2
        obtain ⟨x4_3, x6_3, rfl, rfl, HA, HK3, BK199, HB⟩ := hrel
        cases gk with
        | zero => exact absurd HA.out (by simp [neumeref28_Ideal.l1])
        | succ k3 =>
         have H := HA.out
         clear HA
         simp only [neumeref28_Ideal.l1] at H
         by_cases c14 : x4_3 < x5_2
         ·rw [if_pos c14] at H
          have c14b0 : decide (x4_3 < x5_2) = true := dt_ c14
          clear c14
          have H' := sd_ H
          clear H
          go_wp2
          repeat (go_quiet (fail); try go_wp2)
          go_roundg k3
          case measure => have := HJ1.out; have := HK2.out; have := HK3.out; omega
          case rel => exact ⟨(wrap64 (2 * x4_3)), (wrap64 (x6_3 - 1)), (by first | rfl | (simp; done) | (simp [*]; done)), (by first | rfl | (simp; done) | (simp [*]; done)), H', ⟨by have := HJ1.out; have := HK2.out; have := HK3.out; omega⟩, ⟨by (with_reducible repeat (first | refine kn_ ?_ _ | refine kd_ ?_ | refine ka_ ?_ _)); exact BK199.out⟩, ⟨by repeat first | exact HB.out | apply ba_ | apply pd_ | apply d1_ | refine bs_ ?_ GE199.out⟩⟩
         ·rw [if_neg c14] at H
          have c14b0 : decide (x4_3 < x5_2) = false := df_ c14
          clear c14
          by_cases c15 : x5_2 = 0
          ·rw [if_pos c15] at H
           exact absurd H (by simp)
          ·rw [if_neg c15] at H
           have c15b0 : (x5_2 == 0) = false := beq_eq_false_iff_ne.mpr c15
           have c15b1 : (x5_2 != 0) = true := bne_iff_ne.mpr c15
           obtain ⟨ji16, hji16⟩ : ∃ j_ : Int, (mn (wrap64 ((wrap64 (2458 + (wrap64 (1228 * (wrap64 (x6_3 + 3)))))) + (wrap64 (Int.tdiv (wrap64 (1228 * (wrap64 (x4_3 - x5_2)))) x5_2)))) 1048576) = j_ := ⟨_, rfl⟩
           replace H : (some (mx 600 (ji16), 0)) = some (r1, r2) := by first | (rw [hji16] at H; exact H) | (simp only [hji16] at H ⊢; exact H)
           have hji16_ : (if 1048576 < (wrap64 ((wrap64 (2458 + (wrap64 (1228 * (wrap64 (x6_3 + 3)))))) + (wrap64 (Int.tdiv (wrap64 (1228 * (wrap64 (x4_3 - x5_2)))) x5_2)))) then 1048576 else (wrap64 ((wrap64 (2458 + (wrap64 (1228 * (wrap64 (x6_3 + 3)))))) + (wrap64 (Int.tdiv (wrap64 (1228 * (wrap64 (x4_3 - x5_2)))) x5_2))))) = ji16 := hji16
           obtain ⟨ji17, hji17⟩ : ∃ j_ : Int, (mx 600 (ji16)) = j_ := ⟨_, rfl⟩
           replace H : (some (ji17, 0)) = some (r1, r2) := by first | (rw [hji17] at H; exact H) | (simp only [hji17] at H ⊢; exact H)
           have hji17_ : (if 600 < (ji16) then (ji16) else 600) = ji17 := hji17
           simp only [Option.some.injEq, Prod.mk.injEq] at H
           obtain ⟨rfl, rfl⟩ := H
           go_wp2
           repeat (go_quiet (fail); try go_wp2)
           go_ret2
           exact ⟨by first | rfl | (simp [errW_none, errW_some] <;> rfl) | (simp only [← hji16, ← hji17]; first | rfl | (simp [errW_none, errW_some] <;> rfl)) | (simp [*, errW_none, errW_some] <;> rfl), by repeat first | exact HB.out | apply ba_ | apply pd_ | apply d1_ | refine bs_ ?_ GE199.out⟩

/-! ### neumeref02_Sub: function 22 -/
def neumeref02_Sub.f (k : Nat) (a0_0 : Int) (a0_1 : Int) (a1_0 : Int) (a1_1 : Int) : Option (Int × Int × Int) := (neumeref02_Check.f k a1_0 a1_1).bind fun t218 => (if t218 = true then ((neumeref02_Add.f k a0_0 a0_1 (wrap64 (-a1_0)) a1_1).bind fun bt219 => (some (bt219.1, bt219.2.1, bt219.2.2))) else (some (0, 0, 2)))
theorem neumeref02_Sub.mono : ∀ a0 a1 a2 a3 k, LeO (neumeref02_Sub.f k a0 a1 a2 a3) (neumeref02_Sub.f (k + 1) a0 a1 a2 a3) := by
 intro a0 a1 a2 a3 k
 unfold neumeref02_Sub.f
 repeat' first
   | (with_reducible exact neumeref02_Add.mono _ _ _ _ _)
   | (with_reducible exact neumeref02_Check.mono _ _ _)
   | (with_reducible exact LeO.refl _)
   | (with_reducible exact LeO.none _)
   | (with_reducible refine LeO.ite ?_ ?_)
   | (with_reducible refine LeO.bind ?_ (fun _ => ?_))
   | exact neumeref02_Add.mono _ _ _ _ _
   | exact neumeref02_Check.mono _ _ _
   | exact LeO.none _
   | refine LeO.ite ?_ ?_
   | refine LeO.bind ?_ (fun _ => ?_)
set_option maxHeartbeats 8000000 in
set_option maxRecDepth 100000 in
theorem neumeref02_Sub.calls (k : Nat) (a0_0 : Int) (a0_1 : Int) (a1_0 : Int) (a1_1 : Int) (r1 : Int) (r2 : Int) (r3 : Int) (w : World) (h : neumeref02_Sub.f k a0_0 a0_1 a1_0 a1_1 = some (r1, r2, r3)) :
  Calls Try.prog 22 #[.agg #[.int .i64 a0_0, .int .i64 a0_1], .agg #[.int .i64 a1_0, .int .i64 a1_1]] w fun e w' => e = .returned (.tuple #[.agg #[.int .i64 r1, .int .i64 r2], .int .i64 r3]) ∧ Below w.heap.size w w' := by
 have hu23 := Try.underlying23
 have HB := sd_ (Below.refl w.heap.size w)
 have H : ((neumeref02_Check.f k a1_0 a1_1).bind fun t218 => (if t218 = true then ((neumeref02_Add.f k a0_0 a0_1 (wrap64 (-a1_0)) a1_1).bind fun bt219 => (some (bt219.1, bt219.2.1, bt219.2.2))) else (some (0, 0, 2)))) = some (r1, r2, r3) := h
 clear h
 replace H := ob_ H
 obtain ⟨t218, A30, H⟩ := H
 replace H : (if t218 = true then ((neumeref02_Add.f k a0_0 a0_1 (wrap64 (-a1_0)) a1_1).bind fun bt219 => (some (bt219.1, bt219.2.1, bt219.2.2))) else (some (0, 0, 2))) = some (r1, r2, r3) := H
 have A3 := sd_ A30
 clear A30
 by_cases c4 : t218 = true
 ·subst c4
  have H1 : ((neumeref02_Add.f k a0_0 a0_1 (wrap64 (-a1_0)) a1_1).bind fun bt219 => (some (bt219.1, bt219.2.1, bt219.2.2))) = some (r1, r2, r3) := by rw [if_pos rfl] at H; exact H
  clear H; have H := H1; clear H1
  replace H := ob_ H
  obtain ⟨⟨t219, t220, t221⟩, A50, H⟩ := H
  replace H : (some (t219, t220, t221)) = some (r1, r2, r3) := H
  have A5 := sd_ A50
  clear A50
  simp only [Option.some.injEq, Prod.mk.injEq] at H
  obtain ⟨rfl, rfl, rfl⟩ := H
  go_enter Try.func22, Try.ntmps22
  go_wp2_with (first | ((with_reducible refine gate_dst (N := 2) rfl ?_); refine box_event ?hg (N := 2) ?hd (cs := #[.int .i64 a0_0, .int .i64 a0_1]) (t := 23) ?hr ?_; (case hd => rfl); (case hg => rfl); (case hr => first | (go_simp; done) | (go_simp; rfl)); intro gb215 hg w6 hbox hb; have n0_ := sd_ (bt_ (by repeat first | exact HB.out | apply ba_ | apply pd_ | apply d1_) hb); have n1_ := sd_ (hbox); have n2_ := sd_ ((by rw [hg]; exact (bz_ (by repeat first | exact HB.out | apply ba_ | apply pd_ | apply d1_)) : w.heap.size ≤ gb215)); have n3_ := sd_ ((by rw [hg]; exact (bz_ (by repeat first | exact HB.out | apply ba_ | apply pd_ | apply d1_)) : w.heap.size ≤ gb215)); clear HB; have HB := n0_; have BK215 := n1_; have GW215 := n2_; have GE215 := n3_; clear n0_ n1_ n2_ n3_; clear hb hbox hg) | ((with_reducible refine gate_dst (N := 3) rfl ?_); refine box_event ?hg (N := 3) ?hd (cs := #[.int .i64 a1_0, .int .i64 a1_1]) (t := 23) ?hr ?_; (case hd => rfl); (case hg => rfl); (case hr => first | (go_simp; done) | (go_simp; rfl)); intro gb216 hg w7 hbox hb; have n0_ := sd_ (blk_below (g := gb215) (o := .cells #[.int .i64 a0_0, .int .i64 a0_1] 23 (0, 0)) (by (with_reducible repeat (first | refine kn_ ?_ _ | refine kd_ ?_ | refine ka_ ?_ _)); exact BK215.out) hb); have n1_ := sd_ (bt_ (by repeat first | exact HB.out | apply ba_ | apply pd_ | apply d1_ | refine bs_ ?_ GE215.out) hb); have n2_ := sd_ (hbox); have n3_ := sd_ ((by rw [hg]; exact (bz_ (by repeat first | exact HB.out | apply ba_ | apply pd_ | apply d1_ | refine bs_ ?_ GE215.out)) : w.heap.size ≤ gb216)); have n4_ := sd_ ((by rw [hg]; exact (bz_ (by repeat first | exact HB.out | apply ba_ | apply pd_ | apply d1_ | refine bs_ ?_ GE215.out)) : w.heap.size ≤ gb216)); have n5_ := sd_ ((by rw [hg]; exact nn_ (blk_lt (g := gb215) (o := .cells #[.int .i64 a0_0, .int .i64 a0_1] 23 (0, 0)) (by (with_reducible repeat (first | refine kn_ ?_ _ | refine kd_ ?_ | refine ka_ ?_ _)); exact BK215.out)) : gb215 ≠ gb216)); have n6_ := sd_ ((by rw [hg]; exact Nat.ne_of_gt (blk_lt (g := gb215) (o := .cells #[.int .i64 a0_0, .int .i64 a0_1] 23 (0, 0)) (by (with_reducible repeat (first | refine kn_ ?_ _ | refine kd_ ?_ | refine ka_ ?_ _)); exact BK215.out)) : gb216 ≠ gb215)); clear BK215; clear HB; have BK215 := n0_; have HB := n1_; have BK216 := n2_; have GW216 := n3_; have GE216 := n4_; have NB215_216 := n5_; have NB216_215 := n6_; clear n0_ n1_ n2_ n3_ n4_ n5_ n6_; clear hb hbox hg) | ((with_reducible refine gate_dst (N := 4) rfl ?_); refine box_event ?hg (N := 4) ?hd (cs := #[.int .i64 0, .int .i64 0]) (t := 23) ?hr ?_; (case hd => rfl); (case hg => rfl); (case hr => first | (go_simp; done) | (go_simp; rfl)); intro gb217 hg w8 hbox hb; have n0_ := sd_ (blk_below (g := gb215) (o := .cells #[.int .i64 a0_0, .int .i64 a0_1] 23 (0, 0)) (by (with_reducible repeat (first | refine kn_ ?_ _ | refine kd_ ?_ | refine ka_ ?_ _)); exact BK215.out) hb); have n1_ := sd_ (blk_below (g := gb216) (o := .cells #[.int .i64 a1_0, .int .i64 a1_1] 23 (0, 0)) (by (with_reducible repeat (first | refine kn_ ?_ _ | refine kd_ ?_ | refine ka_ ?_ _)); exact BK216.out) hb); have n2_ := sd_ (bt_ (by repeat first | exact HB.out | apply ba_ | apply pd_ | apply d1_ | refine bs_ ?_ GE215.out | refine bs_ ?_ GE216.out) hb); have n3_ := sd_ (hbox); have n4_ := sd_ ((by rw [hg]; exact (bz_ (by repeat first | exact HB.out | apply ba_ | apply pd_ | apply d1_ | refine bs_ ?_ GE215.out | refine bs_ ?_ GE216.out)) : w.heap.size ≤ gb217)); have n5_ := sd_ ((by rw [hg]; exact (bz_ (by repeat first | exact HB.out | apply ba_ | apply pd_ | apply d1_ | refine bs_ ?_ GE215.out | refine bs_ ?_ GE216.out)) : w.heap.size ≤ gb217)); have n6_ := sd_ ((by rw [hg]; exact nn_ (blk_lt (g := gb215) (o := .cells #[.int .i64 a0_0, .int .i64 a0_1] 23 (0, 0)) (by (with_reducible repeat (first | refine kn_ ?_ _ | refine kd_ ?_ | refine ka_ ?_ _)); exact BK215.out)) : gb215 ≠ gb217)); have n7_ := sd_ ((by rw [hg]; exact Nat.ne_of_gt (blk_lt (g := gb215) (o := .cells #[.int .i64 a0_0, .int .i64 a0_1] 23 (0, 0)) (by (with_reducible repeat (first | refine kn_ ?_ _ | refine kd_ ?_ | refine ka_ ?_ _)); exact BK215.out)) : gb217 ≠ gb215)); have n8_ := sd_ ((by rw [hg]; exact nn_ (blk_lt (g := gb216) (o := .cells #[.int .i64 a1_0, .int .i64 a1_1] 23 (0, 0)) (by (with_reducible repeat (first | refine kn_ ?_ _ | refine kd_ ?_ | refine ka_ ?_ _)); exact BK216.out)) : gb216 ≠ gb217)); have n9_ := sd_ ((by rw [hg]; exact Nat.ne_of_gt (blk_lt (g := gb216) (o := .cells #[.int .i64 a1_0, .int .i64 a1_1] 23 (0, 0)) (by (with_reducible repeat (first | refine kn_ ?_ _ | refine kd_ ?_ | refine ka_ ?_ _)); exact BK216.out)) : gb217 ≠ gb216)); clear BK215; clear BK216; clear HB; have BK215 := n0_; have BK216 := n1_; have HB := n2_; have BK217 := n3_; have GW217 := n4_; have GE217 := n5_; have NB215_217 := n6_; have NB217_215 := n7_; have NB216_217 := n8_; have NB217_216 := n9_; clear n0_ n1_ n2_ n3_ n4_ n5_ n6_ n7_ n8_ n9_; clear hb hbox hg; have hnb9 := NB216_215.out; have hnc9 := NB215_216.out; have hnb10 := NB216_217.out; have hnc10 := NB217_216.out; have hcz11_0 : w8.cell? ⟨gb216, 0, none⟩ = some (.int .i64 a1_0) := (kc_ BK216.out 0).trans rfl; have hcz11_1 : w8.cell? ⟨gb216, 1, none⟩ = some (.int .i64 a1_1) := (kc_ BK216.out 1).trans rfl; have hfz11_0 := kf_ BK216.out 0; have hfz11_1 := kf_ BK216.out 1) | ((with_reducible refine gate_callee (f := 20) rfl ?_); refine goesL_ (some 7) rfl rfl Try.func20 (by kernel_rfl) rfl #[.agg #[.int .i64 a1_0, .int .i64 a1_1]] rfl (by (try simp only [lm_, lq_, lx_]); first | done | rfl | (simp only [ld_, lt_]; rfl)) ?_; (with_reducible refine (neumeref02_Check.calls k a1_0 a1_1 true _ A3.out).mono ?_); rintro e w12 ⟨rfl, hb⟩; refine ⟨_, rfl, ?_⟩; have n0_ := sd_ (blk_below (g := gb215) (o := .cells #[.int .i64 a0_0, .int .i64 a0_1] 23 (0, 0)) (by (with_reducible repeat (first | refine kn_ ?_ _ | refine kd_ ?_ | refine ka_ ?_ _)); exact BK215.out) hb); have n1_ := sd_ (blk_below (g := gb216) (o := .cells #[.int .i64 a1_0, .int .i64 a1_1] 23 (0, 0)) (by (with_reducible repeat (first | refine kn_ ?_ _ | refine kd_ ?_ | refine ka_ ?_ _)); exact BK216.out) hb); have n2_ := sd_ (blk_below (g := gb217) (o := .cells #[.int .i64 0, .int .i64 0] 23 (0, 0)) (by (with_reducible repeat (first | refine kn_ ?_ _ | refine kd_ ?_ | refine ka_ ?_ _)); exact BK217.out) hb); have n3_ := sd_ (bt_ (by repeat first | exact HB.out | apply ba_ | apply pd_ | apply d1_ | refine bs_ ?_ GE215.out | refine bs_ ?_ GE216.out | refine bs_ ?_ GE217.out) hb); clear BK215; clear BK216; clear BK217; clear HB; have BK215 := n0_; have BK216 := n1_; have BK217 := n2_; have HB := n3_; clear n0_ n1_ n2_ n3_; (try clear hb); (try clear hb2); (try clear hk); (try clear hi); have hnb13 := NB215_217.out; have hnc13 := NB217_215.out; have hcz14_0 : w12.cell? ⟨gb215, 0, none⟩ = some (.int .i64 a0_0) := (kc_ BK215.out 0).trans rfl; have hcz14_1 : w12.cell? ⟨gb215, 1, none⟩ = some (.int .i64 a0_1) := (kc_ BK215.out 1).trans rfl; have hfz14_0 := kf_ BK215.out 0; have hfz14_1 := kf_ BK215.out 1; have hcz15_0 : w12.cell? ⟨gb216, 0, none⟩ = some (.int .i64 a1_0) := (kc_ BK216.out 0).trans rfl; have hcz15_1 : w12.cell? ⟨gb216, 1, none⟩ = some (.int .i64 a1_1) := (kc_ BK216.out 1).trans rfl; have hfz15_0 := kf_ BK216.out 0; have hfz15_1 := kf_ BK216.out 1) | ((with_reducible refine gate_callee (f := 17) rfl ?_); refine goesL_ (some 17) rfl rfl Try.func17 (by kernel_rfl) rfl #[.agg #[.int .i64 a0_0, .int .i64 a0_1], .agg #[.int .i64 (wrap64 (-a1_0)), .int .i64 a1_1]] rfl (by (try simp only [lm_, lq_, lx_]); first | done | rfl | (simp only [ld_, lt_]; rfl)) ?_; (with_reducible refine (neumeref02_Add.calls k a0_0 a0_1 (wrap64 (-a1_0)) a1_1 t219 t220 t221 _ A5.out).mono ?_); rintro e w16 ⟨rfl, hb⟩; refine ⟨_, rfl, ?_⟩; have n0_ := sd_ (blk_below (g := gb215) (o := .cells #[.int .i64 a0_0, .int .i64 a0_1] 23 (0, 0)) (by (with_reducible repeat (first | refine kn_ ?_ _ | refine kd_ ?_ | refine ka_ ?_ _)); exact BK215.out) hb); have n1_ := sd_ (blk_below (g := gb216) (o := .cells #[.int .i64 a1_0, .int .i64 a1_1] 23 (0, 0)) (by (with_reducible repeat (first | refine kn_ ?_ _ | refine kd_ ?_ | refine ka_ ?_ _)); exact BK216.out) hb); have n2_ := sd_ (blk_below (g := gb217) (o := .cells #[.int .i64 0, .int .i64 0] 23 (0, 0)) (by (with_reducible repeat (first | refine kn_ ?_ _ | refine kd_ ?_ | refine ka_ ?_ _)); exact BK217.out) hb); have n3_ := sd_ (bt_ (by repeat first | exact HB.out | apply ba_ | apply pd_ | apply d1_ | refine bs_ ?_ GE215.out | refine bs_ ?_ GE216.out | refine bs_ ?_ GE217.out) hb); clear BK215; clear BK216; clear BK217; clear HB; have BK215 := n0_; have BK216 := n1_; have BK217 := n2_; have HB := n3_; clear n0_ n1_ n2_ n3_; (try clear hb); (try clear hb2); (try clear hk); (try clear hi); have hcz17_0 : w16.cell? ⟨gb217, 0, none⟩ = some (.int .i64 0) := (kc_ BK217.out 0).trans rfl; have hcz17_1 : w16.cell? ⟨gb217, 1, none⟩ = some (.int .i64 0) := (kc_ BK217.out 1).trans rfl; have hfz17_0 := kf_ BK217.out 0; have hfz17_1 := kf_ BK217.out 1))
  refine bodyPost_ret (results_ct rfl _ _ gb217 23 #[.int .i64 t219, .int .i64 t220] (0, 0) _ rfl (by (with_reducible repeat (first | refine kn_ ?_ _ | refine kd_ ?_ | refine ka_ ?_ _)); refine blk_put (cs := #[.int .i64 t219, .int .i64 0]) ?_ 1 _ rfl; (with_reducible repeat (first | refine kn_ ?_ _ | refine kd_ ?_ | refine ka_ ?_ _)); refine blk_put (cs := #[.int .i64 0, .int .i64 0]) ?_ 0 _ rfl; (with_reducible repeat (first | refine kn_ ?_ _ | refine kd_ ?_ | refine ka_ ?_ _)); exact BK217.out) Try.underlying23 rfl (by kernel_rfl)) rfl ?_
  exact ⟨by first | rfl | (simp [errW_none, errW_some] <;> rfl) | (simp [*, errW_none, errW_some] <;> rfl), by repeat first | exact HB.out | apply ba_ | apply pd_ | apply d1_ | refine bs_ ?_ GE215.out | refine bs_ ?_ GE216.out | refine bs_ ?_ GE217.out⟩
 ·replace c4 := bf_ c4
  subst c4
  have H1 : (some (0, 0, 2)) = some (r1, r2, r3) := by rw [if_neg (show ¬ (false = true) by decide)] at H; exact H
  clear H; have H := H1; clear H1
  simp only [Option.some.injEq, Prod.mk.injEq] at H
  obtain ⟨rfl, rfl, rfl⟩ := H
  go_enter Try.func22, Try.ntmps22
  go_wp2_with (first | ((with_reducible refine gate_dst (N := 2) rfl ?_); refine box_event ?hg (N := 2) ?hd (cs := #[.int .i64 a0_0, .int .i64 a0_1]) (t := 23) ?hr ?_; (case hd => rfl); (case hg => rfl); (case hr => first | (go_simp; done) | (go_simp; rfl)); intro gb215 hg w18 hbox hb; have n0_ := sd_ (bt_ (by repeat first | exact HB.out | apply ba_ | apply pd_ | apply d1_) hb); have n1_ := sd_ (hbox); have n2_ := sd_ ((by rw [hg]; exact (bz_ (by repeat first | exact HB.out | apply ba_ | apply pd_ | apply d1_)) : w.heap.size ≤ gb215)); have n3_ := sd_ ((by rw [hg]; exact (bz_ (by repeat first | exact HB.out | apply ba_ | apply pd_ | apply d1_)) : w.heap.size ≤ gb215)); clear HB; have HB := n0_; have BK215 := n1_; have GW215 := n2_; have GE215 := n3_; clear n0_ n1_ n2_ n3_; clear hb hbox hg) | ((with_reducible refine gate_dst (N := 3) rfl ?_); refine box_event ?hg (N := 3) ?hd (cs := #[.int .i64 a1_0, .int .i64 a1_1]) (t := 23) ?hr ?_; (case hd => rfl); (case hg => rfl); (case hr => first | (go_simp; done) | (go_simp; rfl)); intro gb216 hg w19 hbox hb; have n0_ := sd_ (blk_below (g := gb215) (o := .cells #[.int .i64 a0_0, .int .i64 a0_1] 23 (0, 0)) (by (with_reducible repeat (first | refine kn_ ?_ _ | refine kd_ ?_ | refine ka_ ?_ _)); exact BK215.out) hb); have n1_ := sd_ (bt_ (by repeat first | exact HB.out | apply ba_ | apply pd_ | apply d1_ | refine bs_ ?_ GE215.out) hb); have n2_ := sd_ (hbox); have n3_ := sd_ ((by rw [hg]; exact (bz_ (by repeat first | exact HB.out | apply ba_ | apply pd_ | apply d1_ | refine bs_ ?_ GE215.out)) : w.heap.size ≤ gb216)); have n4_ := sd_ ((by rw [hg]; exact (bz_ (by repeat first | exact HB.out | apply ba_ | apply pd_ | apply d1_ | refine bs_ ?_ GE215.out)) : w.heap.size ≤ gb216)); have n5_ := sd_ ((by rw [hg]; exact nn_ (blk_lt (g := gb215) (o := .cells #[.int .i64 a0_0, .int .i64 a0_1] 23 (0, 0)) (by (with_reducible repeat (first | refine kn_ ?_ _ | refine kd_ ?_ | refine ka_ ?_ _)); exact BK215.out)) : gb215 ≠ gb216)); have n6_ := sd_ ((by rw [hg]; exact Nat.ne_of_gt (blk_lt (g := gb215) (o := .cells #[.int .i64 a0_0, .int .i64 a0_1] 23 (0, 0)) (by (with_reducible repeat (first | refine kn_ ?_ _ | refine kd_ ?_ | refine ka_ ?_ _)); exact BK215.out)) : gb216 ≠ gb215)); clear BK215; clear HB; have BK215 := n0_; have HB := n1_; have BK216 := n2_; have GW216 := n3_; have GE216 := n4_; have NB215_216 := n5_; have NB216_215 := n6_; clear n0_ n1_ n2_ n3_ n4_ n5_ n6_; clear hb hbox hg) | ((with_reducible refine gate_dst (N := 4) rfl ?_); refine box_event ?hg (N := 4) ?hd (cs := #[.int .i64 0, .int .i64 0]) (t := 23) ?hr ?_; (case hd => rfl); (case hg => rfl); (case hr => first | (go_simp; done) | (go_simp; rfl)); intro gb217 hg w20 hbox hb; have n0_ := sd_ (blk_below (g := gb215) (o := .cells #[.int .i64 a0_0, .int .i64 a0_1] 23 (0, 0)) (by (with_reducible repeat (first | refine kn_ ?_ _ | refine kd_ ?_ | refine ka_ ?_ _)); exact BK215.out) hb); have n1_ := sd_ (blk_below (g := gb216) (o := .cells #[.int .i64 a1_0, .int .i64 a1_1] 23 (0, 0)) (by (with_reducible repeat (first | refine kn_ ?_ _ | refine kd_ ?_ | refine ka_ ?_ _)); exact BK216.out) hb); have n2_ := sd_ (bt_ (by repeat first | exact HB.out | apply ba_ | apply pd_ | apply d1_ | refine bs_ ?_ GE215.out | refine bs_ ?_ GE216.out) hb); have n3_ := sd_ (hbox); have n4_ := sd_ ((by rw [hg]; exact (bz_ (by repeat first | exact HB.out | apply ba_ | apply pd_ | apply d1_ | refine bs_ ?_ GE215.out | refine bs_ ?_ GE216.out)) : w.heap.size ≤ gb217)); have n5_ := sd_ ((by rw [hg]; exact (bz_ (by repeat first | exact HB.out | apply ba_ | apply pd_ | apply d1_ | refine bs_ ?_ GE215.out | refine bs_ ?_ GE216.out)) : w.heap.size ≤ gb217)); have n6_ := sd_ ((by rw [hg]; exact nn_ (blk_lt (g := gb215) (o := .cells #[.int .i64 a0_0, .int .i64 a0_1] 23 (0, 0)) (by (with_reducible repeat (first | refine kn_ ?_ _ | refine kd_ ?_ | refine ka_ ?_ _)); exact BK215.out)) : gb215 ≠ gb217)); have n7_ := sd_ ((by rw [hg]; exact Nat.ne_of_gt (blk_lt (g := gb215) (o := .cells #[.int .i64 a0_0, .int .i64 a0_1] 23 (0, 0)) (by (with_reducible repeat (first | refine kn_ ?_ _ | refine kd_ ?_ | refine ka_ ?_ _)); exact BK215.out)) : gb217 ≠ gb215)); have n8_ := sd_ ((by rw [hg]; exact nn_ (blk_lt (g := gb216) (o := .cells #[.int .i64 a1_0, .int .i64 a1_1] 23 (0, 0)) (by (with_reducible repeat (first | refine kn_ ?_ _ | refine kd_ ?_ | refine ka_ ?_ _)); exact BK216.out)) : gb216 ≠ gb217)); have n9_ := sd_ ((by rw [hg]; exact Nat.ne_of_gt (blk_lt (g := gb216) (o := .cells #[.int .i64 a1_0, .int .i64 a1_1] 23 (0, 0)) (by (with_reducible repeat (first | refine kn_ ?_ _ | refine kd_ ?_ | refine ka_ ?_ _)); exact BK216.out)) : gb217 ≠ gb216)); clear BK215; clear BK216; clear HB; have BK215 := n0_; have BK216 := n1_; have HB := n2_; have BK217 := n3_; have GW217 := n4_; have GE217 := n5_; have NB215_217 := n6_; have NB217_215 := n7_; have NB216_217 := n8_; have NB217_216 := n9_; clear n0_ n1_ n2_ n3_ n4_ n5_ n6_ n7_ n8_ n9_; clear hb hbox hg; have hnb21 := NB216_215.out; have hnc21 := NB215_216.out; have hnb22 := NB216_217.out; have hnc22 := NB217_216.out; have hcz23_0 : w20.cell? ⟨gb216, 0, none⟩ = some (.int .i64 a1_0) := (kc_ BK216.out 0).trans rfl; have hcz23_1 : w20.cell? ⟨gb216, 1, none⟩ = some (.int .i64 a1_1) := (kc_ BK216.out 1).trans rfl; have hfz23_0 := kf_ BK216.out 0; have hfz23_1 := kf_ BK216.out 1) | ((with_reducible refine gate_callee (f := 20) rfl ?_); refine goesL_ (some 7) rfl rfl Try.func20 (by kernel_rfl) rfl #[.agg #[.int .i64 a1_0, .int .i64 a1_1]] rfl (by (try simp only [lm_, lq_, lx_]); first | done | rfl | (simp only [ld_, lt_]; rfl)) ?_; (with_reducible refine (neumeref02_Check.calls k a1_0 a1_1 false _ A3.out).mono ?_); rintro e w24 ⟨rfl, hb⟩; refine ⟨_, rfl, ?_⟩; have n0_ := sd_ (blk_below (g := gb215) (o := .cells #[.int .i64 a0_0, .int .i64 a0_1] 23 (0, 0)) (by (with_reducible repeat (first | refine kn_ ?_ _ | refine kd_ ?_ | refine ka_ ?_ _)); exact BK215.out) hb); have n1_ := sd_ (blk_below (g := gb216) (o := .cells #[.int .i64 a1_0, .int .i64 a1_1] 23 (0, 0)) (by (with_reducible repeat (first | refine kn_ ?_ _ | refine kd_ ?_ | refine ka_ ?_ _)); exact BK216.out) hb); have n2_ := sd_ (blk_below (g := gb217) (o := .cells #[.int .i64 0, .int .i64 0] 23 (0, 0)) (by (with_reducible repeat (first | refine kn_ ?_ _ | refine kd_ ?_ | refine ka_ ?_ _)); exact BK217.out) hb); have n3_ := sd_ (bt_ (by repeat first | exact HB.out | apply ba_ | apply pd_ | apply d1_ | refine bs_ ?_ GE215.out | refine bs_ ?_ GE216.out | refine bs_ ?_ GE217.out) hb); clear BK215; clear BK216; clear BK217; clear HB; have BK215 := n0_; have BK216 := n1_; have BK217 := n2_; have HB := n3_; clear n0_ n1_ n2_ n3_; (try clear hb); (try clear hb2); (try clear hk); (try clear hi); have hnb25 := NB217_215.out; have hnc25 := NB215_217.out; have hcz26_0 : w24.cell? ⟨gb217, 0, none⟩ = some (.int .i64 0) := (kc_ BK217.out 0).trans rfl; have hcz26_1 : w24.cell? ⟨gb217, 1, none⟩ = some (.int .i64 0) := (kc_ BK217.out 1).trans rfl; have hfz26_0 := kf_ BK217.out 0; have hfz26_1 := kf_ BK217.out 1))
  refine bodyPost_ret (results_ct rfl _ _ gb217 23 #[.int .i64 0, .int .i64 0] (0, 0) _ rfl (by (with_reducible repeat (first | refine kn_ ?_ _ | refine kd_ ?_ | refine ka_ ?_ _)); refine blk_put (cs := #[.int .i64 0, .int .i64 0]) ?_ 1 _ rfl; (with_reducible repeat (first | refine kn_ ?_ _ | refine kd_ ?_ | refine ka_ ?_ _)); refine blk_put (cs := #[.int .i64 0, .int .i64 0]) ?_ 0 _ rfl; (with_reducible repeat (first | refine kn_ ?_ _ | refine kd_ ?_ | refine ka_ ?_ _)); exact BK217.out) Try.underlying23 rfl (by kernel_rfl)) rfl ?_
  exact ⟨by first | rfl | (simp [errW_none, errW_some] <;> rfl) | (simp [*, errW_none, errW_some] <;> rfl), by repeat first | exact HB.out | apply ba_ | apply pd_ | apply d1_ | refine bs_ ?_ GE215.out | refine bs_ ?_ GE216.out | refine bs_ ?_ GE217.out⟩

end Go.Proofs.Ytcbeibmoblgaeaa.P
