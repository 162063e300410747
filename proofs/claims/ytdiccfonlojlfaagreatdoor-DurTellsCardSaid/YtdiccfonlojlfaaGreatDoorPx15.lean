-- Written by a program of this session (wip/tools/xprint.py, over the kit's print): Lean checks it.
import Derived.Test.YtdiccfonlojlfaaGreatDoorPx0
import Derived.Test.YtdiccfonlojlfaaGreatDoorPx10
import Derived.Test.YtdiccfonlojlfaaGreatDoorPx11
import Derived.Test.YtdiccfonlojlfaaGreatDoorPx12
namespace Go.Proofs.YtdiccfonlojlfaaGreatDoor.P
open Go.RowKit Go.Proofs.YtdiccfonlojlfaaGreatDoorW.PrintWords Go.Proofs.YtdiccfonlojlfaaGreatDoorW.PrintLast Go.Proofs.YtdiccfonlojlfaaGreatDoorW.PrintMore
attribute [local go_sem] max2_int min2_int max_two min_two max_three min_three max_four min_four   -- for this text's walks alone
set_option linter.unusedVariables false
set_option linter.unusedSimpArgs false

/-! ### neumeref02_Add: function 71 -/
def neumeref02_Add.j0 : Nat → Bool → Int → Int → Int → Int → Option (Int × Int × Int)
 | 0, _, _, _, _, _ => none
 | k + 1, x15, x394000, x394001, x395000, x395001 => if x15 = true then (some (0, 0, 2)) else ((neumeref02_gcd.f k x394001 x395001).bind fun t398 => (if t398 = 0 then (none) else ((neumeref02_lowest.f k (wrap64 ((wrap64 (x394000 * (wrap64 (Int.tdiv x395001 t398)))) + (wrap64 (x395000 * (wrap64 (Int.tdiv x394001 t398)))))) (wrap64 ((wrap64 (Int.tdiv x394001 t398)) * x395001))).bind fun bt399 => (some (bt399.1, bt399.2.1, bt399.2.2)))))
def neumeref02_Add.f (k : Nat) (a0_0 : Int) (a0_1 : Int) (a1_0 : Int) (a1_1 : Int) : Option (Int × Int × Int) := (neumeref02_Check.f k a0_0 a0_1).bind fun t396 => (if t396 = true then ((neumeref02_Check.f k a1_0 a1_1).bind fun t397 => (neumeref02_Add.j0 k (!t397) a0_0 a0_1 a1_0 a1_1)) else (neumeref02_Add.j0 k true a0_0 a0_1 a1_0 a1_1))
theorem neumeref02_Add.mono_l : ∀ k, (∀ y0 y1 y2 y3 y4, LeO (neumeref02_Add.j0 k y0 y1 y2 y3 y4) (neumeref02_Add.j0 (k + 1) y0 y1 y2 y3 y4))
 | 0 => fun _ _ _ _ _ r h => by simp [neumeref02_Add.j0] at h
 | k + 1 => by
  have ih0 := neumeref02_Add.mono_l k
  ·intro y0 y1 y2 y3 y4
   unfold neumeref02_Add.j0
   repeat' first
   | (with_reducible exact ih0 _ _ _ _ _)
   | (with_reducible exact neumeref02_Check.mono _ _ _)
   | (with_reducible exact neumeref02_gcd.mono _ _ _)
   | (with_reducible exact neumeref02_lowest.mono _ _ _)
   | (with_reducible exact LeO.refl _)
   | (with_reducible exact LeO.none _)
   | (with_reducible refine LeO.ite ?_ ?_)
   | (with_reducible refine LeO.bind ?_ (fun _ => ?_))
   | exact ih0 _ _ _ _ _
   | exact neumeref02_Check.mono _ _ _
   | exact neumeref02_gcd.mono _ _ _
   | exact neumeref02_lowest.mono _ _ _
   | exact LeO.none _
   | refine LeO.ite ?_ ?_
   | refine LeO.bind ?_ (fun _ => ?_)
theorem neumeref02_Add.mono : ∀ a0 a1 a2 a3 k, LeO (neumeref02_Add.f k a0 a1 a2 a3) (neumeref02_Add.f (k + 1) a0 a1 a2 a3) := by
 intro a0 a1 a2 a3 k
 have ih0 := neumeref02_Add.mono_l k
 unfold neumeref02_Add.f
 repeat' first
   | (with_reducible exact ih0 _ _ _ _ _)
   | (with_reducible exact neumeref02_Check.mono _ _ _)
   | (with_reducible exact neumeref02_gcd.mono _ _ _)
   | (with_reducible exact neumeref02_lowest.mono _ _ _)
   | (with_reducible exact LeO.refl _)
   | (with_reducible exact LeO.none _)
   | (with_reducible refine LeO.ite ?_ ?_)
   | (with_reducible refine LeO.bind ?_ (fun _ => ?_))
   | exact ih0 _ _ _ _ _
   | exact neumeref02_Check.mono _ _ _
   | exact neumeref02_gcd.mono _ _ _
   | exact neumeref02_lowest.mono _ _ _
   | exact LeO.none _
   | refine LeO.ite ?_ ?_
   | refine LeO.bind ?_ (fun _ => ?_)
def neumeref02_Add.T4 : Bool × List (List Nat × List Nat) := (true, [([], []), ([0], [0]), ([], []), ([2], [2]), ([], []), ([3, 4], [3, 4]), ([1, 5], [1, 5]), ([], []), ([7], [7]), ([], []), ([9], [9]), ([], []), ([10, 11], [10, 11]), ([8, 12], [8, 12]), ([6, 13], [6, 13]), ([14, 0, 1, 2, 3, 4, 5, 6, 7, 8, 9, 10, 11, 12, 13, 14], [14])])
def neumeref02_Add.B4 : List Nat := [0, 1, 0, 4, 0, 28, 63, 0, 128, 0, 512, 0, 3584, 8064, 16383, 32767]
theorem neumeref02_Add.tab4 : rtab .any (opsOf Tryz.f71 4) = neumeref02_Add.T4 := by kernel_rfl
theorem neumeref02_Add.bits4 : waitsOk neumeref02_Add.T4.2 neumeref02_Add.B4 = true := by kernel_rfl
def neumeref02_Add.T5 : Bool × List (List Nat × List Nat) := (true, [([], []), ([], []), ([1], [1]), ([], []), ([2, 3], [2, 3]), ([], []), ([5], [5]), ([4, 6], [4, 6]), ([0, 7], [0, 7]), ([8], [8]), ([8], [8]), ([9, 8, 0, 1, 2, 3, 4, 5, 6, 7, 8, 9, 10], [9]), ([10, 11, 0, 1, 2, 3, 4, 5, 6, 7, 8, 9, 10, 11], [10])])
def neumeref02_Add.B5 : List Nat := [0, 0, 2, 0, 14, 0, 32, 126, 255, 511, 511, 2047, 4095]
theorem neumeref02_Add.tab5 : rtab .any (opsOf Tryz.f71 5) = neumeref02_Add.T5 := by kernel_rfl
theorem neumeref02_Add.bits5 : waitsOk neumeref02_Add.T5.2 neumeref02_Add.B5 = true := by kernel_rfl
set_option maxHeartbeats 8000000 in
set_option maxRecDepth 100000 in
theorem neumeref02_Add.calls (k : Nat) (a0_0 : Int) (a0_1 : Int) (a1_0 : Int) (a1_1 : Int) (r1 : Int) (r2 : Int) (r3 : Int) (w : World) (h : neumeref02_Add.f k a0_0 a0_1 a1_0 a1_1 = some (r1, r2, r3)) :
  Calls Tryz.prog 71 #[.agg #[.int .i64 a0_0, .int .i64 a0_1], .agg #[.int .i64 a1_0, .int .i64 a1_1]] w fun e w' => e = .returned (.tuple #[.agg #[.int .i64 r1, .int .i64 r2], .int .i64 r3]) ∧ Below w.heap.size w w' := by
 have hu25 := Tryz.underlying25
 have HB := sd_ (Below.refl w.heap.size w)
 have H : ((neumeref02_Check.f k a0_0 a0_1).bind fun t396 => (if t396 = true then ((neumeref02_Check.f k a1_0 a1_1).bind fun t397 => (neumeref02_Add.j0 k (!t397) a0_0 a0_1 a1_0 a1_1)) else (neumeref02_Add.j0 k true a0_0 a0_1 a1_0 a1_1))) = some (r1, r2, r3) := h
 clear h
 have HC3 := sd_ H
 clear H
 go_enter Tryz.func71, Tryz.ntmps71
 go_upto_region 1 with (first | ((with_reducible refine gate_dst (N := 2) rfl ?_); refine box_event ?hg (N := 2) ?hd (cs := #[.int .i64 a0_0, .int .i64 a0_1]) (t := 25) ?hr ?_; (case hd => rfl); (case hg => rfl); (case hr => first | (go_simp; done) | (go_simp; rfl)); intro gb393 hg w4 hbox hb; have BK393 := sd_ hbox; have GW393 := gw_ HB e0_ hg; have GE393 := GW393; replace HB := hb_ HB e0_ hb; clear hb hbox hg) | ((with_reducible refine gate_dst (N := 3) rfl ?_); refine box_event ?hg (N := 3) ?hd (cs := #[.int .i64 a1_0, .int .i64 a1_1]) (t := 25) ?hr ?_; (case hd => rfl); (case hg => rfl); (case hr => first | (go_simp; done) | (go_simp; rfl)); intro gb394 hg w5 hbox hb; have BK394 := sd_ hbox; have GW394 := gw_ HB (e_ GE393 e0_) hg; have GE394 := GW394; have NB393_394 := nb_ BK393 hg; have NB394_393 := sy_ NB393_394; replace BK393 := kb_ BK393 hb; replace HB := hb_ HB (e_ GE393 e0_) hb; clear hb hbox hg) | ((with_reducible refine gate_dst (N := 4) rfl ?_); refine box_event ?hg (N := 4) ?hd (cs := #[.int .i64 0, .int .i64 0]) (t := 25) ?hr ?_; (case hd => rfl); (case hg => rfl); (case hr => first | (go_simp; done) | (go_simp; rfl)); intro gb395 hg w6 hbox hb; have BK395 := sd_ hbox; have GW395 := gw_ HB (e_ GE393 (e_ GE394 e0_)) hg; have GE395 := GW395; have NB393_395 := nb_ BK393 hg; have NB395_393 := sy_ NB393_395; have NB394_395 := nb_ BK394 hg; have NB395_394 := sy_ NB394_395; replace BK393 := kb_ BK393 hb; replace BK394 := kb_ BK394 hb; replace HB := hb_ HB (e_ GE393 (e_ GE394 e0_)) hb; clear hb hbox hg))
 (try simp only [Act.put, ls_, lz_, lc_])
 go_cut [15] (fun v15 wc => ∃ (kq : Nat) (x15_2 : Bool), v15 = .bool x15_2 ∧ Aside0 (neumeref02_Add.j0 kq x15_2 a0_0 a0_1 a1_0 a1_1 = some (r1, r2, r3)) ∧ Aside0 (kq ≤ k) ∧ Aside0 (wc.heap[gb393]? = some (.cells #[.int .i64 a0_0, .int .i64 a0_1] 25 (0, 0))) ∧ Aside0 (wc.heap[gb394]? = some (.cells #[.int .i64 a1_0, .int .i64 a1_1] 25 (0, 0))) ∧ Aside0 (wc.heap[gb395]? = some (.cells #[.int .i64 0, .int .i64 0] 25 (0, 0))) ∧ Aside0 (Below w.heap.size w wc))
 case first =>
  have H := HC3.out
  clear HC3
  replace H := ob_ H
  obtain ⟨t396, A70, H⟩ := H
  replace H : (if t396 = true then ((neumeref02_Check.f k a1_0 a1_1).bind fun t397 => (neumeref02_Add.j0 k (!t397) a0_0 a0_1 a1_0 a1_1)) else (neumeref02_Add.j0 k true a0_0 a0_1 a1_0 a1_1)) = some (r1, r2, r3) := H
  have A7 := sd_ A70
  clear A70
  by_cases c8 : t396 = true
  ·subst c8
   have H1 : ((neumeref02_Check.f k a1_0 a1_1).bind fun t397 => (neumeref02_Add.j0 k (!t397) a0_0 a0_1 a1_0 a1_1)) = some (r1, r2, r3) := by rw [if_pos rfl] at H; exact H
   clear H; have H := H1; clear H1
   replace H := ob_ H
   obtain ⟨t397, A90, H⟩ := H
   replace H : (neumeref02_Add.j0 k (!t397) a0_0 a0_1 a1_0 a1_1) = some (r1, r2, r3) := H
   have A9 := sd_ A90
   clear A90
   have H' := sd_ H
   clear H
   have hnb10 := NB393_394.out
   have hnc10 := NB394_393.out
   have hnb11 := NB393_395.out
   have hnc11 := NB395_393.out
   have hcz12_0 : w6.cell? ⟨gb393, 0, none⟩ = some (.int .i64 a0_0) := (kc_ BK393.out 0).trans rfl
   have hcz12_1 : w6.cell? ⟨gb393, 1, none⟩ = some (.int .i64 a0_1) := (kc_ BK393.out 1).trans rfl
   have hfz12_0 := kf_ BK393.out 0
   have hfz12_1 := kf_ BK393.out 1
   go_wp2_with (first | ((with_reducible refine gate_callee (f := 47) rfl ?_); refine goesL_ (some 9) rfl rfl Tryz.func47 (by kernel_rfl) rfl #[.agg #[.int .i64 a0_0, .int .i64 a0_1]] rfl (by (try simp only [lm_, lq_, lx_]); first | done | rfl | (simp only [ld_, lt_]; rfl)) ?_; (with_reducible refine (neumeref02_Check.calls k a0_0 a0_1 true _ A7.out).mono ?_); rintro e w13 ⟨rfl, hb⟩; refine ⟨_, rfl, ?_⟩; replace BK393 := kb_ BK393 hb; replace BK394 := kb_ BK394 hb; replace BK395 := kb_ BK395 hb; replace HB := hb_ HB (e_ GE393 (e_ GE394 (e_ GE395 e0_))) hb; (try clear hb); (try clear hb2); (try clear hk); (try clear hi); have hnb14 := NB394_395.out; have hnc14 := NB395_394.out; have hcz15_0 : w13.cell? ⟨gb394, 0, none⟩ = some (.int .i64 a1_0) := (kc_ BK394.out 0).trans rfl; have hcz15_1 : w13.cell? ⟨gb394, 1, none⟩ = some (.int .i64 a1_1) := (kc_ BK394.out 1).trans rfl; have hfz15_0 := kf_ BK394.out 0; have hfz15_1 := kf_ BK394.out 1) | (go_at_call 47; (with_reducible refine (neumeref02_Check.calls k a1_0 a1_1 t397 _ A9.out).mono ?_); rintro e w16 ⟨rfl, hb⟩; replace BK393 := kb_ BK393 hb; replace BK394 := kb_ BK394 hb; replace BK395 := kb_ BK395 hb; replace HB := hb_ HB (e_ GE393 (e_ GE394 (e_ GE395 e0_))) hb; (try clear hb); (try clear hb2); (try clear hk); (try clear hi)))
   go_meet
   case rel => exact ⟨_, (!t397), (by first | rfl | (simp; done) | (simp [*]; done) | (simp [bne]; done)), H', ⟨by first | omega | exact Nat.le_refl _⟩, ⟨by (with_reducible repeat first | apply kn_ | apply kd_ | apply ka_); exact BK393.out⟩, ⟨by (with_reducible repeat first | apply kn_ | apply kd_ | apply ka_); exact BK394.out⟩, ⟨by (with_reducible repeat first | apply kn_ | apply kd_ | apply ka_); exact BK395.out⟩, ⟨by repeat (first | (with_reducible first | exact HB.out | apply ba_ | apply pd_ | apply d1_ | refine bs_ ?_ GE393.out | refine bs_ ?_ GE394.out | refine bs_ ?_ GE395.out) | exact HB.out)⟩⟩
  ·replace c8 := bf_ c8
   subst c8
   have H1 : (neumeref02_Add.j0 k true a0_0 a0_1 a1_0 a1_1) = some (r1, r2, r3) := by rw [if_neg (show ¬ (false = true) by decide)] at H; exact H
   clear H; have H := H1; clear H1
   have H' := sd_ H
   clear H
   have hnb17 := NB393_394.out
   have hnc17 := NB394_393.out
   have hnb18 := NB393_395.out
   have hnc18 := NB395_393.out
   have hcz19_0 : w6.cell? ⟨gb393, 0, none⟩ = some (.int .i64 a0_0) := (kc_ BK393.out 0).trans rfl
   have hcz19_1 : w6.cell? ⟨gb393, 1, none⟩ = some (.int .i64 a0_1) := (kc_ BK393.out 1).trans rfl
   have hfz19_0 := kf_ BK393.out 0
   have hfz19_1 := kf_ BK393.out 1
   go_wp2_with (first | ((with_reducible refine gate_callee (f := 47) rfl ?_); refine goesL_ (some 9) rfl rfl Tryz.func47 (by kernel_rfl) rfl #[.agg #[.int .i64 a0_0, .int .i64 a0_1]] rfl (by (try simp only [lm_, lq_, lx_]); first | done | rfl | (simp only [ld_, lt_]; rfl)) ?_; (with_reducible refine (neumeref02_Check.calls k a0_0 a0_1 false _ A7.out).mono ?_); rintro e w20 ⟨rfl, hb⟩; refine ⟨_, rfl, ?_⟩; replace BK393 := kb_ BK393 hb; replace BK394 := kb_ BK394 hb; replace BK395 := kb_ BK395 hb; replace HB := hb_ HB (e_ GE393 (e_ GE394 (e_ GE395 e0_))) hb; (try clear hb); (try clear hb2); (try clear hk); (try clear hi)))
   go_meet
   case rel => exact ⟨_, (true), (by first | rfl | (simp; done) | (simp [*]; done) | (simp [bne]; done)), H', ⟨by first | omega | exact Nat.le_refl _⟩, ⟨by (with_reducible repeat first | apply kn_ | apply kd_ | apply ka_); exact BK393.out⟩, ⟨by (with_reducible repeat first | apply kn_ | apply kd_ | apply ka_); exact BK394.out⟩, ⟨by (with_reducible repeat first | apply kn_ | apply kd_ | apply ka_); exact BK395.out⟩, ⟨by repeat (first | (with_reducible first | exact HB.out | apply ba_ | apply pd_ | apply d1_ | refine bs_ ?_ GE393.out | refine bs_ ?_ GE394.out | refine bs_ ?_ GE395.out) | exact HB.out)⟩⟩
 case rest =>
  clear HC3
  try clear c1; try clear p2; try clear c4; try clear c7; try clear c8; try clear c10; try clear c11; try clear c14; try clear c17; try clear c18; try clear hcz12_0; try clear hcz12_1; try clear hcz15_0; try clear hcz15_1; try clear hcz19_0; try clear hcz19_1; try clear hfz12_0; try clear hfz12_1; try clear hfz15_0; try clear hfz15_1; try clear hfz19_0; try clear hfz19_1
  obtain ⟨kq, x15_2, rfl, HA, HJ2, BK393, BK394, BK395, HB⟩ := hcut
  cases kq with
  | zero => exact absurd HA.out (by simp [neumeref02_Add.j0])
  | succ kj2 =>
   have H := HA.out
   clear HA
   simp only [neumeref02_Add.j0] at H
   by_cases c21 : x15_2 = true
   ·subst c21
    have H1 : (some (0, 0, 2)) = some (r1, r2, r3) := by rw [if_pos rfl] at H; exact H
    clear H; have H := H1; clear H1
    simp only [Option.some.injEq, Prod.mk.injEq] at H
    obtain ⟨rfl, rfl, rfl⟩ := H
    have hnb22 := NB395_393.out
    have hnc22 := NB393_395.out
    have hnb23 := NB395_394.out
    have hnc23 := NB394_395.out
    have hcz24_0 : wc.cell? ⟨gb395, 0, none⟩ = some (.int .i64 0) := (kc_ BK395.out 0).trans rfl
    have hcz24_1 : wc.cell? ⟨gb395, 1, none⟩ = some (.int .i64 0) := (kc_ BK395.out 1).trans rfl
    have hfz24_0 := kf_ BK395.out 0
    have hfz24_1 := kf_ BK395.out 1
    go_wp2
    refine bodyPost_ret (results_ct rfl _ _ gb395 25 #[.int .i64 0, .int .i64 0] (0, 0) _ rfl (by (with_reducible repeat first | apply kn_ | apply kd_ | apply ka_); refine blk_put (cs := #[.int .i64 0, .int .i64 0]) ?_ 1 _ rfl; (with_reducible repeat first | apply kn_ | apply kd_ | apply ka_); refine blk_put (cs := #[.int .i64 0, .int .i64 0]) ?_ 0 _ rfl; (with_reducible repeat first | apply kn_ | apply kd_ | apply ka_); exact BK395.out) Tryz.underlying25 rfl (by kernel_rfl)) rfl ?_
    exact ⟨by first | rfl | (simp [errW_none, errW_some] <;> rfl) | (simp [*, errW_none, errW_some] <;> rfl), by repeat (first | (with_reducible first | exact HB.out | apply ba_ | apply pd_ | apply d1_ | refine bs_ ?_ GE393.out | refine bs_ ?_ GE394.out | refine bs_ ?_ GE395.out) | exact HB.out)⟩
   ·replace c21 := bf_ c21
    subst c21
    have H1 : ((neumeref02_gcd.f kj2 a0_1 a1_1).bind fun t398 => (if t398 = 0 then (none) else ((neumeref02_lowest.f kj2 (wrap64 ((wrap64 (a0_0 * (wrap64 (Int.tdiv a1_1 t398)))) + (wrap64 (a1_0 * (wrap64 (Int.tdiv a0_1 t398)))))) (wrap64 ((wrap64 (Int.tdiv a0_1 t398)) * a1_1))).bind fun bt399 => (some (bt399.1, bt399.2.1, bt399.2.2))))) = some (r1, r2, r3) := by rw [if_neg (show ¬ (false = true) by decide)] at H; exact H
    clear H; have H := H1; clear H1
    replace H := ob_ H
    obtain ⟨t398, A250, H⟩ := H
    replace H : (if t398 = 0 then (none) else ((neumeref02_lowest.f kj2 (wrap64 ((wrap64 (a0_0 * (wrap64 (Int.tdiv a1_1 t398)))) + (wrap64 (a1_0 * (wrap64 (Int.tdiv a0_1 t398)))))) (wrap64 ((wrap64 (Int.tdiv a0_1 t398)) * a1_1))).bind fun bt399 => (some (bt399.1, bt399.2.1, bt399.2.2)))) = some (r1, r2, r3) := H
    have A25 := sd_ A250
    clear A250
    by_cases c26 : t398 = 0
    ·rw [if_pos c26] at H
     exact absurd H (by simp)
    ·rw [if_neg c26] at H
     have c26b0 : (t398 == 0) = false := beq_eq_false_iff_ne.mpr c26
     have c26b1 : (t398 != 0) = true := bne_iff_ne.mpr c26
     replace H := ob_ H
     obtain ⟨⟨t399, t400, t401⟩, A270, H⟩ := H
     replace H : (some (t399, t400, t401)) = some (r1, r2, r3) := H
     have A27 := sd_ A270
     clear A270
     simp only [Option.some.injEq, Prod.mk.injEq] at H
     obtain ⟨rfl, rfl, rfl⟩ := H
     have hnb28 := NB393_394.out
     have hnc28 := NB394_393.out
     have hnb29 := NB393_395.out
     have hnc29 := NB395_393.out
     have hcz30_0 : wc.cell? ⟨gb393, 0, none⟩ = some (.int .i64 a0_0) := (kc_ BK393.out 0).trans rfl
     have hcz30_1 : wc.cell? ⟨gb393, 1, none⟩ = some (.int .i64 a0_1) := (kc_ BK393.out 1).trans rfl
     have hfz30_0 := kf_ BK393.out 0
     have hfz30_1 := kf_ BK393.out 1
     have hnb31 := NB394_395.out
     have hnc31 := NB395_394.out
     have hcz32_0 : wc.cell? ⟨gb394, 0, none⟩ = some (.int .i64 a1_0) := (kc_ BK394.out 0).trans rfl
     have hcz32_1 : wc.cell? ⟨gb394, 1, none⟩ = some (.int .i64 a1_1) := (kc_ BK394.out 1).trans rfl
     have hfz32_0 := kf_ BK394.out 0
     have hfz32_1 := kf_ BK394.out 1
     try go_wp2_with (first | ((with_reducible refine gate_callee (f := 69) rfl ?_); refine goesL_ (some 21) rfl rfl Tryz.func69 (by kernel_rfl) rfl #[.int .i64 a0_1, .int .i64 a1_1] rfl (by (try simp only [lm_, lq_, lx_]); first | done | rfl | (simp only [ld_, lt_]; rfl)) ?_; (with_reducible refine (neumeref02_gcd.calls kj2 a0_1 a1_1 t398 _ A25.out).mono ?_); rintro e w' ⟨rfl, ⟨nd, rfl⟩⟩; refine ⟨_, rfl, ?_⟩; (repeat (rw [drewN_self wc]; generalize hq_ : World.drewN wc _ = wc; have n0_ : Aside0 (wc.heap[gb393]? = some (.cells #[.int .i64 a0_0, .int .i64 a0_1] 25 (0, 0))) := ⟨by rw [← hq_]; exact (kk_ BK393.out)⟩; have n1_ : Aside0 (wc.heap[gb394]? = some (.cells #[.int .i64 a1_0, .int .i64 a1_1] 25 (0, 0))) := ⟨by rw [← hq_]; exact (kk_ BK394.out)⟩; have n2_ : Aside0 (wc.heap[gb395]? = some (.cells #[.int .i64 0, .int .i64 0] 25 (0, 0))) := ⟨by rw [← hq_]; exact (kk_ BK395.out)⟩; have n3_ : Aside0 (Below w.heap.size w wc) := ⟨by rw [← hq_]; exact (bb_ HB.out (e_ GE393 (e_ GE394 (e_ GE395 e0_))))⟩; clear BK393 BK394 BK395 HB hq_; have BK393 := n0_; have BK394 := n1_; have BK395 := n2_; have HB := n3_; clear n0_ n1_ n2_ n3_))))
     replace BK393 := sd_ (kd_ BK393.out)
     replace BK394 := sd_ (kd_ BK394.out)
     replace BK395 := sd_ (kd_ BK395.out)
     replace HB := sd_ (d1_ HB.out)
     refine start_ (n := 16) (S := fun w' => w'.cell? ⟨gb393, 0, none⟩ = some (.int .i64 a0_0) ∧ w'.cell? ⟨gb393, 1, none⟩ = some (.int .i64 a0_1) ∧ w'.cell? ⟨gb394, 0, none⟩ = some (.int .i64 a1_0) ∧ w'.cell? ⟨gb394, 1, none⟩ = some (.int .i64 a1_1)) (ds := []) (Array.replicate 16 false) (by kernel_rfl) rfl rfl ⟨(kc_ BK393.out 0).trans rfl, (kc_ BK393.out 1).trans rfl, (kc_ BK394.out 0).trans rfl, (kc_ BK394.out 1).trans rfl⟩ (fun hHeld => ?_); refine with_tabW neumeref02_Add.tab4 neumeref02_Add.bits4 (fun HT_ HW_ => ?_)
     generalize wc.drew = w33 at BK393 BK394 BK395 HB hHeld ⊢
     refine pu_ (v := ?_) (a' := ?_) 0 22 (bz 16 1) rfl rfl HT_ (by kernel_rfl) (fun _ _ _ h => h) (by rfl) ?_ ?_ ?_
     rotate_left; (intro w'; go_simp; with_reducible rfl); rotate_left; (simp only [Act.put, ls_, lz_, lc_, i64_w, i32_w]; rfl)
     refine pu_ (v := ?_) (a' := ?_) 2 24 (bz 16 5) rfl rfl HT_ (by kernel_rfl) (fun _ _ _ h => h) (by rfl) ?_ ?_ ?_
     rotate_left; (intro w'; go_simp; with_reducible rfl); rotate_left; (simp only [Act.put, ls_, lz_, lc_, i64_w, i32_w]; rfl)
     refine pu_ (v := ?_) (a' := ?_) 4 26 (bz 16 21) rfl rfl HT_ (by kernel_rfl) (fun _ _ _ h => h) (by rfl) ?_ ?_ ?_
     rotate_left; (intro w'; go_simp; with_reducible rfl); rotate_left; (simp only [Act.put, ls_, lz_, lc_, i64_w, i32_w]; rfl)
     refine pu_ (v := ?_) (a' := ?_) 7 29 (bz 16 149) rfl rfl HT_ (by kernel_rfl) (fun _ _ _ h => h) (by rfl) ?_ ?_ ?_
     rotate_left; (intro w'; go_simp; with_reducible rfl); rotate_left; (simp only [Act.put, ls_, lz_, lc_, i64_w, i32_w]; rfl)
     refine pu_ (v := ?_) (a' := ?_) 9 31 (bz 16 661) rfl rfl HT_ (by kernel_rfl) (fun _ _ _ h => h) (by rfl) ?_ ?_ ?_
     rotate_left; (intro w'; go_simp; with_reducible rfl); rotate_left; (simp only [Act.put, ls_, lz_, lc_, i64_w, i32_w]; rfl)
     refine pu_ (v := ?_) (a' := ?_) 11 33 (bz 16 2709) rfl rfl HT_ (by kernel_rfl) (fun _ _ _ h => h) (by rfl) ?_ ?_ ?_
     rotate_left; (intro w'; go_simp; with_reducible rfl); rotate_left; (simp only [Act.put, ls_, lz_, lc_, i64_w, i32_w]; rfl)
     refine ta_ (v := ?_) (a' := ?_) 1 23 (bz 16 2711) rfl rfl HT_ HW_ (by kernel_rfl) (fun _ _ _ h => h) (by rfl) ?_ hHeld ?_ ?_
     rotate_left
     ·rintro w' ⟨s0, s1, s2, s3⟩
      go_simp
      with_reducible rfl
     rotate_left
     ·simp only [Act.put, ls_, lz_, lc_, i64_w, i32_w]
      rfl
     refine ta_ (v := ?_) (a' := ?_) 3 25 (bz 16 2719) rfl rfl HT_ HW_ (by kernel_rfl) (fun _ _ _ h => h) (by rfl) ?_ hHeld ?_ ?_
     rotate_left
     ·rintro w' ⟨s0, s1, s2, s3⟩
      go_simp
      with_reducible rfl
     rotate_left
     ·simp only [Act.put, ls_, lz_, lc_, i64_w, i32_w]
      rfl
     refine pu_ (v := ?_) (a' := ?_) 5 27 (bz 16 2751) rfl rfl HT_ (by kernel_rfl) (fun _ _ _ h => h) (by rfl) ?_ ?_ ?_
     rotate_left; (intro w'; go_simp; with_reducible rfl); rotate_left; (simp only [Act.put, ls_, lz_, lc_, i64_w, i32_w]; rfl)
     refine pu_ (v := ?_) (a' := ?_) 6 28 (bz 16 2815) rfl rfl HT_ (by kernel_rfl) (fun _ _ _ h => h) (by rfl) ?_ ?_ ?_
     rotate_left; (intro w'; go_simp; with_reducible rfl); rotate_left; (simp only [Act.put, ls_, lz_, lc_, i64_w, i32_w]; rfl)
     refine ta_ (v := ?_) (a' := ?_) 8 30 (bz 16 3071) rfl rfl HT_ HW_ (by kernel_rfl) (fun _ _ _ h => h) (by rfl) ?_ hHeld ?_ ?_
     rotate_left
     ·rintro w' ⟨s0, s1, s2, s3⟩
      go_simp
      with_reducible rfl
     rotate_left
     ·simp only [Act.put, ls_, lz_, lc_, i64_w, i32_w]
      rfl
     refine ta_ (v := ?_) (a' := ?_) 10 32 (bz 16 4095) rfl rfl HT_ HW_ (by kernel_rfl) (fun _ _ _ h => h) (by rfl) ?_ hHeld ?_ ?_
     rotate_left
     ·rintro w' ⟨s0, s1, s2, s3⟩
      go_simp
      with_reducible rfl
     rotate_left
     ·simp only [Act.put, ls_, lz_, lc_, i64_w, i32_w]
      rfl
     refine pu_ (v := ?_) (a' := ?_) 12 34 (bz 16 8191) rfl rfl HT_ (by kernel_rfl) (fun _ _ _ h => h) (by rfl) ?_ ?_ ?_
     rotate_left; (intro w'; go_simp; with_reducible rfl); rotate_left; (simp only [Act.put, ls_, lz_, lc_, i64_w, i32_w]; rfl)
     refine pu_ (v := ?_) (a' := ?_) 13 35 (bz 16 16383) rfl rfl HT_ (by kernel_rfl) (fun _ _ _ h => h) (by rfl) ?_ ?_ ?_
     rotate_left; (intro w'; go_simp; with_reducible rfl); rotate_left; (simp only [Act.put, ls_, lz_, lc_, i64_w, i32_w]; rfl)
     refine pu_ (v := ?_) (a' := ?_) 14 36 (bz 16 32767) rfl rfl HT_ (by kernel_rfl) (fun _ _ _ h => h) (by rfl) ?_ ?_ ?_
     rotate_left; (intro w'; go_simp; with_reducible rfl); rotate_left; (simp only [Act.put, ls_, lz_, lc_, i64_w, i32_w]; rfl)
     refine pu_ (v := ?_) (a' := ?_) 15 7 (bz 16 65535) rfl rfl HT_ (by kernel_rfl) (fun _ _ _ h => h) (by rfl) ?_ ?_ ?_
     rotate_left; (intro w'; go_simp; with_reducible rfl); rotate_left; (simp only [Act.put, ls_, lz_, lc_, i64_w, i32_w]; rfl)
     refine done_ (done_of HT_.out (by kernel_rfl)) ?_
     try go_wp2
     replace BK393 := sd_ (kd_ BK393.out)
     replace BK394 := sd_ (kd_ BK394.out)
     replace BK395 := sd_ (kd_ BK395.out)
     replace HB := sd_ (d1_ HB.out)
     refine start_ (n := 13) (S := fun w' => w'.cell? ⟨gb393, 0, none⟩ = some (.int .i64 a0_0) ∧ w'.cell? ⟨gb393, 1, none⟩ = some (.int .i64 a0_1) ∧ w'.cell? ⟨gb394, 0, none⟩ = some (.int .i64 a1_0) ∧ w'.cell? ⟨gb394, 1, none⟩ = some (.int .i64 a1_1)) (ds := []) (Array.replicate 13 false) (by kernel_rfl) rfl rfl ⟨(kc_ BK393.out 0).trans rfl, (kc_ BK393.out 1).trans rfl, (kc_ BK394.out 0).trans rfl, (kc_ BK394.out 1).trans rfl⟩ (fun hHeld => ?_); refine with_tabW neumeref02_Add.tab5 neumeref02_Add.bits5 (fun HT_ HW_ => ?_)
     generalize w33.drew = w34 at BK393 BK394 BK395 HB hHeld ⊢
     refine pu_ (v := ?_) (a' := ?_) 0 37 (bz 13 1) rfl rfl HT_ (by kernel_rfl) (fun _ _ _ h => h) (by rfl) ?_ ?_ ?_
     rotate_left; (intro w'; go_simp; with_reducible rfl); rotate_left; (simp only [Act.put, ls_, lz_, lc_, i64_w, i32_w]; rfl)
     refine pu_ (v := ?_) (a' := ?_) 1 38 (bz 13 3) rfl rfl HT_ (by kernel_rfl) (fun _ _ _ h => h) (by rfl) ?_ ?_ ?_
     rotate_left; (intro w'; go_simp; with_reducible rfl); rotate_left; (simp only [Act.put, ls_, lz_, lc_, i64_w, i32_w]; rfl)
     refine pu_ (v := ?_) (a' := ?_) 3 40 (bz 13 11) rfl rfl HT_ (by kernel_rfl) (fun _ _ _ h => h) (by rfl) ?_ ?_ ?_
     rotate_left; (intro w'; go_simp; with_reducible rfl); rotate_left; (simp only [Act.put, ls_, lz_, lc_, i64_w, i32_w]; rfl)
     refine pu_ (v := ?_) (a' := ?_) 5 42 (bz 13 43) rfl rfl HT_ (by kernel_rfl) (fun _ _ _ h => h) (by rfl) ?_ ?_ ?_
     rotate_left; (intro w'; go_simp; with_reducible rfl); rotate_left; (simp only [Act.put, ls_, lz_, lc_, i64_w, i32_w]; rfl)
     refine ta_ (v := ?_) (a' := ?_) 2 39 (bz 13 47) rfl rfl HT_ HW_ (by kernel_rfl) (fun _ _ _ h => h) (by rfl) ?_ hHeld ?_ ?_
     rotate_left
     ·rintro w' ⟨s0, s1, s2, s3⟩
      go_simp
      with_reducible rfl
     rotate_left
     ·simp only [Act.put, ls_, lz_, lc_, i64_w, i32_w]
      rfl
     refine pu_ (v := ?_) (a' := ?_) 4 41 (bz 13 63) rfl rfl HT_ (by kernel_rfl) (fun _ _ _ h => h) (by rfl) ?_ ?_ ?_
     rotate_left; (intro w'; go_simp; with_reducible rfl); rotate_left; (simp only [Act.put, ls_, lz_, lc_, i64_w, i32_w]; rfl)
     refine ta_ (v := ?_) (a' := ?_) 6 43 (bz 13 127) rfl rfl HT_ HW_ (by kernel_rfl) (fun _ _ _ h => h) (by rfl) ?_ hHeld ?_ ?_
     rotate_left
     ·rintro w' ⟨s0, s1, s2, s3⟩
      go_simp
      with_reducible rfl
     rotate_left
     ·simp only [Act.put, ls_, lz_, lc_, i64_w, i32_w]
      rfl
     refine pu_ (v := ?_) (a' := ?_) 7 44 (bz 13 255) rfl rfl HT_ (by kernel_rfl) (fun _ _ _ h => h) (by rfl) ?_ ?_ ?_
     rotate_left; (intro w'; go_simp; with_reducible rfl); rotate_left; (simp only [Act.put, ls_, lz_, lc_, i64_w, i32_w]; rfl)
     refine on_ (N := some 45) 8 (bz 13 511) rfl rfl HT_ (by kernel_rfl) (by decide) (fun K hK => ?_)
     refine goes_ Tryz.func59 (by kernel_rfl) rfl #[.int .i64 (wrap64 ((wrap64 (a0_0 * (wrap64 (Int.tdiv a1_1 t398)))) + (wrap64 (a1_0 * (wrap64 (Int.tdiv a0_1 t398)))))), .int .i64 (wrap64 ((wrap64 (Int.tdiv a0_1 t398)) * a1_1))] (by rfl) rfl rfl (by (try simp only [lm_, lq_, lx_]); first | done | rfl | (simp only [ld_, lt_]; rfl)) ?_
     with_reducible refine (neumeref02_lowest.calls kj2 (wrap64 ((wrap64 (a0_0 * (wrap64 (Int.tdiv a1_1 t398)))) + (wrap64 (a1_0 * (wrap64 (Int.tdiv a0_1 t398)))))) (wrap64 ((wrap64 (Int.tdiv a0_1 t398)) * a1_1)) t399 t400 t401 _ A27.out).mono ?_
     rintro e w35 ⟨rfl, hb⟩
     refine ⟨_, rfl, ?_⟩
     replace BK393 := kb_ BK393 hb
     replace BK394 := kb_ BK394 hb
     replace BK395 := kb_ BK395 hb
     replace HB := hb_ HB (e_ GE393 (e_ GE394 (e_ GE395 e0_))) hb
     (try clear hb)
     (try clear hb2)
     (try clear hk)
     (try clear hi)
     refine hK.out _ _ ⟨(kc_ BK393.out 0).trans rfl, (kc_ BK393.out 1).trans rfl, (kc_ BK394.out 0).trans rfl, (kc_ BK394.out 1).trans rfl⟩ (fun hHeld => ?_)
     clear hK K
     refine norm_ (a' := ?_) ?_ ?_
     rotate_left
     ·show Act.put _ (some 45) _ = _
      simp only [Act.put, ls_, lz_, lc_, i64_w, i32_w]
      rfl
     refine pu_ (v := ?_) (a' := ?_) 9 46 (bz 13 1023) rfl rfl HT_ (by kernel_rfl) (fun _ _ _ h => h) (by rfl) ?_ ?_ ?_
     rotate_left; (intro w'; go_simp; with_reducible rfl); rotate_left; (simp only [Act.put, ls_, lz_, lc_, i64_w, i32_w]; rfl)
     refine pu_ (v := ?_) (a' := ?_) 10 47 (bz 13 2047) rfl rfl HT_ (by kernel_rfl) (fun _ _ _ h => h) (by rfl) ?_ ?_ ?_
     rotate_left; (intro w'; go_simp; with_reducible rfl); rotate_left; (simp only [Act.put, ls_, lz_, lc_, i64_w, i32_w]; rfl)
     refine on_ (N := none) 11 (bz 13 4095) rfl rfl HT_ (by kernel_rfl) (by decide) (fun K hK => ?_)
     have hs36 : w35.cell? ⟨gb395, 0, none⟩ = some (.int .i64 0) := (kc_ BK395.out 0).trans rfl
     have hfs36 := kf_ BK395.out 0
     have hns36_0 := NB393_395.out
     have hns36_1 := NB394_395.out
     have hms36_0 := NB395_393.out
     have hms36_1 := NB395_394.out
     have hs37 : w35.cell? ⟨gb395, 1, none⟩ = some (.int .i64 0) := (kc_ BK395.out 1).trans rfl
     have hfs37 := kf_ BK395.out 1
     have hns37_0 := NB393_395.out
     have hns37_1 := NB394_395.out
     have hms37_0 := NB395_393.out
     have hms37_1 := NB395_394.out
     refine skip_ (w1 := ?_) (by rfl) rfl ?_ ?_
     rotate_left
     ·go_simp
      rfl
     refine hK.out _ _ ⟨((cell_far (p := ⟨gb395, _, none⟩) NB393_395.out _).trans (((cell_far (p := ⟨gb395, _, none⟩) NB393_395.out _).trans (hHeld.1)))), ((cell_far (p := ⟨gb395, _, none⟩) NB393_395.out _).trans (((cell_far (p := ⟨gb395, _, none⟩) NB393_395.out _).trans (hHeld.2.1)))), ((cell_far (p := ⟨gb395, _, none⟩) NB394_395.out _).trans (((cell_far (p := ⟨gb395, _, none⟩) NB394_395.out _).trans (hHeld.2.2.1)))), ((cell_far (p := ⟨gb395, _, none⟩) NB394_395.out _).trans (((cell_far (p := ⟨gb395, _, none⟩) NB394_395.out _).trans (hHeld.2.2.2))))⟩ (fun hHeld => ?_)
     clear hK K
     refine pu_ (v := ?_) (a' := ?_) 12 5 (bz 13 8191) rfl rfl HT_ (by kernel_rfl) (fun _ _ _ h => h) (by rfl) ?_ ?_ ?_
     rotate_left; (intro w'; go_simp; with_reducible rfl); rotate_left; (simp only [Act.put, ls_, lz_, lc_, i64_w, i32_w]; rfl)
     refine done_ (done_of HT_.out (by kernel_rfl)) ?_
     try go_wp2
     refine bodyPost_ret (results_ct rfl _ _ gb395 25 #[.int .i64 t399, .int .i64 t400] (0, 0) _ rfl (by (with_reducible repeat first | apply kn_ | apply kd_ | apply ka_); refine blk_put (cs := #[.int .i64 t399, .int .i64 0]) ?_ 1 _ rfl; (with_reducible repeat first | apply kn_ | apply kd_ | apply ka_); refine blk_put (cs := #[.int .i64 0, .int .i64 0]) ?_ 0 _ rfl; (with_reducible repeat first | apply kn_ | apply kd_ | apply ka_); exact BK395.out) Tryz.underlying25 rfl (by kernel_rfl)) rfl ?_
     exact ⟨by first | rfl | (simp [errW_none, errW_some] <;> rfl) | (simp [*, errW_none, errW_some] <;> rfl), by repeat (first | (with_reducible first | exact HB.out | apply ba_ | apply pd_ | apply d1_ | refine bs_ ?_ GE393.out | refine bs_ ?_ GE394.out | refine bs_ ?_ GE395.out) | exact HB.out)⟩

/-! ### neumeref02_Sub: function 49 -/
def neumeref02_Sub.f (k : Nat) (a0_0 : Int) (a0_1 : Int) (a1_0 : Int) (a1_1 : Int) : Option (Int × Int × Int) := (neumeref02_Check.f k a1_0 a1_1).bind fun t405 => (if t405 = true then ((neumeref02_Add.f k a0_0 a0_1 (wrap64 (-a1_0)) a1_1).bind fun bt406 => (some (bt406.1, bt406.2.1, bt406.2.2))) else (some (0, 0, 2)))
theorem neumeref02_Sub.mono : ∀ a0 a1 a2 a3 k, LeO (neumeref02_Sub.f k a0 a1 a2 a3) (neumeref02_Sub.f (k + 1) a0 a1 a2 a3) := by
 intro a0 a1 a2 a3 k
 unfold neumeref02_Sub.f
 repeat' first
   | (with_reducible exact neumeref02_Add.mono _ _ _ _ _)
   | (with_reducible exact neumeref02_Check.mono _ _ _)
   | (with_reducible exact LeO.refl _)
   | (with_reducible exact LeO.none _)
   | (with_reducible refine LeO.ite ?_ ?_)
   | (with_reducible refine LeO.bind ?_ (fun _ => ?_))
   | exact neumeref02_Add.mono _ _ _ _ _
   | exact neumeref02_Check.mono _ _ _
   | exact LeO.none _
   | refine LeO.ite ?_ ?_
   | refine LeO.bind ?_ (fun _ => ?_)
set_option maxHeartbeats 8000000 in
set_option maxRecDepth 100000 in
theorem neumeref02_Sub.calls (k : Nat) (a0_0 : Int) (a0_1 : Int) (a1_0 : Int) (a1_1 : Int) (r1 : Int) (r2 : Int) (r3 : Int) (w : World) (h : neumeref02_Sub.f k a0_0 a0_1 a1_0 a1_1 = some (r1, r2, r3)) :
  Calls Tryz.prog 49 #[.agg #[.int .i64 a0_0, .int .i64 a0_1], .agg #[.int .i64 a1_0, .int .i64 a1_1]] w fun e w' => e = .returned (.tuple #[.agg #[.int .i64 r1, .int .i64 r2], .int .i64 r3]) ∧ Below w.heap.size w w' := by
 have hu25 := Tryz.underlying25
 have HB := sd_ (Below.refl w.heap.size w)
 have H : ((neumeref02_Check.f k a1_0 a1_1).bind fun t405 => (if t405 = true then ((neumeref02_Add.f k a0_0 a0_1 (wrap64 (-a1_0)) a1_1).bind fun bt406 => (some (bt406.1, bt406.2.1, bt406.2.2))) else (some (0, 0, 2)))) = some (r1, r2, r3) := h
 clear h
 replace H := ob_ H
 obtain ⟨t405, A30, H⟩ := H
 replace H : (if t405 = true then ((neumeref02_Add.f k a0_0 a0_1 (wrap64 (-a1_0)) a1_1).bind fun bt406 => (some (bt406.1, bt406.2.1, bt406.2.2))) else (some (0, 0, 2))) = some (r1, r2, r3) := H
 have A3 := sd_ A30
 clear A30
 by_cases c4 : t405 = true
 ·subst c4
  have H1 : ((neumeref02_Add.f k a0_0 a0_1 (wrap64 (-a1_0)) a1_1).bind fun bt406 => (some (bt406.1, bt406.2.1, bt406.2.2))) = some (r1, r2, r3) := by rw [if_pos rfl] at H; exact H
  clear H; have H := H1; clear H1
  replace H := ob_ H
  obtain ⟨⟨t406, t407, t408⟩, A50, H⟩ := H
  replace H : (some (t406, t407, t408)) = some (r1, r2, r3) := H
  have A5 := sd_ A50
  clear A50
  simp only [Option.some.injEq, Prod.mk.injEq] at H
  obtain ⟨rfl, rfl, rfl⟩ := H
  go_enter Tryz.func49, Tryz.ntmps49
  go_wp2_with (first | ((with_reducible refine gate_dst (N := 2) rfl ?_); refine box_event ?hg (N := 2) ?hd (cs := #[.int .i64 a0_0, .int .i64 a0_1]) (t := 25) ?hr ?_; (case hd => rfl); (case hg => rfl); (case hr => first | (go_simp; done) | (go_simp; rfl)); intro gb402 hg w6 hbox hb; have BK402 := sd_ hbox; have GW402 := gw_ HB e0_ hg; have GE402 := GW402; replace HB := hb_ HB e0_ hb; clear hb hbox hg) | ((with_reducible refine gate_dst (N := 3) rfl ?_); refine box_event ?hg (N := 3) ?hd (cs := #[.int .i64 a1_0, .int .i64 a1_1]) (t := 25) ?hr ?_; (case hd => rfl); (case hg => rfl); (case hr => first | (go_simp; done) | (go_simp; rfl)); intro gb403 hg w7 hbox hb; have BK403 := sd_ hbox; have GW403 := gw_ HB (e_ GE402 e0_) hg; have GE403 := GW403; have NB402_403 := nb_ BK402 hg; have NB403_402 := sy_ NB402_403; replace BK402 := kb_ BK402 hb; replace HB := hb_ HB (e_ GE402 e0_) hb; clear hb hbox hg) | ((with_reducible refine gate_dst (N := 4) rfl ?_); refine box_event ?hg (N := 4) ?hd (cs := #[.int .i64 0, .int .i64 0]) (t := 25) ?hr ?_; (case hd => rfl); (case hg => rfl); (case hr => first | (go_simp; done) | (go_simp; rfl)); intro gb404 hg w8 hbox hb; have BK404 := sd_ hbox; have GW404 := gw_ HB (e_ GE402 (e_ GE403 e0_)) hg; have GE404 := GW404; have NB402_404 := nb_ BK402 hg; have NB404_402 := sy_ NB402_404; have NB403_404 := nb_ BK403 hg; have NB404_403 := sy_ NB403_404; replace BK402 := kb_ BK402 hb; replace BK403 := kb_ BK403 hb; replace HB := hb_ HB (e_ GE402 (e_ GE403 e0_)) hb; clear hb hbox hg; have hnb9 := NB403_402.out; have hnc9 := NB402_403.out; have hnb10 := NB403_404.out; have hnc10 := NB404_403.out; have hcz11_0 : w8.cell? ⟨gb403, 0, none⟩ = some (.int .i64 a1_0) := (kc_ BK403.out 0).trans rfl; have hcz11_1 : w8.cell? ⟨gb403, 1, none⟩ = some (.int .i64 a1_1) := (kc_ BK403.out 1).trans rfl; have hfz11_0 := kf_ BK403.out 0; have hfz11_1 := kf_ BK403.out 1) | ((with_reducible refine gate_callee (f := 47) rfl ?_); refine goesL_ (some 7) rfl rfl Tryz.func47 (by kernel_rfl) rfl #[.agg #[.int .i64 a1_0, .int .i64 a1_1]] rfl (by (try simp only [lm_, lq_, lx_]); first | done | rfl | (simp only [ld_, lt_]; rfl)) ?_; (with_reducible refine (neumeref02_Check.calls k a1_0 a1_1 true _ A3.out).mono ?_); rintro e w12 ⟨rfl, hb⟩; refine ⟨_, rfl, ?_⟩; replace BK402 := kb_ BK402 hb; replace BK403 := kb_ BK403 hb; replace BK404 := kb_ BK404 hb; replace HB := hb_ HB (e_ GE402 (e_ GE403 (e_ GE404 e0_))) hb; (try clear hb); (try clear hb2); (try clear hk); (try clear hi); have hnb13 := NB402_404.out; have hnc13 := NB404_402.out; have hcz14_0 : w12.cell? ⟨gb402, 0, none⟩ = some (.int .i64 a0_0) := (kc_ BK402.out 0).trans rfl; have hcz14_1 : w12.cell? ⟨gb402, 1, none⟩ = some (.int .i64 a0_1) := (kc_ BK402.out 1).trans rfl; have hfz14_0 := kf_ BK402.out 0; have hfz14_1 := kf_ BK402.out 1; have hcz15_0 : w12.cell? ⟨gb403, 0, none⟩ = some (.int .i64 a1_0) := (kc_ BK403.out 0).trans rfl; have hcz15_1 : w12.cell? ⟨gb403, 1, none⟩ = some (.int .i64 a1_1) := (kc_ BK403.out 1).trans rfl; have hfz15_0 := kf_ BK403.out 0; have hfz15_1 := kf_ BK403.out 1) | ((with_reducible refine gate_callee (f := 71) rfl ?_); refine goesL_ (some 17) rfl rfl Tryz.func71 (by kernel_rfl) rfl #[.agg #[.int .i64 a0_0, .int .i64 a0_1], .agg #[.int .i64 (wrap64 (-a1_0)), .int .i64 a1_1]] rfl (by (try simp only [lm_, lq_, lx_]); first | done | rfl | (simp only [ld_, lt_]; rfl)) ?_; (with_reducible refine (neumeref02_Add.calls k a0_0 a0_1 (wrap64 (-a1_0)) a1_1 t406 t407 t408 _ A5.out).mono ?_); rintro e w16 ⟨rfl, hb⟩; refine ⟨_, rfl, ?_⟩; replace BK402 := kb_ BK402 hb; replace BK403 := kb_ BK403 hb; replace BK404 := kb_ BK404 hb; replace HB := hb_ HB (e_ GE402 (e_ GE403 (e_ GE404 e0_))) hb; (try clear hb); (try clear hb2); (try clear hk); (try clear hi); have hcz17_0 : w16.cell? ⟨gb404, 0, none⟩ = some (.int .i64 0) := (kc_ BK404.out 0).trans rfl; have hcz17_1 : w16.cell? ⟨gb404, 1, none⟩ = some (.int .i64 0) := (kc_ BK404.out 1).trans rfl; have hfz17_0 := kf_ BK404.out 0; have hfz17_1 := kf_ BK404.out 1))
  refine bodyPost_ret (results_ct rfl _ _ gb404 25 #[.int .i64 t406, .int .i64 t407] (0, 0) _ rfl (by (with_reducible repeat first | apply kn_ | apply kd_ | apply ka_); refine blk_put (cs := #[.int .i64 t406, .int .i64 0]) ?_ 1 _ rfl; (with_reducible repeat first | apply kn_ | apply kd_ | apply ka_); refine blk_put (cs := #[.int .i64 0, .int .i64 0]) ?_ 0 _ rfl; (with_reducible repeat first | apply kn_ | apply kd_ | apply ka_); exact BK404.out) Tryz.underlying25 rfl (by kernel_rfl)) rfl ?_
  exact ⟨by first | rfl | (simp [errW_none, errW_some] <;> rfl) | (simp [*, errW_none, errW_some] <;> rfl), by repeat (first | (with_reducible first | exact HB.out | apply ba_ | apply pd_ | apply d1_ | refine bs_ ?_ GE402.out | refine bs_ ?_ GE403.out | refine bs_ ?_ GE404.out) | exact HB.out)⟩
 ·replace c4 := bf_ c4
  subst c4
  have H1 : (some (0, 0, 2)) = some (r1, r2, r3) := by rw [if_neg (show ¬ (false = true) by decide)] at H; exact H
  clear H; have H := H1; clear H1
  simp only [Option.some.injEq, Prod.mk.injEq] at H
  obtain ⟨rfl, rfl, rfl⟩ := H
  go_enter Tryz.func49, Tryz.ntmps49
  go_wp2_with (first | ((with_reducible refine gate_dst (N := 2) rfl ?_); refine box_event ?hg (N := 2) ?hd (cs := #[.int .i64 a0_0, .int .i64 a0_1]) (t := 25) ?hr ?_; (case hd => rfl); (case hg => rfl); (case hr => first | (go_simp; done) | (go_simp; rfl)); intro gb402 hg w18 hbox hb; have BK402 := sd_ hbox; have GW402 := gw_ HB e0_ hg; have GE402 := GW402; replace HB := hb_ HB e0_ hb; clear hb hbox hg) | ((with_reducible refine gate_dst (N := 3) rfl ?_); refine box_event ?hg (N := 3) ?hd (cs := #[.int .i64 a1_0, .int .i64 a1_1]) (t := 25) ?hr ?_; (case hd => rfl); (case hg => rfl); (case hr => first | (go_simp; done) | (go_simp; rfl)); intro gb403 hg w19 hbox hb; have BK403 := sd_ hbox; have GW403 := gw_ HB (e_ GE402 e0_) hg; have GE403 := GW403; have NB402_403 := nb_ BK402 hg; have NB403_402 := sy_ NB402_403; replace BK402 := kb_ BK402 hb; replace HB := hb_ HB (e_ GE402 e0_) hb; clear hb hbox hg) | ((with_reducible refine gate_dst (N := 4) rfl ?_); refine box_event ?hg (N := 4) ?hd (cs := #[.int .i64 0, .int .i64 0]) (t := 25) ?hr ?_; (case hd => rfl); (case hg => rfl); (case hr => first | (go_simp; done) | (go_simp; rfl)); intro gb404 hg w20 hbox hb; have BK404 := sd_ hbox; have GW404 := gw_ HB (e_ GE402 (e_ GE403 e0_)) hg; have GE404 := GW404; have NB402_404 := nb_ BK402 hg; have NB404_402 := sy_ NB402_404; have NB403_404 := nb_ BK403 hg; have NB404_403 := sy_ NB403_404; replace BK402 := kb_ BK402 hb; replace BK403 := kb_ BK403 hb; replace HB := hb_ HB (e_ GE402 (e_ GE403 e0_)) hb; clear hb hbox hg; have hnb21 := NB403_402.out; have hnc21 := NB402_403.out; have hnb22 := NB403_404.out; have hnc22 := NB404_403.out; have hcz23_0 : w20.cell? ⟨gb403, 0, none⟩ = some (.int .i64 a1_0) := (kc_ BK403.out 0).trans rfl; have hcz23_1 : w20.cell? ⟨gb403, 1, none⟩ = some (.int .i64 a1_1) := (kc_ BK403.out 1).trans rfl; have hfz23_0 := kf_ BK403.out 0; have hfz23_1 := kf_ BK403.out 1) | ((with_reducible refine gate_callee (f := 47) rfl ?_); refine goesL_ (some 7) rfl rfl Tryz.func47 (by kernel_rfl) rfl #[.agg #[.int .i64 a1_0, .int .i64 a1_1]] rfl (by (try simp only [lm_, lq_, lx_]); first | done | rfl | (simp only [ld_, lt_]; rfl)) ?_; (with_reducible refine (neumeref02_Check.calls k a1_0 a1_1 false _ A3.out).mono ?_); rintro e w24 ⟨rfl, hb⟩; refine ⟨_, rfl, ?_⟩; replace BK402 := kb_ BK402 hb; replace BK403 := kb_ BK403 hb; replace BK404 := kb_ BK404 hb; replace HB := hb_ HB (e_ GE402 (e_ GE403 (e_ GE404 e0_))) hb; (try clear hb); (try clear hb2); (try clear hk); (try clear hi); have hnb25 := NB404_402.out; have hnc25 := NB402_404.out; have hcz26_0 : w24.cell? ⟨gb404, 0, none⟩ = some (.int .i64 0) := (kc_ BK404.out 0).trans rfl; have hcz26_1 : w24.cell? ⟨gb404, 1, none⟩ = some (.int .i64 0) := (kc_ BK404.out 1).trans rfl; have hfz26_0 := kf_ BK404.out 0; have hfz26_1 := kf_ BK404.out 1))
  refine bodyPost_ret (results_ct rfl _ _ gb404 25 #[.int .i64 0, .int .i64 0] (0, 0) _ rfl (by (with_reducible repeat first | apply kn_ | apply kd_ | apply ka_); refine blk_put (cs := #[.int .i64 0, .int .i64 0]) ?_ 1 _ rfl; (with_reducible repeat first | apply kn_ | apply kd_ | apply ka_); refine blk_put (cs := #[.int .i64 0, .int .i64 0]) ?_ 0 _ rfl; (with_reducible repeat first | apply kn_ | apply kd_ | apply ka_); exact BK404.out) Tryz.underlying25 rfl (by kernel_rfl)) rfl ?_
  exact ⟨by first | rfl | (simp [errW_none, errW_some] <;> rfl) | (simp [*, errW_none, errW_some] <;> rfl), by repeat (first | (with_reducible first | exact HB.out | apply ba_ | apply pd_ | apply d1_ | refine bs_ ?_ GE402.out | refine bs_ ?_ GE403.out | refine bs_ ?_ GE404.out) | exact HB.out)⟩

end Go.Proofs.YtdiccfonlojlfaaGreatDoor.P
