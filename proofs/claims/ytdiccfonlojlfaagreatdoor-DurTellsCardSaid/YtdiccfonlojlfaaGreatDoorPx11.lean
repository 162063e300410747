-- Written by a program of this session (wip/tools/xprint.py, over the kit's print): Lean checks it.
import Derived.Test.YtdiccfonlojlfaaGreatDoorPx0
import Derived.Test.YtdiccfonlojlfaaGreatDoorPx10
namespace Go.Proofs.YtdiccfonlojlfaaGreatDoor.P
open Go.RowKit Go.Proofs.YtdiccfonlojlfaaGreatDoorW.PrintWords Go.Proofs.YtdiccfonlojlfaaGreatDoorW.PrintLast Go.Proofs.YtdiccfonlojlfaaGreatDoorW.PrintMore
attribute [local go_sem] max2_int min2_int max_two min_two max_three min_three max_four min_four   -- for this text's walks alone
set_option linter.unusedVariables false
set_option linter.unusedSimpArgs false

/-! ### neumeref02_lowest: function 59 -/
def neumeref02_lowest.j0 : Nat → Int → Int → Option (Int × Int × Int)
 | 0, _, _ => none
 | k + 1, x0, x1 => (neumeref02_abs.f x0).bind fun t343 => ((neumeref02_gcd.f k t343 x1).bind fun t344 => (if t344 = 0 then (none) else ((neumeref02_abs.f (wrap64 (Int.tdiv x0 t344))).bind fun t346 => (if t346 > 1099511627776 then (some (0, 0, 3)) else (if (wrap64 (Int.tdiv x1 t344)) > 1048576 then (some (0, 0, 3)) else (some (wrap64 (Int.tdiv x0 t344), wrap64 (Int.tdiv x1 t344), 0)))))))
def neumeref02_lowest.f (k : Nat) (a0 : Int) (a1 : Int) : Option (Int × Int × Int) := if a1 < 0 then (neumeref02_lowest.j0 k (wrap64 (-a0)) (wrap64 (-a1))) else (neumeref02_lowest.j0 k a0 a1)
theorem neumeref02_lowest.mono_l : ∀ k, (∀ y0 y1, LeO (neumeref02_lowest.j0 k y0 y1) (neumeref02_lowest.j0 (k + 1) y0 y1))
 | 0 => fun _ _ r h => by simp [neumeref02_lowest.j0] at h
 | k + 1 => by
  have ih0 := neumeref02_lowest.mono_l k
  ·intro y0 y1
   unfold neumeref02_lowest.j0
   repeat' first
   | (with_reducible exact ih0 _ _)
   | (with_reducible exact neumeref02_gcd.mono _ _ _)
   | (with_reducible exact LeO.refl _)
   | (with_reducible exact LeO.none _)
   | (with_reducible refine LeO.ite ?_ ?_)
   | (with_reducible refine LeO.bind ?_ (fun _ => ?_))
   | exact ih0 _ _
   | exact neumeref02_gcd.mono _ _ _
   | exact LeO.none _
   | refine LeO.ite ?_ ?_
   | refine LeO.bind ?_ (fun _ => ?_)
theorem neumeref02_lowest.mono : ∀ a0 a1 k, LeO (neumeref02_lowest.f k a0 a1) (neumeref02_lowest.f (k + 1) a0 a1) := by
 intro a0 a1 k
 have ih0 := neumeref02_lowest.mono_l k
 unfold neumeref02_lowest.f
 repeat' first
   | (with_reducible exact ih0 _ _)
   | (with_reducible exact neumeref02_gcd.mono _ _ _)
   | (with_reducible exact LeO.refl _)
   | (with_reducible exact LeO.none _)
   | (with_reducible refine LeO.ite ?_ ?_)
   | (with_reducible refine LeO.bind ?_ (fun _ => ?_))
   | exact ih0 _ _
   | exact neumeref02_gcd.mono _ _ _
   | exact LeO.none _
   | refine LeO.ite ?_ ?_
   | refine LeO.bind ?_ (fun _ => ?_)
def neumeref02_lowest.T4 : Bool × List (List Nat × List Nat) := (true, [([], []), ([], []), ([0, 1], [0, 1]), ([], []), ([], []), ([3, 4], [3, 4]), ([2, 5], [2, 5]), ([], []), ([7, 6, 0, 1, 2, 3, 4, 5, 6, 7], [6, 7])])
def neumeref02_lowest.B4 : List Nat := [0, 0, 3, 0, 0, 24, 63, 0, 255]
theorem neumeref02_lowest.tab4 : rtab .any (opsOf Tryz.f59 4) = neumeref02_lowest.T4 := by kernel_rfl
theorem neumeref02_lowest.bits4 : waitsOk neumeref02_lowest.T4.2 neumeref02_lowest.B4 = true := by kernel_rfl
set_option maxHeartbeats 8000000 in
set_option maxRecDepth 100000 in
theorem neumeref02_lowest.calls (k : Nat) (a0 : Int) (a1 : Int) (r1 : Int) (r2 : Int) (r3 : Int) (w : World) (h : neumeref02_lowest.f k a0 a1 = some (r1, r2, r3)) :
  Calls Tryz.prog 59 #[.int .i64 a0, .int .i64 a1] w fun e w' => e = .returned (.tuple #[.agg #[.int .i64 r1, .int .i64 r2], .int .i64 r3]) ∧ Below w.heap.size w w' := by
 have hu25 := Tryz.underlying25
 have HB := sd_ (Below.refl w.heap.size w)
 have H : (if a1 < 0 then (neumeref02_lowest.j0 k (wrap64 (-a0)) (wrap64 (-a1))) else (neumeref02_lowest.j0 k a0 a1)) = some (r1, r2, r3) := h
 clear h
 have HC3 := sd_ H
 clear H
 go_enter Tryz.func59, Tryz.ntmps59
 go_upto_if 9 with (first | ((with_reducible refine gate_dst (N := 4) rfl ?_); refine box_event ?hg (N := 4) ?hd (cs := #[.int .i64 0, .int .i64 0]) (t := 25) ?hr ?_; (case hd => rfl); (case hg => rfl); (case hr => first | (go_simp; done) | (go_simp; rfl)); intro gb342 hg w4 hbox hb; have BK342 := sd_ hbox; have GW342 := gw_ HB e0_ hg; have GE342 := GW342; replace HB := hb_ HB e0_ hb; clear hb hbox hg))
 (try simp only [Act.put, ls_, lz_, lc_])
 go_cut [0, 1] (fun v0 v1 wc => ∃ (kq : Nat) (x0_2 : Int) (x1_2 : Int), v0 = .int .i64 x0_2 ∧ v1 = .int .i64 x1_2 ∧ Aside0 (neumeref02_lowest.j0 kq x0_2 x1_2 = some (r1, r2, r3)) ∧ Aside0 (kq ≤ k) ∧ Aside0 (wc.heap[gb342]? = some (.cells #[.int .i64 0, .int .i64 0] 25 (0, 0))) ∧ Aside0 (Below w.heap.size w wc))
 case first =>
  have H := HC3.out
  clear HC3
  by_cases c5 : a1 < 0
  ·rw [if_pos c5] at H
   have c5b0 : decide (a1 < 0) = true := dt_ c5
   clear c5
   (first | rw [c5b0] | (simp only [i64_w, i32_w]; rw [c5b0]) | skip)
   have H' := sd_ H
   clear H
   go_wp2
   go_meet
   case rel => exact ⟨_, (wrap64 (-a0)), (wrap64 (-a1)), (by first | rfl | (simp; done) | (simp [*]; done) | (simp [bne]; done)), (by first | rfl | (simp; done) | (simp [*]; done) | (simp [bne]; done)), H', ⟨by first | omega | exact Nat.le_refl _⟩, ⟨by (with_reducible repeat first | apply kn_ | apply kd_ | apply ka_); exact BK342.out⟩, ⟨by repeat (first | (with_reducible first | exact HB.out | apply ba_ | apply pd_ | apply d1_ | refine bs_ ?_ GE342.out) | exact HB.out)⟩⟩
  ·rw [if_neg c5] at H
   have c5b0 : decide (a1 < 0) = false := df_ c5
   clear c5
   (first | rw [c5b0] | (simp only [i64_w, i32_w]; rw [c5b0]) | skip)
   have H' := sd_ H
   clear H
   go_wp2
   go_meet
   case rel => exact ⟨_, (a0), (a1), (by first | rfl | (simp; done) | (simp [*]; done) | (simp [bne]; done)), (by first | rfl | (simp; done) | (simp [*]; done) | (simp [bne]; done)), H', ⟨by first | omega | exact Nat.le_refl _⟩, ⟨by (with_reducible repeat first | apply kn_ | apply kd_ | apply ka_); exact BK342.out⟩, ⟨by repeat (first | (with_reducible first | exact HB.out | apply ba_ | apply pd_ | apply d1_ | refine bs_ ?_ GE342.out) | exact HB.out)⟩⟩
 case rest =>
  clear HC3
  try clear p2; try clear c5; try clear c5b0
  obtain ⟨kq, x0_2, x1_2, rfl, rfl, HA, HJ2, BK342, HB⟩ := hcut
  cases kq with
  | zero => exact absurd HA.out (by simp [neumeref02_lowest.j0])
  | succ kj2 =>
   have H := HA.out
   clear HA
   simp only [neumeref02_lowest.j0] at H
   replace H := ob_ H
   obtain ⟨t343, A60, H⟩ := H
   replace H : ((neumeref02_gcd.f kj2 t343 x1_2).bind fun t344 => (if t344 = 0 then (none) else ((neumeref02_abs.f (wrap64 (Int.tdiv x0_2 t344))).bind fun t346 => (if t346 > 1099511627776 then (some (0, 0, 3)) else (if (wrap64 (Int.tdiv x1_2 t344)) > 1048576 then (some (0, 0, 3)) else (some (wrap64 (Int.tdiv x0_2 t344), wrap64 (Int.tdiv x1_2 t344), 0))))))) = some (r1, r2, r3) := H
   have A6 := sd_ A60
   clear A60
   replace H := ob_ H
   obtain ⟨t344, A70, H⟩ := H
   replace H : (if t344 = 0 then (none) else ((neumeref02_abs.f (wrap64 (Int.tdiv x0_2 t344))).bind fun t346 => (if t346 > 1099511627776 then (some (0, 0, 3)) else (if (wrap64 (Int.tdiv x1_2 t344)) > 1048576 then (some (0, 0, 3)) else (some (wrap64 (Int.tdiv x0_2 t344), wrap64 (Int.tdiv x1_2 t344), 0)))))) = some (r1, r2, r3) := H
   have A7 := sd_ A70
   clear A70
   by_cases c8 : t344 = 0
   ·rw [if_pos c8] at H
    exact absurd H (by simp)
   ·rw [if_neg c8] at H
    have c8b0 : (t344 == 0) = false := beq_eq_false_iff_ne.mpr c8
    have c8b1 : (t344 != 0) = true := bne_iff_ne.mpr c8
    replace H := ob_ H
    obtain ⟨t346, A90, H⟩ := H
    replace H : (if t346 > 1099511627776 then (some (0, 0, 3)) else (if (wrap64 (Int.tdiv x1_2 t344)) > 1048576 then (some (0, 0, 3)) else (some (wrap64 (Int.tdiv x0_2 t344), wrap64 (Int.tdiv x1_2 t344), 0)))) = some (r1, r2, r3) := H
    have A9 := sd_ A90
    clear A90
    by_cases c10 : t346 > 1099511627776
    ·rw [if_pos c10] at H
     have c10b0 : decide (1099511627776 < t346) = true := dt_ c10
     clear c10
     simp only [Option.some.injEq, Prod.mk.injEq] at H
     obtain ⟨rfl, rfl, rfl⟩ := H
     try go_wp2_with (first | ((with_reducible refine gate_callee (f := 70) rfl ?_); refine goesL_ (some 15) rfl rfl Tryz.func70 (by kernel_rfl) rfl #[.int .i64 x0_2] rfl (by (try simp only [lm_, lq_, lx_]); first | done | rfl | (simp only [ld_, lt_]; rfl)) ?_; (with_reducible refine (neumeref02_abs.calls x0_2 t343 _ A6.out).mono ?_); rintro e w11 ⟨rfl, hb⟩; refine ⟨_, rfl, ?_⟩; replace BK342 := kb_ BK342 hb; replace HB := hb_ HB (e_ GE342 e0_) hb; (try clear hb); (try clear hb2); (try clear hk); (try clear hi)) | ((with_reducible refine gate_callee (f := 69) rfl ?_); refine goesL_ (some 17) rfl rfl Tryz.func69 (by kernel_rfl) rfl #[.int .i64 t343, .int .i64 x1_2] rfl (by (try simp only [lm_, lq_, lx_]); first | done | rfl | (simp only [ld_, lt_]; rfl)) ?_; (with_reducible refine (neumeref02_gcd.calls kj2 t343 x1_2 t344 _ A7.out).mono ?_); rintro e w' ⟨rfl, ⟨nd, rfl⟩⟩; refine ⟨_, rfl, ?_⟩; (repeat (rw [drewN_self w11]; generalize hq_ : World.drewN w11 _ = w11; have n0_ : Aside0 (w11.heap[gb342]? = some (.cells #[.int .i64 0, .int .i64 0] 25 (0, 0))) := ⟨by rw [← hq_]; exact (kk_ BK342.out)⟩; have n1_ : Aside0 (Below w.heap.size w w11) := ⟨by rw [← hq_]; exact (bb_ HB.out (e_ GE342 e0_))⟩; clear BK342 HB hq_; have BK342 := n0_; have HB := n1_; clear n0_ n1_))))
     replace BK342 := sd_ (kd_ BK342.out)
     replace HB := sd_ (d1_ HB.out)
     refine start_ (n := 9) (S := fun w' => True) (ds := []) (Array.replicate 9 false) (by kernel_rfl) rfl rfl trivial (fun hHeld => ?_); refine with_tabW neumeref02_lowest.tab4 neumeref02_lowest.bits4 (fun HT_ HW_ => ?_)
     generalize w11.drew = w12 at BK342 HB hHeld ⊢
     refine pu_ (v := ?_) (a' := ?_) 0 18 (bz 9 1) rfl rfl HT_ (by kernel_rfl) (fun _ _ _ h => h) (by rfl) ?_ ?_ ?_
     rotate_left; (intro w'; go_simp; with_reducible rfl); rotate_left; (simp only [Act.put, ls_, lz_, lc_, i64_w, i32_w]; rfl)
     refine pu_ (v := ?_) (a' := ?_) 1 19 (bz 9 3) rfl rfl HT_ (by kernel_rfl) (fun _ _ _ h => h) (by rfl) ?_ ?_ ?_
     rotate_left; (intro w'; go_simp; with_reducible rfl); rotate_left; (simp only [Act.put, ls_, lz_, lc_, i64_w, i32_w]; rfl)
     refine pu_ (v := ?_) (a' := ?_) 2 20 (bz 9 7) rfl rfl HT_ (by kernel_rfl) (fun _ _ _ h => h) (by rfl) ?_ ?_ ?_
     rotate_left; (intro w'; go_simp; with_reducible rfl); rotate_left; (simp only [Act.put, ls_, lz_, lc_, i64_w, i32_w]; rfl)
     refine pu_ (v := ?_) (a' := ?_) 3 21 (bz 9 15) rfl rfl HT_ (by kernel_rfl) (fun _ _ _ h => h) (by rfl) ?_ ?_ ?_
     rotate_left; (intro w'; go_simp; with_reducible rfl); rotate_left; (simp only [Act.put, ls_, lz_, lc_, i64_w, i32_w]; rfl)
     refine pu_ (v := ?_) (a' := ?_) 4 22 (bz 9 31) rfl rfl HT_ (by kernel_rfl) (fun _ _ _ h => h) (by rfl) ?_ ?_ ?_
     rotate_left; (intro w'; go_simp; with_reducible rfl); rotate_left; (simp only [Act.put, ls_, lz_, lc_, i64_w, i32_w]; rfl)
     refine pu_ (v := ?_) (a' := ?_) 5 23 (bz 9 63) rfl rfl HT_ (by kernel_rfl) (fun _ _ _ h => h) (by rfl) ?_ ?_ ?_
     rotate_left; (intro w'; go_simp; with_reducible rfl); rotate_left; (simp only [Act.put, ls_, lz_, lc_, i64_w, i32_w]; rfl)
     refine pu_ (v := ?_) (a' := ?_) 6 24 (bz 9 127) rfl rfl HT_ (by kernel_rfl) (fun _ _ _ h => h) (by rfl) ?_ ?_ ?_
     rotate_left; (intro w'; go_simp; with_reducible rfl); rotate_left; (simp only [Act.put, ls_, lz_, lc_, i64_w, i32_w]; rfl)
     refine on_ (N := some 7) 7 (bz 9 255) rfl rfl HT_ (by kernel_rfl) (by decide) (fun K hK => ?_)
     refine box_step ?hg (N := 7) ?hd (cs := #[.int .i64 0, .int .i64 0]) (t := 25) ?hr ?_; (case hd => rfl); (case hg => rfl); (case hr => first | (go_simp; done) | (go_simp; rfl))
     intro gb345 hg w13 hbox hb
     have BK345 := sd_ hbox
     have GW345 := gw_ HB (e_ GE342 e0_) hg
     have GE345 := GW345
     have NB342_345 := nb_ BK342 hg
     have NB345_342 := sy_ NB342_345
     replace BK342 := kb_ BK342 hb
     replace HB := hb_ HB (e_ GE342 e0_) hb
     clear hb hbox hg
     refine hK.out _ _ trivial (fun hHeld => ?_)
     clear hK K
     refine norm_ (a' := ?_) ?_ ?_
     rotate_left
     ·show Act.put _ (some 7) _ = _
      simp only [Act.put, ls_, lz_, lc_, i64_w, i32_w]
      rfl
     refine on_ (N := none) 8 (bz 9 511) rfl rfl HT_ (by kernel_rfl) (by decide) (fun K hK => ?_)
     have hs14 : w13.cell? ⟨gb345, 0, none⟩ = some (.int .i64 0) := (kc_ BK345.out 0).trans rfl
     have hfs14 := kf_ BK345.out 0
     have hns14_0 := NB342_345.out
     have hms14_0 := NB345_342.out
     have hs15 : w13.cell? ⟨gb345, 1, none⟩ = some (.int .i64 0) := (kc_ BK345.out 1).trans rfl
     have hfs15 := kf_ BK345.out 1
     have hns15_0 := NB342_345.out
     have hms15_0 := NB345_342.out
     refine skip_ (w1 := ?_) (by rfl) rfl ?_ ?_
     rotate_left
     ·go_simp
      rfl
     refine hK.out _ _ trivial (fun hHeld => ?_)
     clear hK K
     refine done_ (done_of HT_.out (by kernel_rfl)) ?_
     have hnb16 := NB345_342.out
     have hnc16 := NB342_345.out
     have hcz17_0 : w13.cell? ⟨gb345, 0, none⟩ = some (.int .i64 0) := (kc_ BK345.out 0).trans rfl
     have hcz17_1 : w13.cell? ⟨gb345, 1, none⟩ = some (.int .i64 0) := (kc_ BK345.out 1).trans rfl
     have hfz17_0 := kf_ BK345.out 0
     have hfz17_1 := kf_ BK345.out 1
     try go_wp2_with (first | ((with_reducible refine gate_callee (f := 70) rfl ?_); refine goesL_ (some 27) rfl rfl Tryz.func70 (by kernel_rfl) rfl #[.int .i64 (wrap64 (Int.tdiv x0_2 t344))] rfl (by (try simp only [lm_, lq_, lx_]); first | done | rfl | (simp only [ld_, lt_]; rfl)) ?_; (with_reducible refine (neumeref02_abs.calls (wrap64 (Int.tdiv x0_2 t344)) t346 _ A9.out).mono ?_); rintro e w18 ⟨rfl, hb⟩; refine ⟨_, rfl, ?_⟩; replace BK342 := sd_ (blk_below (g := gb342) (o := .cells #[.int .i64 0, .int .i64 0] 25 (0, 0)) (by (with_reducible repeat first | apply kn_ | apply kd_ | apply ka_); refine blk_far ?_ NB342_345.out _; (with_reducible repeat first | apply kn_ | apply kd_ | apply ka_); refine blk_far ?_ NB342_345.out _; (with_reducible repeat first | apply kn_ | apply kd_ | apply ka_); exact BK342.out) hb); replace BK345 := sd_ (blk_below (g := gb345) (o := .cells #[.int .i64 (wrap64 (Int.tdiv x0_2 t344)), .int .i64 (wrap64 (Int.tdiv x1_2 t344))] 25 (0, 0)) (by (with_reducible repeat first | apply kn_ | apply kd_ | apply ka_); refine blk_put (cs := #[.int .i64 (wrap64 (Int.tdiv x0_2 t344)), .int .i64 0]) ?_ 1 _ rfl; (with_reducible repeat first | apply kn_ | apply kd_ | apply ka_); refine blk_put (cs := #[.int .i64 0, .int .i64 0]) ?_ 0 _ rfl; (with_reducible repeat first | apply kn_ | apply kd_ | apply ka_); exact BK345.out) hb); replace HB := hb_ HB (e_ GE342 (e_ GE345 e0_)) hb; (try clear hb); (try clear hb2); (try clear hk); (try clear hi); have hcz19_0 : w18.cell? ⟨gb342, 0, none⟩ = some (.int .i64 0) := (kc_ BK342.out 0).trans rfl; have hcz19_1 : w18.cell? ⟨gb342, 1, none⟩ = some (.int .i64 0) := (kc_ BK342.out 1).trans rfl; have hfz19_0 := kf_ BK342.out 0; have hfz19_1 := kf_ BK342.out 1))
     refine bodyPost_ret (results_ct rfl _ _ gb342 25 #[.int .i64 0, .int .i64 0] (0, 0) _ rfl (by (with_reducible repeat first | apply kn_ | apply kd_ | apply ka_); refine blk_put (cs := #[.int .i64 0, .int .i64 0]) ?_ 1 _ rfl; (with_reducible repeat first | apply kn_ | apply kd_ | apply ka_); refine blk_put (cs := #[.int .i64 0, .int .i64 0]) ?_ 0 _ rfl; (with_reducible repeat first | apply kn_ | apply kd_ | apply ka_); exact BK342.out) Tryz.underlying25 rfl (by kernel_rfl)) rfl ?_
     exact ⟨by first | rfl | (simp [errW_none, errW_some] <;> rfl) | (simp [*, errW_none, errW_some] <;> rfl), by repeat (first | (with_reducible first | exact HB.out | apply ba_ | apply pd_ | apply d1_ | refine bs_ ?_ GE342.out | refine bs_ ?_ GE345.out) | exact HB.out)⟩
    ·rw [if_neg c10] at H
     have c10b0 : decide (1099511627776 < t346) = false := df_ c10
     clear c10
     by_cases c20 : (wrap64 (Int.tdiv x1_2 t344)) > 1048576
     ·rw [if_pos c20] at H
      have c20b0 : decide (1048576 < (wrap64 (Int.tdiv x1_2 t344))) = true := dt_ c20
      clear c20
      simp only [Option.some.injEq, Prod.mk.injEq] at H
      obtain ⟨rfl, rfl, rfl⟩ := H
      try go_wp2_with (first | ((with_reducible refine gate_callee (f := 70) rfl ?_); refine goesL_ (some 15) rfl rfl Tryz.func70 (by kernel_rfl) rfl #[.int .i64 x0_2] rfl (by (try simp only [lm_, lq_, lx_]); first | done | rfl | (simp only [ld_, lt_]; rfl)) ?_; (with_reducible refine (neumeref02_abs.calls x0_2 t343 _ A6.out).mono ?_); rintro e w21 ⟨rfl, hb⟩; refine ⟨_, rfl, ?_⟩; replace BK342 := kb_ BK342 hb; replace HB := hb_ HB (e_ GE342 e0_) hb; (try clear hb); (try clear hb2); (try clear hk); (try clear hi)) | ((with_reducible refine gate_callee (f := 69) rfl ?_); refine goesL_ (some 17) rfl rfl Tryz.func69 (by kernel_rfl) rfl #[.int .i64 t343, .int .i64 x1_2] rfl (by (try simp only [lm_, lq_, lx_]); first | done | rfl | (simp only [ld_, lt_]; rfl)) ?_; (with_reducible refine (neumeref02_gcd.calls kj2 t343 x1_2 t344 _ A7.out).mono ?_); rintro e w' ⟨rfl, ⟨nd, rfl⟩⟩; refine ⟨_, rfl, ?_⟩; (repeat (rw [drewN_self w21]; generalize hq_ : World.drewN w21 _ = w21; have n0_ : Aside0 (w21.heap[gb342]? = some (.cells #[.int .i64 0, .int .i64 0] 25 (0, 0))) := ⟨by rw [← hq_]; exact (kk_ BK342.out)⟩; have n1_ : Aside0 (Below w.heap.size w w21) := ⟨by rw [← hq_]; exact (bb_ HB.out (e_ GE342 e0_))⟩; clear BK342 HB hq_; have BK342 := n0_; have HB := n1_; clear n0_ n1_))))
      replace BK342 := sd_ (kd_ BK342.out)
      replace HB := sd_ (d1_ HB.out)
      refine start_ (n := 9) (S := fun w' => True) (ds := []) (Array.replicate 9 false) (by kernel_rfl) rfl rfl trivial (fun hHeld => ?_); refine with_tabW neumeref02_lowest.tab4 neumeref02_lowest.bits4 (fun HT_ HW_ => ?_)
      generalize w21.drew = w22 at BK342 HB hHeld ⊢
      refine pu_ (v := ?_) (a' := ?_) 0 18 (bz 9 1) rfl rfl HT_ (by kernel_rfl) (fun _ _ _ h => h) (by rfl) ?_ ?_ ?_
      rotate_left; (intro w'; go_simp; with_reducible rfl); rotate_left; (simp only [Act.put, ls_, lz_, lc_, i64_w, i32_w]; rfl)
      refine pu_ (v := ?_) (a' := ?_) 1 19 (bz 9 3) rfl rfl HT_ (by kernel_rfl) (fun _ _ _ h => h) (by rfl) ?_ ?_ ?_
      rotate_left; (intro w'; go_simp; with_reducible rfl); rotate_left; (simp only [Act.put, ls_, lz_, lc_, i64_w, i32_w]; rfl)
      refine pu_ (v := ?_) (a' := ?_) 2 20 (bz 9 7) rfl rfl HT_ (by kernel_rfl) (fun _ _ _ h => h) (by rfl) ?_ ?_ ?_
      rotate_left; (intro w'; go_simp; with_reducible rfl); rotate_left; (simp only [Act.put, ls_, lz_, lc_, i64_w, i32_w]; rfl)
      refine pu_ (v := ?_) (a' := ?_) 3 21 (bz 9 15) rfl rfl HT_ (by kernel_rfl) (fun _ _ _ h => h) (by rfl) ?_ ?_ ?_
      rotate_left; (intro w'; go_simp; with_reducible rfl); rotate_left; (simp only [Act.put, ls_, lz_, lc_, i64_w, i32_w]; rfl)
      refine pu_ (v := ?_) (a' := ?_) 4 22 (bz 9 31) rfl rfl HT_ (by kernel_rfl) (fun _ _ _ h => h) (by rfl) ?_ ?_ ?_
      rotate_left; (intro w'; go_simp; with_reducible rfl); rotate_left; (simp only [Act.put, ls_, lz_, lc_, i64_w, i32_w]; rfl)
      refine pu_ (v := ?_) (a' := ?_) 5 23 (bz 9 63) rfl rfl HT_ (by kernel_rfl) (fun _ _ _ h => h) (by rfl) ?_ ?_ ?_
      rotate_left; (intro w'; go_simp; with_reducible rfl); rotate_left; (simp only [Act.put, ls_, lz_, lc_, i64_w, i32_w]; rfl)
      refine pu_ (v := ?_) (a' := ?_) 6 24 (bz 9 127) rfl rfl HT_ (by kernel_rfl) (fun _ _ _ h => h) (by rfl) ?_ ?_ ?_
      rotate_left; (intro w'; go_simp; with_reducible rfl); rotate_left; (simp only [Act.put, ls_, lz_, lc_, i64_w, i32_w]; rfl)
      refine on_ (N := some 7) 7 (bz 9 255) rfl rfl HT_ (by kernel_rfl) (by decide) (fun K hK => ?_)
      refine box_step ?hg (N := 7) ?hd (cs := #[.int .i64 0, .int .i64 0]) (t := 25) ?hr ?_; (case hd => rfl); (case hg => rfl); (case hr => first | (go_simp; done) | (go_simp; rfl))
      intro gb345 hg w23 hbox hb
      have BK345 := sd_ hbox
      have GW345 := gw_ HB (e_ GE342 e0_) hg
      have GE345 := GW345
      have NB342_345 := nb_ BK342 hg
      have NB345_342 := sy_ NB342_345
      replace BK342 := kb_ BK342 hb
      replace HB := hb_ HB (e_ GE342 e0_) hb
      clear hb hbox hg
      refine hK.out _ _ trivial (fun hHeld => ?_)
      clear hK K
      refine norm_ (a' := ?_) ?_ ?_
      rotate_left
      ·show Act.put _ (some 7) _ = _
       simp only [Act.put, ls_, lz_, lc_, i64_w, i32_w]
       rfl
      refine on_ (N := none) 8 (bz 9 511) rfl rfl HT_ (by kernel_rfl) (by decide) (fun K hK => ?_)
      have hs24 : w23.cell? ⟨gb345, 0, none⟩ = some (.int .i64 0) := (kc_ BK345.out 0).trans rfl
      have hfs24 := kf_ BK345.out 0
      have hns24_0 := NB342_345.out
      have hms24_0 := NB345_342.out
      have hs25 : w23.cell? ⟨gb345, 1, none⟩ = some (.int .i64 0) := (kc_ BK345.out 1).trans rfl
      have hfs25 := kf_ BK345.out 1
      have hns25_0 := NB342_345.out
      have hms25_0 := NB345_342.out
      refine skip_ (w1 := ?_) (by rfl) rfl ?_ ?_
      rotate_left
      ·go_simp
       rfl
      refine hK.out _ _ trivial (fun hHeld => ?_)
      clear hK K
      refine done_ (done_of HT_.out (by kernel_rfl)) ?_
      have hnb26 := NB345_342.out
      have hnc26 := NB342_345.out
      have hcz27_0 : w23.cell? ⟨gb345, 0, none⟩ = some (.int .i64 0) := (kc_ BK345.out 0).trans rfl
      have hcz27_1 : w23.cell? ⟨gb345, 1, none⟩ = some (.int .i64 0) := (kc_ BK345.out 1).trans rfl
      have hfz27_0 := kf_ BK345.out 0
      have hfz27_1 := kf_ BK345.out 1
      try go_wp2_with (first | ((with_reducible refine gate_callee (f := 70) rfl ?_); refine goesL_ (some 27) rfl rfl Tryz.func70 (by kernel_rfl) rfl #[.int .i64 (wrap64 (Int.tdiv x0_2 t344))] rfl (by (try simp only [lm_, lq_, lx_]); first | done | rfl | (simp only [ld_, lt_]; rfl)) ?_; (with_reducible refine (neumeref02_abs.calls (wrap64 (Int.tdiv x0_2 t344)) t346 _ A9.out).mono ?_); rintro e w28 ⟨rfl, hb⟩; refine ⟨_, rfl, ?_⟩; replace BK342 := sd_ (blk_below (g := gb342) (o := .cells #[.int .i64 0, .int .i64 0] 25 (0, 0)) (by (with_reducible repeat first | apply kn_ | apply kd_ | apply ka_); refine blk_far ?_ NB342_345.out _; (with_reducible repeat first | apply kn_ | apply kd_ | apply ka_); refine blk_far ?_ NB342_345.out _; (with_reducible repeat first | apply kn_ | apply kd_ | apply ka_); exact BK342.out) hb); replace BK345 := sd_ (blk_below (g := gb345) (o := .cells #[.int .i64 (wrap64 (Int.tdiv x0_2 t344)), .int .i64 (wrap64 (Int.tdiv x1_2 t344))] 25 (0, 0)) (by (with_reducible repeat first | apply kn_ | apply kd_ | apply ka_); refine blk_put (cs := #[.int .i64 (wrap64 (Int.tdiv x0_2 t344)), .int .i64 0]) ?_ 1 _ rfl; (with_reducible repeat first | apply kn_ | apply kd_ | apply ka_); refine blk_put (cs := #[.int .i64 0, .int .i64 0]) ?_ 0 _ rfl; (with_reducible repeat first | apply kn_ | apply kd_ | apply ka_); exact BK345.out) hb); replace HB := hb_ HB (e_ GE342 (e_ GE345 e0_)) hb; (try clear hb); (try clear hb2); (try clear hk); (try clear hi); have hcz29_0 : w28.cell? ⟨gb345, 0, none⟩ = some (.int .i64 (wrap64 (Int.tdiv x0_2 t344))) := (kc_ BK345.out 0).trans rfl; have hcz29_1 : w28.cell? ⟨gb345, 1, none⟩ = some (.int .i64 (wrap64 (Int.tdiv x1_2 t344))) := (kc_ BK345.out 1).trans rfl; have hfz29_0 := kf_ BK345.out 0; have hfz29_1 := kf_ BK345.out 1; have hcz30_0 : w28.cell? ⟨gb342, 0, none⟩ = some (.int .i64 0) := (kc_ BK342.out 0).trans rfl; have hcz30_1 : w28.cell? ⟨gb342, 1, none⟩ = some (.int .i64 0) := (kc_ BK342.out 1).trans rfl; have hfz30_0 := kf_ BK342.out 0; have hfz30_1 := kf_ BK342.out 1))
      refine bodyPost_ret (results_ct rfl _ _ gb342 25 #[.int .i64 0, .int .i64 0] (0, 0) _ rfl (by (with_reducible repeat first | apply kn_ | apply kd_ | apply ka_); refine blk_put (cs := #[.int .i64 0, .int .i64 0]) ?_ 1 _ rfl; (with_reducible repeat first | apply kn_ | apply kd_ | apply ka_); refine blk_put (cs := #[.int .i64 0, .int .i64 0]) ?_ 0 _ rfl; (with_reducible repeat first | apply kn_ | apply kd_ | apply ka_); exact BK342.out) Tryz.underlying25 rfl (by kernel_rfl)) rfl ?_
      exact ⟨by first | rfl | (simp [errW_none, errW_some] <;> rfl) | (simp [*, errW_none, errW_some] <;> rfl), by repeat (first | (with_reducible first | exact HB.out | apply ba_ | apply pd_ | apply d1_ | refine bs_ ?_ GE342.out | refine bs_ ?_ GE345.out) | exact HB.out)⟩
     ·rw [if_neg c20] at H
      have c20b0 : decide (1048576 < (wrap64 (Int.tdiv x1_2 t344))) = false := df_ c20
      clear c20
      simp only [Option.some.injEq, Prod.mk.injEq] at H
      obtain ⟨rfl, rfl, rfl⟩ := H
      try go_wp2_with (first | ((with_reducible refine gate_callee (f := 70) rfl ?_); refine goesL_ (some 15) rfl rfl Tryz.func70 (by kernel_rfl) rfl #[.int .i64 x0_2] rfl (by (try simp only [lm_, lq_, lx_]); first | done | rfl | (simp only [ld_, lt_]; rfl)) ?_; (with_reducible refine (neumeref02_abs.calls x0_2 t343 _ A6.out).mono ?_); rintro e w31 ⟨rfl, hb⟩; refine ⟨_, rfl, ?_⟩; replace BK342 := kb_ BK342 hb; replace HB := hb_ HB (e_ GE342 e0_) hb; (try clear hb); (try clear hb2); (try clear hk); (try clear hi)) | ((with_reducible refine gate_callee (f := 69) rfl ?_); refine goesL_ (some 17) rfl rfl Tryz.func69 (by kernel_rfl) rfl #[.int .i64 t343, .int .i64 x1_2] rfl (by (try simp only [lm_, lq_, lx_]); first | done | rfl | (simp only [ld_, lt_]; rfl)) ?_; (with_reducible refine (neumeref02_gcd.calls kj2 t343 x1_2 t344 _ A7.out).mono ?_); rintro e w' ⟨rfl, ⟨nd, rfl⟩⟩; refine ⟨_, rfl, ?_⟩; (repeat (rw [drewN_self w31]; generalize hq_ : World.drewN w31 _ = w31; have n0_ : Aside0 (w31.heap[gb342]? = some (.cells #[.int .i64 0, .int .i64 0] 25 (0, 0))) := ⟨by rw [← hq_]; exact (kk_ BK342.out)⟩; have n1_ : Aside0 (Below w.heap.size w w31) := ⟨by rw [← hq_]; exact (bb_ HB.out (e_ GE342 e0_))⟩; clear BK342 HB hq_; have BK342 := n0_; have HB := n1_; clear n0_ n1_))))
      replace BK342 := sd_ (kd_ BK342.out)
      replace HB := sd_ (d1_ HB.out)
      refine start_ (n := 9) (S := fun w' => True) (ds := []) (Array.replicate 9 false) (by kernel_rfl) rfl rfl trivial (fun hHeld => ?_); refine with_tabW neumeref02_lowest.tab4 neumeref02_lowest.bits4 (fun HT_ HW_ => ?_)
      generalize w31.drew = w32 at BK342 HB hHeld ⊢
      refine pu_ (v := ?_) (a' := ?_) 0 18 (bz 9 1) rfl rfl HT_ (by kernel_rfl) (fun _ _ _ h => h) (by rfl) ?_ ?_ ?_
      rotate_left; (intro w'; go_simp; with_reducible rfl); rotate_left; (simp only [Act.put, ls_, lz_, lc_, i64_w, i32_w]; rfl)
      refine pu_ (v := ?_) (a' := ?_) 1 19 (bz 9 3) rfl rfl HT_ (by kernel_rfl) (fun _ _ _ h => h) (by rfl) ?_ ?_ ?_
      rotate_left; (intro w'; go_simp; with_reducible rfl); rotate_left; (simp only [Act.put, ls_, lz_, lc_, i64_w, i32_w]; rfl)
      refine pu_ (v := ?_) (a' := ?_) 2 20 (bz 9 7) rfl rfl HT_ (by kernel_rfl) (fun _ _ _ h => h) (by rfl) ?_ ?_ ?_
      rotate_left; (intro w'; go_simp; with_reducible rfl); rotate_left; (simp only [Act.put, ls_, lz_, lc_, i64_w, i32_w]; rfl)
      refine pu_ (v := ?_) (a' := ?_) 3 21 (bz 9 15) rfl rfl HT_ (by kernel_rfl) (fun _ _ _ h => h) (by rfl) ?_ ?_ ?_
      rotate_left; (intro w'; go_simp; with_reducible rfl); rotate_left; (simp only [Act.put, ls_, lz_, lc_, i64_w, i32_w]; rfl)
      refine pu_ (v := ?_) (a' := ?_) 4 22 (bz 9 31) rfl rfl HT_ (by kernel_rfl) (fun _ _ _ h => h) (by rfl) ?_ ?_ ?_
      rotate_left; (intro w'; go_simp; with_reducible rfl); rotate_left; (simp only [Act.put, ls_, lz_, lc_, i64_w, i32_w]; rfl)
      refine pu_ (v := ?_) (a' := ?_) 5 23 (bz 9 63) rfl rfl HT_ (by kernel_rfl) (fun _ _ _ h => h) (by rfl) ?_ ?_ ?_
      rotate_left; (intro w'; go_simp; with_reducible rfl); rotate_left; (simp only [Act.put, ls_, lz_, lc_, i64_w, i32_w]; rfl)
      refine pu_ (v := ?_) (a' := ?_) 6 24 (bz 9 127) rfl rfl HT_ (by kernel_rfl) (fun _ _ _ h => h) (by rfl) ?_ ?_ ?_
      rotate_left; (intro w'; go_simp; with_reducible rfl); rotate_left; (simp only [Act.put, ls_, lz_, lc_, i64_w, i32_w]; rfl)
      refine on_ (N := some 7) 7 (bz 9 255) rfl rfl HT_ (by kernel_rfl) (by decide) (fun K hK => ?_)
      refine box_step ?hg (N := 7) ?hd (cs := #[.int .i64 0, .int .i64 0]) (t := 25) ?hr ?_; (case hd => rfl); (case hg => rfl); (case hr => first | (go_simp; done) | (go_simp; rfl))
      intro gb345 hg w33 hbox hb
      have BK345 := sd_ hbox
      have GW345 := gw_ HB (e_ GE342 e0_) hg
      have GE345 := GW345
      have NB342_345 := nb_ BK342 hg
      have NB345_342 := sy_ NB342_345
      replace BK342 := kb_ BK342 hb
      replace HB := hb_ HB (e_ GE342 e0_) hb
      clear hb hbox hg
      refine hK.out _ _ trivial (fun hHeld => ?_)
      clear hK K
      refine norm_ (a' := ?_) ?_ ?_
      rotate_left
      ·show Act.put _ (some 7) _ = _
       simp only [Act.put, ls_, lz_, lc_, i64_w, i32_w]
       rfl
      refine on_ (N := none) 8 (bz 9 511) rfl rfl HT_ (by kernel_rfl) (by decide) (fun K hK => ?_)
      have hs34 : w33.cell? ⟨gb345, 0, none⟩ = some (.int .i64 0) := (kc_ BK345.out 0).trans rfl
      have hfs34 := kf_ BK345.out 0
      have hns34_0 := NB342_345.out
      have hms34_0 := NB345_342.out
      have hs35 : w33.cell? ⟨gb345, 1, none⟩ = some (.int .i64 0) := (kc_ BK345.out 1).trans rfl
      have hfs35 := kf_ BK345.out 1
      have hns35_0 := NB342_345.out
      have hms35_0 := NB345_342.out
      refine skip_ (w1 := ?_) (by rfl) rfl ?_ ?_
      rotate_left
      ·go_simp
       rfl
      refine hK.out _ _ trivial (fun hHeld => ?_)
      clear hK K
      refine done_ (done_of HT_.out (by kernel_rfl)) ?_
      have hnb36 := NB345_342.out
      have hnc36 := NB342_345.out
      have hcz37_0 : w33.cell? ⟨gb345, 0, none⟩ = some (.int .i64 0) := (kc_ BK345.out 0).trans rfl
      have hcz37_1 : w33.cell? ⟨gb345, 1, none⟩ = some (.int .i64 0) := (kc_ BK345.out 1).trans rfl
      have hfz37_0 := kf_ BK345.out 0
      have hfz37_1 := kf_ BK345.out 1
      try go_wp2_with (first | ((with_reducible refine gate_callee (f := 70) rfl ?_); refine goesL_ (some 27) rfl rfl Tryz.func70 (by kernel_rfl) rfl #[.int .i64 (wrap64 (Int.tdiv x0_2 t344))] rfl (by (try simp only [lm_, lq_, lx_]); first | done | rfl | (simp only [ld_, lt_]; rfl)) ?_; (with_reducible refine (neumeref02_abs.calls (wrap64 (Int.tdiv x0_2 t344)) t346 _ A9.out).mono ?_); rintro e w38 ⟨rfl, hb⟩; refine ⟨_, rfl, ?_⟩; replace BK342 := sd_ (blk_below (g := gb342) (o := .cells #[.int .i64 0, .int .i64 0] 25 (0, 0)) (by (with_reducible repeat first | apply kn_ | apply kd_ | apply ka_); refine blk_far ?_ NB342_345.out _; (with_reducible repeat first | apply kn_ | apply kd_ | apply ka_); refine blk_far ?_ NB342_345.out _; (with_reducible repeat first | apply kn_ | apply kd_ | apply ka_); exact BK342.out) hb); replace BK345 := sd_ (blk_below (g := gb345) (o := .cells #[.int .i64 (wrap64 (Int.tdiv x0_2 t344)), .int .i64 (wrap64 (Int.tdiv x1_2 t344))] 25 (0, 0)) (by (with_reducible repeat first | apply kn_ | apply kd_ | apply ka_); refine blk_put (cs := #[.int .i64 (wrap64 (Int.tdiv x0_2 t344)), .int .i64 0]) ?_ 1 _ rfl; (with_reducible repeat first | apply kn_ | apply kd_ | apply ka_); refine blk_put (cs := #[.int .i64 0, .int .i64 0]) ?_ 0 _ rfl; (with_reducible repeat first | apply kn_ | apply kd_ | apply ka_); exact BK345.out) hb); replace HB := hb_ HB (e_ GE342 (e_ GE345 e0_)) hb; (try clear hb); (try clear hb2); (try clear hk); (try clear hi); have hcz39_0 : w38.cell? ⟨gb345, 0, none⟩ = some (.int .i64 (wrap64 (Int.tdiv x0_2 t344))) := (kc_ BK345.out 0).trans rfl; have hcz39_1 : w38.cell? ⟨gb345, 1, none⟩ = some (.int .i64 (wrap64 (Int.tdiv x1_2 t344))) := (kc_ BK345.out 1).trans rfl; have hfz39_0 := kf_ BK345.out 0; have hfz39_1 := kf_ BK345.out 1; have hcz40_0 : w38.cell? ⟨gb342, 0, none⟩ = some (.int .i64 0) := (kc_ BK342.out 0).trans rfl; have hcz40_1 : w38.cell? ⟨gb342, 1, none⟩ = some (.int .i64 0) := (kc_ BK342.out 1).trans rfl; have hfz40_0 := kf_ BK342.out 0; have hfz40_1 := kf_ BK342.out 1))
      refine bodyPost_ret (results_ct rfl _ _ gb342 25 #[.int .i64 (wrap64 (Int.tdiv x0_2 t344)), .int .i64 (wrap64 (Int.tdiv x1_2 t344))] (0, 0) _ rfl (by (with_reducible repeat first | apply kn_ | apply kd_ | apply ka_); refine blk_put (cs := #[.int .i64 (wrap64 (Int.tdiv x0_2 t344)), .int .i64 0]) ?_ 1 _ rfl; (with_reducible repeat first | apply kn_ | apply kd_ | apply ka_); refine blk_put (cs := #[.int .i64 0, .int .i64 0]) ?_ 0 _ rfl; (with_reducible repeat first | apply kn_ | apply kd_ | apply ka_); exact BK342.out) Tryz.underlying25 rfl (by kernel_rfl)) rfl ?_
      exact ⟨by first | rfl | (simp [errW_none, errW_some] <;> rfl) | (simp [*, errW_none, errW_some] <;> rfl), by repeat (first | (with_reducible first | exact HB.out | apply ba_ | apply pd_ | apply d1_ | refine bs_ ?_ GE342.out | refine bs_ ?_ GE345.out) | exact HB.out)⟩

/-! ### neumeref02_Of: function 38 -/
def neumeref02_Of.f (k : Nat) (a0 : Int) (a1 : Int) : Option (Int × Int × Int) := if a1 = 0 then (some (0, 0, 2)) else (if a0 < (-1152921504606846976) then (some (0, 0, 2)) else (if a0 > 1152921504606846976 then (some (0, 0, 2)) else (if a1 < (-1152921504606846976) then (some (0, 0, 2)) else (if a1 > 1152921504606846976 then (some (0, 0, 2)) else ((neumeref02_lowest.f k a0 a1).bind fun bt348 => (some (bt348.1, bt348.2.1, bt348.2.2)))))))
theorem neumeref02_Of.mono : ∀ a0 a1 k, LeO (neumeref02_Of.f k a0 a1) (neumeref02_Of.f (k + 1) a0 a1) := by
 intro a0 a1 k
 unfold neumeref02_Of.f
 repeat' first
   | (with_reducible exact neumeref02_lowest.mono _ _ _)
   | (with_reducible exact LeO.refl _)
   | (with_reducible exact LeO.none _)
   | (with_reducible refine LeO.ite ?_ ?_)
   | (with_reducible refine LeO.bind ?_ (fun _ => ?_))
   | exact neumeref02_lowest.mono _ _ _
   | exact LeO.none _
   | refine LeO.ite ?_ ?_
   | refine LeO.bind ?_ (fun _ => ?_)
set_option maxHeartbeats 8000000 in
set_option maxRecDepth 100000 in
theorem neumeref02_Of.calls (k : Nat) (a0 : Int) (a1 : Int) (r1 : Int) (r2 : Int) (r3 : Int) (w : World) (h : neumeref02_Of.f k a0 a1 = some (r1, r2, r3)) :
  Calls Tryz.prog 38 #[.int .i64 a0, .int .i64 a1] w fun e w' => e = .returned (.tuple #[.agg #[.int .i64 r1, .int .i64 r2], .int .i64 r3]) ∧ Below w.heap.size w w' := by
 have hu25 := Tryz.underlying25
 have HB := sd_ (Below.refl w.heap.size w)
 have H : (if a1 = 0 then (some (0, 0, 2)) else (if a0 < (-1152921504606846976) then (some (0, 0, 2)) else (if a0 > 1152921504606846976 then (some (0, 0, 2)) else (if a1 < (-1152921504606846976) then (some (0, 0, 2)) else (if a1 > 1152921504606846976 then (some (0, 0, 2)) else ((neumeref02_lowest.f k a0 a1).bind fun bt348 => (some (bt348.1, bt348.2.1, bt348.2.2)))))))) = some (r1, r2, r3) := h
 clear h
 by_cases c3 : a1 = 0
 ·rw [if_pos c3] at H
  have c3b0 : (a1 == 0) = true := beq_iff_eq.mpr c3
  have c3b1 : (a1 != 0) = false := bne_eq_false_iff_eq.mpr c3
  clear c3
  simp only [Option.some.injEq, Prod.mk.injEq] at H
  obtain ⟨rfl, rfl, rfl⟩ := H
  go_enter Tryz.func38, Tryz.ntmps38
  go_wp2_with (first | ((with_reducible refine gate_dst (N := 4) rfl ?_); refine box_event ?hg (N := 4) ?hd (cs := #[.int .i64 0, .int .i64 0]) (t := 25) ?hr ?_; (case hd => rfl); (case hg => rfl); (case hr => first | (go_simp; done) | (go_simp; rfl)); intro gb347 hg w4 hbox hb; have BK347 := sd_ hbox; have GW347 := gw_ HB e0_ hg; have GE347 := GW347; replace HB := hb_ HB e0_ hb; clear hb hbox hg; have hcz5_0 : w4.cell? ⟨gb347, 0, none⟩ = some (.int .i64 0) := (kc_ BK347.out 0).trans rfl; have hcz5_1 : w4.cell? ⟨gb347, 1, none⟩ = some (.int .i64 0) := (kc_ BK347.out 1).trans rfl; have hfz5_0 := kf_ BK347.out 0; have hfz5_1 := kf_ BK347.out 1))
  refine bodyPost_ret (results_ct rfl _ _ gb347 25 #[.int .i64 0, .int .i64 0] (0, 0) _ rfl (by (with_reducible repeat first | apply kn_ | apply kd_ | apply ka_); refine blk_put (cs := #[.int .i64 0, .int .i64 0]) ?_ 1 _ rfl; (with_reducible repeat first | apply kn_ | apply kd_ | apply ka_); refine blk_put (cs := #[.int .i64 0, .int .i64 0]) ?_ 0 _ rfl; (with_reducible repeat first | apply kn_ | apply kd_ | apply ka_); exact BK347.out) Tryz.underlying25 rfl (by kernel_rfl)) rfl ?_
  exact ⟨by first | rfl | (simp [errW_none, errW_some] <;> rfl) | (simp [*, errW_none, errW_some] <;> rfl), by repeat (first | (with_reducible first | exact HB.out | apply ba_ | apply pd_ | apply d1_ | refine bs_ ?_ GE347.out) | exact HB.out)⟩
 ·rw [if_neg c3] at H
  have c3b0 : (a1 == 0) = false := beq_eq_false_iff_ne.mpr c3
  have c3b1 : (a1 != 0) = true := bne_iff_ne.mpr c3
  by_cases c6 : a0 < (-1152921504606846976)
  ·rw [if_pos c6] at H
   have c6b0 : decide (a0 < (-1152921504606846976)) = true := dt_ c6
   clear c6
   simp only [Option.some.injEq, Prod.mk.injEq] at H
   obtain ⟨rfl, rfl, rfl⟩ := H
   go_enter Tryz.func38, Tryz.ntmps38
   go_wp2_with (first | ((with_reducible refine gate_dst (N := 4) rfl ?_); refine box_event ?hg (N := 4) ?hd (cs := #[.int .i64 0, .int .i64 0]) (t := 25) ?hr ?_; (case hd => rfl); (case hg => rfl); (case hr => first | (go_simp; done) | (go_simp; rfl)); intro gb347 hg w7 hbox hb; have BK347 := sd_ hbox; have GW347 := gw_ HB e0_ hg; have GE347 := GW347; replace HB := hb_ HB e0_ hb; clear hb hbox hg; have hcz8_0 : w7.cell? ⟨gb347, 0, none⟩ = some (.int .i64 0) := (kc_ BK347.out 0).trans rfl; have hcz8_1 : w7.cell? ⟨gb347, 1, none⟩ = some (.int .i64 0) := (kc_ BK347.out 1).trans rfl; have hfz8_0 := kf_ BK347.out 0; have hfz8_1 := kf_ BK347.out 1))
   refine bodyPost_ret (results_ct rfl _ _ gb347 25 #[.int .i64 0, .int .i64 0] (0, 0) _ rfl (by (with_reducible repeat first | apply kn_ | apply kd_ | apply ka_); refine blk_put (cs := #[.int .i64 0, .int .i64 0]) ?_ 1 _ rfl; (with_reducible repeat first | apply kn_ | apply kd_ | apply ka_); refine blk_put (cs := #[.int .i64 0, .int .i64 0]) ?_ 0 _ rfl; (with_reducible repeat first | apply kn_ | apply kd_ | apply ka_); exact BK347.out) Tryz.underlying25 rfl (by kernel_rfl)) rfl ?_
   exact ⟨by first | rfl | (simp [errW_none, errW_some] <;> rfl) | (simp [*, errW_none, errW_some] <;> rfl), by repeat (first | (with_reducible first | exact HB.out | apply ba_ | apply pd_ | apply d1_ | refine bs_ ?_ GE347.out) | exact HB.out)⟩
  ·rw [if_neg c6] at H
   have c6b0 : decide (a0 < (-1152921504606846976)) = false := df_ c6
   clear c6
   by_cases c9 : a0 > 1152921504606846976
   ·rw [if_pos c9] at H
    have c9b0 : decide (1152921504606846976 < a0) = true := dt_ c9
    clear c9
    simp only [Option.some.injEq, Prod.mk.injEq] at H
    obtain ⟨rfl, rfl, rfl⟩ := H
    go_enter Tryz.func38, Tryz.ntmps38
    go_wp2_with (first | ((with_reducible refine gate_dst (N := 4) rfl ?_); refine box_event ?hg (N := 4) ?hd (cs := #[.int .i64 0, .int .i64 0]) (t := 25) ?hr ?_; (case hd => rfl); (case hg => rfl); (case hr => first | (go_simp; done) | (go_simp; rfl)); intro gb347 hg w10 hbox hb; have BK347 := sd_ hbox; have GW347 := gw_ HB e0_ hg; have GE347 := GW347; replace HB := hb_ HB e0_ hb; clear hb hbox hg; have hcz11_0 : w10.cell? ⟨gb347, 0, none⟩ = some (.int .i64 0) := (kc_ BK347.out 0).trans rfl; have hcz11_1 : w10.cell? ⟨gb347, 1, none⟩ = some (.int .i64 0) := (kc_ BK347.out 1).trans rfl; have hfz11_0 := kf_ BK347.out 0; have hfz11_1 := kf_ BK347.out 1))
    refine bodyPost_ret (results_ct rfl _ _ gb347 25 #[.int .i64 0, .int .i64 0] (0, 0) _ rfl (by (with_reducible repeat first | apply kn_ | apply kd_ | apply ka_); refine blk_put (cs := #[.int .i64 0, .int .i64 0]) ?_ 1 _ rfl; (with_reducible repeat first | apply kn_ | apply kd_ | apply ka_); refine blk_put (cs := #[.int .i64 0, .int .i64 0]) ?_ 0 _ rfl; (with_reducible repeat first | apply kn_ | apply kd_ | apply ka_); exact BK347.out) Tryz.underlying25 rfl (by kernel_rfl)) rfl ?_
    exact ⟨by first | rfl | (simp [errW_none, errW_some] <;> rfl) | (simp [*, errW_none, errW_some] <;> rfl), by repeat (first | (with_reducible first | exact HB.out | apply ba_ | apply pd_ | apply d1_ | refine bs_ ?_ GE347.out) | exact HB.out)⟩
   ·rw [if_neg c9] at H
    have c9b0 : decide (1152921504606846976 < a0) = false := df_ c9
    clear c9
    by_cases c12 : a1 < (-1152921504606846976)
    ·rw [if_pos c12] at H
     have c12b0 : decide (a1 < (-1152921504606846976)) = true := dt_ c12
     clear c12
     simp only [Option.some.injEq, Prod.mk.injEq] at H
     obtain ⟨rfl, rfl, rfl⟩ := H
     go_enter Tryz.func38, Tryz.ntmps38
     go_wp2_with (first | ((with_reducible refine gate_dst (N := 4) rfl ?_); refine box_event ?hg (N := 4) ?hd (cs := #[.int .i64 0, .int .i64 0]) (t := 25) ?hr ?_; (case hd => rfl); (case hg => rfl); (case hr => first | (go_simp; done) | (go_simp; rfl)); intro gb347 hg w13 hbox hb; have BK347 := sd_ hbox; have GW347 := gw_ HB e0_ hg; have GE347 := GW347; replace HB := hb_ HB e0_ hb; clear hb hbox hg; have hcz14_0 : w13.cell? ⟨gb347, 0, none⟩ = some (.int .i64 0) := (kc_ BK347.out 0).trans rfl; have hcz14_1 : w13.cell? ⟨gb347, 1, none⟩ = some (.int .i64 0) := (kc_ BK347.out 1).trans rfl; have hfz14_0 := kf_ BK347.out 0; have hfz14_1 := kf_ BK347.out 1))
     refine bodyPost_ret (results_ct rfl _ _ gb347 25 #[.int .i64 0, .int .i64 0] (0, 0) _ rfl (by (with_reducible repeat first | apply kn_ | apply kd_ | apply ka_); refine blk_put (cs := #[.int .i64 0, .int .i64 0]) ?_ 1 _ rfl; (with_reducible repeat first | apply kn_ | apply kd_ | apply ka_); refine blk_put (cs := #[.int .i64 0, .int .i64 0]) ?_ 0 _ rfl; (with_reducible repeat first | apply kn_ | apply kd_ | apply ka_); exact BK347.out) Tryz.underlying25 rfl (by kernel_rfl)) rfl ?_
     exact ⟨by first | rfl | (simp [errW_none, errW_some] <;> rfl) | (simp [*, errW_none, errW_some] <;> rfl), by repeat (first | (with_reducible first | exact HB.out | apply ba_ | apply pd_ | apply d1_ | refine bs_ ?_ GE347.out) | exact HB.out)⟩
    ·rw [if_neg c12] at H
     have c12b0 : decide (a1 < (-1152921504606846976)) = false := df_ c12
     clear c12
     by_cases c15 : a1 > 1152921504606846976
     ·rw [if_pos c15] at H
      have c15b0 : decide (1152921504606846976 < a1) = true := dt_ c15
      clear c15
      simp only [Option.some.injEq, Prod.mk.injEq] at H
      obtain ⟨rfl, rfl, rfl⟩ := H
      go_enter Tryz.func38, Tryz.ntmps38
      go_wp2_with (first | ((with_reducible refine gate_dst (N := 4) rfl ?_); refine box_event ?hg (N := 4) ?hd (cs := #[.int .i64 0, .int .i64 0]) (t := 25) ?hr ?_; (case hd => rfl); (case hg => rfl); (case hr => first | (go_simp; done) | (go_simp; rfl)); intro gb347 hg w16 hbox hb; have BK347 := sd_ hbox; have GW347 := gw_ HB e0_ hg; have GE347 := GW347; replace HB := hb_ HB e0_ hb; clear hb hbox hg; have hcz17_0 : w16.cell? ⟨gb347, 0, none⟩ = some (.int .i64 0) := (kc_ BK347.out 0).trans rfl; have hcz17_1 : w16.cell? ⟨gb347, 1, none⟩ = some (.int .i64 0) := (kc_ BK347.out 1).trans rfl; have hfz17_0 := kf_ BK347.out 0; have hfz17_1 := kf_ BK347.out 1))
      refine bodyPost_ret (results_ct rfl _ _ gb347 25 #[.int .i64 0, .int .i64 0] (0, 0) _ rfl (by (with_reducible repeat first | apply kn_ | apply kd_ | apply ka_); refine blk_put (cs := #[.int .i64 0, .int .i64 0]) ?_ 1 _ rfl; (with_reducible repeat first | apply kn_ | apply kd_ | apply ka_); refine blk_put (cs := #[.int .i64 0, .int .i64 0]) ?_ 0 _ rfl; (with_reducible repeat first | apply kn_ | apply kd_ | apply ka_); exact BK347.out) Tryz.underlying25 rfl (by kernel_rfl)) rfl ?_
      exact ⟨by first | rfl | (simp [errW_none, errW_some] <;> rfl) | (simp [*, errW_none, errW_some] <;> rfl), by repeat (first | (with_reducible first | exact HB.out | apply ba_ | apply pd_ | apply d1_ | refine bs_ ?_ GE347.out) | exact HB.out)⟩
     ·rw [if_neg c15] at H
      have c15b0 : decide (1152921504606846976 < a1) = false := df_ c15
      clear c15
      replace H := ob_ H
      obtain ⟨⟨t348, t349, t350⟩, A180, H⟩ := H
      replace H : (some (t348, t349, t350)) = some (r1, r2, r3) := H
      have A18 := sd_ A180
      clear A180
      simp only [Option.some.injEq, Prod.mk.injEq] at H
      obtain ⟨rfl, rfl, rfl⟩ := H
      go_enter Tryz.func38, Tryz.ntmps38
      go_wp2_with (first | ((with_reducible refine gate_dst (N := 4) rfl ?_); refine box_event ?hg (N := 4) ?hd (cs := #[.int .i64 0, .int .i64 0]) (t := 25) ?hr ?_; (case hd => rfl); (case hg => rfl); (case hr => first | (go_simp; done) | (go_simp; rfl)); intro gb347 hg w19 hbox hb; have BK347 := sd_ hbox; have GW347 := gw_ HB e0_ hg; have GE347 := GW347; replace HB := hb_ HB e0_ hb; clear hb hbox hg) | ((with_reducible refine gate_callee (f := 59) rfl ?_); refine goesL_ (some 27) rfl rfl Tryz.func59 (by kernel_rfl) rfl #[.int .i64 a0, .int .i64 a1] rfl (by (try simp only [lm_, lq_, lx_]); first | done | rfl | (simp only [ld_, lt_]; rfl)) ?_; (with_reducible refine (neumeref02_lowest.calls k a0 a1 t348 t349 t350 _ A18.out).mono ?_); rintro e w20 ⟨rfl, hb⟩; refine ⟨_, rfl, ?_⟩; replace BK347 := kb_ BK347 hb; replace HB := hb_ HB (e_ GE347 e0_) hb; (try clear hb); (try clear hb2); (try clear hk); (try clear hi); have hcz21_0 : w20.cell? ⟨gb347, 0, none⟩ = some (.int .i64 0) := (kc_ BK347.out 0).trans rfl; have hcz21_1 : w20.cell? ⟨gb347, 1, none⟩ = some (.int .i64 0) := (kc_ BK347.out 1).trans rfl; have hfz21_0 := kf_ BK347.out 0; have hfz21_1 := kf_ BK347.out 1))
      refine bodyPost_ret (results_ct rfl _ _ gb347 25 #[.int .i64 t348, .int .i64 t349] (0, 0) _ rfl (by (with_reducible repeat first | apply kn_ | apply kd_ | apply ka_); refine blk_put (cs := #[.int .i64 t348, .int .i64 0]) ?_ 1 _ rfl; (with_reducible repeat first | apply kn_ | apply kd_ | apply ka_); refine blk_put (cs := #[.int .i64 0, .int .i64 0]) ?_ 0 _ rfl; (with_reducible repeat first | apply kn_ | apply kd_ | apply ka_); exact BK347.out) Tryz.underlying25 rfl (by kernel_rfl)) rfl ?_
      exact ⟨by first | rfl | (simp [errW_none, errW_some] <;> rfl) | (simp [*, errW_none, errW_some] <;> rfl), by repeat (first | (with_reducible first | exact HB.out | apply ba_ | apply pd_ | apply d1_ | refine bs_ ?_ GE347.out) | exact HB.out)⟩

end Go.Proofs.YtdiccfonlojlfaaGreatDoor.P
