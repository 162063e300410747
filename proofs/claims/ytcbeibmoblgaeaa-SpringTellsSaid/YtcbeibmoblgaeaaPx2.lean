-- Written by a program of this session (wip/tools/xprint.py, over the kit's print): Lean checks it.
import Derived.Test.YtcbeibmoblgaeaaPx0
import Derived.Test.YtcbeibmoblgaeaaPx1
namespace Go.Proofs.Ytcbeibmoblgaeaa.P
open Go.RowKit Go.Proofs.YtcbeibmoblgaeaaW.PrintWords Go.Proofs.YtcbeibmoblgaeaaW.PrintLast Go.Proofs.YtcbeibmoblgaeaaW.PrintMore
attribute [local go_sem] max2_int min2_int max_two min_two max_three min_three max_four min_four   -- for this text's walks alone
set_option linter.unusedVariables false
set_option linter.unusedSimpArgs false

/-! ### rat_lowest: function 34 -/
def rat_lowest.f (k : Nat) (a0 : Int) (a1 : Int) : Option (Int × Int × Int) := (rat_abs.f a0).bind fun t123 => ((rat_abs.f a1).bind fun t124 => ((rat_common.f k t123 t124).bind fun t125 => (if a1 < 0 then (if (wrap64 (-t125)) = 0 then (none) else ((rat_sized.f (wrap64 (Int.tdiv a0 (wrap64 (-t125)))) (wrap64 (Int.tdiv a1 (wrap64 (-t125))))).bind fun bt126 => (some (bt126.1, bt126.2.1, bt126.2.2)))) else (if t125 = 0 then (none) else ((rat_sized.f (wrap64 (Int.tdiv a0 t125)) (wrap64 (Int.tdiv a1 t125))).bind fun bt129 => (some (bt129.1, bt129.2.1, bt129.2.2)))))))
theorem rat_lowest.mono : ∀ a0 a1 k, LeO (rat_lowest.f k a0 a1) (rat_lowest.f (k + 1) a0 a1) := by
 intro a0 a1 k
 unfold rat_lowest.f
 repeat' first
   | (with_reducible exact rat_common.mono _ _ _)
   | (with_reducible exact LeO.refl _)
   | (with_reducible exact LeO.none _)
   | (with_reducible refine LeO.ite ?_ ?_)
   | (with_reducible refine LeO.bind ?_ (fun _ => ?_))
   | exact rat_common.mono _ _ _
   | exact LeO.none _
   | refine LeO.ite ?_ ?_
   | refine LeO.bind ?_ (fun _ => ?_)
def rat_lowest.T4 : Bool × List (List Nat × List Nat) := (true, [([], []), ([], []), ([0, 1], [0, 1]), ([], []), ([], []), ([3, 4], [3, 4]), ([2, 5], [2, 5]), ([6], [6]), ([6], [6]), ([7, 6, 0, 1, 2, 3, 4, 5, 6, 7, 8], [7]), ([8, 9, 0, 1, 2, 3, 4, 5, 6, 7, 8, 9], [8])])
def rat_lowest.B4 : List Nat := [0, 0, 3, 0, 0, 24, 63, 127, 127, 511, 1023]
theorem rat_lowest.tab4 : rtab .any (opsOf Try.f34 4) = rat_lowest.T4 := by kernel_rfl
theorem rat_lowest.bits4 : waitsOk rat_lowest.T4.2 rat_lowest.B4 = true := by kernel_rfl
set_option maxHeartbeats 8000000 in
set_option maxRecDepth 100000 in
theorem rat_lowest.calls (k : Nat) (a0 : Int) (a1 : Int) (r1 : Int) (r2 : Int) (r3 : Int) (w : World) (h : rat_lowest.f k a0 a1 = some (r1, r2, r3)) :
  Calls Try.prog 34 #[.int .i64 a0, .int .i64 a1] w fun e w' => e = .returned (.tuple #[.agg #[.int .i64 r1, .int .i64 r2], .int .i64 r3]) ∧ Below w.heap.size w w' := by
 have hu23 := Try.underlying23
 have HB := sd_ (Below.refl w.heap.size w)
 have H : ((rat_abs.f a0).bind fun t123 => ((rat_abs.f a1).bind fun t124 => ((rat_common.f k t123 t124).bind fun t125 => (if a1 < 0 then (if (wrap64 (-t125)) = 0 then (none) else ((rat_sized.f (wrap64 (Int.tdiv a0 (wrap64 (-t125)))) (wrap64 (Int.tdiv a1 (wrap64 (-t125))))).bind fun bt126 => (some (bt126.1, bt126.2.1, bt126.2.2)))) else (if t125 = 0 then (none) else ((rat_sized.f (wrap64 (Int.tdiv a0 t125)) (wrap64 (Int.tdiv a1 t125))).bind fun bt129 => (some (bt129.1, bt129.2.1, bt129.2.2)))))))) = some (r1, r2, r3) := h
 clear h
 replace H := ob_ H
 obtain ⟨t123, A30, H⟩ := H
 replace H : ((rat_abs.f a1).bind fun t124 => ((rat_common.f k t123 t124).bind fun t125 => (if a1 < 0 then (if (wrap64 (-t125)) = 0 then (none) else ((rat_sized.f (wrap64 (Int.tdiv a0 (wrap64 (-t125)))) (wrap64 (Int.tdiv a1 (wrap64 (-t125))))).bind fun bt126 => (some (bt126.1, bt126.2.1, bt126.2.2)))) else (if t125 = 0 then (none) else ((rat_sized.f (wrap64 (Int.tdiv a0 t125)) (wrap64 (Int.tdiv a1 t125))).bind fun bt129 => (some (bt129.1, bt129.2.1, bt129.2.2))))))) = some (r1, r2, r3) := H
 have A3 := sd_ A30
 clear A30
 replace H := ob_ H
 obtain ⟨t124, A40, H⟩ := H
 replace H : ((rat_common.f k t123 t124).bind fun t125 => (if a1 < 0 then (if (wrap64 (-t125)) = 0 then (none) else ((rat_sized.f (wrap64 (Int.tdiv a0 (wrap64 (-t125)))) (wrap64 (Int.tdiv a1 (wrap64 (-t125))))).bind fun bt126 => (some (bt126.1, bt126.2.1, bt126.2.2)))) else (if t125 = 0 then (none) else ((rat_sized.f (wrap64 (Int.tdiv a0 t125)) (wrap64 (Int.tdiv a1 t125))).bind fun bt129 => (some (bt129.1, bt129.2.1, bt129.2.2)))))) = some (r1, r2, r3) := H
 have A4 := sd_ A40
 clear A40
 replace H := ob_ H
 obtain ⟨t125, A50, H⟩ := H
 replace H : (if a1 < 0 then (if (wrap64 (-t125)) = 0 then (none) else ((rat_sized.f (wrap64 (Int.tdiv a0 (wrap64 (-t125)))) (wrap64 (Int.tdiv a1 (wrap64 (-t125))))).bind fun bt126 => (some (bt126.1, bt126.2.1, bt126.2.2)))) else (if t125 = 0 then (none) else ((rat_sized.f (wrap64 (Int.tdiv a0 t125)) (wrap64 (Int.tdiv a1 t125))).bind fun bt129 => (some (bt129.1, bt129.2.1, bt129.2.2))))) = some (r1, r2, r3) := H
 have A5 := sd_ A50
 clear A50
 by_cases c6 : a1 < 0
 ·rw [if_pos c6] at H
  have c6b0 : decide (a1 < 0) = true := dt_ c6
  clear c6
  by_cases c7 : (wrap64 (-t125)) = 0
  ·rw [if_pos c7] at H
   exact absurd H (by simp)
  ·rw [if_neg c7] at H
   have c7b0 : ((wrap64 (-t125)) == 0) = false := beq_eq_false_iff_ne.mpr c7
   have c7b1 : ((wrap64 (-t125)) != 0) = true := bne_iff_ne.mpr c7
   replace H := ob_ H
   obtain ⟨⟨t126, t127, t128⟩, A80, H⟩ := H
   replace H : (some (t126, t127, t128)) = some (r1, r2, r3) := H
   have A8 := sd_ A80
   clear A80
   simp only [Option.some.injEq, Prod.mk.injEq] at H
   obtain ⟨rfl, rfl, rfl⟩ := H
   go_enter Try.func34, Try.ntmps34
   try go_wp2_with (first | ((with_reducible refine gate_dst (N := 4) rfl ?_); refine box_event ?hg (N := 4) ?hd (cs := #[.int .i64 0, .int .i64 0]) (t := 23) ?hr ?_; (case hd => rfl); (case hg => rfl); (case hr => first | (go_simp; done) | (go_simp; rfl)); intro gb122 hg w9 hbox hb; have n0_ := sd_ (bt_ (by repeat first | exact HB.out | apply ba_ | apply pd_ | apply d1_) hb); have n1_ := sd_ (hbox); have n2_ := sd_ ((by rw [hg]; exact (bz_ (by repeat first | exact HB.out | apply ba_ | apply pd_ | apply d1_)) : w.heap.size ≤ gb122)); have n3_ := sd_ ((by rw [hg]; exact (bz_ (by repeat first | exact HB.out | apply ba_ | apply pd_ | apply d1_)) : w.heap.size ≤ gb122)); clear HB; have HB := n0_; have BK122 := n1_; have GW122 := n2_; have GE122 := n3_; clear n0_ n1_ n2_ n3_; clear hb hbox hg) | ((with_reducible refine gate_callee (f := 26) rfl ?_); refine goesL_ (some 8) rfl rfl Try.func26 (by kernel_rfl) rfl #[.int .i64 a0] rfl (by (try simp only [lm_, lq_, lx_]); first | done | rfl | (simp only [ld_, lt_]; rfl)) ?_; (with_reducible refine (rat_abs.calls a0 t123 _ A3.out).mono ?_); rintro e w' ⟨rfl, ⟨nd, rfl⟩⟩; refine ⟨_, rfl, ?_⟩; (try (rw [drewN_self w9]; generalize hq_ : World.drewN w9 _ = w9; have n0_ : Aside0 (w9.heap[gb122]? = some (.cells #[.int .i64 0, .int .i64 0] 23 (0, 0))) := ⟨by rw [← hq_]; exact (by (with_reducible repeat (first | refine kn_ ?_ _ | refine kd_ ?_ | refine ka_ ?_ _)); exact BK122.out)⟩; have n1_ : Aside0 (Below w.heap.size w w9) := ⟨by rw [← hq_]; exact (by repeat first | exact HB.out | apply ba_ | apply pd_ | apply d1_ | refine bs_ ?_ GE122.out)⟩; clear BK122 HB hq_; have BK122 := n0_; have HB := n1_; clear n0_ n1_))) | ((with_reducible refine gate_callee (f := 26) rfl ?_); refine goesL_ (some 10) rfl rfl Try.func26 (by kernel_rfl) rfl #[.int .i64 a1] rfl (by (try simp only [lm_, lq_, lx_]); first | done | rfl | (simp only [ld_, lt_]; rfl)) ?_; (with_reducible refine (rat_abs.calls a1 t124 _ A4.out).mono ?_); rintro e w' ⟨rfl, ⟨nd, rfl⟩⟩; refine ⟨_, rfl, ?_⟩; (try (rw [drewN_self w9]; generalize hq_ : World.drewN w9 _ = w9; have n0_ : Aside0 (w9.heap[gb122]? = some (.cells #[.int .i64 0, .int .i64 0] 23 (0, 0))) := ⟨by rw [← hq_]; exact (by (with_reducible repeat (first | refine kn_ ?_ _ | refine kd_ ?_ | refine ka_ ?_ _)); exact BK122.out)⟩; have n1_ : Aside0 (Below w.heap.size w w9) := ⟨by rw [← hq_]; exact (by repeat first | exact HB.out | apply ba_ | apply pd_ | apply d1_ | refine bs_ ?_ GE122.out)⟩; clear BK122 HB hq_; have BK122 := n0_; have HB := n1_; clear n0_ n1_))) | ((with_reducible refine gate_callee (f := 25) rfl ?_); refine goesL_ (some 11) rfl rfl Try.func25 (by kernel_rfl) rfl #[.int .i64 t123, .int .i64 t124] rfl (by (try simp only [lm_, lq_, lx_]); first | done | rfl | (simp only [ld_, lt_]; rfl)) ?_; (with_reducible refine (rat_common.calls k t123 t124 t125 _ A5.out).mono ?_); rintro e w' ⟨rfl, ⟨nd, rfl⟩⟩; refine ⟨_, rfl, ?_⟩; (try (rw [drewN_self w9]; generalize hq_ : World.drewN w9 _ = w9; have n0_ : Aside0 (w9.heap[gb122]? = some (.cells #[.int .i64 0, .int .i64 0] 23 (0, 0))) := ⟨by rw [← hq_]; exact (by (with_reducible repeat (first | refine kn_ ?_ _ | refine kd_ ?_ | refine ka_ ?_ _)); exact BK122.out)⟩; have n1_ : Aside0 (Below w.heap.size w w9) := ⟨by rw [← hq_]; exact (by repeat first | exact HB.out | apply ba_ | apply pd_ | apply d1_ | refine bs_ ?_ GE122.out)⟩; clear BK122 HB hq_; have BK122 := n0_; have HB := n1_; clear n0_ n1_))))
   have n0_ := sd_ (kd_ BK122.out)
   have n1_ := sd_ (d1_ HB.out)
   clear BK122
   clear HB
   have BK122 := n0_
   have HB := n1_
   clear n0_ n1_
   refine start_ (n := 11) (S := fun w' => True) (ds := []) #[false, false, false, false, false, false, false, false, false, false, false] (by kernel_rfl) rfl rfl trivial (fun hHeld => ?_); refine with_tabW rat_lowest.tab4 rat_lowest.bits4 (fun HT_ HW_ => ?_)
   generalize w9.drew = w10 at BK122 HB hHeld ⊢
   refine pure_ (i := 0) (N := some 16) (v := ?_) (a' := ?_) #[true, false, false, false, false, false, false, false, false, false, false] rfl rfl (any_of HT_.out (by kernel_rfl)) (fun _ _ _ h => h) (Or.inl ⟨by rfl, ?_⟩) ?_ ?_
   rotate_left; (intro w'; go_simp; with_reducible rfl); rotate_left; (simp only [Act.put, ls_, lz_, lc_, i64_w, i32_w]; rfl)
   refine pure_ (i := 1) (N := some 17) (v := ?_) (a' := ?_) #[true, true, false, false, false, false, false, false, false, false, false] rfl rfl (any_of HT_.out (by kernel_rfl)) (fun _ _ _ h => h) (Or.inl ⟨by rfl, ?_⟩) ?_ ?_
   rotate_left; (intro w'; go_simp; with_reducible rfl); rotate_left; (simp only [Act.put, ls_, lz_, lc_, i64_w, i32_w]; rfl)
   refine pure_ (i := 2) (N := some 18) (v := ?_) (a' := ?_) #[true, true, true, false, false, false, false, false, false, false, false] rfl rfl (any_of HT_.out (by kernel_rfl)) (fun _ _ _ h => h) (Or.inl ⟨by rfl, ?_⟩) ?_ ?_
   rotate_left; (intro w'; go_simp; with_reducible rfl); rotate_left; (simp only [Act.put, ls_, lz_, lc_, i64_w, i32_w]; rfl)
   refine pure_ (i := 3) (N := some 19) (v := ?_) (a' := ?_) #[true, true, true, true, false, false, false, false, false, false, false] rfl rfl (any_of HT_.out (by kernel_rfl)) (fun _ _ _ h => h) (Or.inl ⟨by rfl, ?_⟩) ?_ ?_
   rotate_left; (intro w'; go_simp; with_reducible rfl); rotate_left; (simp only [Act.put, ls_, lz_, lc_, i64_w, i32_w]; rfl)
   refine pure_ (i := 4) (N := some 20) (v := ?_) (a' := ?_) #[true, true, true, true, true, false, false, false, false, false, false] rfl rfl (any_of HT_.out (by kernel_rfl)) (fun _ _ _ h => h) (Or.inl ⟨by rfl, ?_⟩) ?_ ?_
   rotate_left; (intro w'; go_simp; with_reducible rfl); rotate_left; (simp only [Act.put, ls_, lz_, lc_, i64_w, i32_w]; rfl)
   refine pure_ (i := 5) (N := some 21) (v := ?_) (a' := ?_) #[true, true, true, true, true, true, false, false, false, false, false] rfl rfl (any_of HT_.out (by kernel_rfl)) (fun _ _ _ h => h) (Or.inl ⟨by rfl, ?_⟩) ?_ ?_
   rotate_left; (intro w'; go_simp; with_reducible rfl); rotate_left; (simp only [Act.put, ls_, lz_, lc_, i64_w, i32_w]; rfl)
   refine one_ (i := 6) (N := some 22) #[true, true, true, true, true, true, true, false, false, false, false] rfl rfl (one_of HT_.out (by kernel_rfl)) (by decide) (fun K hK => ?_)
   refine goes_ Try.func35 (by kernel_rfl) rfl #[.int .i64 (wrap64 (Int.tdiv a0 (wrap64 (-t125)))), .int .i64 (wrap64 (Int.tdiv a1 (wrap64 (-t125))))] (by rfl) rfl rfl (by (try simp only [lm_, lq_, lx_]); first | done | rfl | (simp only [ld_, lt_]; rfl)) ?_
   with_reducible refine (rat_sized.calls (wrap64 (Int.tdiv a0 (wrap64 (-t125)))) (wrap64 (Int.tdiv a1 (wrap64 (-t125)))) t126 t127 t128 _ A8.out).mono ?_
   rintro e w11 ⟨rfl, hb⟩
   refine ⟨_, rfl, ?_⟩
   have n0_ := sd_ (blk_below (g := gb122) (o := .cells #[.int .i64 0, .int .i64 0] 23 (0, 0)) (by (with_reducible repeat (first | refine kn_ ?_ _ | refine kd_ ?_ | refine ka_ ?_ _)); exact BK122.out) hb)
   have n1_ := sd_ (bt_ (by repeat first | exact HB.out | apply ba_ | apply pd_ | apply d1_ | refine bs_ ?_ GE122.out) hb)
   clear BK122
   clear HB
   have BK122 := n0_
   have HB := n1_
   clear n0_ n1_
   (try clear hb)
   (try clear hb2)
   (try clear hk)
   (try clear hi)
   refine hK.out _ _ trivial (fun hHeld => ?_)
   clear hK K
   refine norm_ (a' := ?_) ?_ ?_
   rotate_left
   ·show Act.put _ (some 22) _ = _
    simp only [Act.put, ls_, lz_, lc_, i64_w, i32_w]
    rfl
   refine pure_ (i := 7) (N := some 23) (v := ?_) (a' := ?_) #[true, true, true, true, true, true, true, true, false, false, false] rfl rfl (any_of HT_.out (by kernel_rfl)) (fun _ _ _ h => h) (Or.inl ⟨by rfl, ?_⟩) ?_ ?_
   rotate_left; (intro w'; go_simp; with_reducible rfl); rotate_left; (simp only [Act.put, ls_, lz_, lc_, i64_w, i32_w]; rfl)
   refine pure_ (i := 8) (N := some 24) (v := ?_) (a' := ?_) #[true, true, true, true, true, true, true, true, true, false, false] rfl rfl (any_of HT_.out (by kernel_rfl)) (fun _ _ _ h => h) (Or.inl ⟨by rfl, ?_⟩) ?_ ?_
   rotate_left; (intro w'; go_simp; with_reducible rfl); rotate_left; (simp only [Act.put, ls_, lz_, lc_, i64_w, i32_w]; rfl)
   refine one_ (i := 9) (N := none) #[true, true, true, true, true, true, true, true, true, true, false] rfl rfl (one_of HT_.out (by kernel_rfl)) (by decide) (fun K hK => ?_)
   have hs12 : w11.cell? ⟨gb122, 0, none⟩ = some (.int .i64 0) := (kc_ BK122.out 0).trans rfl
   have hfs12 := kf_ BK122.out 0
   have hs13 : w11.cell? ⟨gb122, 1, none⟩ = some (.int .i64 0) := (kc_ BK122.out 1).trans rfl
   have hfs13 := kf_ BK122.out 1
   refine skip_ (w1 := ?_) (by rfl) rfl ?_ ?_
   rotate_left
   ·go_simp
    rfl
   refine hK.out _ _ trivial (fun hHeld => ?_)
   clear hK K
   refine pure_ (i := 10) (N := some 5) (v := ?_) (a' := ?_) #[true, true, true, true, true, true, true, true, true, true, true] rfl rfl (any_of HT_.out (by kernel_rfl)) (fun _ _ _ h => h) (Or.inl ⟨by rfl, ?_⟩) ?_ ?_
   rotate_left; (intro w'; go_simp; with_reducible rfl); rotate_left; (simp only [Act.put, ls_, lz_, lc_, i64_w, i32_w]; rfl)
   refine done_ (done_of HT_.out (by kernel_rfl)) ?_
   try go_wp2
   refine bodyPost_ret (results_ct rfl _ _ gb122 23 #[.int .i64 t126, .int .i64 t127] (0, 0) _ rfl (by (with_reducible repeat (first | refine kn_ ?_ _ | refine kd_ ?_ | refine ka_ ?_ _)); refine blk_put (cs := #[.int .i64 t126, .int .i64 0]) ?_ 1 _ rfl; (with_reducible repeat (first | refine kn_ ?_ _ | refine kd_ ?_ | refine ka_ ?_ _)); refine blk_put (cs := #[.int .i64 0, .int .i64 0]) ?_ 0 _ rfl; (with_reducible repeat (first | refine kn_ ?_ _ | refine kd_ ?_ | refine ka_ ?_ _)); exact BK122.out) Try.underlying23 rfl (by kernel_rfl)) rfl ?_
   exact ⟨by first | rfl | (simp [errW_none, errW_some] <;> rfl) | (simp [*, errW_none, errW_some] <;> rfl), by repeat first | exact HB.out | apply ba_ | apply pd_ | apply d1_ | refine bs_ ?_ GE122.out⟩
 ·rw [if_neg c6] at H
  have c6b0 : decide (a1 < 0) = false := df_ c6
  clear c6
  by_cases c14 : t125 = 0
  ·rw [if_pos c14] at H
   exact absurd H (by simp)
  ·rw [if_neg c14] at H
   have c14b0 : (t125 == 0) = false := beq_eq_false_iff_ne.mpr c14
   have c14b1 : (t125 != 0) = true := bne_iff_ne.mpr c14
   replace H := ob_ H
   obtain ⟨⟨t129, t130, t131⟩, A150, H⟩ := H
   replace H : (some (t129, t130, t131)) = some (r1, r2, r3) := H
   have A15 := sd_ A150
   clear A150
   simp only [Option.some.injEq, Prod.mk.injEq] at H
   obtain ⟨rfl, rfl, rfl⟩ := H
   go_enter Try.func34, Try.ntmps34
   try go_wp2_with (first | ((with_reducible refine gate_dst (N := 4) rfl ?_); refine box_event ?hg (N := 4) ?hd (cs := #[.int .i64 0, .int .i64 0]) (t := 23) ?hr ?_; (case hd => rfl); (case hg => rfl); (case hr => first | (go_simp; done) | (go_simp; rfl)); intro gb122 hg w16 hbox hb; have n0_ := sd_ (bt_ (by repeat first | exact HB.out | apply ba_ | apply pd_ | apply d1_) hb); have n1_ := sd_ (hbox); have n2_ := sd_ ((by rw [hg]; exact (bz_ (by repeat first | exact HB.out | apply ba_ | apply pd_ | apply d1_)) : w.heap.size ≤ gb122)); have n3_ := sd_ ((by rw [hg]; exact (bz_ (by repeat first | exact HB.out | apply ba_ | apply pd_ | apply d1_)) : w.heap.size ≤ gb122)); clear HB; have HB := n0_; have BK122 := n1_; have GW122 := n2_; have GE122 := n3_; clear n0_ n1_ n2_ n3_; clear hb hbox hg) | ((with_reducible refine gate_callee (f := 26) rfl ?_); refine goesL_ (some 8) rfl rfl Try.func26 (by kernel_rfl) rfl #[.int .i64 a0] rfl (by (try simp only [lm_, lq_, lx_]); first | done | rfl | (simp only [ld_, lt_]; rfl)) ?_; (with_reducible refine (rat_abs.calls a0 t123 _ A3.out).mono ?_); rintro e w' ⟨rfl, ⟨nd, rfl⟩⟩; refine ⟨_, rfl, ?_⟩; (try (rw [drewN_self w16]; generalize hq_ : World.drewN w16 _ = w16; have n0_ : Aside0 (w16.heap[gb122]? = some (.cells #[.int .i64 0, .int .i64 0] 23 (0, 0))) := ⟨by rw [← hq_]; exact (by (with_reducible repeat (first | refine kn_ ?_ _ | refine kd_ ?_ | refine ka_ ?_ _)); exact BK122.out)⟩; have n1_ : Aside0 (Below w.heap.size w w16) := ⟨by rw [← hq_]; exact (by repeat first | exact HB.out | apply ba_ | apply pd_ | apply d1_ | refine bs_ ?_ GE122.out)⟩; clear BK122 HB hq_; have BK122 := n0_; have HB := n1_; clear n0_ n1_))) | ((with_reducible refine gate_callee (f := 26) rfl ?_); refine goesL_ (some 10) rfl rfl Try.func26 (by kernel_rfl) rfl #[.int .i64 a1] rfl (by (try simp only [lm_, lq_, lx_]); first | done | rfl | (simp only [ld_, lt_]; rfl)) ?_; (with_reducible refine (rat_abs.calls a1 t124 _ A4.out).mono ?_); rintro e w' ⟨rfl, ⟨nd, rfl⟩⟩; refine ⟨_, rfl, ?_⟩; (try (rw [drewN_self w16]; generalize hq_ : World.drewN w16 _ = w16; have n0_ : Aside0 (w16.heap[gb122]? = some (.cells #[.int .i64 0, .int .i64 0] 23 (0, 0))) := ⟨by rw [← hq_]; exact (by (with_reducible repeat (first | refine kn_ ?_ _ | refine kd_ ?_ | refine ka_ ?_ _)); exact BK122.out)⟩; have n1_ : Aside0 (Below w.heap.size w w16) := ⟨by rw [← hq_]; exact (by repeat first | exact HB.out | apply ba_ | apply pd_ | apply d1_ | refine bs_ ?_ GE122.out)⟩; clear BK122 HB hq_; have BK122 := n0_; have HB := n1_; clear n0_ n1_))) | ((with_reducible refine gate_callee (f := 25) rfl ?_); refine goesL_ (some 11) rfl rfl Try.func25 (by kernel_rfl) rfl #[.int .i64 t123, .int .i64 t124] rfl (by (try simp only [lm_, lq_, lx_]); first | done | rfl | (simp only [ld_, lt_]; rfl)) ?_; (with_reducible refine (rat_common.calls k t123 t124 t125 _ A5.out).mono ?_); rintro e w' ⟨rfl, ⟨nd, rfl⟩⟩; refine ⟨_, rfl, ?_⟩; (try (rw [drewN_self w16]; generalize hq_ : World.drewN w16 _ = w16; have n0_ : Aside0 (w16.heap[gb122]? = some (.cells #[.int .i64 0, .int .i64 0] 23 (0, 0))) := ⟨by rw [← hq_]; exact (by (with_reducible repeat (first | refine kn_ ?_ _ | refine kd_ ?_ | refine ka_ ?_ _)); exact BK122.out)⟩; have n1_ : Aside0 (Below w.heap.size w w16) := ⟨by rw [← hq_]; exact (by repeat first | exact HB.out | apply ba_ | apply pd_ | apply d1_ | refine bs_ ?_ GE122.out)⟩; clear BK122 HB hq_; have BK122 := n0_; have HB := n1_; clear n0_ n1_))))
   have n0_ := sd_ (kd_ BK122.out)
   have n1_ := sd_ (d1_ HB.out)
   clear BK122
   clear HB
   have BK122 := n0_
   have HB := n1_
   clear n0_ n1_
   refine start_ (n := 11) (S := fun w' => True) (ds := []) #[false, false, false, false, false, false, false, false, false, false, false] (by kernel_rfl) rfl rfl trivial (fun hHeld => ?_); refine with_tabW rat_lowest.tab4 rat_lowest.bits4 (fun HT_ HW_ => ?_)
   generalize w16.drew = w17 at BK122 HB hHeld ⊢
   refine pure_ (i := 0) (N := some 16) (v := ?_) (a' := ?_) #[true, false, false, false, false, false, false, false, false, false, false] rfl rfl (any_of HT_.out (by kernel_rfl)) (fun _ _ _ h => h) (Or.inl ⟨by rfl, ?_⟩) ?_ ?_
   rotate_left; (intro w'; go_simp; with_reducible rfl); rotate_left; (simp only [Act.put, ls_, lz_, lc_, i64_w, i32_w]; rfl)
   refine pure_ (i := 1) (N := some 17) (v := ?_) (a' := ?_) #[true, true, false, false, false, false, false, false, false, false, false] rfl rfl (any_of HT_.out (by kernel_rfl)) (fun _ _ _ h => h) (Or.inl ⟨by rfl, ?_⟩) ?_ ?_
   rotate_left; (intro w'; go_simp; with_reducible rfl); rotate_left; (simp only [Act.put, ls_, lz_, lc_, i64_w, i32_w]; rfl)
   refine pure_ (i := 2) (N := some 18) (v := ?_) (a' := ?_) #[true, true, true, false, false, false, false, false, false, false, false] rfl rfl (any_of HT_.out (by kernel_rfl)) (fun _ _ _ h => h) (Or.inl ⟨by rfl, ?_⟩) ?_ ?_
   rotate_left; (intro w'; go_simp; with_reducible rfl); rotate_left; (simp only [Act.put, ls_, lz_, lc_, i64_w, i32_w]; rfl)
   refine pure_ (i := 3) (N := some 19) (v := ?_) (a' := ?_) #[true, true, true, true, false, false, false, false, false, false, false] rfl rfl (any_of HT_.out (by kernel_rfl)) (fun _ _ _ h => h) (Or.inl ⟨by rfl, ?_⟩) ?_ ?_
   rotate_left; (intro w'; go_simp; with_reducible rfl); rotate_left; (simp only [Act.put, ls_, lz_, lc_, i64_w, i32_w]; rfl)
   refine pure_ (i := 4) (N := some 20) (v := ?_) (a' := ?_) #[true, true, true, true, true, false, false, false, false, false, false] rfl rfl (any_of HT_.out (by kernel_rfl)) (fun _ _ _ h => h) (Or.inl ⟨by rfl, ?_⟩) ?_ ?_
   rotate_left; (intro w'; go_simp; with_reducible rfl); rotate_left; (simp only [Act.put, ls_, lz_, lc_, i64_w, i32_w]; rfl)
   refine pure_ (i := 5) (N := some 21) (v := ?_) (a' := ?_) #[true, true, true, true, true, true, false, false, false, false, false] rfl rfl (any_of HT_.out (by kernel_rfl)) (fun _ _ _ h => h) (Or.inl ⟨by rfl, ?_⟩) ?_ ?_
   rotate_left; (intro w'; go_simp; with_reducible rfl); rotate_left; (simp only [Act.put, ls_, lz_, lc_, i64_w, i32_w]; rfl)
   refine one_ (i := 6) (N := some 22) #[true, true, true, true, true, true, true, false, false, false, false] rfl rfl (one_of HT_.out (by kernel_rfl)) (by decide) (fun K hK => ?_)
   refine goes_ Try.func35 (by kernel_rfl) rfl #[.int .i64 (wrap64 (Int.tdiv a0 t125)), .int .i64 (wrap64 (Int.tdiv a1 t125))] (by rfl) rfl rfl (by (try simp only [lm_, lq_, lx_]); first | done | rfl | (simp only [ld_, lt_]; rfl)) ?_
   with_reducible refine (rat_sized.calls (wrap64 (Int.tdiv a0 t125)) (wrap64 (Int.tdiv a1 t125)) t129 t130 t131 _ A15.out).mono ?_
   rintro e w18 ⟨rfl, hb⟩
   refine ⟨_, rfl, ?_⟩
   have n0_ := sd_ (blk_below (g := gb122) (o := .cells #[.int .i64 0, .int .i64 0] 23 (0, 0)) (by (with_reducible repeat (first | refine kn_ ?_ _ | refine kd_ ?_ | refine ka_ ?_ _)); exact BK122.out) hb)
   have n1_ := sd_ (bt_ (by repeat first | exact HB.out | apply ba_ | apply pd_ | apply d1_ | refine bs_ ?_ GE122.out) hb)
   clear BK122
   clear HB
   have BK122 := n0_
   have HB := n1_
   clear n0_ n1_
   (try clear hb)
   (try clear hb2)
   (try clear hk)
   (try clear hi)
   refine hK.out _ _ trivial (fun hHeld => ?_)
   clear hK K
   refine norm_ (a' := ?_) ?_ ?_
   rotate_left
   ·show Act.put _ (some 22) _ = _
    simp only [Act.put, ls_, lz_, lc_, i64_w, i32_w]
    rfl
   refine pure_ (i := 7) (N := some 23) (v := ?_) (a' := ?_) #[true, true, true, true, true, true, true, true, false, false, false] rfl rfl (any_of HT_.out (by kernel_rfl)) (fun _ _ _ h => h) (Or.inl ⟨by rfl, ?_⟩) ?_ ?_
   rotate_left; (intro w'; go_simp; with_reducible rfl); rotate_left; (simp only [Act.put, ls_, lz_, lc_, i64_w, i32_w]; rfl)
   refine pure_ (i := 8) (N := some 24) (v := ?_) (a' := ?_) #[true, true, true, true, true, true, true, true, true, false, false] rfl rfl (any_of HT_.out (by kernel_rfl)) (fun _ _ _ h => h) (Or.inl ⟨by rfl, ?_⟩) ?_ ?_
   rotate_left; (intro w'; go_simp; with_reducible rfl); rotate_left; (simp only [Act.put, ls_, lz_, lc_, i64_w, i32_w]; rfl)
   refine one_ (i := 9) (N := none) #[true, true, true, true, true, true, true, true, true, true, false] rfl rfl (one_of HT_.out (by kernel_rfl)) (by decide) (fun K hK => ?_)
   have hs19 : w18.cell? ⟨gb122, 0, none⟩ = some (.int .i64 0) := (kc_ BK122.out 0).trans rfl
   have hfs19 := kf_ BK122.out 0
   have hs20 : w18.cell? ⟨gb122, 1, none⟩ = some (.int .i64 0) := (kc_ BK122.out 1).trans rfl
   have hfs20 := kf_ BK122.out 1
   refine skip_ (w1 := ?_) (by rfl) rfl ?_ ?_
   rotate_left
   ·go_simp
    rfl
   refine hK.out _ _ trivial (fun hHeld => ?_)
   clear hK K
   refine pure_ (i := 10) (N := some 5) (v := ?_) (a' := ?_) #[true, true, true, true, true, true, true, true, true, true, true] rfl rfl (any_of HT_.out (by kernel_rfl)) (fun _ _ _ h => h) (Or.inl ⟨by rfl, ?_⟩) ?_ ?_
   rotate_left; (intro w'; go_simp; with_reducible rfl); rotate_left; (simp only [Act.put, ls_, lz_, lc_, i64_w, i32_w]; rfl)
   refine done_ (done_of HT_.out (by kernel_rfl)) ?_
   try go_wp2
   refine bodyPost_ret (results_ct rfl _ _ gb122 23 #[.int .i64 t129, .int .i64 t130] (0, 0) _ rfl (by (with_reducible repeat (first | refine kn_ ?_ _ | refine kd_ ?_ | refine ka_ ?_ _)); refine blk_put (cs := #[.int .i64 t129, .int .i64 0]) ?_ 1 _ rfl; (with_reducible repeat (first | refine kn_ ?_ _ | refine kd_ ?_ | refine ka_ ?_ _)); refine blk_put (cs := #[.int .i64 0, .int .i64 0]) ?_ 0 _ rfl; (with_reducible repeat (first | refine kn_ ?_ _ | refine kd_ ?_ | refine ka_ ?_ _)); exact BK122.out) Try.underlying23 rfl (by kernel_rfl)) rfl ?_
   exact ⟨by first | rfl | (simp [errW_none, errW_some] <;> rfl) | (simp [*, errW_none, errW_some] <;> rfl), by repeat first | exact HB.out | apply ba_ | apply pd_ | apply d1_ | refine bs_ ?_ GE122.out⟩

/-! ### rat_Add: function 32 -/
def rat_Add.f (k : Nat) (a0_0 : Int) (a0_1 : Int) (a1_0 : Int) (a1_1 : Int) : Option (Int × Int × Int) := (rat_both.f k a0_0 a0_1 a1_0 a1_1).bind fun t135 => (if t135 = true then ((rat_common.f k a0_1 a1_1).bind fun t136 => (if t136 = 0 then (none) else ((rat_lowest.f k (wrap64 ((wrap64 (a0_0 * (wrap64 (Int.tdiv a1_1 t136)))) + (wrap64 (a1_0 * (wrap64 (Int.tdiv a0_1 t136)))))) (wrap64 ((wrap64 (Int.tdiv a0_1 t136)) * a1_1))).bind fun bt137 => (some (bt137.1, bt137.2.1, bt137.2.2))))) else ((rat_zero.f).bind fun bt140 => (some (bt140.1, bt140.2, 2))))
theorem rat_Add.mono : ∀ a0 a1 a2 a3 k, LeO (rat_Add.f k a0 a1 a2 a3) (rat_Add.f (k + 1) a0 a1 a2 a3) := by
 intro a0 a1 a2 a3 k
 unfold rat_Add.f
 repeat' first
   | (with_reducible exact rat_both.mono _ _ _ _ _)
   | (with_reducible exact rat_common.mono _ _ _)
   | (with_reducible exact rat_lowest.mono _ _ _)
   | (with_reducible exact LeO.refl _)
   | (with_reducible exact LeO.none _)
   | (with_reducible refine LeO.ite ?_ ?_)
   | (with_reducible refine LeO.bind ?_ (fun _ => ?_))
   | exact rat_both.mono _ _ _ _ _
   | exact rat_common.mono _ _ _
   | exact rat_lowest.mono _ _ _
   | exact LeO.none _
   | refine LeO.ite ?_ ?_
   | refine LeO.bind ?_ (fun _ => ?_)
def rat_Add.T4 : Bool × List (List Nat × List Nat) := (true, [([], []), ([0], [0]), ([], []), ([2], [2]), ([], []), ([3, 4], [3, 4]), ([1, 5], [1, 5]), ([], []), ([7], [7]), ([], []), ([9], [9]), ([], []), ([10, 11], [10, 11]), ([8, 12], [8, 12]), ([6, 13], [6, 13]), ([], []), ([15], [15]), ([], []), ([16, 17], [16, 17]), ([], []), ([19], [19]), ([18, 20], [18, 20]), ([14, 21], [14, 21]), ([22], [22]), ([22], [22]), ([23, 22, 0, 1, 2, 3, 4, 5, 6, 7, 8, 9, 10, 11, 12, 13, 14, 15, 16, 17, 18, 19, 20, 21, 22, 23, 24], [23]), ([24, 25, 0, 1, 2, 3, 4, 5, 6, 7, 8, 9, 10, 11, 12, 13, 14, 15, 16, 17, 18, 19, 20, 21, 22, 23, 24, 25], [24])])
def rat_Add.B4 : List Nat := [0, 1, 0, 4, 0, 28, 63, 0, 128, 0, 512, 0, 3584, 8064, 16383, 0, 32768, 0, 229376, 0, 524288, 2064384, 4194303, 8388607, 8388607, 33554431, 67108863]
theorem rat_Add.tab4 : rtab .any (opsOf Try.f32 4) = rat_Add.T4 := by kernel_rfl
theorem rat_Add.bits4 : waitsOk rat_Add.T4.2 rat_Add.B4 = true := by kernel_rfl
set_option maxHeartbeats 8000000 in
set_option maxRecDepth 100000 in
theorem rat_Add.calls (k : Nat) (a0_0 : Int) (a0_1 : Int) (a1_0 : Int) (a1_1 : Int) (r1 : Int) (r2 : Int) (r3 : Int) (w : World) (h : rat_Add.f k a0_0 a0_1 a1_0 a1_1 = some (r1, r2, r3)) :
  Calls Try.prog 32 #[.agg #[.int .i64 a0_0, .int .i64 a0_1], .agg #[.int .i64 a1_0, .int .i64 a1_1]] w fun e w' => e = .returned (.tuple #[.agg #[.int .i64 r1, .int .i64 r2], .int .i64 r3]) ∧ Below w.heap.size w w' := by
 have hu23 := Try.underlying23
 have HB := sd_ (Below.refl w.heap.size w)
 have H : ((rat_both.f k a0_0 a0_1 a1_0 a1_1).bind fun t135 => (if t135 = true then ((rat_common.f k a0_1 a1_1).bind fun t136 => (if t136 = 0 then (none) else ((rat_lowest.f k (wrap64 ((wrap64 (a0_0 * (wrap64 (Int.tdiv a1_1 t136)))) + (wrap64 (a1_0 * (wrap64 (Int.tdiv a0_1 t136)))))) (wrap64 ((wrap64 (Int.tdiv a0_1 t136)) * a1_1))).bind fun bt137 => (some (bt137.1, bt137.2.1, bt137.2.2))))) else ((rat_zero.f).bind fun bt140 => (some (bt140.1, bt140.2, 2))))) = some (r1, r2, r3) := h
 clear h
 replace H := ob_ H
 obtain ⟨t135, A30, H⟩ := H
 replace H : (if t135 = true then ((rat_common.f k a0_1 a1_1).bind fun t136 => (if t136 = 0 then (none) else ((rat_lowest.f k (wrap64 ((wrap64 (a0_0 * (wrap64 (Int.tdiv a1_1 t136)))) + (wrap64 (a1_0 * (wrap64 (Int.tdiv a0_1 t136)))))) (wrap64 ((wrap64 (Int.tdiv a0_1 t136)) * a1_1))).bind fun bt137 => (some (bt137.1, bt137.2.1, bt137.2.2))))) else ((rat_zero.f).bind fun bt140 => (some (bt140.1, bt140.2, 2)))) = some (r1, r2, r3) := H
 have A3 := sd_ A30
 clear A30
 by_cases c4 : t135 = true
 ·subst c4
  have H1 : ((rat_common.f k a0_1 a1_1).bind fun t136 => (if t136 = 0 then (none) else ((rat_lowest.f k (wrap64 ((wrap64 (a0_0 * (wrap64 (Int.tdiv a1_1 t136)))) + (wrap64 (a1_0 * (wrap64 (Int.tdiv a0_1 t136)))))) (wrap64 ((wrap64 (Int.tdiv a0_1 t136)) * a1_1))).bind fun bt137 => (some (bt137.1, bt137.2.1, bt137.2.2))))) = some (r1, r2, r3) := by rw [if_pos rfl] at H; exact H
  clear H; have H := H1; clear H1
  replace H := ob_ H
  obtain ⟨t136, A50, H⟩ := H
  replace H : (if t136 = 0 then (none) else ((rat_lowest.f k (wrap64 ((wrap64 (a0_0 * (wrap64 (Int.tdiv a1_1 t136)))) + (wrap64 (a1_0 * (wrap64 (Int.tdiv a0_1 t136)))))) (wrap64 ((wrap64 (Int.tdiv a0_1 t136)) * a1_1))).bind fun bt137 => (some (bt137.1, bt137.2.1, bt137.2.2)))) = some (r1, r2, r3) := H
  have A5 := sd_ A50
  clear A50
  by_cases c6 : t136 = 0
  ·rw [if_pos c6] at H
   exact absurd H (by simp)
  ·rw [if_neg c6] at H
   have c6b0 : (t136 == 0) = false := beq_eq_false_iff_ne.mpr c6
   have c6b1 : (t136 != 0) = true := bne_iff_ne.mpr c6
   replace H := ob_ H
   obtain ⟨⟨t137, t138, t139⟩, A70, H⟩ := H
   replace H : (some (t137, t138, t139)) = some (r1, r2, r3) := H
   have A7 := sd_ A70
   clear A70
   simp only [Option.some.injEq, Prod.mk.injEq] at H
   obtain ⟨rfl, rfl, rfl⟩ := H
   go_enter Try.func32, Try.ntmps32
   try go_wp2_with (first | ((with_reducible refine gate_dst (N := 2) rfl ?_); refine box_event ?hg (N := 2) ?hd (cs := #[.int .i64 a0_0, .int .i64 a0_1]) (t := 23) ?hr ?_; (case hd => rfl); (case hg => rfl); (case hr => first | (go_simp; done) | (go_simp; rfl)); intro gb132 hg w8 hbox hb; have n0_ := sd_ (bt_ (by repeat first | exact HB.out | apply ba_ | apply pd_ | apply d1_) hb); have n1_ := sd_ (hbox); have n2_ := sd_ ((by rw [hg]; exact (bz_ (by repeat first | exact HB.out | apply ba_ | apply pd_ | apply d1_)) : w.heap.size ≤ gb132)); have n3_ := sd_ ((by rw [hg]; exact (bz_ (by repeat first | exact HB.out | apply ba_ | apply pd_ | apply d1_)) : w.heap.size ≤ gb132)); clear HB; have HB := n0_; have BK132 := n1_; have GW132 := n2_; have GE132 := n3_; clear n0_ n1_ n2_ n3_; clear hb hbox hg) | ((with_reducible refine gate_dst (N := 3) rfl ?_); refine box_event ?hg (N := 3) ?hd (cs := #[.int .i64 a1_0, .int .i64 a1_1]) (t := 23) ?hr ?_; (case hd => rfl); (case hg => rfl); (case hr => first | (go_simp; done) | (go_simp; rfl)); intro gb133 hg w9 hbox hb; have n0_ := sd_ (blk_below (g := gb132) (o := .cells #[.int .i64 a0_0, .int .i64 a0_1] 23 (0, 0)) (by (with_reducible repeat (first | refine kn_ ?_ _ | refine kd_ ?_ | refine ka_ ?_ _)); exact BK132.out) hb); have n1_ := sd_ (bt_ (by repeat first | exact HB.out | apply ba_ | apply pd_ | apply d1_ | refine bs_ ?_ GE132.out) hb); have n2_ := sd_ (hbox); have n3_ := sd_ ((by rw [hg]; exact (bz_ (by repeat first | exact HB.out | apply ba_ | apply pd_ | apply d1_ | refine bs_ ?_ GE132.out)) : w.heap.size ≤ gb133)); have n4_ := sd_ ((by rw [hg]; exact (bz_ (by repeat first | exact HB.out | apply ba_ | apply pd_ | apply d1_ | refine bs_ ?_ GE132.out)) : w.heap.size ≤ gb133)); have n5_ := sd_ ((by rw [hg]; exact nn_ (blk_lt (g := gb132) (o := .cells #[.int .i64 a0_0, .int .i64 a0_1] 23 (0, 0)) (by (with_reducible repeat (first | refine kn_ ?_ _ | refine kd_ ?_ | refine ka_ ?_ _)); exact BK132.out)) : gb132 ≠ gb133)); have n6_ := sd_ ((by rw [hg]; exact Nat.ne_of_gt (blk_lt (g := gb132) (o := .cells #[.int .i64 a0_0, .int .i64 a0_1] 23 (0, 0)) (by (with_reducible repeat (first | refine kn_ ?_ _ | refine kd_ ?_ | refine ka_ ?_ _)); exact BK132.out)) : gb133 ≠ gb132)); clear BK132; clear HB; have BK132 := n0_; have HB := n1_; have BK133 := n2_; have GW133 := n3_; have GE133 := n4_; have NB132_133 := n5_; have NB133_132 := n6_; clear n0_ n1_ n2_ n3_ n4_ n5_ n6_; clear hb hbox hg) | ((with_reducible refine gate_dst (N := 4) rfl ?_); refine box_event ?hg (N := 4) ?hd (cs := #[.int .i64 0, .int .i64 0]) (t := 23) ?hr ?_; (case hd => rfl); (case hg => rfl); (case hr => first | (go_simp; done) | (go_simp; rfl)); intro gb134 hg w10 hbox hb; have n0_ := sd_ (blk_below (g := gb132) (o := .cells #[.int .i64 a0_0, .int .i64 a0_1] 23 (0, 0)) (by (with_reducible repeat (first | refine kn_ ?_ _ | refine kd_ ?_ | refine ka_ ?_ _)); exact BK132.out) hb); have n1_ := sd_ (blk_below (g := gb133) (o := .cells #[.int .i64 a1_0, .int .i64 a1_1] 23 (0, 0)) (by (with_reducible repeat (first | refine kn_ ?_ _ | refine kd_ ?_ | refine ka_ ?_ _)); exact BK133.out) hb); have n2_ := sd_ (bt_ (by repeat first | exact HB.out | apply ba_ | apply pd_ | apply d1_ | refine bs_ ?_ GE132.out | refine bs_ ?_ GE133.out) hb); have n3_ := sd_ (hbox); have n4_ := sd_ ((by rw [hg]; exact (bz_ (by repeat first | exact HB.out | apply ba_ | apply pd_ | apply d1_ | refine bs_ ?_ GE132.out | refine bs_ ?_ GE133.out)) : w.heap.size ≤ gb134)); have n5_ := sd_ ((by rw [hg]; exact (bz_ (by repeat first | exact HB.out | apply ba_ | apply pd_ | apply d1_ | refine bs_ ?_ GE132.out | refine bs_ ?_ GE133.out)) : w.heap.size ≤ gb134)); have n6_ := sd_ ((by rw [hg]; exact nn_ (blk_lt (g := gb132) (o := .cells #[.int .i64 a0_0, .int .i64 a0_1] 23 (0, 0)) (by (with_reducible repeat (first | refine kn_ ?_ _ | refine kd_ ?_ | refine ka_ ?_ _)); exact BK132.out)) : gb132 ≠ gb134)); have n7_ := sd_ ((by rw [hg]; exact Nat.ne_of_gt (blk_lt (g := gb132) (o := .cells #[.int .i64 a0_0, .int .i64 a0_1] 23 (0, 0)) (by (with_reducible repeat (first | refine kn_ ?_ _ | refine kd_ ?_ | refine ka_ ?_ _)); exact BK132.out)) : gb134 ≠ gb132)); have n8_ := sd_ ((by rw [hg]; exact nn_ (blk_lt (g := gb133) (o := .cells #[.int .i64 a1_0, .int .i64 a1_1] 23 (0, 0)) (by (with_reducible repeat (first | refine kn_ ?_ _ | refine kd_ ?_ | refine ka_ ?_ _)); exact BK133.out)) : gb133 ≠ gb134)); have n9_ := sd_ ((by rw [hg]; exact Nat.ne_of_gt (blk_lt (g := gb133) (o := .cells #[.int .i64 a1_0, .int .i64 a1_1] 23 (0, 0)) (by (with_reducible repeat (first | refine kn_ ?_ _ | refine kd_ ?_ | refine ka_ ?_ _)); exact BK133.out)) : gb134 ≠ gb133)); clear BK132; clear BK133; clear HB; have BK132 := n0_; have BK133 := n1_; have HB := n2_; have BK134 := n3_; have GW134 := n4_; have GE134 := n5_; have NB132_134 := n6_; have NB134_132 := n7_; have NB133_134 := n8_; have NB134_133 := n9_; clear n0_ n1_ n2_ n3_ n4_ n5_ n6_ n7_ n8_ n9_; clear hb hbox hg; have hnb11 := NB132_133.out; have hnc11 := NB133_132.out; have hnb12 := NB132_134.out; have hnc12 := NB134_132.out; have hcz13_0 : w10.cell? ⟨gb132, 0, none⟩ = some (.int .i64 a0_0) := (kc_ BK132.out 0).trans rfl; have hcz13_1 : w10.cell? ⟨gb132, 1, none⟩ = some (.int .i64 a0_1) := (kc_ BK132.out 1).trans rfl; have hfz13_0 := kf_ BK132.out 0; have hfz13_1 := kf_ BK132.out 1; have hnb14 := NB133_134.out; have hnc14 := NB134_133.out; have hcz15_0 : w10.cell? ⟨gb133, 0, none⟩ = some (.int .i64 a1_0) := (kc_ BK133.out 0).trans rfl; have hcz15_1 : w10.cell? ⟨gb133, 1, none⟩ = some (.int .i64 a1_1) := (kc_ BK133.out 1).trans rfl; have hfz15_0 := kf_ BK133.out 0; have hfz15_1 := kf_ BK133.out 1) | ((with_reducible refine gate_callee (f := 30) rfl ?_); refine goesL_ (some 9) rfl rfl Try.func30 (by kernel_rfl) rfl #[.agg #[.int .i64 a0_0, .int .i64 a0_1], .agg #[.int .i64 a1_0, .int .i64 a1_1]] rfl (by (try simp only [lm_, lq_, lx_]); first | done | rfl | (simp only [ld_, lt_]; rfl)) ?_; (with_reducible refine (rat_both.calls k a0_0 a0_1 a1_0 a1_1 true _ A3.out).mono ?_); rintro e w16 ⟨rfl, hb⟩; refine ⟨_, rfl, ?_⟩; have n0_ := sd_ (blk_below (g := gb132) (o := .cells #[.int .i64 a0_0, .int .i64 a0_1] 23 (0, 0)) (by (with_reducible repeat (first | refine kn_ ?_ _ | refine kd_ ?_ | refine ka_ ?_ _)); exact BK132.out) hb); have n1_ := sd_ (blk_below (g := gb133) (o := .cells #[.int .i64 a1_0, .int .i64 a1_1] 23 (0, 0)) (by (with_reducible repeat (first | refine kn_ ?_ _ | refine kd_ ?_ | refine ka_ ?_ _)); exact BK133.out) hb); have n2_ := sd_ (blk_below (g := gb134) (o := .cells #[.int .i64 0, .int .i64 0] 23 (0, 0)) (by (with_reducible repeat (first | refine kn_ ?_ _ | refine kd_ ?_ | refine ka_ ?_ _)); exact BK134.out) hb); have n3_ := sd_ (bt_ (by repeat first | exact HB.out | apply ba_ | apply pd_ | apply d1_ | refine bs_ ?_ GE132.out | refine bs_ ?_ GE133.out | refine bs_ ?_ GE134.out) hb); clear BK132; clear BK133; clear BK134; clear HB; have BK132 := n0_; have BK133 := n1_; have BK134 := n2_; have HB := n3_; clear n0_ n1_ n2_ n3_; (try clear hb); (try clear hb2); (try clear hk); (try clear hi); have hcz17_0 : w16.cell? ⟨gb132, 0, none⟩ = some (.int .i64 a0_0) := (kc_ BK132.out 0).trans rfl; have hcz17_1 : w16.cell? ⟨gb132, 1, none⟩ = some (.int .i64 a0_1) := (kc_ BK132.out 1).trans rfl; have hfz17_0 := kf_ BK132.out 0; have hfz17_1 := kf_ BK132.out 1; have hcz18_0 : w16.cell? ⟨gb133, 0, none⟩ = some (.int .i64 a1_0) := (kc_ BK133.out 0).trans rfl; have hcz18_1 : w16.cell? ⟨gb133, 1, none⟩ = some (.int .i64 a1_1) := (kc_ BK133.out 1).trans rfl; have hfz18_0 := kf_ BK133.out 0; have hfz18_1 := kf_ BK133.out 1) | ((with_reducible refine gate_callee (f := 25) rfl ?_); refine goesL_ (some 16) rfl rfl Try.func25 (by kernel_rfl) rfl #[.int .i64 a0_1, .int .i64 a1_1] rfl (by (try simp only [lm_, lq_, lx_]); first | done | rfl | (simp only [ld_, lt_]; rfl)) ?_; (with_reducible refine (rat_common.calls k a0_1 a1_1 t136 _ A5.out).mono ?_); rintro e w' ⟨rfl, ⟨nd, rfl⟩⟩; refine ⟨_, rfl, ?_⟩; (try (rw [drewN_self w16]; generalize hq_ : World.drewN w16 _ = w16; have n0_ : Aside0 (w16.heap[gb132]? = some (.cells #[.int .i64 a0_0, .int .i64 a0_1] 23 (0, 0))) := ⟨by rw [← hq_]; exact (by (with_reducible repeat (first | refine kn_ ?_ _ | refine kd_ ?_ | refine ka_ ?_ _)); exact BK132.out)⟩; have n1_ : Aside0 (w16.heap[gb133]? = some (.cells #[.int .i64 a1_0, .int .i64 a1_1] 23 (0, 0))) := ⟨by rw [← hq_]; exact (by (with_reducible repeat (first | refine kn_ ?_ _ | refine kd_ ?_ | refine ka_ ?_ _)); exact BK133.out)⟩; have n2_ : Aside0 (w16.heap[gb134]? = some (.cells #[.int .i64 0, .int .i64 0] 23 (0, 0))) := ⟨by rw [← hq_]; exact (by (with_reducible repeat (first | refine kn_ ?_ _ | refine kd_ ?_ | refine ka_ ?_ _)); exact BK134.out)⟩; have n3_ : Aside0 (Below w.heap.size w w16) := ⟨by rw [← hq_]; exact (by repeat first | exact HB.out | apply ba_ | apply pd_ | apply d1_ | refine bs_ ?_ GE132.out | refine bs_ ?_ GE133.out | refine bs_ ?_ GE134.out)⟩; clear BK132 BK133 BK134 HB hq_; have BK132 := n0_; have BK133 := n1_; have BK134 := n2_; have HB := n3_; clear n0_ n1_ n2_ n3_))))
   have n0_ := sd_ (kd_ BK132.out)
   have n1_ := sd_ (kd_ BK133.out)
   have n2_ := sd_ (kd_ BK134.out)
   have n3_ := sd_ (d1_ HB.out)
   clear BK132
   clear BK133
   clear BK134
   clear HB
   have BK132 := n0_
   have BK133 := n1_
   have BK134 := n2_
   have HB := n3_
   clear n0_ n1_ n2_ n3_
   refine start_ (n := 27) (S := fun w' => w'.cell? ⟨gb132, 0, none⟩ = some (.int .i64 a0_0) ∧ w'.cell? ⟨gb132, 1, none⟩ = some (.int .i64 a0_1) ∧ w'.cell? ⟨gb133, 0, none⟩ = some (.int .i64 a1_0) ∧ w'.cell? ⟨gb133, 1, none⟩ = some (.int .i64 a1_1)) (ds := []) #[false, false, false, false, false, false, false, false, false, false, false, false, false, false, false, false, false, false, false, false, false, false, false, false, false, false, false] (by kernel_rfl) rfl rfl ⟨(kc_ BK132.out 0).trans rfl, (kc_ BK132.out 1).trans rfl, (kc_ BK133.out 0).trans rfl, (kc_ BK133.out 1).trans rfl⟩ (fun hHeld => ?_); refine with_tabW rat_Add.tab4 rat_Add.bits4 (fun HT_ HW_ => ?_)
   generalize w16.drew = w19 at BK132 BK133 BK134 HB hHeld ⊢
   refine pure_ (i := 0) (N := some 17) (v := ?_) (a' := ?_) #[true, false, false, false, false, false, false, false, false, false, false, false, false, false, false, false, false, false, false, false, false, false, false, false, false, false, false] rfl rfl (any_of HT_.out (by kernel_rfl)) (fun _ _ _ h => h) (Or.inl ⟨by rfl, ?_⟩) ?_ ?_
   rotate_left; (intro w'; go_simp; with_reducible rfl); rotate_left; (simp only [Act.put, ls_, lz_, lc_, i64_w, i32_w]; rfl)
   refine pure_ (i := 2) (N := some 19) (v := ?_) (a' := ?_) #[true, false, true, false, false, false, false, false, false, false, false, false, false, false, false, false, false, false, false, false, false, false, false, false, false, false, false] rfl rfl (any_of HT_.out (by kernel_rfl)) (fun _ _ _ h => h) (Or.inl ⟨by rfl, ?_⟩) ?_ ?_
   rotate_left; (intro w'; go_simp; with_reducible rfl); rotate_left; (simp only [Act.put, ls_, lz_, lc_, i64_w, i32_w]; rfl)
   refine pure_ (i := 4) (N := some 21) (v := ?_) (a' := ?_) #[true, false, true, false, true, false, false, false, false, false, false, false, false, false, false, false, false, false, false, false, false, false, false, false, false, false, false] rfl rfl (any_of HT_.out (by kernel_rfl)) (fun _ _ _ h => h) (Or.inl ⟨by rfl, ?_⟩) ?_ ?_
   rotate_left; (intro w'; go_simp; with_reducible rfl); rotate_left; (simp only [Act.put, ls_, lz_, lc_, i64_w, i32_w]; rfl)
   refine pure_ (i := 7) (N := some 24) (v := ?_) (a' := ?_) #[true, false, true, false, true, false, false, true, false, false, false, false, false, false, false, false, false, false, false, false, false, false, false, false, false, false, false] rfl rfl (any_of HT_.out (by kernel_rfl)) (fun _ _ _ h => h) (Or.inl ⟨by rfl, ?_⟩) ?_ ?_
   rotate_left; (intro w'; go_simp; with_reducible rfl); rotate_left; (simp only [Act.put, ls_, lz_, lc_, i64_w, i32_w]; rfl)
   refine pure_ (i := 9) (N := some 26) (v := ?_) (a' := ?_) #[true, false, true, false, true, false, false, true, false, true, false, false, false, false, false, false, false, false, false, false, false, false, false, false, false, false, false] rfl rfl (any_of HT_.out (by kernel_rfl)) (fun _ _ _ h => h) (Or.inl ⟨by rfl, ?_⟩) ?_ ?_
   rotate_left; (intro w'; go_simp; with_reducible rfl); rotate_left; (simp only [Act.put, ls_, lz_, lc_, i64_w, i32_w]; rfl)
   refine pure_ (i := 11) (N := some 28) (v := ?_) (a' := ?_) #[true, false, true, false, true, false, false, true, false, true, false, true, false, false, false, false, false, false, false, false, false, false, false, false, false, false, false] rfl rfl (any_of HT_.out (by kernel_rfl)) (fun _ _ _ h => h) (Or.inl ⟨by rfl, ?_⟩) ?_ ?_
   rotate_left; (intro w'; go_simp; with_reducible rfl); rotate_left; (simp only [Act.put, ls_, lz_, lc_, i64_w, i32_w]; rfl)
   refine pure_ (i := 15) (N := some 32) (v := ?_) (a' := ?_) #[true, false, true, false, true, false, false, true, false, true, false, true, false, false, false, true, false, false, false, false, false, false, false, false, false, false, false] rfl rfl (any_of HT_.out (by kernel_rfl)) (fun _ _ _ h => h) (Or.inl ⟨by rfl, ?_⟩) ?_ ?_
   rotate_left; (intro w'; go_simp; with_reducible rfl); rotate_left; (simp only [Act.put, ls_, lz_, lc_, i64_w, i32_w]; rfl)
   refine pure_ (i := 17) (N := some 34) (v := ?_) (a' := ?_) #[true, false, true, false, true, false, false, true, false, true, false, true, false, false, false, true, false, true, false, false, false, false, false, false, false, false, false] rfl rfl (any_of HT_.out (by kernel_rfl)) (fun _ _ _ h => h) (Or.inl ⟨by rfl, ?_⟩) ?_ ?_
   rotate_left; (intro w'; go_simp; with_reducible rfl); rotate_left; (simp only [Act.put, ls_, lz_, lc_, i64_w, i32_w]; rfl)
   refine pure_ (i := 19) (N := some 36) (v := ?_) (a' := ?_) #[true, false, true, false, true, false, false, true, false, true, false, true, false, false, false, true, false, true, false, true, false, false, false, false, false, false, false] rfl rfl (any_of HT_.out (by kernel_rfl)) (fun _ _ _ h => h) (Or.inl ⟨by rfl, ?_⟩) ?_ ?_
   rotate_left; (intro w'; go_simp; with_reducible rfl); rotate_left; (simp only [Act.put, ls_, lz_, lc_, i64_w, i32_w]; rfl)
   refine take_ (i := 1) (N := some 18) (v := ?_) (a' := ?_) #[true, true, true, false, true, false, false, true, false, true, false, true, false, false, false, true, false, true, false, true, false, false, false, false, false, false, false] rfl rfl (take_ofW HT_.out HW_.out (by kernel_rfl)) (fun _ _ _ h => h) (Or.inl ⟨by rfl, ?_⟩) hHeld ?_ ?_
   rotate_left
   ·rintro w' ⟨s0, s1, s2, s3⟩
    go_simp
    with_reducible rfl
   rotate_left
   ·simp only [Act.put, ls_, lz_, lc_, i64_w, i32_w]
    rfl
   refine take_ (i := 3) (N := some 20) (v := ?_) (a' := ?_) #[true, true, true, true, true, false, false, true, false, true, false, true, false, false, false, true, false, true, false, true, false, false, false, false, false, false, false] rfl rfl (take_ofW HT_.out HW_.out (by kernel_rfl)) (fun _ _ _ h => h) (Or.inl ⟨by rfl, ?_⟩) hHeld ?_ ?_
   rotate_left
   ·rintro w' ⟨s0, s1, s2, s3⟩
    go_simp
    with_reducible rfl
   rotate_left
   ·simp only [Act.put, ls_, lz_, lc_, i64_w, i32_w]
    rfl
   refine pure_ (i := 5) (N := some 22) (v := ?_) (a' := ?_) #[true, true, true, true, true, true, false, true, false, true, false, true, false, false, false, true, false, true, false, true, false, false, false, false, false, false, false] rfl rfl (any_of HT_.out (by kernel_rfl)) (fun _ _ _ h => h) (Or.inl ⟨by rfl, ?_⟩) ?_ ?_
   rotate_left; (intro w'; go_simp; with_reducible rfl); rotate_left; (simp only [Act.put, ls_, lz_, lc_, i64_w, i32_w]; rfl)
   refine pure_ (i := 6) (N := some 23) (v := ?_) (a' := ?_) #[true, true, true, true, true, true, true, true, false, true, false, true, false, false, false, true, false, true, false, true, false, false, false, false, false, false, false] rfl rfl (any_of HT_.out (by kernel_rfl)) (fun _ _ _ h => h) (Or.inl ⟨by rfl, ?_⟩) ?_ ?_
   rotate_left; (intro w'; go_simp; with_reducible rfl); rotate_left; (simp only [Act.put, ls_, lz_, lc_, i64_w, i32_w]; rfl)
   refine take_ (i := 8) (N := some 25) (v := ?_) (a' := ?_) #[true, true, true, true, true, true, true, true, true, true, false, true, false, false, false, true, false, true, false, true, false, false, false, false, false, false, false] rfl rfl (take_ofW HT_.out HW_.out (by kernel_rfl)) (fun _ _ _ h => h) (Or.inl ⟨by rfl, ?_⟩) hHeld ?_ ?_
   rotate_left
   ·rintro w' ⟨s0, s1, s2, s3⟩
    go_simp
    with_reducible rfl
   rotate_left
   ·simp only [Act.put, ls_, lz_, lc_, i64_w, i32_w]
    rfl
   refine take_ (i := 10) (N := some 27) (v := ?_) (a' := ?_) #[true, true, true, true, true, true, true, true, true, true, true, true, false, false, false, true, false, true, false, true, false, false, false, false, false, false, false] rfl rfl (take_ofW HT_.out HW_.out (by kernel_rfl)) (fun _ _ _ h => h) (Or.inl ⟨by rfl, ?_⟩) hHeld ?_ ?_
   rotate_left
   ·rintro w' ⟨s0, s1, s2, s3⟩
    go_simp
    with_reducible rfl
   rotate_left
   ·simp only [Act.put, ls_, lz_, lc_, i64_w, i32_w]
    rfl
   refine pure_ (i := 12) (N := some 29) (v := ?_) (a' := ?_) #[true, true, true, true, true, true, true, true, true, true, true, true, true, false, false, true, false, true, false, true, false, false, false, false, false, false, false] rfl rfl (any_of HT_.out (by kernel_rfl)) (fun _ _ _ h => h) (Or.inl ⟨by rfl, ?_⟩) ?_ ?_
   rotate_left; (intro w'; go_simp; with_reducible rfl); rotate_left; (simp only [Act.put, ls_, lz_, lc_, i64_w, i32_w]; rfl)
   refine pure_ (i := 13) (N := some 30) (v := ?_) (a' := ?_) #[true, true, true, true, true, true, true, true, true, true, true, true, true, true, false, true, false, true, false, true, false, false, false, false, false, false, false] rfl rfl (any_of HT_.out (by kernel_rfl)) (fun _ _ _ h => h) (Or.inl ⟨by rfl, ?_⟩) ?_ ?_
   rotate_left; (intro w'; go_simp; with_reducible rfl); rotate_left; (simp only [Act.put, ls_, lz_, lc_, i64_w, i32_w]; rfl)
   refine pure_ (i := 14) (N := some 31) (v := ?_) (a' := ?_) #[true, true, true, true, true, true, true, true, true, true, true, true, true, true, true, true, false, true, false, true, false, false, false, false, false, false, false] rfl rfl (any_of HT_.out (by kernel_rfl)) (fun _ _ _ h => h) (Or.inl ⟨by rfl, ?_⟩) ?_ ?_
   rotate_left; (intro w'; go_simp; with_reducible rfl); rotate_left; (simp only [Act.put, ls_, lz_, lc_, i64_w, i32_w]; rfl)
   refine take_ (i := 16) (N := some 33) (v := ?_) (a' := ?_) #[true, true, true, true, true, true, true, true, true, true, true, true, true, true, true, true, true, true, false, true, false, false, false, false, false, false, false] rfl rfl (take_ofW HT_.out HW_.out (by kernel_rfl)) (fun _ _ _ h => h) (Or.inl ⟨by rfl, ?_⟩) hHeld ?_ ?_
   rotate_left
   ·rintro w' ⟨s0, s1, s2, s3⟩
    go_simp
    with_reducible rfl
   rotate_left
   ·simp only [Act.put, ls_, lz_, lc_, i64_w, i32_w]
    rfl
   refine pure_ (i := 18) (N := some 35) (v := ?_) (a' := ?_) #[true, true, true, true, true, true, true, true, true, true, true, true, true, true, true, true, true, true, true, true, false, false, false, false, false, false, false] rfl rfl (any_of HT_.out (by kernel_rfl)) (fun _ _ _ h => h) (Or.inl ⟨by rfl, ?_⟩) ?_ ?_
   rotate_left; (intro w'; go_simp; with_reducible rfl); rotate_left; (simp only [Act.put, ls_, lz_, lc_, i64_w, i32_w]; rfl)
   refine take_ (i := 20) (N := some 37) (v := ?_) (a' := ?_) #[true, true, true, true, true, true, true, true, true, true, true, true, true, true, true, true, true, true, true, true, true, false, false, false, false, false, false] rfl rfl (take_ofW HT_.out HW_.out (by kernel_rfl)) (fun _ _ _ h => h) (Or.inl ⟨by rfl, ?_⟩) hHeld ?_ ?_
   rotate_left
   ·rintro w' ⟨s0, s1, s2, s3⟩
    go_simp
    with_reducible rfl
   rotate_left
   ·simp only [Act.put, ls_, lz_, lc_, i64_w, i32_w]
    rfl
   refine pure_ (i := 21) (N := some 38) (v := ?_) (a' := ?_) #[true, true, true, true, true, true, true, true, true, true, true, true, true, true, true, true, true, true, true, true, true, true, false, false, false, false, false] rfl rfl (any_of HT_.out (by kernel_rfl)) (fun _ _ _ h => h) (Or.inl ⟨by rfl, ?_⟩) ?_ ?_
   rotate_left; (intro w'; go_simp; with_reducible rfl); rotate_left; (simp only [Act.put, ls_, lz_, lc_, i64_w, i32_w]; rfl)
   refine one_ (i := 22) (N := some 39) #[true, true, true, true, true, true, true, true, true, true, true, true, true, true, true, true, true, true, true, true, true, true, true, false, false, false, false] rfl rfl (one_of HT_.out (by kernel_rfl)) (by decide) (fun K hK => ?_)
   refine goes_ Try.func34 (by kernel_rfl) rfl #[.int .i64 (wrap64 ((wrap64 (a0_0 * (wrap64 (Int.tdiv a1_1 t136)))) + (wrap64 (a1_0 * (wrap64 (Int.tdiv a0_1 t136)))))), .int .i64 (wrap64 ((wrap64 (Int.tdiv a0_1 t136)) * a1_1))] (by rfl) rfl rfl (by (try simp only [lm_, lq_, lx_]); first | done | rfl | (simp only [ld_, lt_]; rfl)) ?_
   with_reducible refine (rat_lowest.calls k (wrap64 ((wrap64 (a0_0 * (wrap64 (Int.tdiv a1_1 t136)))) + (wrap64 (a1_0 * (wrap64 (Int.tdiv a0_1 t136)))))) (wrap64 ((wrap64 (Int.tdiv a0_1 t136)) * a1_1)) t137 t138 t139 _ A7.out).mono ?_
   rintro e w20 ⟨rfl, hb⟩
   refine ⟨_, rfl, ?_⟩
   have n0_ := sd_ (blk_below (g := gb132) (o := .cells #[.int .i64 a0_0, .int .i64 a0_1] 23 (0, 0)) (by (with_reducible repeat (first | refine kn_ ?_ _ | refine kd_ ?_ | refine ka_ ?_ _)); exact BK132.out) hb)
   have n1_ := sd_ (blk_below (g := gb133) (o := .cells #[.int .i64 a1_0, .int .i64 a1_1] 23 (0, 0)) (by (with_reducible repeat (first | refine kn_ ?_ _ | refine kd_ ?_ | refine ka_ ?_ _)); exact BK133.out) hb)
   have n2_ := sd_ (blk_below (g := gb134) (o := .cells #[.int .i64 0, .int .i64 0] 23 (0, 0)) (by (with_reducible repeat (first | refine kn_ ?_ _ | refine kd_ ?_ | refine ka_ ?_ _)); exact BK134.out) hb)
   have n3_ := sd_ (bt_ (by repeat first | exact HB.out | apply ba_ | apply pd_ | apply d1_ | refine bs_ ?_ GE132.out | refine bs_ ?_ GE133.out | refine bs_ ?_ GE134.out) hb)
   clear BK132
   clear BK133
   clear BK134
   clear HB
   have BK132 := n0_
   have BK133 := n1_
   have BK134 := n2_
   have HB := n3_
   clear n0_ n1_ n2_ n3_
   (try clear hb)
   (try clear hb2)
   (try clear hk)
   (try clear hi)
   refine hK.out _ _ ⟨(kc_ BK132.out 0).trans rfl, (kc_ BK132.out 1).trans rfl, (kc_ BK133.out 0).trans rfl, (kc_ BK133.out 1).trans rfl⟩ (fun hHeld => ?_)
   clear hK K
   refine norm_ (a' := ?_) ?_ ?_
   rotate_left
   ·show Act.put _ (some 39) _ = _
    simp only [Act.put, ls_, lz_, lc_, i64_w, i32_w]
    rfl
   refine pure_ (i := 23) (N := some 40) (v := ?_) (a' := ?_) #[true, true, true, true, true, true, true, true, true, true, true, true, true, true, true, true, true, true, true, true, true, true, true, true, false, false, false] rfl rfl (any_of HT_.out (by kernel_rfl)) (fun _ _ _ h => h) (Or.inl ⟨by rfl, ?_⟩) ?_ ?_
   rotate_left; (intro w'; go_simp; with_reducible rfl); rotate_left; (simp only [Act.put, ls_, lz_, lc_, i64_w, i32_w]; rfl)
   refine pure_ (i := 24) (N := some 41) (v := ?_) (a' := ?_) #[true, true, true, true, true, true, true, true, true, true, true, true, true, true, true, true, true, true, true, true, true, true, true, true, true, false, false] rfl rfl (any_of HT_.out (by kernel_rfl)) (fun _ _ _ h => h) (Or.inl ⟨by rfl, ?_⟩) ?_ ?_
   rotate_left; (intro w'; go_simp; with_reducible rfl); rotate_left; (simp only [Act.put, ls_, lz_, lc_, i64_w, i32_w]; rfl)
   refine one_ (i := 25) (N := none) #[true, true, true, true, true, true, true, true, true, true, true, true, true, true, true, true, true, true, true, true, true, true, true, true, true, true, false] rfl rfl (one_of HT_.out (by kernel_rfl)) (by decide) (fun K hK => ?_)
   have hs21 : w20.cell? ⟨gb134, 0, none⟩ = some (.int .i64 0) := (kc_ BK134.out 0).trans rfl
   have hfs21 := kf_ BK134.out 0
   have hns21_0 := NB132_134.out
   have hns21_1 := NB133_134.out
   have hms21_0 := NB134_132.out
   have hms21_1 := NB134_133.out
   have hs22 : w20.cell? ⟨gb134, 1, none⟩ = some (.int .i64 0) := (kc_ BK134.out 1).trans rfl
   have hfs22 := kf_ BK134.out 1
   have hns22_0 := NB132_134.out
   have hns22_1 := NB133_134.out
   have hms22_0 := NB134_132.out
   have hms22_1 := NB134_133.out
   refine skip_ (w1 := ?_) (by rfl) rfl ?_ ?_
   rotate_left
   ·go_simp
    rfl
   refine hK.out _ _ ⟨((cell_far (p := ⟨gb134, _, none⟩) NB132_134.out _).trans (((cell_far (p := ⟨gb134, _, none⟩) NB132_134.out _).trans (hHeld.1)))), ((cell_far (p := ⟨gb134, _, none⟩) NB132_134.out _).trans (((cell_far (p := ⟨gb134, _, none⟩) NB132_134.out _).trans (hHeld.2.1)))), ((cell_far (p := ⟨gb134, _, none⟩) NB133_134.out _).trans (((cell_far (p := ⟨gb134, _, none⟩) NB133_134.out _).trans (hHeld.2.2.1)))), ((cell_far (p := ⟨gb134, _, none⟩) NB133_134.out _).trans (((cell_far (p := ⟨gb134, _, none⟩) NB133_134.out _).trans (hHeld.2.2.2))))⟩ (fun hHeld => ?_)
   clear hK K
   refine pure_ (i := 26) (N := some 5) (v := ?_) (a' := ?_) #[true, true, true, true, true, true, true, true, true, true, true, true, true, true, true, true, true, true, true, true, true, true, true, true, true, true, true] rfl rfl (any_of HT_.out (by kernel_rfl)) (fun _ _ _ h => h) (Or.inl ⟨by rfl, ?_⟩) ?_ ?_
   rotate_left; (intro w'; go_simp; with_reducible rfl); rotate_left; (simp only [Act.put, ls_, lz_, lc_, i64_w, i32_w]; rfl)
   refine done_ (done_of HT_.out (by kernel_rfl)) ?_
   try go_wp2
   refine bodyPost_ret (results_ct rfl _ _ gb134 23 #[.int .i64 t137, .int .i64 t138] (0, 0) _ rfl (by (with_reducible repeat (first | refine kn_ ?_ _ | refine kd_ ?_ | refine ka_ ?_ _)); refine blk_put (cs := #[.int .i64 t137, .int .i64 0]) ?_ 1 _ rfl; (with_reducible repeat (first | refine kn_ ?_ _ | refine kd_ ?_ | refine ka_ ?_ _)); refine blk_put (cs := #[.int .i64 0, .int .i64 0]) ?_ 0 _ rfl; (with_reducible repeat (first | refine kn_ ?_ _ | refine kd_ ?_ | refine ka_ ?_ _)); exact BK134.out) Try.underlying23 rfl (by kernel_rfl)) rfl ?_
   exact ⟨by first | rfl | (simp [errW_none, errW_some] <;> rfl) | (simp [*, errW_none, errW_some] <;> rfl), by repeat first | exact HB.out | apply ba_ | apply pd_ | apply d1_ | refine bs_ ?_ GE132.out | refine bs_ ?_ GE133.out | refine bs_ ?_ GE134.out⟩
 ·replace c4 := bf_ c4
  subst c4
  have H1 : ((rat_zero.f).bind fun bt140 => (some (bt140.1, bt140.2, 2))) = some (r1, r2, r3) := by rw [if_neg (show ¬ (false = true) by decide)] at H; exact H
  clear H; have H := H1; clear H1
  replace H := ob_ H
  obtain ⟨⟨t140, t141⟩, A230, H⟩ := H
  replace H : (some (t140, t141, 2)) = some (r1, r2, r3) := H
  have A23 := sd_ A230
  clear A230
  simp only [Option.some.injEq, Prod.mk.injEq] at H
  obtain ⟨rfl, rfl, rfl⟩ := H
  go_enter Try.func32, Try.ntmps32
  go_wp2_with (first | ((with_reducible refine gate_dst (N := 2) rfl ?_); refine box_event ?hg (N := 2) ?hd (cs := #[.int .i64 a0_0, .int .i64 a0_1]) (t := 23) ?hr ?_; (case hd => rfl); (case hg => rfl); (case hr => first | (go_simp; done) | (go_simp; rfl)); intro gb132 hg w24 hbox hb; have n0_ := sd_ (bt_ (by repeat first | exact HB.out | apply ba_ | apply pd_ | apply d1_) hb); have n1_ := sd_ (hbox); have n2_ := sd_ ((by rw [hg]; exact (bz_ (by repeat first | exact HB.out | apply ba_ | apply pd_ | apply d1_)) : w.heap.size ≤ gb132)); have n3_ := sd_ ((by rw [hg]; exact (bz_ (by repeat first | exact HB.out | apply ba_ | apply pd_ | apply d1_)) : w.heap.size ≤ gb132)); clear HB; have HB := n0_; have BK132 := n1_; have GW132 := n2_; have GE132 := n3_; clear n0_ n1_ n2_ n3_; clear hb hbox hg) | ((with_reducible refine gate_dst (N := 3) rfl ?_); refine box_event ?hg (N := 3) ?hd (cs := #[.int .i64 a1_0, .int .i64 a1_1]) (t := 23) ?hr ?_; (case hd => rfl); (case hg => rfl); (case hr => first | (go_simp; done) | (go_simp; rfl)); intro gb133 hg w25 hbox hb; have n0_ := sd_ (blk_below (g := gb132) (o := .cells #[.int .i64 a0_0, .int .i64 a0_1] 23 (0, 0)) (by (with_reducible repeat (first | refine kn_ ?_ _ | refine kd_ ?_ | refine ka_ ?_ _)); exact BK132.out) hb); have n1_ := sd_ (bt_ (by repeat first | exact HB.out | apply ba_ | apply pd_ | apply d1_ | refine bs_ ?_ GE132.out) hb); have n2_ := sd_ (hbox); have n3_ := sd_ ((by rw [hg]; exact (bz_ (by repeat first | exact HB.out | apply ba_ | apply pd_ | apply d1_ | refine bs_ ?_ GE132.out)) : w.heap.size ≤ gb133)); have n4_ := sd_ ((by rw [hg]; exact (bz_ (by repeat first | exact HB.out | apply ba_ | apply pd_ | apply d1_ | refine bs_ ?_ GE132.out)) : w.heap.size ≤ gb133)); have n5_ := sd_ ((by rw [hg]; exact nn_ (blk_lt (g := gb132) (o := .cells #[.int .i64 a0_0, .int .i64 a0_1] 23 (0, 0)) (by (with_reducible repeat (first | refine kn_ ?_ _ | refine kd_ ?_ | refine ka_ ?_ _)); exact BK132.out)) : gb132 ≠ gb133)); have n6_ := sd_ ((by rw [hg]; exact Nat.ne_of_gt (blk_lt (g := gb132) (o := .cells #[.int .i64 a0_0, .int .i64 a0_1] 23 (0, 0)) (by (with_reducible repeat (first | refine kn_ ?_ _ | refine kd_ ?_ | refine ka_ ?_ _)); exact BK132.out)) : gb133 ≠ gb132)); clear BK132; clear HB; have BK132 := n0_; have HB := n1_; have BK133 := n2_; have GW133 := n3_; have GE133 := n4_; have NB132_133 := n5_; have NB133_132 := n6_; clear n0_ n1_ n2_ n3_ n4_ n5_ n6_; clear hb hbox hg) | ((with_reducible refine gate_dst (N := 4) rfl ?_); refine box_event ?hg (N := 4) ?hd (cs := #[.int .i64 0, .int .i64 0]) (t := 23) ?hr ?_; (case hd => rfl); (case hg => rfl); (case hr => first | (go_simp; done) | (go_simp; rfl)); intro gb134 hg w26 hbox hb; have n0_ := sd_ (blk_below (g := gb132) (o := .cells #[.int .i64 a0_0, .int .i64 a0_1] 23 (0, 0)) (by (with_reducible repeat (first | refine kn_ ?_ _ | refine kd_ ?_ | refine ka_ ?_ _)); exact BK132.out) hb); have n1_ := sd_ (blk_below (g := gb133) (o := .cells #[.int .i64 a1_0, .int .i64 a1_1] 23 (0, 0)) (by (with_reducible repeat (first | refine kn_ ?_ _ | refine kd_ ?_ | refine ka_ ?_ _)); exact BK133.out) hb); have n2_ := sd_ (bt_ (by repeat first | exact HB.out | apply ba_ | apply pd_ | apply d1_ | refine bs_ ?_ GE132.out | refine bs_ ?_ GE133.out) hb); have n3_ := sd_ (hbox); have n4_ := sd_ ((by rw [hg]; exact (bz_ (by repeat first | exact HB.out | apply ba_ | apply pd_ | apply d1_ | refine bs_ ?_ GE132.out | refine bs_ ?_ GE133.out)) : w.heap.size ≤ gb134)); have n5_ := sd_ ((by rw [hg]; exact (bz_ (by repeat first | exact HB.out | apply ba_ | apply pd_ | apply d1_ | refine bs_ ?_ GE132.out | refine bs_ ?_ GE133.out)) : w.heap.size ≤ gb134)); have n6_ := sd_ ((by rw [hg]; exact nn_ (blk_lt (g := gb132) (o := .cells #[.int .i64 a0_0, .int .i64 a0_1] 23 (0, 0)) (by (with_reducible repeat (first | refine kn_ ?_ _ | refine kd_ ?_ | refine ka_ ?_ _)); exact BK132.out)) : gb132 ≠ gb134)); have n7_ := sd_ ((by rw [hg]; exact Nat.ne_of_gt (blk_lt (g := gb132) (o := .cells #[.int .i64 a0_0, .int .i64 a0_1] 23 (0, 0)) (by (with_reducible repeat (first | refine kn_ ?_ _ | refine kd_ ?_ | refine ka_ ?_ _)); exact BK132.out)) : gb134 ≠ gb132)); have n8_ := sd_ ((by rw [hg]; exact nn_ (blk_lt (g := gb133) (o := .cells #[.int .i64 a1_0, .int .i64 a1_1] 23 (0, 0)) (by (with_reducible repeat (first | refine kn_ ?_ _ | refine kd_ ?_ | refine ka_ ?_ _)); exact BK133.out)) : gb133 ≠ gb134)); have n9_ := sd_ ((by rw [hg]; exact Nat.ne_of_gt (blk_lt (g := gb133) (o := .cells #[.int .i64 a1_0, .int .i64 a1_1] 23 (0, 0)) (by (with_reducible repeat (first | refine kn_ ?_ _ | refine kd_ ?_ | refine ka_ ?_ _)); exact BK133.out)) : gb134 ≠ gb133)); clear BK132; clear BK133; clear HB; have BK132 := n0_; have BK133 := n1_; have HB := n2_; have BK134 := n3_; have GW134 := n4_; have GE134 := n5_; have NB132_134 := n6_; have NB134_132 := n7_; have NB133_134 := n8_; have NB134_133 := n9_; clear n0_ n1_ n2_ n3_ n4_ n5_ n6_ n7_ n8_ n9_; clear hb hbox hg; have hnb27 := NB132_133.out; have hnc27 := NB133_132.out; have hnb28 := NB132_134.out; have hnc28 := NB134_132.out; have hcz29_0 : w26.cell? ⟨gb132, 0, none⟩ = some (.int .i64 a0_0) := (kc_ BK132.out 0).trans rfl; have hcz29_1 : w26.cell? ⟨gb132, 1, none⟩ = some (.int .i64 a0_1) := (kc_ BK132.out 1).trans rfl; have hfz29_0 := kf_ BK132.out 0; have hfz29_1 := kf_ BK132.out 1; have hnb30 := NB133_134.out; have hnc30 := NB134_133.out; have hcz31_0 : w26.cell? ⟨gb133, 0, none⟩ = some (.int .i64 a1_0) := (kc_ BK133.out 0).trans rfl; have hcz31_1 : w26.cell? ⟨gb133, 1, none⟩ = some (.int .i64 a1_1) := (kc_ BK133.out 1).trans rfl; have hfz31_0 := kf_ BK133.out 0; have hfz31_1 := kf_ BK133.out 1) | ((with_reducible refine gate_callee (f := 30) rfl ?_); refine goesL_ (some 9) rfl rfl Try.func30 (by kernel_rfl) rfl #[.agg #[.int .i64 a0_0, .int .i64 a0_1], .agg #[.int .i64 a1_0, .int .i64 a1_1]] rfl (by (try simp only [lm_, lq_, lx_]); first | done | rfl | (simp only [ld_, lt_]; rfl)) ?_; (with_reducible refine (rat_both.calls k a0_0 a0_1 a1_0 a1_1 false _ A3.out).mono ?_); rintro e w32 ⟨rfl, hb⟩; refine ⟨_, rfl, ?_⟩; have n0_ := sd_ (blk_below (g := gb132) (o := .cells #[.int .i64 a0_0, .int .i64 a0_1] 23 (0, 0)) (by (with_reducible repeat (first | refine kn_ ?_ _ | refine kd_ ?_ | refine ka_ ?_ _)); exact BK132.out) hb); have n1_ := sd_ (blk_below (g := gb133) (o := .cells #[.int .i64 a1_0, .int .i64 a1_1] 23 (0, 0)) (by (with_reducible repeat (first | refine kn_ ?_ _ | refine kd_ ?_ | refine ka_ ?_ _)); exact BK133.out) hb); have n2_ := sd_ (blk_below (g := gb134) (o := .cells #[.int .i64 0, .int .i64 0] 23 (0, 0)) (by (with_reducible repeat (first | refine kn_ ?_ _ | refine kd_ ?_ | refine ka_ ?_ _)); exact BK134.out) hb); have n3_ := sd_ (bt_ (by repeat first | exact HB.out | apply ba_ | apply pd_ | apply d1_ | refine bs_ ?_ GE132.out | refine bs_ ?_ GE133.out | refine bs_ ?_ GE134.out) hb); clear BK132; clear BK133; clear BK134; clear HB; have BK132 := n0_; have BK133 := n1_; have BK134 := n2_; have HB := n3_; clear n0_ n1_ n2_ n3_; (try clear hb); (try clear hb2); (try clear hk); (try clear hi)) | ((with_reducible refine gate_callee (f := 31) rfl ?_); refine goesL_ (some 11) rfl rfl Try.func31 (by kernel_rfl) rfl #[] rfl (by (try simp only [lm_, lq_, lx_]); first | done | rfl | (simp only [ld_, lt_]; rfl)) ?_; (with_reducible refine (rat_zero.calls  t140 t141 _ A23.out).mono ?_); rintro e w33 ⟨rfl, hb⟩; refine ⟨_, rfl, ?_⟩; have n0_ := sd_ (blk_below (g := gb132) (o := .cells #[.int .i64 a0_0, .int .i64 a0_1] 23 (0, 0)) (by (with_reducible repeat (first | refine kn_ ?_ _ | refine kd_ ?_ | refine ka_ ?_ _)); exact BK132.out) hb); have n1_ := sd_ (blk_below (g := gb133) (o := .cells #[.int .i64 a1_0, .int .i64 a1_1] 23 (0, 0)) (by (with_reducible repeat (first | refine kn_ ?_ _ | refine kd_ ?_ | refine ka_ ?_ _)); exact BK133.out) hb); have n2_ := sd_ (blk_below (g := gb134) (o := .cells #[.int .i64 0, .int .i64 0] 23 (0, 0)) (by (with_reducible repeat (first | refine kn_ ?_ _ | refine kd_ ?_ | refine ka_ ?_ _)); exact BK134.out) hb); have n3_ := sd_ (bt_ (by repeat first | exact HB.out | apply ba_ | apply pd_ | apply d1_ | refine bs_ ?_ GE132.out | refine bs_ ?_ GE133.out | refine bs_ ?_ GE134.out) hb); clear BK132; clear BK133; clear BK134; clear HB; have BK132 := n0_; have BK133 := n1_; have BK134 := n2_; have HB := n3_; clear n0_ n1_ n2_ n3_; (try clear hb); (try clear hb2); (try clear hk); (try clear hi); have hcz34_0 : w33.cell? ⟨gb134, 0, none⟩ = some (.int .i64 0) := (kc_ BK134.out 0).trans rfl; have hcz34_1 : w33.cell? ⟨gb134, 1, none⟩ = some (.int .i64 0) := (kc_ BK134.out 1).trans rfl; have hfz34_0 := kf_ BK134.out 0; have hfz34_1 := kf_ BK134.out 1))
  refine bodyPost_ret (results_ct rfl _ _ gb134 23 #[.int .i64 t140, .int .i64 t141] (0, 0) _ rfl (by (with_reducible repeat (first | refine kn_ ?_ _ | refine kd_ ?_ | refine ka_ ?_ _)); refine blk_put (cs := #[.int .i64 t140, .int .i64 0]) ?_ 1 _ rfl; (with_reducible repeat (first | refine kn_ ?_ _ | refine kd_ ?_ | refine ka_ ?_ _)); refine blk_put (cs := #[.int .i64 0, .int .i64 0]) ?_ 0 _ rfl; (with_reducible repeat (first | refine kn_ ?_ _ | refine kd_ ?_ | refine ka_ ?_ _)); exact BK134.out) Try.underlying23 rfl (by kernel_rfl)) rfl ?_
  exact ⟨by first | rfl | (simp [errW_none, errW_some] <;> rfl) | (simp [*, errW_none, errW_some] <;> rfl), by repeat first | exact HB.out | apply ba_ | apply pd_ | apply d1_ | refine bs_ ?_ GE132.out | refine bs_ ?_ GE133.out | refine bs_ ?_ GE134.out⟩

/-! ### rat_negated: function 33 -/
def rat_negated.f (a0_0 : Int) (a0_1 : Int) : Option (Int × Int) := some (wrap64 (-a0_0), a0_1)
set_option maxHeartbeats 8000000 in
set_option maxRecDepth 100000 in
theorem rat_negated.calls (a0_0 : Int) (a0_1 : Int) (r1 : Int) (r2 : Int) (w : World) (h : rat_negated.f a0_0 a0_1 = some (r1, r2)) :
  Calls Try.prog 33 #[.agg #[.int .i64 a0_0, .int .i64 a0_1]] w fun e w' => e = .returned (.agg #[.int .i64 r1, .int .i64 r2]) ∧ Below w.heap.size w w' := by
 have hu23 := Try.underlying23
 have HB := sd_ (Below.refl w.heap.size w)
 have H : (some (wrap64 (-a0_0), a0_1)) = some (r1, r2) := h
 clear h
 simp only [Option.some.injEq, Prod.mk.injEq] at H
 obtain ⟨rfl, rfl⟩ := H
 go_enter Try.func33, Try.ntmps33
 go_wp2_with (first | ((with_reducible refine gate_dst (N := 1) rfl ?_); refine box_event ?hg (N := 1) ?hd (cs := #[.int .i64 a0_0, .int .i64 a0_1]) (t := 23) ?hr ?_; (case hd => rfl); (case hg => rfl); (case hr => first | (go_simp; done) | (go_simp; rfl)); intro gb142 hg w2 hbox hb; have n0_ := sd_ (bt_ (by repeat first | exact HB.out | apply ba_ | apply pd_ | apply d1_) hb); have n1_ := sd_ (hbox); have n2_ := sd_ ((by rw [hg]; exact (bz_ (by repeat first | exact HB.out | apply ba_ | apply pd_ | apply d1_)) : w.heap.size ≤ gb142)); have n3_ := sd_ ((by rw [hg]; exact (bz_ (by repeat first | exact HB.out | apply ba_ | apply pd_ | apply d1_)) : w.heap.size ≤ gb142)); clear HB; have HB := n0_; have BK142 := n1_; have GW142 := n2_; have GE142 := n3_; clear n0_ n1_ n2_ n3_; clear hb hbox hg) | ((with_reducible refine gate_dst (N := 2) rfl ?_); refine box_event ?hg (N := 2) ?hd (cs := #[.int .i64 0, .int .i64 0]) (t := 23) ?hr ?_; (case hd => rfl); (case hg => rfl); (case hr => first | (go_simp; done) | (go_simp; rfl)); intro gb143 hg w3 hbox hb; have n0_ := sd_ (blk_below (g := gb142) (o := .cells #[.int .i64 a0_0, .int .i64 a0_1] 23 (0, 0)) (by (with_reducible repeat (first | refine kn_ ?_ _ | refine kd_ ?_ | refine ka_ ?_ _)); exact BK142.out) hb); have n1_ := sd_ (bt_ (by repeat first | exact HB.out | apply ba_ | apply pd_ | apply d1_ | refine bs_ ?_ GE142.out) hb); have n2_ := sd_ (hbox); have n3_ := sd_ ((by rw [hg]; exact (bz_ (by repeat first | exact HB.out | apply ba_ | apply pd_ | apply d1_ | refine bs_ ?_ GE142.out)) : w.heap.size ≤ gb143)); have n4_ := sd_ ((by rw [hg]; exact (bz_ (by repeat first | exact HB.out | apply ba_ | apply pd_ | apply d1_ | refine bs_ ?_ GE142.out)) : w.heap.size ≤ gb143)); have n5_ := sd_ ((by rw [hg]; exact nn_ (blk_lt (g := gb142) (o := .cells #[.int .i64 a0_0, .int .i64 a0_1] 23 (0, 0)) (by (with_reducible repeat (first | refine kn_ ?_ _ | refine kd_ ?_ | refine ka_ ?_ _)); exact BK142.out)) : gb142 ≠ gb143)); have n6_ := sd_ ((by rw [hg]; exact Nat.ne_of_gt (blk_lt (g := gb142) (o := .cells #[.int .i64 a0_0, .int .i64 a0_1] 23 (0, 0)) (by (with_reducible repeat (first | refine kn_ ?_ _ | refine kd_ ?_ | refine ka_ ?_ _)); exact BK142.out)) : gb143 ≠ gb142)); clear BK142; clear HB; have BK142 := n0_; have HB := n1_; have BK143 := n2_; have GW143 := n3_; have GE143 := n4_; have NB142_143 := n5_; have NB143_142 := n6_; clear n0_ n1_ n2_ n3_ n4_ n5_ n6_; clear hb hbox hg; have hnb4 := NB142_143.out; have hnc4 := NB143_142.out; have hcz5_0 : w3.cell? ⟨gb142, 0, none⟩ = some (.int .i64 a0_0) := (kc_ BK142.out 0).trans rfl; have hcz5_1 : w3.cell? ⟨gb142, 1, none⟩ = some (.int .i64 a0_1) := (kc_ BK142.out 1).trans rfl; have hfz5_0 := kf_ BK142.out 0; have hfz5_1 := kf_ BK142.out 1; have hcz6_0 : w3.cell? ⟨gb143, 0, none⟩ = some (.int .i64 0) := (kc_ BK143.out 0).trans rfl; have hcz6_1 : w3.cell? ⟨gb143, 1, none⟩ = some (.int .i64 0) := (kc_ BK143.out 1).trans rfl; have hfz6_0 := kf_ BK143.out 0; have hfz6_1 := kf_ BK143.out 1))
 refine bodyPost_ret (results_cell_row rfl _ _ gb143 23 #[.int .i64 (wrap64 (-a0_0)), .int .i64 a0_1] (0, 0) _ rfl (by (with_reducible repeat (first | refine kn_ ?_ _ | refine kd_ ?_ | refine ka_ ?_ _)); refine blk_put (cs := #[.int .i64 (wrap64 (-a0_0)), .int .i64 0]) ?_ 1 _ rfl; (with_reducible repeat (first | refine kn_ ?_ _ | refine kd_ ?_ | refine ka_ ?_ _)); refine blk_put (cs := #[.int .i64 0, .int .i64 0]) ?_ 0 _ rfl; (with_reducible repeat (first | refine kn_ ?_ _ | refine kd_ ?_ | refine ka_ ?_ _)); exact BK143.out) Try.underlying23 rfl (by kernel_rfl)) rfl ?_
 exact ⟨by first | rfl | (simp [errW_none, errW_some] <;> rfl) | (simp [*, errW_none, errW_some] <;> rfl), by repeat first | exact HB.out | apply ba_ | apply pd_ | apply d1_ | refine bs_ ?_ GE142.out | refine bs_ ?_ GE143.out⟩

/-! ### rat_Sub: function 29 -/
def rat_Sub.f (k : Nat) (a0_0 : Int) (a0_1 : Int) (a1_0 : Int) (a1_1 : Int) : Option (Int × Int × Int) := (rat_both.f k a0_0 a0_1 a1_0 a1_1).bind fun t147 => (if t147 = true then ((rat_negated.f a1_0 a1_1).bind fun bt148 => ((rat_Add.f k a0_0 a0_1 bt148.1 bt148.2).bind fun bt150 => (some (bt150.1, bt150.2.1, bt150.2.2)))) else ((rat_zero.f).bind fun bt153 => (some (bt153.1, bt153.2, 2))))
theorem rat_Sub.mono : ∀ a0 a1 a2 a3 k, LeO (rat_Sub.f k a0 a1 a2 a3) (rat_Sub.f (k + 1) a0 a1 a2 a3) := by
 intro a0 a1 a2 a3 k
 unfold rat_Sub.f
 repeat' first
   | (with_reducible exact rat_Add.mono _ _ _ _ _)
   | (with_reducible exact rat_both.mono _ _ _ _ _)
   | (with_reducible exact LeO.refl _)
   | (with_reducible exact LeO.none _)
   | (with_reducible refine LeO.ite ?_ ?_)
   | (with_reducible refine LeO.bind ?_ (fun _ => ?_))
   | exact rat_Add.mono _ _ _ _ _
   | exact rat_both.mono _ _ _ _ _
   | exact LeO.none _
   | refine LeO.ite ?_ ?_
   | refine LeO.bind ?_ (fun _ => ?_)
def rat_Sub.T3 : Bool × List (List Nat × List Nat) := (true, [([], []), ([], []), ([1], [1]), ([0, 2, 2], [0, 2]), ([3], [3]), ([3], [3]), ([4, 3, 0, 1, 2, 3, 4, 5], [4]), ([5, 6, 0, 1, 2, 3, 4, 5, 6], [5])])
def rat_Sub.B3 : List Nat := [0, 0, 2, 7, 15, 15, 63, 127]
theorem rat_Sub.tab3 : rtab .any (opsOf Try.f29 3) = rat_Sub.T3 := by kernel_rfl
theorem rat_Sub.bits3 : waitsOk rat_Sub.T3.2 rat_Sub.B3 = true := by kernel_rfl
set_option maxHeartbeats 8000000 in
set_option maxRecDepth 100000 in
theorem rat_Sub.calls (k : Nat) (a0_0 : Int) (a0_1 : Int) (a1_0 : Int) (a1_1 : Int) (r1 : Int) (r2 : Int) (r3 : Int) (w : World) (h : rat_Sub.f k a0_0 a0_1 a1_0 a1_1 = some (r1, r2, r3)) :
  Calls Try.prog 29 #[.agg #[.int .i64 a0_0, .int .i64 a0_1], .agg #[.int .i64 a1_0, .int .i64 a1_1]] w fun e w' => e = .returned (.tuple #[.agg #[.int .i64 r1, .int .i64 r2], .int .i64 r3]) ∧ Below w.heap.size w w' := by
 have hu23 := Try.underlying23
 have HB := sd_ (Below.refl w.heap.size w)
 have H : ((rat_both.f k a0_0 a0_1 a1_0 a1_1).bind fun t147 => (if t147 = true then ((rat_negated.f a1_0 a1_1).bind fun bt148 => ((rat_Add.f k a0_0 a0_1 bt148.1 bt148.2).bind fun bt150 => (some (bt150.1, bt150.2.1, bt150.2.2)))) else ((rat_zero.f).bind fun bt153 => (some (bt153.1, bt153.2, 2))))) = some (r1, r2, r3) := h
 clear h
 replace H := ob_ H
 obtain ⟨t147, A30, H⟩ := H
 replace H : (if t147 = true then ((rat_negated.f a1_0 a1_1).bind fun bt148 => ((rat_Add.f k a0_0 a0_1 bt148.1 bt148.2).bind fun bt150 => (some (bt150.1, bt150.2.1, bt150.2.2)))) else ((rat_zero.f).bind fun bt153 => (some (bt153.1, bt153.2, 2)))) = some (r1, r2, r3) := H
 have A3 := sd_ A30
 clear A30
 by_cases c4 : t147 = true
 ·subst c4
  have H1 : ((rat_negated.f a1_0 a1_1).bind fun bt148 => ((rat_Add.f k a0_0 a0_1 bt148.1 bt148.2).bind fun bt150 => (some (bt150.1, bt150.2.1, bt150.2.2)))) = some (r1, r2, r3) := by rw [if_pos rfl] at H; exact H
  clear H; have H := H1; clear H1
  replace H := ob_ H
  obtain ⟨⟨t148, t149⟩, A50, H⟩ := H
  replace H : ((rat_Add.f k a0_0 a0_1 t148 t149).bind fun bt150 => (some (bt150.1, bt150.2.1, bt150.2.2))) = some (r1, r2, r3) := H
  have A5 := sd_ A50
  clear A50
  replace H := ob_ H
  obtain ⟨⟨t150, t151, t152⟩, A60, H⟩ := H
  replace H : (some (t150, t151, t152)) = some (r1, r2, r3) := H
  have A6 := sd_ A60
  clear A60
  simp only [Option.some.injEq, Prod.mk.injEq] at H
  obtain ⟨rfl, rfl, rfl⟩ := H
  go_enter Try.func29, Try.ntmps29
  try go_wp2_with (first | ((with_reducible refine gate_dst (N := 2) rfl ?_); refine box_event ?hg (N := 2) ?hd (cs := #[.int .i64 a0_0, .int .i64 a0_1]) (t := 23) ?hr ?_; (case hd => rfl); (case hg => rfl); (case hr => first | (go_simp; done) | (go_simp; rfl)); intro gb144 hg w7 hbox hb; have n0_ := sd_ (bt_ (by repeat first | exact HB.out | apply ba_ | apply pd_ | apply d1_) hb); have n1_ := sd_ (hbox); have n2_ := sd_ ((by rw [hg]; exact (bz_ (by repeat first | exact HB.out | apply ba_ | apply pd_ | apply d1_)) : w.heap.size ≤ gb144)); have n3_ := sd_ ((by rw [hg]; exact (bz_ (by repeat first | exact HB.out | apply ba_ | apply pd_ | apply d1_)) : w.heap.size ≤ gb144)); clear HB; have HB := n0_; have BK144 := n1_; have GW144 := n2_; have GE144 := n3_; clear n0_ n1_ n2_ n3_; clear hb hbox hg) | ((with_reducible refine gate_dst (N := 3) rfl ?_); refine box_event ?hg (N := 3) ?hd (cs := #[.int .i64 a1_0, .int .i64 a1_1]) (t := 23) ?hr ?_; (case hd => rfl); (case hg => rfl); (case hr => first | (go_simp; done) | (go_simp; rfl)); intro gb145 hg w8 hbox hb; have n0_ := sd_ (blk_below (g := gb144) (o := .cells #[.int .i64 a0_0, .int .i64 a0_1] 23 (0, 0)) (by (with_reducible repeat (first | refine kn_ ?_ _ | refine kd_ ?_ | refine ka_ ?_ _)); exact BK144.out) hb); have n1_ := sd_ (bt_ (by repeat first | exact HB.out | apply ba_ | apply pd_ | apply d1_ | refine bs_ ?_ GE144.out) hb); have n2_ := sd_ (hbox); have n3_ := sd_ ((by rw [hg]; exact (bz_ (by repeat first | exact HB.out | apply ba_ | apply pd_ | apply d1_ | refine bs_ ?_ GE144.out)) : w.heap.size ≤ gb145)); have n4_ := sd_ ((by rw [hg]; exact (bz_ (by repeat first | exact HB.out | apply ba_ | apply pd_ | apply d1_ | refine bs_ ?_ GE144.out)) : w.heap.size ≤ gb145)); have n5_ := sd_ ((by rw [hg]; exact nn_ (blk_lt (g := gb144) (o := .cells #[.int .i64 a0_0, .int .i64 a0_1] 23 (0, 0)) (by (with_reducible repeat (first | refine kn_ ?_ _ | refine kd_ ?_ | refine ka_ ?_ _)); exact BK144.out)) : gb144 ≠ gb145)); have n6_ := sd_ ((by rw [hg]; exact Nat.ne_of_gt (blk_lt (g := gb144) (o := .cells #[.int .i64 a0_0, .int .i64 a0_1] 23 (0, 0)) (by (with_reducible repeat (first | refine kn_ ?_ _ | refine kd_ ?_ | refine ka_ ?_ _)); exact BK144.out)) : gb145 ≠ gb144)); clear BK144; clear HB; have BK144 := n0_; have HB := n1_; have BK145 := n2_; have GW145 := n3_; have GE145 := n4_; have NB144_145 := n5_; have NB145_144 := n6_; clear n0_ n1_ n2_ n3_ n4_ n5_ n6_; clear hb hbox hg) | ((with_reducible refine gate_dst (N := 4) rfl ?_); refine box_event ?hg (N := 4) ?hd (cs := #[.int .i64 0, .int .i64 0]) (t := 23) ?hr ?_; (case hd => rfl); (case hg => rfl); (case hr => first | (go_simp; done) | (go_simp; rfl)); intro gb146 hg w9 hbox hb; have n0_ := sd_ (blk_below (g := gb144) (o := .cells #[.int .i64 a0_0, .int .i64 a0_1] 23 (0, 0)) (by (with_reducible repeat (first | refine kn_ ?_ _ | refine kd_ ?_ | refine ka_ ?_ _)); exact BK144.out) hb); have n1_ := sd_ (blk_below (g := gb145) (o := .cells #[.int .i64 a1_0, .int .i64 a1_1] 23 (0, 0)) (by (with_reducible repeat (first | refine kn_ ?_ _ | refine kd_ ?_ | refine ka_ ?_ _)); exact BK145.out) hb); have n2_ := sd_ (bt_ (by repeat first | exact HB.out | apply ba_ | apply pd_ | apply d1_ | refine bs_ ?_ GE144.out | refine bs_ ?_ GE145.out) hb); have n3_ := sd_ (hbox); have n4_ := sd_ ((by rw [hg]; exact (bz_ (by repeat first | exact HB.out | apply ba_ | apply pd_ | apply d1_ | refine bs_ ?_ GE144.out | refine bs_ ?_ GE145.out)) : w.heap.size ≤ gb146)); have n5_ := sd_ ((by rw [hg]; exact (bz_ (by repeat first | exact HB.out | apply ba_ | apply pd_ | apply d1_ | refine bs_ ?_ GE144.out | refine bs_ ?_ GE145.out)) : w.heap.size ≤ gb146)); have n6_ := sd_ ((by rw [hg]; exact nn_ (blk_lt (g := gb144) (o := .cells #[.int .i64 a0_0, .int .i64 a0_1] 23 (0, 0)) (by (with_reducible repeat (first | refine kn_ ?_ _ | refine kd_ ?_ | refine ka_ ?_ _)); exact BK144.out)) : gb144 ≠ gb146)); have n7_ := sd_ ((by rw [hg]; exact Nat.ne_of_gt (blk_lt (g := gb144) (o := .cells #[.int .i64 a0_0, .int .i64 a0_1] 23 (0, 0)) (by (with_reducible repeat (first | refine kn_ ?_ _ | refine kd_ ?_ | refine ka_ ?_ _)); exact BK144.out)) : gb146 ≠ gb144)); have n8_ := sd_ ((by rw [hg]; exact nn_ (blk_lt (g := gb145) (o := .cells #[.int .i64 a1_0, .int .i64 a1_1] 23 (0, 0)) (by (with_reducible repeat (first | refine kn_ ?_ _ | refine kd_ ?_ | refine ka_ ?_ _)); exact BK145.out)) : gb145 ≠ gb146)); have n9_ := sd_ ((by rw [hg]; exact Nat.ne_of_gt (blk_lt (g := gb145) (o := .cells #[.int .i64 a1_0, .int .i64 a1_1] 23 (0, 0)) (by (with_reducible repeat (first | refine kn_ ?_ _ | refine kd_ ?_ | refine ka_ ?_ _)); exact BK145.out)) : gb146 ≠ gb145)); clear BK144; clear BK145; clear HB; have BK144 := n0_; have BK145 := n1_; have HB := n2_; have BK146 := n3_; have GW146 := n4_; have GE146 := n5_; have NB144_146 := n6_; have NB146_144 := n7_; have NB145_146 := n8_; have NB146_145 := n9_; clear n0_ n1_ n2_ n3_ n4_ n5_ n6_ n7_ n8_ n9_; clear hb hbox hg; have hnb10 := NB144_145.out; have hnc10 := NB145_144.out; have hnb11 := NB144_146.out; have hnc11 := NB146_144.out; have hcz12_0 : w9.cell? ⟨gb144, 0, none⟩ = some (.int .i64 a0_0) := (kc_ BK144.out 0).trans rfl; have hcz12_1 : w9.cell? ⟨gb144, 1, none⟩ = some (.int .i64 a0_1) := (kc_ BK144.out 1).trans rfl; have hfz12_0 := kf_ BK144.out 0; have hfz12_1 := kf_ BK144.out 1; have hnb13 := NB145_146.out; have hnc13 := NB146_145.out; have hcz14_0 : w9.cell? ⟨gb145, 0, none⟩ = some (.int .i64 a1_0) := (kc_ BK145.out 0).trans rfl; have hcz14_1 : w9.cell? ⟨gb145, 1, none⟩ = some (.int .i64 a1_1) := (kc_ BK145.out 1).trans rfl; have hfz14_0 := kf_ BK145.out 0; have hfz14_1 := kf_ BK145.out 1) | ((with_reducible refine gate_callee (f := 30) rfl ?_); refine goesL_ (some 8) rfl rfl Try.func30 (by kernel_rfl) rfl #[.agg #[.int .i64 a0_0, .int .i64 a0_1], .agg #[.int .i64 a1_0, .int .i64 a1_1]] rfl (by (try simp only [lm_, lq_, lx_]); first | done | rfl | (simp only [ld_, lt_]; rfl)) ?_; (with_reducible refine (rat_both.calls k a0_0 a0_1 a1_0 a1_1 true _ A3.out).mono ?_); rintro e w15 ⟨rfl, hb⟩; refine ⟨_, rfl, ?_⟩; have n0_ := sd_ (blk_below (g := gb144) (o := .cells #[.int .i64 a0_0, .int .i64 a0_1] 23 (0, 0)) (by (with_reducible repeat (first | refine kn_ ?_ _ | refine kd_ ?_ | refine ka_ ?_ _)); exact BK144.out) hb); have n1_ := sd_ (blk_below (g := gb145) (o := .cells #[.int .i64 a1_0, .int .i64 a1_1] 23 (0, 0)) (by (with_reducible repeat (first | refine kn_ ?_ _ | refine kd_ ?_ | refine ka_ ?_ _)); exact BK145.out) hb); have n2_ := sd_ (blk_below (g := gb146) (o := .cells #[.int .i64 0, .int .i64 0] 23 (0, 0)) (by (with_reducible repeat (first | refine kn_ ?_ _ | refine kd_ ?_ | refine ka_ ?_ _)); exact BK146.out) hb); have n3_ := sd_ (bt_ (by repeat first | exact HB.out | apply ba_ | apply pd_ | apply d1_ | refine bs_ ?_ GE144.out | refine bs_ ?_ GE145.out | refine bs_ ?_ GE146.out) hb); clear BK144; clear BK145; clear BK146; clear HB; have BK144 := n0_; have BK145 := n1_; have BK146 := n2_; have HB := n3_; clear n0_ n1_ n2_ n3_; (try clear hb); (try clear hb2); (try clear hk); (try clear hi)))
  have n0_ := sd_ (kd_ BK144.out)
  have n1_ := sd_ (kd_ BK145.out)
  have n2_ := sd_ (kd_ BK146.out)
  have n3_ := sd_ (d1_ HB.out)
  clear BK144
  clear BK145
  clear BK146
  clear HB
  have BK144 := n0_
  have BK145 := n1_
  have BK146 := n2_
  have HB := n3_
  clear n0_ n1_ n2_ n3_
  refine start_ (n := 8) (S := fun w' => w'.cell? ⟨gb144, 0, none⟩ = some (.int .i64 a0_0) ∧ w'.cell? ⟨gb144, 1, none⟩ = some (.int .i64 a0_1) ∧ w'.cell? ⟨gb145, 0, none⟩ = some (.int .i64 a1_0) ∧ w'.cell? ⟨gb145, 1, none⟩ = some (.int .i64 a1_1)) (ds := []) #[false, false, false, false, false, false, false, false] (by kernel_rfl) rfl rfl ⟨(kc_ BK144.out 0).trans rfl, (kc_ BK144.out 1).trans rfl, (kc_ BK145.out 0).trans rfl, (kc_ BK145.out 1).trans rfl⟩ (fun hHeld => ?_); refine with_tabW rat_Sub.tab3 rat_Sub.bits3 (fun HT_ HW_ => ?_)
  generalize w15.drew = w16 at BK144 BK145 BK146 HB hHeld ⊢
  refine take_ (i := 0) (N := some 11) (v := ?_) (a' := ?_) #[true, false, false, false, false, false, false, false] rfl rfl (take_ofW HT_.out HW_.out (by kernel_rfl)) (fun _ _ _ h => h) (Or.inl ⟨by rfl, ?_⟩) hHeld ?_ ?_
  rotate_left
  ·rintro w' ⟨s0, s1, s2, s3⟩
   go_simp
   with_reducible rfl
  rotate_left
  ·simp only [Act.put, ls_, lz_, lc_, i64_w, i32_w]
   rfl
  refine take_ (i := 1) (N := some 12) (v := ?_) (a' := ?_) #[true, true, false, false, false, false, false, false] rfl rfl (take_ofW HT_.out HW_.out (by kernel_rfl)) (fun _ _ _ h => h) (Or.inl ⟨by rfl, ?_⟩) hHeld ?_ ?_
  rotate_left
  ·rintro w' ⟨s0, s1, s2, s3⟩
   go_simp
   with_reducible rfl
  rotate_left
  ·simp only [Act.put, ls_, lz_, lc_, i64_w, i32_w]
   rfl
  refine one_ (i := 2) (N := some 13) #[true, true, true, false, false, false, false, false] rfl rfl (one_of HT_.out (by kernel_rfl)) (by decide) (fun K hK => ?_)
  refine goes_ Try.func33 (by kernel_rfl) rfl #[.agg #[.int .i64 a1_0, .int .i64 a1_1]] (by rfl) rfl rfl (by (try simp only [lm_, lq_, lx_]); first | done | rfl | (simp only [ld_, lt_]; rfl)) ?_
  with_reducible refine (rat_negated.calls a1_0 a1_1 t148 t149 _ A5.out).mono ?_
  rintro e w17 ⟨rfl, hb⟩
  refine ⟨_, rfl, ?_⟩
  have n0_ := sd_ (blk_below (g := gb144) (o := .cells #[.int .i64 a0_0, .int .i64 a0_1] 23 (0, 0)) (by (with_reducible repeat (first | refine kn_ ?_ _ | refine kd_ ?_ | refine ka_ ?_ _)); exact BK144.out) hb)
  have n1_ := sd_ (blk_below (g := gb145) (o := .cells #[.int .i64 a1_0, .int .i64 a1_1] 23 (0, 0)) (by (with_reducible repeat (first | refine kn_ ?_ _ | refine kd_ ?_ | refine ka_ ?_ _)); exact BK145.out) hb)
  have n2_ := sd_ (blk_below (g := gb146) (o := .cells #[.int .i64 0, .int .i64 0] 23 (0, 0)) (by (with_reducible repeat (first | refine kn_ ?_ _ | refine kd_ ?_ | refine ka_ ?_ _)); exact BK146.out) hb)
  have n3_ := sd_ (bt_ (by repeat first | exact HB.out | apply ba_ | apply pd_ | apply d1_ | refine bs_ ?_ GE144.out | refine bs_ ?_ GE145.out | refine bs_ ?_ GE146.out) hb)
  clear BK144
  clear BK145
  clear BK146
  clear HB
  have BK144 := n0_
  have BK145 := n1_
  have BK146 := n2_
  have HB := n3_
  clear n0_ n1_ n2_ n3_
  (try clear hb)
  (try clear hb2)
  (try clear hk)
  (try clear hi)
  refine hK.out _ _ ⟨(kc_ BK144.out 0).trans rfl, (kc_ BK144.out 1).trans rfl, (kc_ BK145.out 0).trans rfl, (kc_ BK145.out 1).trans rfl⟩ (fun hHeld => ?_)
  clear hK K
  refine norm_ (a' := ?_) ?_ ?_
  rotate_left
  ·show Act.put _ (some 13) _ = _
   simp only [Act.put, ls_, lz_, lc_, i64_w, i32_w]
   rfl
  refine one_ (i := 3) (N := some 14) #[true, true, true, true, false, false, false, false] rfl rfl (one_of HT_.out (by kernel_rfl)) (by decide) (fun K hK => ?_)
  refine goes_ Try.func32 (by kernel_rfl) rfl #[.agg #[.int .i64 a0_0, .int .i64 a0_1], .agg #[.int .i64 t148, .int .i64 t149]] (by rfl) rfl rfl (by (try simp only [lm_, lq_, lx_]); first | done | rfl | (simp only [ld_, lt_]; rfl)) ?_
  with_reducible refine (rat_Add.calls k a0_0 a0_1 t148 t149 t150 t151 t152 _ A6.out).mono ?_
  rintro e w18 ⟨rfl, hb⟩
  refine ⟨_, rfl, ?_⟩
  have n0_ := sd_ (blk_below (g := gb144) (o := .cells #[.int .i64 a0_0, .int .i64 a0_1] 23 (0, 0)) (by (with_reducible repeat (first | refine kn_ ?_ _ | refine kd_ ?_ | refine ka_ ?_ _)); exact BK144.out) hb)
  have n1_ := sd_ (blk_below (g := gb145) (o := .cells #[.int .i64 a1_0, .int .i64 a1_1] 23 (0, 0)) (by (with_reducible repeat (first | refine kn_ ?_ _ | refine kd_ ?_ | refine ka_ ?_ _)); exact BK145.out) hb)
  have n2_ := sd_ (blk_below (g := gb146) (o := .cells #[.int .i64 0, .int .i64 0] 23 (0, 0)) (by (with_reducible repeat (first | refine kn_ ?_ _ | refine kd_ ?_ | refine ka_ ?_ _)); exact BK146.out) hb)
  have n3_ := sd_ (bt_ (by repeat first | exact HB.out | apply ba_ | apply pd_ | apply d1_ | refine bs_ ?_ GE144.out | refine bs_ ?_ GE145.out | refine bs_ ?_ GE146.out) hb)
  clear BK144
  clear BK145
  clear BK146
  clear HB
  have BK144 := n0_
  have BK145 := n1_
  have BK146 := n2_
  have HB := n3_
  clear n0_ n1_ n2_ n3_
  (try clear hb)
  (try clear hb2)
  (try clear hk)
  (try clear hi)
  refine hK.out _ _ ⟨(kc_ BK144.out 0).trans rfl, (kc_ BK144.out 1).trans rfl, (kc_ BK145.out 0).trans rfl, (kc_ BK145.out 1).trans rfl⟩ (fun hHeld => ?_)
  clear hK K
  refine norm_ (a' := ?_) ?_ ?_
  rotate_left
  ·show Act.put _ (some 14) _ = _
   simp only [Act.put, ls_, lz_, lc_, i64_w, i32_w]
   rfl
  refine pure_ (i := 4) (N := some 15) (v := ?_) (a' := ?_) #[true, true, true, true, true, false, false, false] rfl rfl (any_of HT_.out (by kernel_rfl)) (fun _ _ _ h => h) (Or.inl ⟨by rfl, ?_⟩) ?_ ?_
  rotate_left; (intro w'; go_simp; with_reducible rfl); rotate_left; (simp only [Act.put, ls_, lz_, lc_, i64_w, i32_w]; rfl)
  refine pure_ (i := 5) (N := some 16) (v := ?_) (a' := ?_) #[true, true, true, true, true, true, false, false] rfl rfl (any_of HT_.out (by kernel_rfl)) (fun _ _ _ h => h) (Or.inl ⟨by rfl, ?_⟩) ?_ ?_
  rotate_left; (intro w'; go_simp; with_reducible rfl); rotate_left; (simp only [Act.put, ls_, lz_, lc_, i64_w, i32_w]; rfl)
  refine one_ (i := 6) (N := none) #[true, true, true, true, true, true, true, false] rfl rfl (one_of HT_.out (by kernel_rfl)) (by decide) (fun K hK => ?_)
  have hs19 : w18.cell? ⟨gb146, 0, none⟩ = some (.int .i64 0) := (kc_ BK146.out 0).trans rfl
  have hfs19 := kf_ BK146.out 0
  have hns19_0 := NB144_146.out
  have hns19_1 := NB145_146.out
  have hms19_0 := NB146_144.out
  have hms19_1 := NB146_145.out
  have hs20 : w18.cell? ⟨gb146, 1, none⟩ = some (.int .i64 0) := (kc_ BK146.out 1).trans rfl
  have hfs20 := kf_ BK146.out 1
  have hns20_0 := NB144_146.out
  have hns20_1 := NB145_146.out
  have hms20_0 := NB146_144.out
  have hms20_1 := NB146_145.out
  refine skip_ (w1 := ?_) (by rfl) rfl ?_ ?_
  rotate_left
  ·go_simp
   rfl
  refine hK.out _ _ ⟨((cell_far (p := ⟨gb146, _, none⟩) NB144_146.out _).trans (((cell_far (p := ⟨gb146, _, none⟩) NB144_146.out _).trans (hHeld.1)))), ((cell_far (p := ⟨gb146, _, none⟩) NB144_146.out _).trans (((cell_far (p := ⟨gb146, _, none⟩) NB144_146.out _).trans (hHeld.2.1)))), ((cell_far (p := ⟨gb146, _, none⟩) NB145_146.out _).trans (((cell_far (p := ⟨gb146, _, none⟩) NB145_146.out _).trans (hHeld.2.2.1)))), ((cell_far (p := ⟨gb146, _, none⟩) NB145_146.out _).trans (((cell_far (p := ⟨gb146, _, none⟩) NB145_146.out _).trans (hHeld.2.2.2))))⟩ (fun hHeld => ?_)
  clear hK K
  refine pure_ (i := 7) (N := some 5) (v := ?_) (a' := ?_) #[true, true, true, true, true, true, true, true] rfl rfl (any_of HT_.out (by kernel_rfl)) (fun _ _ _ h => h) (Or.inl ⟨by rfl, ?_⟩) ?_ ?_
  rotate_left; (intro w'; go_simp; with_reducible rfl); rotate_left; (simp only [Act.put, ls_, lz_, lc_, i64_w, i32_w]; rfl)
  refine done_ (done_of HT_.out (by kernel_rfl)) ?_
  try go_wp2
  refine bodyPost_ret (results_ct rfl _ _ gb146 23 #[.int .i64 t150, .int .i64 t151] (0, 0) _ rfl (by (with_reducible repeat (first | refine kn_ ?_ _ | refine kd_ ?_ | refine ka_ ?_ _)); refine blk_put (cs := #[.int .i64 t150, .int .i64 0]) ?_ 1 _ rfl; (with_reducible repeat (first | refine kn_ ?_ _ | refine kd_ ?_ | refine ka_ ?_ _)); refine blk_put (cs := #[.int .i64 0, .int .i64 0]) ?_ 0 _ rfl; (with_reducible repeat (first | refine kn_ ?_ _ | refine kd_ ?_ | refine ka_ ?_ _)); exact BK146.out) Try.underlying23 rfl (by kernel_rfl)) rfl ?_
  exact ⟨by first | rfl | (simp [errW_none, errW_some] <;> rfl) | (simp [*, errW_none, errW_some] <;> rfl), by repeat first | exact HB.out | apply ba_ | apply pd_ | apply d1_ | refine bs_ ?_ GE144.out | refine bs_ ?_ GE145.out | refine bs_ ?_ GE146.out⟩
 ·replace c4 := bf_ c4
  subst c4
  have H1 : ((rat_zero.f).bind fun bt153 => (some (bt153.1, bt153.2, 2))) = some (r1, r2, r3) := by rw [if_neg (show ¬ (false = true) by decide)] at H; exact H
  clear H; have H := H1; clear H1
  replace H := ob_ H
  obtain ⟨⟨t153, t154⟩, A210, H⟩ := H
  replace H : (some (t153, t154, 2)) = some (r1, r2, r3) := H
  have A21 := sd_ A210
  clear A210
  simp only [Option.some.injEq, Prod.mk.injEq] at H
  obtain ⟨rfl, rfl, rfl⟩ := H
  go_enter Try.func29, Try.ntmps29
  go_wp2_with (first | ((with_reducible refine gate_dst (N := 2) rfl ?_); refine box_event ?hg (N := 2) ?hd (cs := #[.int .i64 a0_0, .int .i64 a0_1]) (t := 23) ?hr ?_; (case hd => rfl); (case hg => rfl); (case hr => first | (go_simp; done) | (go_simp; rfl)); intro gb144 hg w22 hbox hb; have n0_ := sd_ (bt_ (by repeat first | exact HB.out | apply ba_ | apply pd_ | apply d1_) hb); have n1_ := sd_ (hbox); have n2_ := sd_ ((by rw [hg]; exact (bz_ (by repeat first | exact HB.out | apply ba_ | apply pd_ | apply d1_)) : w.heap.size ≤ gb144)); have n3_ := sd_ ((by rw [hg]; exact (bz_ (by repeat first | exact HB.out | apply ba_ | apply pd_ | apply d1_)) : w.heap.size ≤ gb144)); clear HB; have HB := n0_; have BK144 := n1_; have GW144 := n2_; have GE144 := n3_; clear n0_ n1_ n2_ n3_; clear hb hbox hg) | ((with_reducible refine gate_dst (N := 3) rfl ?_); refine box_event ?hg (N := 3) ?hd (cs := #[.int .i64 a1_0, .int .i64 a1_1]) (t := 23) ?hr ?_; (case hd => rfl); (case hg => rfl); (case hr => first | (go_simp; done) | (go_simp; rfl)); intro gb145 hg w23 hbox hb; have n0_ := sd_ (blk_below (g := gb144) (o := .cells #[.int .i64 a0_0, .int .i64 a0_1] 23 (0, 0)) (by (with_reducible repeat (first | refine kn_ ?_ _ | refine kd_ ?_ | refine ka_ ?_ _)); exact BK144.out) hb); have n1_ := sd_ (bt_ (by repeat first | exact HB.out | apply ba_ | apply pd_ | apply d1_ | refine bs_ ?_ GE144.out) hb); have n2_ := sd_ (hbox); have n3_ := sd_ ((by rw [hg]; exact (bz_ (by repeat first | exact HB.out | apply ba_ | apply pd_ | apply d1_ | refine bs_ ?_ GE144.out)) : w.heap.size ≤ gb145)); have n4_ := sd_ ((by rw [hg]; exact (bz_ (by repeat first | exact HB.out | apply ba_ | apply pd_ | apply d1_ | refine bs_ ?_ GE144.out)) : w.heap.size ≤ gb145)); have n5_ := sd_ ((by rw [hg]; exact nn_ (blk_lt (g := gb144) (o := .cells #[.int .i64 a0_0, .int .i64 a0_1] 23 (0, 0)) (by (with_reducible repeat (first | refine kn_ ?_ _ | refine kd_ ?_ | refine ka_ ?_ _)); exact BK144.out)) : gb144 ≠ gb145)); have n6_ := sd_ ((by rw [hg]; exact Nat.ne_of_gt (blk_lt (g := gb144) (o := .cells #[.int .i64 a0_0, .int .i64 a0_1] 23 (0, 0)) (by (with_reducible repeat (first | refine kn_ ?_ _ | refine kd_ ?_ | refine ka_ ?_ _)); exact BK144.out)) : gb145 ≠ gb144)); clear BK144; clear HB; have BK144 := n0_; have HB := n1_; have BK145 := n2_; have GW145 := n3_; have GE145 := n4_; have NB144_145 := n5_; have NB145_144 := n6_; clear n0_ n1_ n2_ n3_ n4_ n5_ n6_; clear hb hbox hg) | ((with_reducible refine gate_dst (N := 4) rfl ?_); refine box_event ?hg (N := 4) ?hd (cs := #[.int .i64 0, .int .i64 0]) (t := 23) ?hr ?_; (case hd => rfl); (case hg => rfl); (case hr => first | (go_simp; done) | (go_simp; rfl)); intro gb146 hg w24 hbox hb; have n0_ := sd_ (blk_below (g := gb144) (o := .cells #[.int .i64 a0_0, .int .i64 a0_1] 23 (0, 0)) (by (with_reducible repeat (first | refine kn_ ?_ _ | refine kd_ ?_ | refine ka_ ?_ _)); exact BK144.out) hb); have n1_ := sd_ (blk_below (g := gb145) (o := .cells #[.int .i64 a1_0, .int .i64 a1_1] 23 (0, 0)) (by (with_reducible repeat (first | refine kn_ ?_ _ | refine kd_ ?_ | refine ka_ ?_ _)); exact BK145.out) hb); have n2_ := sd_ (bt_ (by repeat first | exact HB.out | apply ba_ | apply pd_ | apply d1_ | refine bs_ ?_ GE144.out | refine bs_ ?_ GE145.out) hb); have n3_ := sd_ (hbox); have n4_ := sd_ ((by rw [hg]; exact (bz_ (by repeat first | exact HB.out | apply ba_ | apply pd_ | apply d1_ | refine bs_ ?_ GE144.out | refine bs_ ?_ GE145.out)) : w.heap.size ≤ gb146)); have n5_ := sd_ ((by rw [hg]; exact (bz_ (by repeat first | exact HB.out | apply ba_ | apply pd_ | apply d1_ | refine bs_ ?_ GE144.out | refine bs_ ?_ GE145.out)) : w.heap.size ≤ gb146)); have n6_ := sd_ ((by rw [hg]; exact nn_ (blk_lt (g := gb144) (o := .cells #[.int .i64 a0_0, .int .i64 a0_1] 23 (0, 0)) (by (with_reducible repeat (first | refine kn_ ?_ _ | refine kd_ ?_ | refine ka_ ?_ _)); exact BK144.out)) : gb144 ≠ gb146)); have n7_ := sd_ ((by rw [hg]; exact Nat.ne_of_gt (blk_lt (g := gb144) (o := .cells #[.int .i64 a0_0, .int .i64 a0_1] 23 (0, 0)) (by (with_reducible repeat (first | refine kn_ ?_ _ | refine kd_ ?_ | refine ka_ ?_ _)); exact BK144.out)) : gb146 ≠ gb144)); have n8_ := sd_ ((by rw [hg]; exact nn_ (blk_lt (g := gb145) (o := .cells #[.int .i64 a1_0, .int .i64 a1_1] 23 (0, 0)) (by (with_reducible repeat (first | refine kn_ ?_ _ | refine kd_ ?_ | refine ka_ ?_ _)); exact BK145.out)) : gb145 ≠ gb146)); have n9_ := sd_ ((by rw [hg]; exact Nat.ne_of_gt (blk_lt (g := gb145) (o := .cells #[.int .i64 a1_0, .int .i64 a1_1] 23 (0, 0)) (by (with_reducible repeat (first | refine kn_ ?_ _ | refine kd_ ?_ | refine ka_ ?_ _)); exact BK145.out)) : gb146 ≠ gb145)); clear BK144; clear BK145; clear HB; have BK144 := n0_; have BK145 := n1_; have HB := n2_; have BK146 := n3_; have GW146 := n4_; have GE146 := n5_; have NB144_146 := n6_; have NB146_144 := n7_; have NB145_146 := n8_; have NB146_145 := n9_; clear n0_ n1_ n2_ n3_ n4_ n5_ n6_ n7_ n8_ n9_; clear hb hbox hg; have hnb25 := NB144_145.out; have hnc25 := NB145_144.out; have hnb26 := NB144_146.out; have hnc26 := NB146_144.out; have hcz27_0 : w24.cell? ⟨gb144, 0, none⟩ = some (.int .i64 a0_0) := (kc_ BK144.out 0).trans rfl; have hcz27_1 : w24.cell? ⟨gb144, 1, none⟩ = some (.int .i64 a0_1) := (kc_ BK144.out 1).trans rfl; have hfz27_0 := kf_ BK144.out 0; have hfz27_1 := kf_ BK144.out 1; have hnb28 := NB145_146.out; have hnc28 := NB146_145.out; have hcz29_0 : w24.cell? ⟨gb145, 0, none⟩ = some (.int .i64 a1_0) := (kc_ BK145.out 0).trans rfl; have hcz29_1 : w24.cell? ⟨gb145, 1, none⟩ = some (.int .i64 a1_1) := (kc_ BK145.out 1).trans rfl; have hfz29_0 := kf_ BK145.out 0; have hfz29_1 := kf_ BK145.out 1) | ((with_reducible refine gate_callee (f := 30) rfl ?_); refine goesL_ (some 8) rfl rfl Try.func30 (by kernel_rfl) rfl #[.agg #[.int .i64 a0_0, .int .i64 a0_1], .agg #[.int .i64 a1_0, .int .i64 a1_1]] rfl (by (try simp only [lm_, lq_, lx_]); first | done | rfl | (simp only [ld_, lt_]; rfl)) ?_; (with_reducible refine (rat_both.calls k a0_0 a0_1 a1_0 a1_1 false _ A3.out).mono ?_); rintro e w30 ⟨rfl, hb⟩; refine ⟨_, rfl, ?_⟩; have n0_ := sd_ (blk_below (g := gb144) (o := .cells #[.int .i64 a0_0, .int .i64 a0_1] 23 (0, 0)) (by (with_reducible repeat (first | refine kn_ ?_ _ | refine kd_ ?_ | refine ka_ ?_ _)); exact BK144.out) hb); have n1_ := sd_ (blk_below (g := gb145) (o := .cells #[.int .i64 a1_0, .int .i64 a1_1] 23 (0, 0)) (by (with_reducible repeat (first | refine kn_ ?_ _ | refine kd_ ?_ | refine ka_ ?_ _)); exact BK145.out) hb); have n2_ := sd_ (blk_below (g := gb146) (o := .cells #[.int .i64 0, .int .i64 0] 23 (0, 0)) (by (with_reducible repeat (first | refine kn_ ?_ _ | refine kd_ ?_ | refine ka_ ?_ _)); exact BK146.out) hb); have n3_ := sd_ (bt_ (by repeat first | exact HB.out | apply ba_ | apply pd_ | apply d1_ | refine bs_ ?_ GE144.out | refine bs_ ?_ GE145.out | refine bs_ ?_ GE146.out) hb); clear BK144; clear BK145; clear BK146; clear HB; have BK144 := n0_; have BK145 := n1_; have BK146 := n2_; have HB := n3_; clear n0_ n1_ n2_ n3_; (try clear hb); (try clear hb2); (try clear hk); (try clear hi)) | ((with_reducible refine gate_callee (f := 31) rfl ?_); refine goesL_ (some 10) rfl rfl Try.func31 (by kernel_rfl) rfl #[] rfl (by (try simp only [lm_, lq_, lx_]); first | done | rfl | (simp only [ld_, lt_]; rfl)) ?_; (with_reducible refine (rat_zero.calls  t153 t154 _ A21.out).mono ?_); rintro e w31 ⟨rfl, hb⟩; refine ⟨_, rfl, ?_⟩; have n0_ := sd_ (blk_below (g := gb144) (o := .cells #[.int .i64 a0_0, .int .i64 a0_1] 23 (0, 0)) (by (with_reducible repeat (first | refine kn_ ?_ _ | refine kd_ ?_ | refine ka_ ?_ _)); exact BK144.out) hb); have n1_ := sd_ (blk_below (g := gb145) (o := .cells #[.int .i64 a1_0, .int .i64 a1_1] 23 (0, 0)) (by (with_reducible repeat (first | refine kn_ ?_ _ | refine kd_ ?_ | refine ka_ ?_ _)); exact BK145.out) hb); have n2_ := sd_ (blk_below (g := gb146) (o := .cells #[.int .i64 0, .int .i64 0] 23 (0, 0)) (by (with_reducible repeat (first | refine kn_ ?_ _ | refine kd_ ?_ | refine ka_ ?_ _)); exact BK146.out) hb); have n3_ := sd_ (bt_ (by repeat first | exact HB.out | apply ba_ | apply pd_ | apply d1_ | refine bs_ ?_ GE144.out | refine bs_ ?_ GE145.out | refine bs_ ?_ GE146.out) hb); clear BK144; clear BK145; clear BK146; clear HB; have BK144 := n0_; have BK145 := n1_; have BK146 := n2_; have HB := n3_; clear n0_ n1_ n2_ n3_; (try clear hb); (try clear hb2); (try clear hk); (try clear hi); have hcz32_0 : w31.cell? ⟨gb146, 0, none⟩ = some (.int .i64 0) := (kc_ BK146.out 0).trans rfl; have hcz32_1 : w31.cell? ⟨gb146, 1, none⟩ = some (.int .i64 0) := (kc_ BK146.out 1).trans rfl; have hfz32_0 := kf_ BK146.out 0; have hfz32_1 := kf_ BK146.out 1))
  refine bodyPost_ret (results_ct rfl _ _ gb146 23 #[.int .i64 t153, .int .i64 t154] (0, 0) _ rfl (by (with_reducible repeat (first | refine kn_ ?_ _ | refine kd_ ?_ | refine ka_ ?_ _)); refine blk_put (cs := #[.int .i64 t153, .int .i64 0]) ?_ 1 _ rfl; (with_reducible repeat (first | refine kn_ ?_ _ | refine kd_ ?_ | refine ka_ ?_ _)); refine blk_put (cs := #[.int .i64 0, .int .i64 0]) ?_ 0 _ rfl; (with_reducible repeat (first | refine kn_ ?_ _ | refine kd_ ?_ | refine ka_ ?_ _)); exact BK146.out) Try.underlying23 rfl (by kernel_rfl)) rfl ?_
  exact ⟨by first | rfl | (simp [errW_none, errW_some] <;> rfl) | (simp [*, errW_none, errW_some] <;> rfl), by repeat first | exact HB.out | apply ba_ | apply pd_ | apply d1_ | refine bs_ ?_ GE144.out | refine bs_ ?_ GE145.out | refine bs_ ?_ GE146.out⟩

end Go.Proofs.Ytcbeibmoblgaeaa.P
