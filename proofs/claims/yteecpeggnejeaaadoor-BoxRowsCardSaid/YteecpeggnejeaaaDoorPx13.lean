-- Written by a program of this session (wip/tools/xprint.py, over the kit's print): Lean checks it.
import Derived.Test.YteecpeggnejeaaaDoorPx0
import Derived.Test.YteecpeggnejeaaaDoorPx1
import Derived.Test.YteecpeggnejeaaaDoorPx3
import Derived.Test.YteecpeggnejeaaaDoorPx4
import Derived.Test.YteecpeggnejeaaaDoorPx7
import Derived.Test.YteecpeggnejeaaaDoorPx8
import Derived.Test.YteecpeggnejeaaaDoorPx9
import Derived.Test.YteecpeggnejeaaaDoorPx11
namespace Go.Proofs.YteecpeggnejeaaaDoor.P
open Go.RowKit Go.Proofs.YteecpeggnejeaaaDoorW.PrintWords Go.Proofs.YteecpeggnejeaaaDoorW.PrintLast Go.Proofs.YteecpeggnejeaaaDoorW.PrintMore
attribute [local go_sem] max2_int min2_int max_two min_two max_three min_three max_four min_four   -- for this text's walks alone
set_option linter.unusedVariables false
set_option linter.unusedSimpArgs false

attribute [local go_sem high] eqA23
/-! ### neumelaw03_BoxRows: function 4 -/
def neumelaw03_BoxRows.f (k : Nat) (l0 : List (S23)) : Option (Bool) := if (l0.length : Int) > 200 then ((neumelaw03_heads.f k).bind fun t319 => (some t319)) else ((box_Bounds.f k l0).bind fun bt320 => ((neumeref03_Bounds.f k l0).bind fun bt326 => ((box_Apart.f k l0).bind fun bt332 => ((neumeref03_Apart.f k l0).bind fun bt335 => (if (bt320.1 == bt326.1 && (bt320.2.1 == bt326.2.1 && (bt320.2.2.1 == bt326.2.2.1 && (bt320.2.2.2.1 == bt326.2.2.2.1)))) = true then (if (bt320.2.2.2.2 == bt326.2.2.2.2) = true then (if bt332.1 = bt335.1 then (if bt332.2.1 = bt335.2.1 then (if (bt332.2.2 == bt335.2.2) = true then ((neumelaw03_heads.f k).bind fun t338 => (some t338)) else (some false)) else (some false)) else (some false)) else (some false)) else (some false))))))
theorem neumelaw03_BoxRows.mono : ∀ a0 k, LeO (neumelaw03_BoxRows.f k a0) (neumelaw03_BoxRows.f (k + 1) a0) := by
 intro a0 k
 unfold neumelaw03_BoxRows.f
 repeat' first
   | (with_reducible exact box_Apart.mono _ _)
   | (with_reducible exact box_Bounds.mono _ _)
   | (with_reducible exact neumelaw03_heads.mono _)
   | (with_reducible exact neumeref03_Apart.mono _ _)
   | (with_reducible exact neumeref03_Bounds.mono _ _)
   | (with_reducible exact LeO.refl _)
   | (with_reducible exact LeO.none _)
   | (with_reducible refine LeO.ite ?_ ?_)
   | (with_reducible refine LeO.bind ?_ (fun _ => ?_))
   | exact box_Apart.mono _ _
   | exact box_Bounds.mono _ _
   | exact neumelaw03_heads.mono _
   | exact neumeref03_Apart.mono _ _
   | exact neumeref03_Bounds.mono _ _
   | exact LeO.none _
   | refine LeO.ite ?_ ?_
   | refine LeO.bind ?_ (fun _ => ?_)
set_option maxHeartbeats 8000000 in
set_option maxRecDepth 100000 in
theorem neumelaw03_BoxRows.calls (k : Nat) (A0 : Option Addr) (c0 : Nat) (l0 : List (S23)) (r : Bool) (w : World) (hr0 : Kd.C k23 w A0 l0.length l0) (hc0 : l0.length ≤ c0) (hE : Aside0 (LaidE w)) (hxt : Aside0 (r = true)) (h : neumelaw03_BoxRows.f k l0 = some r) :
  Calls Tryd.prog 4 #[.slice A0 l0.length c0] w fun e w' => e = .returned (.bool r) ∧ Below w.heap.size w w' := by
 have hu23 := Tryd.underlying23
 have HR0 := sd_ hr0
 have HC0 := sd_ hc0
 clear hr0 hc0
 have HB := sd_ (Below.refl w.heap.size w)
 have H : (if (l0.length : Int) > 200 then ((neumelaw03_heads.f k).bind fun t319 => (some t319)) else ((box_Bounds.f k l0).bind fun bt320 => ((neumeref03_Bounds.f k l0).bind fun bt326 => ((box_Apart.f k l0).bind fun bt332 => ((neumeref03_Apart.f k l0).bind fun bt335 => (if (bt320.1 == bt326.1 && (bt320.2.1 == bt326.2.1 && (bt320.2.2.1 == bt326.2.2.1 && (bt320.2.2.2.1 == bt326.2.2.2.1)))) = true then (if (bt320.2.2.2.2 == bt326.2.2.2.2) = true then (if bt332.1 = bt335.1 then (if bt332.2.1 = bt335.2.1 then (if (bt332.2.2 == bt335.2.2) = true then ((neumelaw03_heads.f k).bind fun t338 => (some t338)) else (some false)) else (some false)) else (some false)) else (some false)) else (some false))))))) = some r := h
 clear h
 by_cases c2 : (l0.length : Int) > 200
 ·rw [if_pos c2] at H
  have c2b0 : decide (200 < (l0.length : Int)) = true := dt_ c2
  have c2b1 : decide (200 < l0.length) = true := dt_ (by omega)
  clear c2
  replace H := ob_ H
  obtain ⟨t319, A30, H⟩ := H
  replace H : (some t319) = some r := H
  have A3 := sd_ A30
  clear A30
  obtain rfl := Option.some.inj H
  go_enter Tryd.func4, Tryd.ntmps4
  go_wp2_with (first | ((with_reducible refine gate_callee (f := 20) rfl ?_); refine goesL_ (some 16) rfl rfl Tryd.func20 (by kernel_rfl) rfl #[] rfl (by (try simp only [lm_, lq_, lx_]); first | done | rfl | (simp only [ld_, lt_]; rfl)) ?_; (with_reducible refine (neumelaw03_heads.calls k  t319 _ ?side1 A3.out).mono ?_); (case side1 => first | (with_reducible exact hE) | exact sd_ (LaidE.below hE.out (by repeat (first | (with_reducible first | exact HB.out | apply ba_ | apply pd_ | apply d1_) | exact HB.out)))); rintro e w4 ⟨rfl, hb⟩; refine ⟨_, rfl, ?_⟩; have n0_ := sd_ (bt_ (by repeat (first | (with_reducible first | exact HB.out | apply ba_ | apply pd_ | apply d1_) | exact HB.out)) hb); clear HB; have HB := n0_; clear n0_; (try clear hb); (try clear hb2); (try clear hk); (try clear hi)))
  go_ret
  exact ⟨by first | rfl | (simp [errW_none, errW_some] <;> rfl) | (simp [*, errW_none, errW_some] <;> rfl), by repeat (first | (with_reducible first | exact HB.out | apply ba_ | apply pd_ | apply d1_) | exact HB.out)⟩
 ·rw [if_neg c2] at H
  have c2b0 : decide (200 < (l0.length : Int)) = false := df_ c2
  have c2b1 : decide (200 < l0.length) = false := df_ (by omega)
  clear c2
  replace H := ob_ H
  obtain ⟨⟨t320, t321, t322, t323, t324⟩, A50, H⟩ := H
  replace H : ((neumeref03_Bounds.f k l0).bind fun bt326 => ((box_Apart.f k l0).bind fun bt332 => ((neumeref03_Apart.f k l0).bind fun bt335 => (if (t320 == bt326.1 && (t321 == bt326.2.1 && (t322 == bt326.2.2.1 && (t323 == bt326.2.2.2.1)))) = true then (if (t324 == bt326.2.2.2.2) = true then (if bt332.1 = bt335.1 then (if bt332.2.1 = bt335.2.1 then (if (bt332.2.2 == bt335.2.2) = true then ((neumelaw03_heads.f k).bind fun t338 => (some t338)) else (some false)) else (some false)) else (some false)) else (some false)) else (some false))))) = some r := H
  have A5 := sd_ A50
  clear A50
  replace H := ob_ H
  obtain ⟨⟨t326, t327, t328, t329, t330⟩, A60, H⟩ := H
  replace H : ((box_Apart.f k l0).bind fun bt332 => ((neumeref03_Apart.f k l0).bind fun bt335 => (if (t320 == t326 && (t321 == t327 && (t322 == t328 && (t323 == t329)))) = true then (if (t324 == t330) = true then (if bt332.1 = bt335.1 then (if bt332.2.1 = bt335.2.1 then (if (bt332.2.2 == bt335.2.2) = true then ((neumelaw03_heads.f k).bind fun t338 => (some t338)) else (some false)) else (some false)) else (some false)) else (some false)) else (some false)))) = some r := H
  have A6 := sd_ A60
  clear A60
  replace H := ob_ H
  obtain ⟨⟨t332, t333, t334⟩, A70, H⟩ := H
  replace H : ((neumeref03_Apart.f k l0).bind fun bt335 => (if (t320 == t326 && (t321 == t327 && (t322 == t328 && (t323 == t329)))) = true then (if (t324 == t330) = true then (if t332 = bt335.1 then (if t333 = bt335.2.1 then (if (t334 == bt335.2.2) = true then ((neumelaw03_heads.f k).bind fun t338 => (some t338)) else (some false)) else (some false)) else (some false)) else (some false)) else (some false))) = some r := H
  have A7 := sd_ A70
  clear A70
  replace H := ob_ H
  obtain ⟨⟨t335, t336, t337⟩, A80, H⟩ := H
  replace H : (if (t320 == t326 && (t321 == t327 && (t322 == t328 && (t323 == t329)))) = true then (if (t324 == t330) = true then (if t332 = t335 then (if t333 = t336 then (if (t334 == t337) = true then ((neumelaw03_heads.f k).bind fun t338 => (some t338)) else (some false)) else (some false)) else (some false)) else (some false)) else (some false)) = some r := H
  have A8 := sd_ A80
  clear A80
  by_cases c9 : (t320 == t326 && (t321 == t327 && (t322 == t328 && (t323 == t329)))) = true
  ·rw [if_pos c9] at H
   have c9b0 : (t320 == t326 && (t321 == t327 && (t322 == t328 && (t323 == t329)))) = true := c9
   (try (have c9b1 : decide (t320 = t326 && (t321 == t327 && (t322 == t328 && (t323 == t329)))) = true := by simpa using c9))
   (try (have c9b2 : (t320 == t326 && (t321 == t327 && (t322 == t328 && (t323 == t329)))) = true := by simpa using c9))
   clear c9
   by_cases c10 : (t324 == t330) = true
   ·rw [if_pos c10] at H
    have c10b0 : (t324 == t330) = true := c10
    (try (have c10b1 : decide (t324 = t330) = true := by simpa using c10))
    (try (have c10b2 : (t324 == t330) = true := by simpa using c10))
    clear c10
    by_cases c11 : t332 = t335
    ·rw [if_pos c11] at H
     have c11b0 : (t332 == t335) = true := beq_iff_eq.mpr c11
     have c11b1 : (t332 != t335) = false := bne_eq_false_iff_eq.mpr c11
     clear c11
     by_cases c12 : t333 = t336
     ·rw [if_pos c12] at H
      have c12b0 : (t333 == t336) = true := beq_iff_eq.mpr c12
      have c12b1 : (t333 != t336) = false := bne_eq_false_iff_eq.mpr c12
      clear c12
      by_cases c13 : (t334 == t337) = true
      ·rw [if_pos c13] at H
       have c13b0 : (t334 == t337) = true := c13
       (try (have c13b1 : decide (t334 = t337) = true := by simpa using c13))
       (try (have c13b2 : (t334 == t337) = true := by simpa using c13))
       clear c13
       replace H := ob_ H
       obtain ⟨t338, A140, H⟩ := H
       replace H : (some t338) = some r := H
       have A14 := sd_ A140
       clear A140
       obtain rfl := Option.some.inj H
       go_enter Tryd.func4, Tryd.ntmps4
       go_wp2_with (first | ((with_reducible refine gate_callee (f := 21) rfl ?_); refine goesL_ (some 19) rfl rfl Tryd.func21 (by kernel_rfl) rfl #[.slice A0 l0.length c0] rfl (by (try simp only [lm_, lq_, lx_]); first | done | rfl | (simp only [ld_, lt_]; rfl)) ?_; (with_reducible refine (box_Bounds.calls k _ _ l0 t320 t321 t322 t323 t324 _ ?side1 ?side2 A5.out).mono ?_); (case side1 => repeat (first | exact HR0.out | (with_reducible refine Kd.C_alloc ?_ _) | (with_reducible refine Kd.C_drewN ?_ _) | (with_reducible refine Kd.C_drew ?_))); (case side2 => exact HC0.out); rintro e w15 ⟨rfl, hb⟩; refine ⟨_, rfl, ?_⟩; have n0_ := sd_ (bt_ (by repeat (first | (with_reducible first | exact HB.out | apply ba_ | apply pd_ | apply d1_) | exact HB.out)) hb); clear HB; have HB := n0_; clear n0_; (try clear hb); (try clear hb2); (try clear hk); (try clear hi)) | ((with_reducible refine gate_dst (N := 3) rfl ?_); refine box_event ?hg (N := 3) ?hd (cs := #[.int .i64 0, .int .i64 0, .int .i64 0, .int .i64 0]) (t := 23) ?hr ?_; (case hd => rfl); (case hg => rfl); (case hr => first | (go_simp; done) | (go_simp; rfl)); intro gb325 hg w16 hbox hb; have n0_ := sd_ (bt_ (by repeat (first | (with_reducible first | exact HB.out | apply ba_ | apply pd_ | apply d1_) | exact HB.out)) hb); have n1_ := sd_ (hbox); have n2_ := sd_ ((by rw [hg]; exact (bz_ (by repeat (first | (with_reducible first | exact HB.out | apply ba_ | apply pd_ | apply d1_) | exact HB.out))) : w.heap.size ≤ gb325)); have n3_ := sd_ ((by rw [hg]; exact (bz_ (by repeat (first | (with_reducible first | exact HB.out | apply ba_ | apply pd_ | apply d1_) | exact HB.out))) : w.heap.size ≤ gb325)); clear HB; have HB := n0_; have BK325 := n1_; have GW325 := n2_; have GE325 := n3_; clear n0_ n1_ n2_ n3_; clear hb hbox hg; have hcz17_0 : w16.cell? ⟨gb325, 0, none⟩ = some (.int .i64 0) := (kc_ BK325.out 0).trans rfl; have hcz17_1 : w16.cell? ⟨gb325, 1, none⟩ = some (.int .i64 0) := (kc_ BK325.out 1).trans rfl; have hcz17_2 : w16.cell? ⟨gb325, 2, none⟩ = some (.int .i64 0) := (kc_ BK325.out 2).trans rfl; have hcz17_3 : w16.cell? ⟨gb325, 3, none⟩ = some (.int .i64 0) := (kc_ BK325.out 3).trans rfl; have hfz17_0 := kf_ BK325.out 0; have hfz17_1 := kf_ BK325.out 1; have hfz17_2 := kf_ BK325.out 2; have hfz17_3 := kf_ BK325.out 3) | ((with_reducible refine gate_callee (f := 22) rfl ?_); refine goesL_ (some 24) rfl rfl Tryd.func22 (by kernel_rfl) rfl #[.slice A0 l0.length c0] rfl (by (try simp only [lm_, lq_, lx_]); first | done | rfl | (simp only [ld_, lt_]; rfl)) ?_; (with_reducible refine (neumeref03_Bounds.calls k _ _ l0 t326 t327 t328 t329 t330 _ ?side1 ?side2 A6.out).mono ?_); (case side1 => exact Kd.C_below HR0.out (by repeat (first | (with_reducible first | exact HB.out | apply ba_ | apply pd_ | apply d1_ | refine bs_ ?_ GE325.out) | exact HB.out))); (case side2 => exact HC0.out); rintro e w18 ⟨rfl, hb⟩; refine ⟨_, rfl, ?_⟩; have n0_ := sd_ (blk_below (g := gb325) (o := .cells #[.int .i64 t320, .int .i64 t321, .int .i64 t322, .int .i64 t323] 23 (0, 0)) (by (with_reducible repeat (first | refine kn_ ?_ _ | refine kd_ ?_ | refine ka_ ?_ _)); refine blk_put (cs := #[.int .i64 t320, .int .i64 t321, .int .i64 t322, .int .i64 0]) ?_ 3 _ rfl; (with_reducible repeat (first | refine kn_ ?_ _ | refine kd_ ?_ | refine ka_ ?_ _)); refine blk_put (cs := #[.int .i64 t320, .int .i64 t321, .int .i64 0, .int .i64 0]) ?_ 2 _ rfl; (with_reducible repeat (first | refine kn_ ?_ _ | refine kd_ ?_ | refine ka_ ?_ _)); refine blk_put (cs := #[.int .i64 t320, .int .i64 0, .int .i64 0, .int .i64 0]) ?_ 1 _ rfl; (with_reducible repeat (first | refine kn_ ?_ _ | refine kd_ ?_ | refine ka_ ?_ _)); refine blk_put (cs := #[.int .i64 0, .int .i64 0, .int .i64 0, .int .i64 0]) ?_ 0 _ rfl; (with_reducible repeat (first | refine kn_ ?_ _ | refine kd_ ?_ | refine ka_ ?_ _)); exact BK325.out) hb); have n1_ := sd_ (bt_ (by repeat (first | (with_reducible first | exact HB.out | apply ba_ | apply pd_ | apply d1_ | refine bs_ ?_ GE325.out) | exact HB.out)) hb); clear BK325; clear HB; have BK325 := n0_; have HB := n1_; clear n0_ n1_; (try clear hb); (try clear hb2); (try clear hk); (try clear hi)) | ((with_reducible refine gate_dst (N := 5) rfl ?_); refine box_event ?hg (N := 5) ?hd (cs := #[.int .i64 0, .int .i64 0, .int .i64 0, .int .i64 0]) (t := 23) ?hr ?_; (case hd => rfl); (case hg => rfl); (case hr => first | (go_simp; done) | (go_simp; rfl)); intro gb331 hg w19 hbox hb; have n0_ := sd_ (blk_below (g := gb325) (o := .cells #[.int .i64 t320, .int .i64 t321, .int .i64 t322, .int .i64 t323] 23 (0, 0)) (by (with_reducible repeat (first | refine kn_ ?_ _ | refine kd_ ?_ | refine ka_ ?_ _)); exact BK325.out) hb); have n1_ := sd_ (bt_ (by repeat (first | (with_reducible first | exact HB.out | apply ba_ | apply pd_ | apply d1_ | refine bs_ ?_ GE325.out) | exact HB.out)) hb); have n2_ := sd_ (hbox); have n3_ := sd_ ((by rw [hg]; exact (bz_ (by repeat (first | (with_reducible first | exact HB.out | apply ba_ | apply pd_ | apply d1_ | refine bs_ ?_ GE325.out) | exact HB.out))) : w.heap.size ≤ gb331)); have n4_ := sd_ ((by rw [hg]; exact (bz_ (by repeat (first | (with_reducible first | exact HB.out | apply ba_ | apply pd_ | apply d1_ | refine bs_ ?_ GE325.out) | exact HB.out))) : w.heap.size ≤ gb331)); have n5_ := sd_ ((by rw [hg]; exact nn_ (blk_lt (g := gb325) (o := .cells #[.int .i64 t320, .int .i64 t321, .int .i64 t322, .int .i64 t323] 23 (0, 0)) (by (with_reducible repeat (first | refine kn_ ?_ _ | refine kd_ ?_ | refine ka_ ?_ _)); exact BK325.out)) : gb325 ≠ gb331)); have n6_ := sd_ ((by rw [hg]; exact Nat.ne_of_gt (blk_lt (g := gb325) (o := .cells #[.int .i64 t320, .int .i64 t321, .int .i64 t322, .int .i64 t323] 23 (0, 0)) (by (with_reducible repeat (first | refine kn_ ?_ _ | refine kd_ ?_ | refine ka_ ?_ _)); exact BK325.out)) : gb331 ≠ gb325)); clear BK325; clear HB; have BK325 := n0_; have HB := n1_; have BK331 := n2_; have GW331 := n3_; have GE331 := n4_; have NB325_331 := n5_; have NB331_325 := n6_; clear n0_ n1_ n2_ n3_ n4_ n5_ n6_; clear hb hbox hg; have hnb20 := NB331_325.out; have hnc20 := NB325_331.out; have hcz21_0 : w19.cell? ⟨gb331, 0, none⟩ = some (.int .i64 0) := (kc_ BK331.out 0).trans rfl; have hcz21_1 : w19.cell? ⟨gb331, 1, none⟩ = some (.int .i64 0) := (kc_ BK331.out 1).trans rfl; have hcz21_2 : w19.cell? ⟨gb331, 2, none⟩ = some (.int .i64 0) := (kc_ BK331.out 2).trans rfl; have hcz21_3 : w19.cell? ⟨gb331, 3, none⟩ = some (.int .i64 0) := (kc_ BK331.out 3).trans rfl; have hfz21_0 := kf_ BK331.out 0; have hfz21_1 := kf_ BK331.out 1; have hfz21_2 := kf_ BK331.out 2; have hfz21_3 := kf_ BK331.out 3) | ((with_reducible refine gate_callee (f := 23) rfl ?_); refine goesL_ (some 29) rfl rfl Tryd.func23 (by kernel_rfl) rfl #[.slice A0 l0.length c0] rfl (by (try simp only [lm_, lq_, lx_]); first | done | rfl | (simp only [ld_, lt_]; rfl)) ?_; (with_reducible refine (box_Apart.calls k _ _ l0 t332 t333 t334 _ ?side1 ?side2 A7.out).mono ?_); (case side1 => exact Kd.C_below HR0.out (by repeat (first | (with_reducible first | exact HB.out | apply ba_ | apply pd_ | apply d1_ | refine bs_ ?_ GE325.out | refine bs_ ?_ GE331.out) | exact HB.out))); (case side2 => exact HC0.out); rintro e w22 ⟨rfl, hb⟩; refine ⟨_, rfl, ?_⟩; have n0_ := sd_ (blk_below (g := gb325) (o := .cells #[.int .i64 t320, .int .i64 t321, .int .i64 t322, .int .i64 t323] 23 (0, 0)) (by (with_reducible repeat (first | refine kn_ ?_ _ | refine kd_ ?_ | refine ka_ ?_ _)); refine blk_far ?_ NB325_331.out _; (with_reducible repeat (first | refine kn_ ?_ _ | refine kd_ ?_ | refine ka_ ?_ _)); refine blk_far ?_ NB325_331.out _; (with_reducible repeat (first | refine kn_ ?_ _ | refine kd_ ?_ | refine ka_ ?_ _)); refine blk_far ?_ NB325_331.out _; (with_reducible repeat (first | refine kn_ ?_ _ | refine kd_ ?_ | refine ka_ ?_ _)); refine blk_far ?_ NB325_331.out _; (with_reducible repeat (first | refine kn_ ?_ _ | refine kd_ ?_ | refine ka_ ?_ _)); exact BK325.out) hb); have n1_ := sd_ (blk_below (g := gb331) (o := .cells #[.int .i64 t326, .int .i64 t327, .int .i64 t328, .int .i64 t329] 23 (0, 0)) (by (with_reducible repeat (first | refine kn_ ?_ _ | refine kd_ ?_ | refine ka_ ?_ _)); refine blk_put (cs := #[.int .i64 t326, .int .i64 t327, .int .i64 t328, .int .i64 0]) ?_ 3 _ rfl; (with_reducible repeat (first | refine kn_ ?_ _ | refine kd_ ?_ | refine ka_ ?_ _)); refine blk_put (cs := #[.int .i64 t326, .int .i64 t327, .int .i64 0, .int .i64 0]) ?_ 2 _ rfl; (with_reducible repeat (first | refine kn_ ?_ _ | refine kd_ ?_ | refine ka_ ?_ _)); refine blk_put (cs := #[.int .i64 t326, .int .i64 0, .int .i64 0, .int .i64 0]) ?_ 1 _ rfl; (with_reducible repeat (first | refine kn_ ?_ _ | refine kd_ ?_ | refine ka_ ?_ _)); refine blk_put (cs := #[.int .i64 0, .int .i64 0, .int .i64 0, .int .i64 0]) ?_ 0 _ rfl; (with_reducible repeat (first | refine kn_ ?_ _ | refine kd_ ?_ | refine ka_ ?_ _)); exact BK331.out) hb); have n2_ := sd_ (bt_ (by repeat (first | (with_reducible first | exact HB.out | apply ba_ | apply pd_ | apply d1_ | refine bs_ ?_ GE325.out | refine bs_ ?_ GE331.out) | exact HB.out)) hb); clear BK325; clear BK331; clear HB; have BK325 := n0_; have BK331 := n1_; have HB := n2_; clear n0_ n1_ n2_; (try clear hb); (try clear hb2); (try clear hk); (try clear hi)) | ((with_reducible refine gate_callee (f := 24) rfl ?_); refine goesL_ (some 35) rfl rfl Tryd.func24 (by kernel_rfl) rfl #[.slice A0 l0.length c0] rfl (by (try simp only [lm_, lq_, lx_]); first | done | rfl | (simp only [ld_, lt_]; rfl)) ?_; (with_reducible refine (neumeref03_Apart.calls k _ _ l0 t335 t336 t337 _ ?side1 ?side2 A8.out).mono ?_); (case side1 => repeat (first | exact (Kd.C_below HR0.out HB.out) | (with_reducible refine Kd.C_alloc ?_ _) | (with_reducible refine Kd.C_drewN ?_ _) | (with_reducible refine Kd.C_drew ?_))); (case side2 => exact HC0.out); rintro e w23 ⟨rfl, hb⟩; refine ⟨_, rfl, ?_⟩; have n0_ := sd_ (blk_below (g := gb325) (o := .cells #[.int .i64 t320, .int .i64 t321, .int .i64 t322, .int .i64 t323] 23 (0, 0)) (by (with_reducible repeat (first | refine kn_ ?_ _ | refine kd_ ?_ | refine ka_ ?_ _)); exact BK325.out) hb); have n1_ := sd_ (blk_below (g := gb331) (o := .cells #[.int .i64 t326, .int .i64 t327, .int .i64 t328, .int .i64 t329] 23 (0, 0)) (by (with_reducible repeat (first | refine kn_ ?_ _ | refine kd_ ?_ | refine ka_ ?_ _)); exact BK331.out) hb); have n2_ := sd_ (bt_ (by repeat (first | (with_reducible first | exact HB.out | apply ba_ | apply pd_ | apply d1_ | refine bs_ ?_ GE325.out | refine bs_ ?_ GE331.out) | exact HB.out)) hb); clear BK325; clear BK331; clear HB; have BK325 := n0_; have BK331 := n1_; have HB := n2_; clear n0_ n1_ n2_; (try clear hb); (try clear hb2); (try clear hk); (try clear hi); have hcz24_0 : w23.cell? ⟨gb325, 0, none⟩ = some (.int .i64 t320) := (kc_ BK325.out 0).trans rfl; have hcz24_1 : w23.cell? ⟨gb325, 1, none⟩ = some (.int .i64 t321) := (kc_ BK325.out 1).trans rfl; have hcz24_2 : w23.cell? ⟨gb325, 2, none⟩ = some (.int .i64 t322) := (kc_ BK325.out 2).trans rfl; have hcz24_3 : w23.cell? ⟨gb325, 3, none⟩ = some (.int .i64 t323) := (kc_ BK325.out 3).trans rfl; have hfz24_0 := kf_ BK325.out 0; have hfz24_1 := kf_ BK325.out 1; have hfz24_2 := kf_ BK325.out 2; have hfz24_3 := kf_ BK325.out 3; have hcz25_0 : w23.cell? ⟨gb331, 0, none⟩ = some (.int .i64 t326) := (kc_ BK331.out 0).trans rfl; have hcz25_1 : w23.cell? ⟨gb331, 1, none⟩ = some (.int .i64 t327) := (kc_ BK331.out 1).trans rfl; have hcz25_2 : w23.cell? ⟨gb331, 2, none⟩ = some (.int .i64 t328) := (kc_ BK331.out 2).trans rfl; have hcz25_3 : w23.cell? ⟨gb331, 3, none⟩ = some (.int .i64 t329) := (kc_ BK331.out 3).trans rfl; have hfz25_0 := kf_ BK331.out 0; have hfz25_1 := kf_ BK331.out 1; have hfz25_2 := kf_ BK331.out 2; have hfz25_3 := kf_ BK331.out 3) | (go_at_call 20; (with_reducible refine (neumelaw03_heads.calls k  t338 _ ?side1 A14.out).mono ?_); (case side1 => first | (with_reducible exact hE) | exact sd_ (LaidE.below hE.out (by repeat (first | (with_reducible first | exact HB.out | apply ba_ | apply pd_ | apply d1_ | refine bs_ ?_ GE325.out | refine bs_ ?_ GE331.out) | exact HB.out)))); rintro e w26 ⟨rfl, hb⟩; have n0_ := sd_ (blk_below (g := gb325) (o := .cells #[.int .i64 t320, .int .i64 t321, .int .i64 t322, .int .i64 t323] 23 (0, 0)) (by (with_reducible repeat (first | refine kn_ ?_ _ | refine kd_ ?_ | refine ka_ ?_ _)); exact BK325.out) hb); have n1_ := sd_ (blk_below (g := gb331) (o := .cells #[.int .i64 t326, .int .i64 t327, .int .i64 t328, .int .i64 t329] 23 (0, 0)) (by (with_reducible repeat (first | refine kn_ ?_ _ | refine kd_ ?_ | refine ka_ ?_ _)); exact BK331.out) hb); have n2_ := sd_ (bt_ (by repeat (first | (with_reducible first | exact HB.out | apply ba_ | apply pd_ | apply d1_ | refine bs_ ?_ GE325.out | refine bs_ ?_ GE331.out) | exact HB.out)) hb); clear BK325; clear BK331; clear HB; have BK325 := n0_; have BK331 := n1_; have HB := n2_; clear n0_ n1_ n2_; (try clear hb); (try clear hb2); (try clear hk); (try clear hi)))
       go_ret
       exact ⟨by first | rfl | (simp [errW_none, errW_some] <;> rfl) | (simp [*, errW_none, errW_some] <;> rfl), by repeat (first | (with_reducible first | exact HB.out | apply ba_ | apply pd_ | apply d1_ | refine bs_ ?_ GE325.out | refine bs_ ?_ GE331.out) | exact HB.out)⟩
      ·rw [if_neg c13] at H
       have c13b0 : (t334 == t337) = false := by simpa using c13
       (try (have c13b1 : decide (t334 = t337) = false := by simpa using c13))
       (try (have c13b2 : (t334 == t337) = false := by simpa using c13))
       (try (have c13b3 : ¬ (t334 = t337) := by simpa using c13))
       clear c13
       exact absurd ((Option.some.inj H).trans hxt.out) (by decide)
     ·rw [if_neg c12] at H
      have c12b0 : (t333 == t336) = false := beq_eq_false_iff_ne.mpr c12
      have c12b1 : (t333 != t336) = true := bne_iff_ne.mpr c12
      exact absurd ((Option.some.inj H).trans hxt.out) (by decide)
    ·rw [if_neg c11] at H
     have c11b0 : (t332 == t335) = false := beq_eq_false_iff_ne.mpr c11
     have c11b1 : (t332 != t335) = true := bne_iff_ne.mpr c11
     exact absurd ((Option.some.inj H).trans hxt.out) (by decide)
   ·rw [if_neg c10] at H
    have c10b0 : (t324 == t330) = false := by simpa using c10
    (try (have c10b1 : decide (t324 = t330) = false := by simpa using c10))
    (try (have c10b2 : (t324 == t330) = false := by simpa using c10))
    (try (have c10b3 : ¬ (t324 = t330) := by simpa using c10))
    clear c10
    exact absurd ((Option.some.inj H).trans hxt.out) (by decide)
  ·rw [if_neg c9] at H
   have c9b0 : (t320 == t326 && (t321 == t327 && (t322 == t328 && (t323 == t329)))) = false := by simpa using c9
   (try (have c9b1 : decide (t320 = t326 && (t321 == t327 && (t322 == t328 && (t323 == t329)))) = false := by simpa using c9))
   (try (have c9b2 : (t320 == t326 && (t321 == t327 && (t322 == t328 && (t323 == t329)))) = false := by simpa using c9))
   (try (have c9b3 : ¬ (t320 = t326 && (t321 == t327 && (t322 == t328 && (t323 == t329)))) := by simpa using c9))
   clear c9
   exact absurd ((Option.some.inj H).trans hxt.out) (by decide)

end Go.Proofs.YteecpeggnejeaaaDoor.P
