-- Written by a program of this session (wip/tools/xprint.py, over the kit's print): Lean checks it.
import Derived.Test.YtkncoedagigliaaDoorPx0
namespace Go.Proofs.YtkncoedagigliaaDoor.P
open Go.RowKit Go.Proofs.YtkncoedagigliaaDoorW.PrintWords Go.Proofs.YtkncoedagigliaaDoorW.PrintLast Go.Proofs.YtkncoedagigliaaDoorW.PrintMore
attribute [local go_sem] max2_int min2_int max_two min_two max_three min_three max_four min_four   -- for this text's walks alone
set_option linter.unusedVariables false
set_option linter.unusedSimpArgs false

/-! ### neumeref06_Check: function 15 -/
def neumeref06_Check.f (a0_0 : Int) (a0_1 : Int) (a0_2 : Int) : Option (Bool) := if a0_0 ≥ 0 then (if a0_0 ≤ 6 then (if a0_1 ≥ (-2) then (if a0_1 ≤ 2 then (if a0_2 ≥ 0 then (some (decide (a0_2 ≤ 9))) else (some false)) else (some false)) else (some false)) else (some false)) else (some false)
set_option maxHeartbeats 8000000 in
set_option maxRecDepth 100000 in
theorem neumeref06_Check.calls (a0_0 : Int) (a0_1 : Int) (a0_2 : Int) (r : Bool) (w : World) (h : neumeref06_Check.f a0_0 a0_1 a0_2 = some r) :
  Calls Tryd.prog 15 #[.agg #[.int .i64 a0_0, .int .i64 a0_1, .int .i64 a0_2]] w fun e w' => e = .returned (.bool r) ∧ Below w.heap.size w w' := by
 have hu23 := Tryd.underlying23
 have HB := sd_ (Below.refl w.heap.size w)
 have H : (if a0_0 ≥ 0 then (if a0_0 ≤ 6 then (if a0_1 ≥ (-2) then (if a0_1 ≤ 2 then (if a0_2 ≥ 0 then (some (decide (a0_2 ≤ 9))) else (some false)) else (some false)) else (some false)) else (some false)) else (some false)) = some r := h
 clear h
 by_cases c2 : a0_0 ≥ 0
 ·rw [if_pos c2] at H
  have c2b0 : decide (0 ≤ a0_0) = true := dt_ c2
  clear c2
  by_cases c3 : a0_0 ≤ 6
  ·rw [if_pos c3] at H
   have c3b0 : decide (a0_0 ≤ 6) = true := dt_ c3
   clear c3
   by_cases c4 : a0_1 ≥ (-2)
   ·rw [if_pos c4] at H
    have c4b0 : decide ((-2) ≤ a0_1) = true := dt_ c4
    clear c4
    by_cases c5 : a0_1 ≤ 2
    ·rw [if_pos c5] at H
     have c5b0 : decide (a0_1 ≤ 2) = true := dt_ c5
     clear c5
     by_cases c6 : a0_2 ≥ 0
     ·rw [if_pos c6] at H
      have c6b0 : decide (0 ≤ a0_2) = true := dt_ c6
      clear c6
      obtain rfl := Option.some.inj H
      go_enter Tryd.func15, Tryd.ntmps15
      go_wp2_with (first | ((with_reducible refine gate_dst (N := 1) rfl ?_); refine box_event ?hg (N := 1) ?hd (cs := #[.int .i64 a0_0, .int .i64 a0_1, .int .i64 a0_2]) (t := 23) ?hr ?_; (case hd => rfl); (case hg => rfl); (case hr => first | (go_simp; done) | (go_simp; rfl)); intro gb218 hg w7 hbox hb; have BK218 := sd_ hbox; have GW218 := gw_ HB e0_ hg; have GE218 := GW218; replace HB := hb_ HB e0_ hb; clear hb hbox hg; have hcz8_0 : w7.cell? ⟨gb218, 0, none⟩ = some (.int .i64 a0_0) := (kc_ BK218.out 0).trans rfl; have hcz8_1 : w7.cell? ⟨gb218, 1, none⟩ = some (.int .i64 a0_1) := (kc_ BK218.out 1).trans rfl; have hcz8_2 : w7.cell? ⟨gb218, 2, none⟩ = some (.int .i64 a0_2) := (kc_ BK218.out 2).trans rfl; have hfz8_0 := kf_ BK218.out 0; have hfz8_1 := kf_ BK218.out 1; have hfz8_2 := kf_ BK218.out 2))
      go_ret
      exact ⟨by first | rfl | (simp [errW_none, errW_some] <;> rfl) | (simp [*, errW_none, errW_some] <;> rfl), by repeat (first | (with_reducible first | exact HB.out | apply ba_ | apply pd_ | apply d1_ | refine bs_ ?_ GE218.out) | exact HB.out)⟩
     ·rw [if_neg c6] at H
      have c6b0 : decide (0 ≤ a0_2) = false := df_ c6
      clear c6
      obtain rfl := Option.some.inj H
      go_enter Tryd.func15, Tryd.ntmps15
      go_wp2_with (first | ((with_reducible refine gate_dst (N := 1) rfl ?_); refine box_event ?hg (N := 1) ?hd (cs := #[.int .i64 a0_0, .int .i64 a0_1, .int .i64 a0_2]) (t := 23) ?hr ?_; (case hd => rfl); (case hg => rfl); (case hr => first | (go_simp; done) | (go_simp; rfl)); intro gb218 hg w9 hbox hb; have BK218 := sd_ hbox; have GW218 := gw_ HB e0_ hg; have GE218 := GW218; replace HB := hb_ HB e0_ hb; clear hb hbox hg; have hcz10_0 : w9.cell? ⟨gb218, 0, none⟩ = some (.int .i64 a0_0) := (kc_ BK218.out 0).trans rfl; have hcz10_1 : w9.cell? ⟨gb218, 1, none⟩ = some (.int .i64 a0_1) := (kc_ BK218.out 1).trans rfl; have hcz10_2 : w9.cell? ⟨gb218, 2, none⟩ = some (.int .i64 a0_2) := (kc_ BK218.out 2).trans rfl; have hfz10_0 := kf_ BK218.out 0; have hfz10_1 := kf_ BK218.out 1; have hfz10_2 := kf_ BK218.out 2))
      go_ret
      exact ⟨by first | rfl | (simp [errW_none, errW_some] <;> rfl) | (simp [*, errW_none, errW_some] <;> rfl), by repeat (first | (with_reducible first | exact HB.out | apply ba_ | apply pd_ | apply d1_ | refine bs_ ?_ GE218.out) | exact HB.out)⟩
    ·rw [if_neg c5] at H
     have c5b0 : decide (a0_1 ≤ 2) = false := df_ c5
     clear c5
     obtain rfl := Option.some.inj H
     go_enter Tryd.func15, Tryd.ntmps15
     go_wp2_with (first | ((with_reducible refine gate_dst (N := 1) rfl ?_); refine box_event ?hg (N := 1) ?hd (cs := #[.int .i64 a0_0, .int .i64 a0_1, .int .i64 a0_2]) (t := 23) ?hr ?_; (case hd => rfl); (case hg => rfl); (case hr => first | (go_simp; done) | (go_simp; rfl)); intro gb218 hg w11 hbox hb; have BK218 := sd_ hbox; have GW218 := gw_ HB e0_ hg; have GE218 := GW218; replace HB := hb_ HB e0_ hb; clear hb hbox hg; have hcz12_0 : w11.cell? ⟨gb218, 0, none⟩ = some (.int .i64 a0_0) := (kc_ BK218.out 0).trans rfl; have hcz12_1 : w11.cell? ⟨gb218, 1, none⟩ = some (.int .i64 a0_1) := (kc_ BK218.out 1).trans rfl; have hcz12_2 : w11.cell? ⟨gb218, 2, none⟩ = some (.int .i64 a0_2) := (kc_ BK218.out 2).trans rfl; have hfz12_0 := kf_ BK218.out 0; have hfz12_1 := kf_ BK218.out 1; have hfz12_2 := kf_ BK218.out 2))
     go_ret
     exact ⟨by first | rfl | (simp [errW_none, errW_some] <;> rfl) | (simp [*, errW_none, errW_some] <;> rfl), by repeat (first | (with_reducible first | exact HB.out | apply ba_ | apply pd_ | apply d1_ | refine bs_ ?_ GE218.out) | exact HB.out)⟩
   ·rw [if_neg c4] at H
    have c4b0 : decide ((-2) ≤ a0_1) = false := df_ c4
    clear c4
    obtain rfl := Option.some.inj H
    go_enter Tryd.func15, Tryd.ntmps15
    go_wp2_with (first | ((with_reducible refine gate_dst (N := 1) rfl ?_); refine box_event ?hg (N := 1) ?hd (cs := #[.int .i64 a0_0, .int .i64 a0_1, .int .i64 a0_2]) (t := 23) ?hr ?_; (case hd => rfl); (case hg => rfl); (case hr => first | (go_simp; done) | (go_simp; rfl)); intro gb218 hg w13 hbox hb; have BK218 := sd_ hbox; have GW218 := gw_ HB e0_ hg; have GE218 := GW218; replace HB := hb_ HB e0_ hb; clear hb hbox hg; have hcz14_0 : w13.cell? ⟨gb218, 0, none⟩ = some (.int .i64 a0_0) := (kc_ BK218.out 0).trans rfl; have hcz14_1 : w13.cell? ⟨gb218, 1, none⟩ = some (.int .i64 a0_1) := (kc_ BK218.out 1).trans rfl; have hcz14_2 : w13.cell? ⟨gb218, 2, none⟩ = some (.int .i64 a0_2) := (kc_ BK218.out 2).trans rfl; have hfz14_0 := kf_ BK218.out 0; have hfz14_1 := kf_ BK218.out 1; have hfz14_2 := kf_ BK218.out 2))
    go_ret
    exact ⟨by first | rfl | (simp [errW_none, errW_some] <;> rfl) | (simp [*, errW_none, errW_some] <;> rfl), by repeat (first | (with_reducible first | exact HB.out | apply ba_ | apply pd_ | apply d1_ | refine bs_ ?_ GE218.out) | exact HB.out)⟩
  ·rw [if_neg c3] at H
   have c3b0 : decide (a0_0 ≤ 6) = false := df_ c3
   clear c3
   obtain rfl := Option.some.inj H
   go_enter Tryd.func15, Tryd.ntmps15
   go_wp2_with (first | ((with_reducible refine gate_dst (N := 1) rfl ?_); refine box_event ?hg (N := 1) ?hd (cs := #[.int .i64 a0_0, .int .i64 a0_1, .int .i64 a0_2]) (t := 23) ?hr ?_; (case hd => rfl); (case hg => rfl); (case hr => first | (go_simp; done) | (go_simp; rfl)); intro gb218 hg w15 hbox hb; have BK218 := sd_ hbox; have GW218 := gw_ HB e0_ hg; have GE218 := GW218; replace HB := hb_ HB e0_ hb; clear hb hbox hg; have hcz16_0 : w15.cell? ⟨gb218, 0, none⟩ = some (.int .i64 a0_0) := (kc_ BK218.out 0).trans rfl; have hcz16_1 : w15.cell? ⟨gb218, 1, none⟩ = some (.int .i64 a0_1) := (kc_ BK218.out 1).trans rfl; have hcz16_2 : w15.cell? ⟨gb218, 2, none⟩ = some (.int .i64 a0_2) := (kc_ BK218.out 2).trans rfl; have hfz16_0 := kf_ BK218.out 0; have hfz16_1 := kf_ BK218.out 1; have hfz16_2 := kf_ BK218.out 2))
   go_ret
   exact ⟨by first | rfl | (simp [errW_none, errW_some] <;> rfl) | (simp [*, errW_none, errW_some] <;> rfl), by repeat (first | (with_reducible first | exact HB.out | apply ba_ | apply pd_ | apply d1_ | refine bs_ ?_ GE218.out) | exact HB.out)⟩
 ·rw [if_neg c2] at H
  have c2b0 : decide (0 ≤ a0_0) = false := df_ c2
  clear c2
  obtain rfl := Option.some.inj H
  go_enter Tryd.func15, Tryd.ntmps15
  go_wp2_with (first | ((with_reducible refine gate_dst (N := 1) rfl ?_); refine box_event ?hg (N := 1) ?hd (cs := #[.int .i64 a0_0, .int .i64 a0_1, .int .i64 a0_2]) (t := 23) ?hr ?_; (case hd => rfl); (case hg => rfl); (case hr => first | (go_simp; done) | (go_simp; rfl)); intro gb218 hg w17 hbox hb; have BK218 := sd_ hbox; have GW218 := gw_ HB e0_ hg; have GE218 := GW218; replace HB := hb_ HB e0_ hb; clear hb hbox hg; have hcz18_0 : w17.cell? ⟨gb218, 0, none⟩ = some (.int .i64 a0_0) := (kc_ BK218.out 0).trans rfl; have hcz18_1 : w17.cell? ⟨gb218, 1, none⟩ = some (.int .i64 a0_1) := (kc_ BK218.out 1).trans rfl; have hcz18_2 : w17.cell? ⟨gb218, 2, none⟩ = some (.int .i64 a0_2) := (kc_ BK218.out 2).trans rfl; have hfz18_0 := kf_ BK218.out 0; have hfz18_1 := kf_ BK218.out 1; have hfz18_2 := kf_ BK218.out 2))
  go_ret
  exact ⟨by first | rfl | (simp [errW_none, errW_some] <;> rfl) | (simp [*, errW_none, errW_some] <;> rfl), by repeat (first | (with_reducible first | exact HB.out | apply ba_ | apply pd_ | apply d1_ | refine bs_ ?_ GE218.out) | exact HB.out)⟩

/-! ### neumeref06_Count: function 19 -/
def neumeref06_Count.f (a0_0 : Int) (a0_1 : Int) (a0_2 : Int) : Option (Int) := (neumeref06_Check.f a0_0 a0_1 a0_2).bind fun t220 => (if t220 = true then (some (wrap64 ((wrap64 (7 * a0_2)) + a0_0))) else (some (-1)))
set_option maxHeartbeats 8000000 in
set_option maxRecDepth 100000 in
theorem neumeref06_Count.calls (a0_0 : Int) (a0_1 : Int) (a0_2 : Int) (r : Int) (w : World) (h : neumeref06_Count.f a0_0 a0_1 a0_2 = some r) :
  Calls Tryd.prog 19 #[.agg #[.int .i64 a0_0, .int .i64 a0_1, .int .i64 a0_2]] w fun e w' => e = .returned (.int .i64 r) ∧ Below w.heap.size w w' := by
 have hu23 := Tryd.underlying23
 have HB := sd_ (Below.refl w.heap.size w)
 have H : ((neumeref06_Check.f a0_0 a0_1 a0_2).bind fun t220 => (if t220 = true then (some (wrap64 ((wrap64 (7 * a0_2)) + a0_0))) else (some (-1)))) = some r := h
 clear h
 replace H := ob_ H
 obtain ⟨t220, A20, H⟩ := H
 replace H : (if t220 = true then (some (wrap64 ((wrap64 (7 * a0_2)) + a0_0))) else (some (-1))) = some r := H
 have A2 := sd_ A20
 clear A20
 by_cases c3 : t220 = true
 ·subst c3
  have H1 : (some (wrap64 ((wrap64 (7 * a0_2)) + a0_0))) = some r := by rw [if_pos rfl] at H; exact H
  clear H; have H := H1; clear H1
  obtain rfl := Option.some.inj H
  go_enter Tryd.func19, Tryd.ntmps19
  go_wp2_with (first | ((with_reducible refine gate_dst (N := 1) rfl ?_); refine box_event ?hg (N := 1) ?hd (cs := #[.int .i64 a0_0, .int .i64 a0_1, .int .i64 a0_2]) (t := 23) ?hr ?_; (case hd => rfl); (case hg => rfl); (case hr => first | (go_simp; done) | (go_simp; rfl)); intro gb219 hg w4 hbox hb; have BK219 := sd_ hbox; have GW219 := gw_ HB e0_ hg; have GE219 := GW219; replace HB := hb_ HB e0_ hb; clear hb hbox hg; have hcz5_0 : w4.cell? ⟨gb219, 0, none⟩ = some (.int .i64 a0_0) := (kc_ BK219.out 0).trans rfl; have hcz5_1 : w4.cell? ⟨gb219, 1, none⟩ = some (.int .i64 a0_1) := (kc_ BK219.out 1).trans rfl; have hcz5_2 : w4.cell? ⟨gb219, 2, none⟩ = some (.int .i64 a0_2) := (kc_ BK219.out 2).trans rfl; have hfz5_0 := kf_ BK219.out 0; have hfz5_1 := kf_ BK219.out 1; have hfz5_2 := kf_ BK219.out 2) | ((with_reducible refine gate_callee (f := 15) rfl ?_); refine goesL_ (some 4) rfl rfl Tryd.func15 (by kernel_rfl) rfl #[.agg #[.int .i64 a0_0, .int .i64 a0_1, .int .i64 a0_2]] rfl (by (try simp only [lm_, lq_, lx_]); first | done | rfl | (simp only [ld_, lt_]; rfl)) ?_; (with_reducible refine (neumeref06_Check.calls a0_0 a0_1 a0_2 true _ A2.out).mono ?_); rintro e w6 ⟨rfl, hb⟩; refine ⟨_, rfl, ?_⟩; replace BK219 := kb_ BK219 hb; replace HB := hb_ HB (e_ GE219 e0_) hb; (try clear hb); (try clear hb2); (try clear hk); (try clear hi); have hcz7_0 : w6.cell? ⟨gb219, 0, none⟩ = some (.int .i64 a0_0) := (kc_ BK219.out 0).trans rfl; have hcz7_1 : w6.cell? ⟨gb219, 1, none⟩ = some (.int .i64 a0_1) := (kc_ BK219.out 1).trans rfl; have hcz7_2 : w6.cell? ⟨gb219, 2, none⟩ = some (.int .i64 a0_2) := (kc_ BK219.out 2).trans rfl; have hfz7_0 := kf_ BK219.out 0; have hfz7_1 := kf_ BK219.out 1; have hfz7_2 := kf_ BK219.out 2))
  go_ret
  exact ⟨by first | rfl | (simp [errW_none, errW_some] <;> rfl) | (simp [*, errW_none, errW_some] <;> rfl), by repeat (first | (with_reducible first | exact HB.out | apply ba_ | apply pd_ | apply d1_ | refine bs_ ?_ GE219.out) | exact HB.out)⟩
 ·replace c3 := bf_ c3
  subst c3
  have H1 : (some (-1)) = some r := by rw [if_neg (show ¬ (false = true) by decide)] at H; exact H
  clear H; have H := H1; clear H1
  obtain rfl := Option.some.inj H
  go_enter Tryd.func19, Tryd.ntmps19
  go_wp2_with (first | ((with_reducible refine gate_dst (N := 1) rfl ?_); refine box_event ?hg (N := 1) ?hd (cs := #[.int .i64 a0_0, .int .i64 a0_1, .int .i64 a0_2]) (t := 23) ?hr ?_; (case hd => rfl); (case hg => rfl); (case hr => first | (go_simp; done) | (go_simp; rfl)); intro gb219 hg w8 hbox hb; have BK219 := sd_ hbox; have GW219 := gw_ HB e0_ hg; have GE219 := GW219; replace HB := hb_ HB e0_ hb; clear hb hbox hg; have hcz9_0 : w8.cell? ⟨gb219, 0, none⟩ = some (.int .i64 a0_0) := (kc_ BK219.out 0).trans rfl; have hcz9_1 : w8.cell? ⟨gb219, 1, none⟩ = some (.int .i64 a0_1) := (kc_ BK219.out 1).trans rfl; have hcz9_2 : w8.cell? ⟨gb219, 2, none⟩ = some (.int .i64 a0_2) := (kc_ BK219.out 2).trans rfl; have hfz9_0 := kf_ BK219.out 0; have hfz9_1 := kf_ BK219.out 1; have hfz9_2 := kf_ BK219.out 2) | ((with_reducible refine gate_callee (f := 15) rfl ?_); refine goesL_ (some 4) rfl rfl Tryd.func15 (by kernel_rfl) rfl #[.agg #[.int .i64 a0_0, .int .i64 a0_1, .int .i64 a0_2]] rfl (by (try simp only [lm_, lq_, lx_]); first | done | rfl | (simp only [ld_, lt_]; rfl)) ?_; (with_reducible refine (neumeref06_Check.calls a0_0 a0_1 a0_2 false _ A2.out).mono ?_); rintro e w10 ⟨rfl, hb⟩; refine ⟨_, rfl, ?_⟩; replace BK219 := kb_ BK219 hb; replace HB := hb_ HB (e_ GE219 e0_) hb; (try clear hb); (try clear hb2); (try clear hk); (try clear hi)))
  go_ret
  exact ⟨by first | rfl | (simp [errW_none, errW_some] <;> rfl) | (simp [*, errW_none, errW_some] <;> rfl), by repeat (first | (with_reducible first | exact HB.out | apply ba_ | apply pd_ | apply d1_ | refine bs_ ?_ GE219.out) | exact HB.out)⟩

/-! ### neumeref06_middle: function 27 -/
def neumeref06_middle.f (a0 : Int) : Option (Int) := if a0 = 26 then (some 34) else (if a0 = 27 then (some 22) else (if a0 = 28 then (some 28) else (if a0 = 29 then (some 26) else (some (-1)))))
set_option maxHeartbeats 8000000 in
set_option maxRecDepth 100000 in
theorem neumeref06_middle.calls (a0 : Int) (r : Int) (w : World) (h : neumeref06_middle.f a0 = some r) :
  Calls Tryd.prog 27 #[.int .i64 a0] w fun e w' => e = .returned (.int .i64 r) ∧ Drawn0 w w' := by
 have H : (if a0 = 26 then (some 34) else (if a0 = 27 then (some 22) else (if a0 = 28 then (some 28) else (if a0 = 29 then (some 26) else (some (-1)))))) = some r := h
 clear h
 by_cases c2 : a0 = 26
 ·rw [if_pos c2] at H
  have c2b0 : (a0 == 26) = true := beq_iff_eq.mpr c2
  have c2b1 : (a0 != 26) = false := bne_eq_false_iff_eq.mpr c2
  clear c2
  obtain rfl := Option.some.inj H
  go_enter Tryd.func27, Tryd.ntmps27
  go_wp2
  go_ret
  exact ⟨by first | rfl | (simp; done) | (simp [*]; done), by repeat (first | exact Drawn0.refl _ | apply Drawn0.step)⟩
 ·rw [if_neg c2] at H
  have c2b0 : (a0 == 26) = false := beq_eq_false_iff_ne.mpr c2
  have c2b1 : (a0 != 26) = true := bne_iff_ne.mpr c2
  by_cases c3 : a0 = 27
  ·rw [if_pos c3] at H
   have c3b0 : (a0 == 27) = true := beq_iff_eq.mpr c3
   have c3b1 : (a0 != 27) = false := bne_eq_false_iff_eq.mpr c3
   clear c3
   obtain rfl := Option.some.inj H
   go_enter Tryd.func27, Tryd.ntmps27
   go_wp2
   go_ret
   exact ⟨by first | rfl | (simp; done) | (simp [*]; done), by repeat (first | exact Drawn0.refl _ | apply Drawn0.step)⟩
  ·rw [if_neg c3] at H
   have c3b0 : (a0 == 27) = false := beq_eq_false_iff_ne.mpr c3
   have c3b1 : (a0 != 27) = true := bne_iff_ne.mpr c3
   by_cases c4 : a0 = 28
   ·rw [if_pos c4] at H
    have c4b0 : (a0 == 28) = true := beq_iff_eq.mpr c4
    have c4b1 : (a0 != 28) = false := bne_eq_false_iff_eq.mpr c4
    clear c4
    obtain rfl := Option.some.inj H
    go_enter Tryd.func27, Tryd.ntmps27
    go_wp2
    go_ret
    exact ⟨by first | rfl | (simp; done) | (simp [*]; done), by repeat (first | exact Drawn0.refl _ | apply Drawn0.step)⟩
   ·rw [if_neg c4] at H
    have c4b0 : (a0 == 28) = false := beq_eq_false_iff_ne.mpr c4
    have c4b1 : (a0 != 28) = true := bne_iff_ne.mpr c4
    by_cases c5 : a0 = 29
    ·rw [if_pos c5] at H
     have c5b0 : (a0 == 29) = true := beq_iff_eq.mpr c5
     have c5b1 : (a0 != 29) = false := bne_eq_false_iff_eq.mpr c5
     clear c5
     obtain rfl := Option.some.inj H
     go_enter Tryd.func27, Tryd.ntmps27
     go_wp2
     go_ret
     exact ⟨by first | rfl | (simp; done) | (simp [*]; done), by repeat (first | exact Drawn0.refl _ | apply Drawn0.step)⟩
    ·rw [if_neg c5] at H
     have c5b0 : (a0 == 29) = false := beq_eq_false_iff_ne.mpr c5
     have c5b1 : (a0 != 29) = true := bne_iff_ne.mpr c5
     obtain rfl := Option.some.inj H
     go_enter Tryd.func27, Tryd.ntmps27
     go_wp2
     go_ret
     exact ⟨by first | rfl | (simp; done) | (simp [*]; done), by repeat (first | exact Drawn0.refl _ | apply Drawn0.step)⟩

/-! ### neumeref06_Place: function 9 -/
def neumeref06_Place.j0 : Nat → Int → Bool → Int → Int → Int → Option (Int × Int)
 | 0, _, _, _, _, _ => none
 | k + 1, x1, x13, x222000, x222001, x222002 => if x13 = true then (some (0, 2)) else ((neumeref06_Count.f x222000 x222001 x222002).bind fun t224 => ((neumeref06_middle.f x1).bind fun t225 => (some (wrap64 (t224 - t225), 0))))
def neumeref06_Place.f (k : Nat) (a0_0 : Int) (a0_1 : Int) (a0_2 : Int) (a1 : Int) : Option (Int × Int) := (neumeref06_Check.f a0_0 a0_1 a0_2).bind fun t222 => (if t222 = true then ((neumeref06_middle.f a1).bind fun t223 => (neumeref06_Place.j0 k a1 (decide (t223 < 0)) a0_0 a0_1 a0_2)) else (neumeref06_Place.j0 k a1 true a0_0 a0_1 a0_2))
theorem neumeref06_Place.mono_l : ∀ k, (∀ y0 y1 y2 y3 y4, LeO (neumeref06_Place.j0 k y0 y1 y2 y3 y4) (neumeref06_Place.j0 (k + 1) y0 y1 y2 y3 y4))
 | 0 => fun _ _ _ _ _ r h => by simp [neumeref06_Place.j0] at h
 | k + 1 => by
  have ih0 := neumeref06_Place.mono_l k
  ·intro y0 y1 y2 y3 y4
   unfold neumeref06_Place.j0
   repeat' first
   | (with_reducible exact ih0 _ _ _ _ _)
   | (with_reducible exact LeO.refl _)
   | (with_reducible exact LeO.none _)
   | (with_reducible refine LeO.ite ?_ ?_)
   | (with_reducible refine LeO.bind ?_ (fun _ => ?_))
   | exact ih0 _ _ _ _ _
   | exact LeO.none _
   | refine LeO.ite ?_ ?_
   | refine LeO.bind ?_ (fun _ => ?_)
theorem neumeref06_Place.mono : ∀ a0 a1 a2 a3 k, LeO (neumeref06_Place.f k a0 a1 a2 a3) (neumeref06_Place.f (k + 1) a0 a1 a2 a3) := by
 intro a0 a1 a2 a3 k
 have ih0 := neumeref06_Place.mono_l k
 unfold neumeref06_Place.f
 repeat' first
   | (with_reducible exact ih0 _ _ _ _ _)
   | (with_reducible exact LeO.refl _)
   | (with_reducible exact LeO.none _)
   | (with_reducible refine LeO.ite ?_ ?_)
   | (with_reducible refine LeO.bind ?_ (fun _ => ?_))
   | exact ih0 _ _ _ _ _
   | exact LeO.none _
   | refine LeO.ite ?_ ?_
   | refine LeO.bind ?_ (fun _ => ?_)
set_option maxHeartbeats 8000000 in
set_option maxRecDepth 100000 in
theorem neumeref06_Place.calls (k : Nat) (a0_0 : Int) (a0_1 : Int) (a0_2 : Int) (a1 : Int) (r1 : Int) (r2 : Int) (w : World) (h : neumeref06_Place.f k a0_0 a0_1 a0_2 a1 = some (r1, r2)) :
  Calls Tryd.prog 9 #[.agg #[.int .i64 a0_0, .int .i64 a0_1, .int .i64 a0_2], .int .i64 a1] w fun e w' => e = .returned (.tuple #[.int .i64 r1, .int .i64 r2]) ∧ Below w.heap.size w w' := by
 have hu23 := Tryd.underlying23
 have HB := sd_ (Below.refl w.heap.size w)
 have H : ((neumeref06_Check.f a0_0 a0_1 a0_2).bind fun t222 => (if t222 = true then ((neumeref06_middle.f a1).bind fun t223 => (neumeref06_Place.j0 k a1 (decide (t223 < 0)) a0_0 a0_1 a0_2)) else (neumeref06_Place.j0 k a1 true a0_0 a0_1 a0_2))) = some (r1, r2) := h
 clear h
 have HC3 := sd_ H
 clear H
 go_enter Tryd.func9, Tryd.ntmps9
 go_upto_region 1 with (first | ((with_reducible refine gate_dst (N := 2) rfl ?_); refine box_event ?hg (N := 2) ?hd (cs := #[.int .i64 a0_0, .int .i64 a0_1, .int .i64 a0_2]) (t := 23) ?hr ?_; (case hd => rfl); (case hg => rfl); (case hr => first | (go_simp; done) | (go_simp; rfl)); intro gb221 hg w4 hbox hb; have BK221 := sd_ hbox; have GW221 := gw_ HB e0_ hg; have GE221 := GW221; replace HB := hb_ HB e0_ hb; clear hb hbox hg))
 (try simp only [Act.put, ls_, lz_, lc_])
 go_cut [13] (fun v13 wc => ∃ (kq : Nat) (x13_2 : Bool), v13 = .bool x13_2 ∧ Aside0 (neumeref06_Place.j0 kq a1 x13_2 a0_0 a0_1 a0_2 = some (r1, r2)) ∧ Aside0 (kq ≤ k) ∧ Aside0 (wc.heap[gb221]? = some (.cells #[.int .i64 a0_0, .int .i64 a0_1, .int .i64 a0_2] 23 (0, 0))) ∧ Aside0 (Below w.heap.size w wc))
 case first =>
  have H := HC3.out
  clear HC3
  replace H := ob_ H
  obtain ⟨t222, A50, H⟩ := H
  replace H : (if t222 = true then ((neumeref06_middle.f a1).bind fun t223 => (neumeref06_Place.j0 k a1 (decide (t223 < 0)) a0_0 a0_1 a0_2)) else (neumeref06_Place.j0 k a1 true a0_0 a0_1 a0_2)) = some (r1, r2) := H
  have A5 := sd_ A50
  clear A50
  by_cases c6 : t222 = true
  ·subst c6
   have H1 : ((neumeref06_middle.f a1).bind fun t223 => (neumeref06_Place.j0 k a1 (decide (t223 < 0)) a0_0 a0_1 a0_2)) = some (r1, r2) := by rw [if_pos rfl] at H; exact H
   clear H; have H := H1; clear H1
   replace H := ob_ H
   obtain ⟨t223, A70, H⟩ := H
   replace H : (neumeref06_Place.j0 k a1 (decide (t223 < 0)) a0_0 a0_1 a0_2) = some (r1, r2) := H
   have A7 := sd_ A70
   clear A70
   have H' := sd_ H
   clear H
   have hcz8_0 : w4.cell? ⟨gb221, 0, none⟩ = some (.int .i64 a0_0) := (kc_ BK221.out 0).trans rfl
   have hcz8_1 : w4.cell? ⟨gb221, 1, none⟩ = some (.int .i64 a0_1) := (kc_ BK221.out 1).trans rfl
   have hcz8_2 : w4.cell? ⟨gb221, 2, none⟩ = some (.int .i64 a0_2) := (kc_ BK221.out 2).trans rfl
   have hfz8_0 := kf_ BK221.out 0
   have hfz8_1 := kf_ BK221.out 1
   have hfz8_2 := kf_ BK221.out 2
   go_wp2_with (first | ((with_reducible refine gate_callee (f := 15) rfl ?_); refine goesL_ (some 7) rfl rfl Tryd.func15 (by kernel_rfl) rfl #[.agg #[.int .i64 a0_0, .int .i64 a0_1, .int .i64 a0_2]] rfl (by (try simp only [lm_, lq_, lx_]); first | done | rfl | (simp only [ld_, lt_]; rfl)) ?_; (with_reducible refine (neumeref06_Check.calls a0_0 a0_1 a0_2 true _ A5.out).mono ?_); rintro e w9 ⟨rfl, hb⟩; refine ⟨_, rfl, ?_⟩; replace BK221 := kb_ BK221 hb; replace HB := hb_ HB (e_ GE221 e0_) hb; (try clear hb); (try clear hb2); (try clear hk); (try clear hi)) | (go_at_call 27; (with_reducible refine (neumeref06_middle.calls a1 t223 _ A7.out).mono ?_); rintro e w' ⟨rfl, ⟨nd, rfl⟩⟩))
   go_meet
   case rel => exact ⟨_, (decide (t223 < 0)), (by first | rfl | (simp; done) | (simp [*]; done) | (simp [bne]; done)), H', ⟨by first | omega | exact Nat.le_refl _⟩, ⟨by (with_reducible repeat first | apply kn_ | apply kd_ | apply ka_); exact BK221.out⟩, ⟨by repeat (first | (with_reducible first | exact HB.out | apply ba_ | apply pd_ | apply d1_ | refine bs_ ?_ GE221.out) | exact HB.out)⟩⟩
  ·replace c6 := bf_ c6
   subst c6
   have H1 : (neumeref06_Place.j0 k a1 true a0_0 a0_1 a0_2) = some (r1, r2) := by rw [if_neg (show ¬ (false = true) by decide)] at H; exact H
   clear H; have H := H1; clear H1
   have H' := sd_ H
   clear H
   have hcz10_0 : w4.cell? ⟨gb221, 0, none⟩ = some (.int .i64 a0_0) := (kc_ BK221.out 0).trans rfl
   have hcz10_1 : w4.cell? ⟨gb221, 1, none⟩ = some (.int .i64 a0_1) := (kc_ BK221.out 1).trans rfl
   have hcz10_2 : w4.cell? ⟨gb221, 2, none⟩ = some (.int .i64 a0_2) := (kc_ BK221.out 2).trans rfl
   have hfz10_0 := kf_ BK221.out 0
   have hfz10_1 := kf_ BK221.out 1
   have hfz10_2 := kf_ BK221.out 2
   go_wp2_with (first | ((with_reducible refine gate_callee (f := 15) rfl ?_); refine goesL_ (some 7) rfl rfl Tryd.func15 (by kernel_rfl) rfl #[.agg #[.int .i64 a0_0, .int .i64 a0_1, .int .i64 a0_2]] rfl (by (try simp only [lm_, lq_, lx_]); first | done | rfl | (simp only [ld_, lt_]; rfl)) ?_; (with_reducible refine (neumeref06_Check.calls a0_0 a0_1 a0_2 false _ A5.out).mono ?_); rintro e w11 ⟨rfl, hb⟩; refine ⟨_, rfl, ?_⟩; replace BK221 := kb_ BK221 hb; replace HB := hb_ HB (e_ GE221 e0_) hb; (try clear hb); (try clear hb2); (try clear hk); (try clear hi)))
   go_meet
   case rel => exact ⟨_, (true), (by first | rfl | (simp; done) | (simp [*]; done) | (simp [bne]; done)), H', ⟨by first | omega | exact Nat.le_refl _⟩, ⟨by (with_reducible repeat first | apply kn_ | apply kd_ | apply ka_); exact BK221.out⟩, ⟨by repeat (first | (with_reducible first | exact HB.out | apply ba_ | apply pd_ | apply d1_ | refine bs_ ?_ GE221.out) | exact HB.out)⟩⟩
 case rest =>
  clear HC3
  try clear c1; try clear p2; try clear c6; try clear c9; try clear hcz10_0; try clear hcz10_1; try clear hcz10_2; try clear hcz8_0; try clear hcz8_1; try clear hcz8_2; try clear hfz10_0; try clear hfz10_1; try clear hfz10_2; try clear hfz8_0; try clear hfz8_1; try clear hfz8_2
  obtain ⟨kq, x13_2, rfl, HA, HJ2, BK221, HB⟩ := hcut
  cases kq with
  | zero => exact absurd HA.out (by simp [neumeref06_Place.j0])
  | succ kj2 =>
   have H := HA.out
   clear HA
   simp only [neumeref06_Place.j0] at H
   by_cases c12 : x13_2 = true
   ·subst c12
    have H1 : (some (0, 2)) = some (r1, r2) := by rw [if_pos rfl] at H; exact H
    clear H; have H := H1; clear H1
    simp only [Option.some.injEq, Prod.mk.injEq] at H
    obtain ⟨rfl, rfl⟩ := H
    go_wp2
    go_ret2
    exact ⟨by first | rfl | (simp [errW_none, errW_some] <;> rfl) | (simp [*, errW_none, errW_some] <;> rfl), by repeat (first | (with_reducible first | exact HB.out | apply ba_ | apply pd_ | apply d1_ | refine bs_ ?_ GE221.out) | exact HB.out)⟩
   ·replace c12 := bf_ c12
    subst c12
    have H1 : ((neumeref06_Count.f a0_0 a0_1 a0_2).bind fun t224 => ((neumeref06_middle.f a1).bind fun t225 => (some (wrap64 (t224 - t225), 0)))) = some (r1, r2) := by rw [if_neg (show ¬ (false = true) by decide)] at H; exact H
    clear H; have H := H1; clear H1
    replace H := ob_ H
    obtain ⟨t224, A130, H⟩ := H
    replace H : ((neumeref06_middle.f a1).bind fun t225 => (some (wrap64 (t224 - t225), 0))) = some (r1, r2) := H
    have A13 := sd_ A130
    clear A130
    replace H := ob_ H
    obtain ⟨t225, A140, H⟩ := H
    replace H : (some (wrap64 (t224 - t225), 0)) = some (r1, r2) := H
    have A14 := sd_ A140
    clear A140
    simp only [Option.some.injEq, Prod.mk.injEq] at H
    obtain ⟨rfl, rfl⟩ := H
    have hcz15_0 : wc.cell? ⟨gb221, 0, none⟩ = some (.int .i64 a0_0) := (kc_ BK221.out 0).trans rfl
    have hcz15_1 : wc.cell? ⟨gb221, 1, none⟩ = some (.int .i64 a0_1) := (kc_ BK221.out 1).trans rfl
    have hcz15_2 : wc.cell? ⟨gb221, 2, none⟩ = some (.int .i64 a0_2) := (kc_ BK221.out 2).trans rfl
    have hfz15_0 := kf_ BK221.out 0
    have hfz15_1 := kf_ BK221.out 1
    have hfz15_2 := kf_ BK221.out 2
    go_wp2_with (first | ((with_reducible refine gate_callee (f := 19) rfl ?_); refine goesL_ (some 15) rfl rfl Tryd.func19 (by kernel_rfl) rfl #[.agg #[.int .i64 a0_0, .int .i64 a0_1, .int .i64 a0_2]] rfl (by (try simp only [lm_, lq_, lx_]); first | done | rfl | (simp only [ld_, lt_]; rfl)) ?_; (with_reducible refine (neumeref06_Count.calls a0_0 a0_1 a0_2 t224 _ A13.out).mono ?_); rintro e w16 ⟨rfl, hb⟩; refine ⟨_, rfl, ?_⟩; replace BK221 := kb_ BK221 hb; replace HB := hb_ HB (e_ GE221 e0_) hb; (try clear hb); (try clear hb2); (try clear hk); (try clear hi)) | ((with_reducible refine gate_callee (f := 27) rfl ?_); refine goesL_ (some 17) rfl rfl Tryd.func27 (by kernel_rfl) rfl #[.int .i64 a1] rfl (by (try simp only [lm_, lq_, lx_]); first | done | rfl | (simp only [ld_, lt_]; rfl)) ?_; (with_reducible refine (neumeref06_middle.calls a1 t225 _ A14.out).mono ?_); rintro e w' ⟨rfl, ⟨nd, rfl⟩⟩; refine ⟨_, rfl, ?_⟩))
    go_ret2
    exact ⟨by first | rfl | (simp [errW_none, errW_some] <;> rfl) | (simp [*, errW_none, errW_some] <;> rfl), by repeat (first | (with_reducible first | exact HB.out | apply ba_ | apply pd_ | apply d1_ | refine bs_ ?_ GE221.out) | exact HB.out)⟩

/-! ### neumeref06_of: function 30 -/
def neumeref06_of.f (a0 : Int) : Option (Int × Int × Int × Bool) := if a0 < 0 then (some (0, 0, 0, false)) else (if a0 > 69 then (some (0, 0, 0, false)) else (some (Int.tmod a0 7, 0, wrap64 (Int.tdiv a0 7), true)))
set_option maxHeartbeats 8000000 in
set_option maxRecDepth 100000 in
theorem neumeref06_of.calls (a0 : Int) (r1 : Int) (r2 : Int) (r3 : Int) (r4 : Bool) (w : World) (h : neumeref06_of.f a0 = some (r1, r2, r3, r4)) :
  Calls Tryd.prog 30 #[.int .i64 a0] w fun e w' => e = .returned (.tuple #[.agg #[.int .i64 r1, .int .i64 r2, .int .i64 r3], .bool r4]) ∧ Below w.heap.size w w' := by
 have hu23 := Tryd.underlying23
 have HB := sd_ (Below.refl w.heap.size w)
 have H : (if a0 < 0 then (some (0, 0, 0, false)) else (if a0 > 69 then (some (0, 0, 0, false)) else (some (Int.tmod a0 7, 0, wrap64 (Int.tdiv a0 7), true)))) = some (r1, r2, r3, r4) := h
 clear h
 by_cases c2 : a0 < 0
 ·rw [if_pos c2] at H
  have c2b0 : decide (a0 < 0) = true := dt_ c2
  clear c2
  simp only [Option.some.injEq, Prod.mk.injEq] at H
  obtain ⟨rfl, rfl, rfl, rfl⟩ := H
  go_enter Tryd.func30, Tryd.ntmps30
  go_wp2_with (first | ((with_reducible refine gate_dst (N := 2) rfl ?_); refine box_event ?hg (N := 2) ?hd (cs := #[.int .i64 0, .int .i64 0, .int .i64 0]) (t := 23) ?hr ?_; (case hd => rfl); (case hg => rfl); (case hr => first | (go_simp; done) | (go_simp; rfl)); intro gb226 hg w3 hbox hb; have BK226 := sd_ hbox; have GW226 := gw_ HB e0_ hg; have GE226 := GW226; replace HB := hb_ HB e0_ hb; clear hb hbox hg; have hcz4_0 : w3.cell? ⟨gb226, 0, none⟩ = some (.int .i64 0) := (kc_ BK226.out 0).trans rfl; have hcz4_1 : w3.cell? ⟨gb226, 1, none⟩ = some (.int .i64 0) := (kc_ BK226.out 1).trans rfl; have hcz4_2 : w3.cell? ⟨gb226, 2, none⟩ = some (.int .i64 0) := (kc_ BK226.out 2).trans rfl; have hfz4_0 := kf_ BK226.out 0; have hfz4_1 := kf_ BK226.out 1; have hfz4_2 := kf_ BK226.out 2))
  refine bodyPost_ret (results_ct rfl _ _ gb226 23 #[.int .i64 0, .int .i64 0, .int .i64 0] (0, 0) _ rfl (by (with_reducible repeat first | apply kn_ | apply kd_ | apply ka_); refine blk_put (cs := #[.int .i64 0, .int .i64 0, .int .i64 0]) ?_ 2 _ rfl; (with_reducible repeat first | apply kn_ | apply kd_ | apply ka_); refine blk_put (cs := #[.int .i64 0, .int .i64 0, .int .i64 0]) ?_ 1 _ rfl; (with_reducible repeat first | apply kn_ | apply kd_ | apply ka_); refine blk_put (cs := #[.int .i64 0, .int .i64 0, .int .i64 0]) ?_ 0 _ rfl; (with_reducible repeat first | apply kn_ | apply kd_ | apply ka_); exact BK226.out) Tryd.underlying23 rfl (by kernel_rfl)) rfl ?_
  exact ⟨by first | rfl | (simp [errW_none, errW_some] <;> rfl) | (simp [*, errW_none, errW_some] <;> rfl), by repeat (first | (with_reducible first | exact HB.out | apply ba_ | apply pd_ | apply d1_ | refine bs_ ?_ GE226.out) | exact HB.out)⟩
 ·rw [if_neg c2] at H
  have c2b0 : decide (a0 < 0) = false := df_ c2
  clear c2
  by_cases c5 : a0 > 69
  ·rw [if_pos c5] at H
   have c5b0 : decide (69 < a0) = true := dt_ c5
   clear c5
   simp only [Option.some.injEq, Prod.mk.injEq] at H
   obtain ⟨rfl, rfl, rfl, rfl⟩ := H
   go_enter Tryd.func30, Tryd.ntmps30
   go_wp2_with (first | ((with_reducible refine gate_dst (N := 2) rfl ?_); refine box_event ?hg (N := 2) ?hd (cs := #[.int .i64 0, .int .i64 0, .int .i64 0]) (t := 23) ?hr ?_; (case hd => rfl); (case hg => rfl); (case hr => first | (go_simp; done) | (go_simp; rfl)); intro gb226 hg w6 hbox hb; have BK226 := sd_ hbox; have GW226 := gw_ HB e0_ hg; have GE226 := GW226; replace HB := hb_ HB e0_ hb; clear hb hbox hg; have hcz7_0 : w6.cell? ⟨gb226, 0, none⟩ = some (.int .i64 0) := (kc_ BK226.out 0).trans rfl; have hcz7_1 : w6.cell? ⟨gb226, 1, none⟩ = some (.int .i64 0) := (kc_ BK226.out 1).trans rfl; have hcz7_2 : w6.cell? ⟨gb226, 2, none⟩ = some (.int .i64 0) := (kc_ BK226.out 2).trans rfl; have hfz7_0 := kf_ BK226.out 0; have hfz7_1 := kf_ BK226.out 1; have hfz7_2 := kf_ BK226.out 2))
   refine bodyPost_ret (results_ct rfl _ _ gb226 23 #[.int .i64 0, .int .i64 0, .int .i64 0] (0, 0) _ rfl (by (with_reducible repeat first | apply kn_ | apply kd_ | apply ka_); refine blk_put (cs := #[.int .i64 0, .int .i64 0, .int .i64 0]) ?_ 2 _ rfl; (with_reducible repeat first | apply kn_ | apply kd_ | apply ka_); refine blk_put (cs := #[.int .i64 0, .int .i64 0, .int .i64 0]) ?_ 1 _ rfl; (with_reducible repeat first | apply kn_ | apply kd_ | apply ka_); refine blk_put (cs := #[.int .i64 0, .int .i64 0, .int .i64 0]) ?_ 0 _ rfl; (with_reducible repeat first | apply kn_ | apply kd_ | apply ka_); exact BK226.out) Tryd.underlying23 rfl (by kernel_rfl)) rfl ?_
   exact ⟨by first | rfl | (simp [errW_none, errW_some] <;> rfl) | (simp [*, errW_none, errW_some] <;> rfl), by repeat (first | (with_reducible first | exact HB.out | apply ba_ | apply pd_ | apply d1_ | refine bs_ ?_ GE226.out) | exact HB.out)⟩
  ·rw [if_neg c5] at H
   have c5b0 : decide (69 < a0) = false := df_ c5
   clear c5
   simp only [Option.some.injEq, Prod.mk.injEq] at H
   obtain ⟨rfl, rfl, rfl, rfl⟩ := H
   go_enter Tryd.func30, Tryd.ntmps30
   go_wp2_with (first | ((with_reducible refine gate_dst (N := 2) rfl ?_); refine box_event ?hg (N := 2) ?hd (cs := #[.int .i64 0, .int .i64 0, .int .i64 0]) (t := 23) ?hr ?_; (case hd => rfl); (case hg => rfl); (case hr => first | (go_simp; done) | (go_simp; rfl)); intro gb226 hg w8 hbox hb; have BK226 := sd_ hbox; have GW226 := gw_ HB e0_ hg; have GE226 := GW226; replace HB := hb_ HB e0_ hb; clear hb hbox hg; have hcz9_0 : w8.cell? ⟨gb226, 0, none⟩ = some (.int .i64 0) := (kc_ BK226.out 0).trans rfl; have hcz9_1 : w8.cell? ⟨gb226, 1, none⟩ = some (.int .i64 0) := (kc_ BK226.out 1).trans rfl; have hcz9_2 : w8.cell? ⟨gb226, 2, none⟩ = some (.int .i64 0) := (kc_ BK226.out 2).trans rfl; have hfz9_0 := kf_ BK226.out 0; have hfz9_1 := kf_ BK226.out 1; have hfz9_2 := kf_ BK226.out 2))
   refine bodyPost_ret (results_ct rfl _ _ gb226 23 #[.int .i64 (Int.tmod a0 7), .int .i64 0, .int .i64 (wrap64 (Int.tdiv a0 7))] (0, 0) _ rfl (by (with_reducible repeat first | apply kn_ | apply kd_ | apply ka_); refine blk_put (cs := #[.int .i64 (Int.tmod a0 7), .int .i64 0, .int .i64 0]) ?_ 2 _ rfl; (with_reducible repeat first | apply kn_ | apply kd_ | apply ka_); refine blk_put (cs := #[.int .i64 (Int.tmod a0 7), .int .i64 0, .int .i64 0]) ?_ 1 _ rfl; (with_reducible repeat first | apply kn_ | apply kd_ | apply ka_); refine blk_put (cs := #[.int .i64 0, .int .i64 0, .int .i64 0]) ?_ 0 _ rfl; (with_reducible repeat first | apply kn_ | apply kd_ | apply ka_); exact BK226.out) Tryd.underlying23 rfl (by kernel_rfl)) rfl ?_
   exact ⟨by first | rfl | (simp [errW_none, errW_some] <;> rfl) | (simp [*, errW_none, errW_some] <;> rfl), by repeat (first | (with_reducible first | exact HB.out | apply ba_ | apply pd_ | apply d1_ | refine bs_ ?_ GE226.out) | exact HB.out)⟩

/-! ### neumeref06_At: function 11 -/
def neumeref06_At.j0 : Nat → Int → Int → Bool → Option (Int × Int × Int × Int)
 | 0, _, _, _ => none
 | k + 1, x0, x6, x19 => if x19 = true then (some (0, 0, 0, 20)) else ((neumeref06_of.f (wrap64 (x6 + x0))).bind fun bt229 => (if bt229.2.2.2 = true then (some (bt229.1, bt229.2.1, bt229.2.2.1, 0)) else (some (0, 0, 0, 20))))
def neumeref06_At.f (k : Nat) (a0 : Int) (a1 : Int) : Option (Int × Int × Int × Int) := (neumeref06_middle.f a1).bind fun t228 => (if t228 < 0 then (some (0, 0, 0, 2)) else (if a0 < (-1000) then (neumeref06_At.j0 k a0 t228 true) else (neumeref06_At.j0 k a0 t228 (decide (a0 > 1000)))))
theorem neumeref06_At.mono_l : ∀ k, (∀ y0 y1 y2, LeO (neumeref06_At.j0 k y0 y1 y2) (neumeref06_At.j0 (k + 1) y0 y1 y2))
 | 0 => fun _ _ _ r h => by simp [neumeref06_At.j0] at h
 | k + 1 => by
  have ih0 := neumeref06_At.mono_l k
  ·intro y0 y1 y2
   unfold neumeref06_At.j0
   repeat' first
   | (with_reducible exact ih0 _ _ _)
   | (with_reducible exact LeO.refl _)
   | (with_reducible exact LeO.none _)
   | (with_reducible refine LeO.ite ?_ ?_)
   | (with_reducible refine LeO.bind ?_ (fun _ => ?_))
   | exact ih0 _ _ _
   | exact LeO.none _
   | refine LeO.ite ?_ ?_
   | refine LeO.bind ?_ (fun _ => ?_)
theorem neumeref06_At.mono : ∀ a0 a1 k, LeO (neumeref06_At.f k a0 a1) (neumeref06_At.f (k + 1) a0 a1) := by
 intro a0 a1 k
 have ih0 := neumeref06_At.mono_l k
 unfold neumeref06_At.f
 repeat' first
   | (with_reducible exact ih0 _ _ _)
   | (with_reducible exact LeO.refl _)
   | (with_reducible exact LeO.none _)
   | (with_reducible refine LeO.ite ?_ ?_)
   | (with_reducible refine LeO.bind ?_ (fun _ => ?_))
   | exact ih0 _ _ _
   | exact LeO.none _
   | refine LeO.ite ?_ ?_
   | refine LeO.bind ?_ (fun _ => ?_)
set_option maxHeartbeats 8000000 in
set_option maxRecDepth 100000 in
theorem neumeref06_At.calls (k : Nat) (a0 : Int) (a1 : Int) (r1 : Int) (r2 : Int) (r3 : Int) (r4 : Int) (w : World) (h : neumeref06_At.f k a0 a1 = some (r1, r2, r3, r4)) :
  Calls Tryd.prog 11 #[.int .i64 a0, .int .i64 a1] w fun e w' => e = .returned (.tuple #[.agg #[.int .i64 r1, .int .i64 r2, .int .i64 r3], .int .i64 r4]) ∧ Below w.heap.size w w' := by
 have hu23 := Tryd.underlying23
 have HB := sd_ (Below.refl w.heap.size w)
 have H : ((neumeref06_middle.f a1).bind fun t228 => (if t228 < 0 then (some (0, 0, 0, 2)) else (if a0 < (-1000) then (neumeref06_At.j0 k a0 t228 true) else (neumeref06_At.j0 k a0 t228 (decide (a0 > 1000)))))) = some (r1, r2, r3, r4) := h
 clear h
 replace H := ob_ H
 obtain ⟨t228, A30, H⟩ := H
 replace H : (if t228 < 0 then (some (0, 0, 0, 2)) else (if a0 < (-1000) then (neumeref06_At.j0 k a0 t228 true) else (neumeref06_At.j0 k a0 t228 (decide (a0 > 1000))))) = some (r1, r2, r3, r4) := H
 have A3 := sd_ A30
 clear A30
 by_cases c4 : t228 < 0
 ·rw [if_pos c4] at H
  have c4b0 : decide (t228 < 0) = true := dt_ c4
  clear c4
  simp only [Option.some.injEq, Prod.mk.injEq] at H
  obtain ⟨rfl, rfl, rfl, rfl⟩ := H
  go_enter Tryd.func11, Tryd.ntmps11
  go_wp2_with (first | ((with_reducible refine gate_dst (N := 4) rfl ?_); refine box_event ?hg (N := 4) ?hd (cs := #[.int .i64 0, .int .i64 0, .int .i64 0]) (t := 23) ?hr ?_; (case hd => rfl); (case hg => rfl); (case hr => first | (go_simp; done) | (go_simp; rfl)); intro gb227 hg w5 hbox hb; have BK227 := sd_ hbox; have GW227 := gw_ HB e0_ hg; have GE227 := GW227; replace HB := hb_ HB e0_ hb; clear hb hbox hg) | ((with_reducible refine gate_callee (f := 27) rfl ?_); refine goesL_ (some 10) rfl rfl Tryd.func27 (by kernel_rfl) rfl #[.int .i64 a1] rfl (by (try simp only [lm_, lq_, lx_]); first | done | rfl | (simp only [ld_, lt_]; rfl)) ?_; (with_reducible refine (neumeref06_middle.calls a1 t228 _ A3.out).mono ?_); rintro e w' ⟨rfl, ⟨nd, rfl⟩⟩; refine ⟨_, rfl, ?_⟩; (repeat (rw [drewN_self w5]; generalize hq_ : World.drewN w5 _ = w5; have n0_ : Aside0 (w5.heap[gb227]? = some (.cells #[.int .i64 0, .int .i64 0, .int .i64 0] 23 (0, 0))) := ⟨by rw [← hq_]; exact (kk_ BK227.out)⟩; have n1_ : Aside0 (Below w.heap.size w w5) := ⟨by rw [← hq_]; exact (bb_ HB.out (e_ GE227 e0_))⟩; clear BK227 HB hq_; have BK227 := n0_; have HB := n1_; clear n0_ n1_)); have hcz6_0 : w5.cell? ⟨gb227, 0, none⟩ = some (.int .i64 0) := (kc_ BK227.out 0).trans rfl; have hcz6_1 : w5.cell? ⟨gb227, 1, none⟩ = some (.int .i64 0) := (kc_ BK227.out 1).trans rfl; have hcz6_2 : w5.cell? ⟨gb227, 2, none⟩ = some (.int .i64 0) := (kc_ BK227.out 2).trans rfl; have hfz6_0 := kf_ BK227.out 0; have hfz6_1 := kf_ BK227.out 1; have hfz6_2 := kf_ BK227.out 2))
  refine bodyPost_ret (results_ct rfl _ _ gb227 23 #[.int .i64 0, .int .i64 0, .int .i64 0] (0, 0) _ rfl (by (with_reducible repeat first | apply kn_ | apply kd_ | apply ka_); refine blk_put (cs := #[.int .i64 0, .int .i64 0, .int .i64 0]) ?_ 2 _ rfl; (with_reducible repeat first | apply kn_ | apply kd_ | apply ka_); refine blk_put (cs := #[.int .i64 0, .int .i64 0, .int .i64 0]) ?_ 1 _ rfl; (with_reducible repeat first | apply kn_ | apply kd_ | apply ka_); refine blk_put (cs := #[.int .i64 0, .int .i64 0, .int .i64 0]) ?_ 0 _ rfl; (with_reducible repeat first | apply kn_ | apply kd_ | apply ka_); exact BK227.out) Tryd.underlying23 rfl (by kernel_rfl)) rfl ?_
  exact ⟨by first | rfl | (simp [errW_none, errW_some] <;> rfl) | (simp [*, errW_none, errW_some] <;> rfl), by repeat (first | (with_reducible first | exact HB.out | apply ba_ | apply pd_ | apply d1_ | refine bs_ ?_ GE227.out) | exact HB.out)⟩
 ·rw [if_neg c4] at H
  have c4b0 : decide (t228 < 0) = false := df_ c4
  clear c4
  have HC7 := sd_ H
  clear H
  go_enter Tryd.func11, Tryd.ntmps11
  go_upto_region 4 with (first | ((with_reducible refine gate_dst (N := 4) rfl ?_); refine box_event ?hg (N := 4) ?hd (cs := #[.int .i64 0, .int .i64 0, .int .i64 0]) (t := 23) ?hr ?_; (case hd => rfl); (case hg => rfl); (case hr => first | (go_simp; done) | (go_simp; rfl)); intro gb227 hg w8 hbox hb; have BK227 := sd_ hbox; have GW227 := gw_ HB e0_ hg; have GE227 := GW227; replace HB := hb_ HB e0_ hb; clear hb hbox hg) | ((with_reducible refine gate_callee (f := 27) rfl ?_); refine goesL_ (some 10) rfl rfl Tryd.func27 (by kernel_rfl) rfl #[.int .i64 a1] rfl (by (try simp only [lm_, lq_, lx_]); first | done | rfl | (simp only [ld_, lt_]; rfl)) ?_; (with_reducible refine (neumeref06_middle.calls a1 t228 _ A3.out).mono ?_); rintro e w' ⟨rfl, ⟨nd, rfl⟩⟩; refine ⟨_, rfl, ?_⟩))
  (try simp only [Act.put, ls_, lz_, lc_])
  go_cut [19] (fun v19 wc => ∃ (kq : Nat) (x19_6 : Bool), v19 = .bool x19_6 ∧ Aside0 (neumeref06_At.j0 kq a0 t228 x19_6 = some (r1, r2, r3, r4)) ∧ Aside0 (kq ≤ k) ∧ Aside0 (wc.heap[gb227]? = some (.cells #[.int .i64 0, .int .i64 0, .int .i64 0] 23 (0, 0))) ∧ Aside0 (Below w.heap.size w wc))
  case first =>
   have H := HC7.out
   clear HC7
   by_cases c9 : a0 < (-1000)
   ·rw [if_pos c9] at H
    have c9b0 : decide (a0 < (-1000)) = true := dt_ c9
    clear c9
    (first | rw [c9b0] | (simp only [i64_w, i32_w]; rw [c9b0]) | skip)
    have H' := sd_ H
    clear H
    go_wp2
    go_meet
    case rel => exact ⟨_, (true), (by first | rfl | (simp; done) | (simp [*]; done) | (simp [bne]; done)), H', ⟨by first | omega | exact Nat.le_refl _⟩, ⟨by (with_reducible repeat first | apply kn_ | apply kd_ | apply ka_); exact BK227.out⟩, ⟨by repeat (first | (with_reducible first | exact HB.out | apply ba_ | apply pd_ | apply d1_ | refine bs_ ?_ GE227.out) | exact HB.out)⟩⟩
   ·rw [if_neg c9] at H
    have c9b0 : decide (a0 < (-1000)) = false := df_ c9
    clear c9
    (first | rw [c9b0] | (simp only [i64_w, i32_w]; rw [c9b0]) | skip)
    have H' := sd_ H
    clear H
    go_wp2
    go_meet
    case rel => exact ⟨_, (decide (a0 > 1000)), (by first | rfl | (simp; done) | (simp [*]; done) | (simp [bne]; done)), H', ⟨by first | omega | exact Nat.le_refl _⟩, ⟨by (with_reducible repeat first | apply kn_ | apply kd_ | apply ka_); exact BK227.out⟩, ⟨by repeat (first | (with_reducible first | exact HB.out | apply ba_ | apply pd_ | apply d1_ | refine bs_ ?_ GE227.out) | exact HB.out)⟩⟩
  case rest =>
   clear HC7
   try clear c1; try clear c2; try clear p2; try clear c4; try clear c4b0; try clear c9; try clear c9b0; try clear hcz6_0; try clear hcz6_1; try clear hcz6_2; try clear hfz6_0; try clear hfz6_1; try clear hfz6_2
   obtain ⟨kq, x19_6, rfl, HA, HJ6, BK227, HB⟩ := hcut
   cases kq with
   | zero => exact absurd HA.out (by simp [neumeref06_At.j0])
   | succ kj6 =>
    have H := HA.out
    clear HA
    simp only [neumeref06_At.j0] at H
    by_cases c10 : x19_6 = true
    ·subst c10
     have H1 : (some (0, 0, 0, 20)) = some (r1, r2, r3, r4) := by rw [if_pos rfl] at H; exact H
     clear H; have H := H1; clear H1
     simp only [Option.some.injEq, Prod.mk.injEq] at H
     obtain ⟨rfl, rfl, rfl, rfl⟩ := H
     have hcz11_0 : wc.cell? ⟨gb227, 0, none⟩ = some (.int .i64 0) := (kc_ BK227.out 0).trans rfl
     have hcz11_1 : wc.cell? ⟨gb227, 1, none⟩ = some (.int .i64 0) := (kc_ BK227.out 1).trans rfl
     have hcz11_2 : wc.cell? ⟨gb227, 2, none⟩ = some (.int .i64 0) := (kc_ BK227.out 2).trans rfl
     have hfz11_0 := kf_ BK227.out 0
     have hfz11_1 := kf_ BK227.out 1
     have hfz11_2 := kf_ BK227.out 2
     go_wp2
     refine bodyPost_ret (results_ct rfl _ _ gb227 23 #[.int .i64 0, .int .i64 0, .int .i64 0] (0, 0) _ rfl (by (with_reducible repeat first | apply kn_ | apply kd_ | apply ka_); refine blk_put (cs := #[.int .i64 0, .int .i64 0, .int .i64 0]) ?_ 2 _ rfl; (with_reducible repeat first | apply kn_ | apply kd_ | apply ka_); refine blk_put (cs := #[.int .i64 0, .int .i64 0, .int .i64 0]) ?_ 1 _ rfl; (with_reducible repeat first | apply kn_ | apply kd_ | apply ka_); refine blk_put (cs := #[.int .i64 0, .int .i64 0, .int .i64 0]) ?_ 0 _ rfl; (with_reducible repeat first | apply kn_ | apply kd_ | apply ka_); exact BK227.out) Tryd.underlying23 rfl (by kernel_rfl)) rfl ?_
     exact ⟨by first | rfl | (simp [errW_none, errW_some] <;> rfl) | (simp [*, errW_none, errW_some] <;> rfl), by repeat (first | (with_reducible first | exact HB.out | apply ba_ | apply pd_ | apply d1_ | refine bs_ ?_ GE227.out) | exact HB.out)⟩
    ·replace c10 := bf_ c10
     subst c10
     have H1 : ((neumeref06_of.f (wrap64 (t228 + a0))).bind fun bt229 => (if bt229.2.2.2 = true then (some (bt229.1, bt229.2.1, bt229.2.2.1, 0)) else (some (0, 0, 0, 20)))) = some (r1, r2, r3, r4) := by rw [if_neg (show ¬ (false = true) by decide)] at H; exact H
     clear H; have H := H1; clear H1
     replace H := ob_ H
     obtain ⟨⟨t229, t230, t231, t232⟩, A120, H⟩ := H
     replace H : (if t232 = true then (some (t229, t230, t231, 0)) else (some (0, 0, 0, 20))) = some (r1, r2, r3, r4) := H
     have A12 := sd_ A120
     clear A120
     by_cases c13 : t232 = true
     ·subst c13
      have H1 : (some (t229, t230, t231, 0)) = some (r1, r2, r3, r4) := by rw [if_pos rfl] at H; exact H
      clear H; have H := H1; clear H1
      simp only [Option.some.injEq, Prod.mk.injEq] at H
      obtain ⟨rfl, rfl, rfl, rfl⟩ := H
      go_wp2_with (first | ((with_reducible refine gate_callee (f := 30) rfl ?_); refine goesL_ (some 25) rfl rfl Tryd.func30 (by kernel_rfl) rfl #[.int .i64 (wrap64 (t228 + a0))] rfl (by (try simp only [lm_, lq_, lx_]); first | done | rfl | (simp only [ld_, lt_]; rfl)) ?_; (with_reducible refine (neumeref06_of.calls (wrap64 (t228 + a0)) t229 t230 t231 true _ A12.out).mono ?_); rintro e w14 ⟨rfl, hb⟩; refine ⟨_, rfl, ?_⟩; replace BK227 := kb_ BK227 hb; replace HB := hb_ HB (e_ GE227 e0_) hb; (try clear hb); (try clear hb2); (try clear hk); (try clear hi)) | ((with_reducible refine gate_dst (N := 7) rfl ?_); refine box_event ?hg (N := 7) ?hd (cs := #[.int .i64 0, .int .i64 0, .int .i64 0]) (t := 23) ?hr ?_; (case hd => rfl); (case hg => rfl); (case hr => first | (go_simp; done) | (go_simp; rfl)); intro gb233 hg w15 hbox hb; have BK233 := sd_ hbox; have GW233 := gw_ HB (e_ GE227 e0_) hg; have GE233 := GW233; have NB227_233 := nb_ BK227 hg; have NB233_227 := sy_ NB227_233; replace BK227 := kb_ BK227 hb; replace HB := hb_ HB (e_ GE227 e0_) hb; clear hb hbox hg; have hnb16 := NB233_227.out; have hnc16 := NB227_233.out; have hcz17_0 : w15.cell? ⟨gb233, 0, none⟩ = some (.int .i64 0) := (kc_ BK233.out 0).trans rfl; have hcz17_1 : w15.cell? ⟨gb233, 1, none⟩ = some (.int .i64 0) := (kc_ BK233.out 1).trans rfl; have hcz17_2 : w15.cell? ⟨gb233, 2, none⟩ = some (.int .i64 0) := (kc_ BK233.out 2).trans rfl; have hfz17_0 := kf_ BK233.out 0; have hfz17_1 := kf_ BK233.out 1; have hfz17_2 := kf_ BK233.out 2; have hcz18_0 : w15.cell? ⟨gb227, 0, none⟩ = some (.int .i64 0) := (kc_ BK227.out 0).trans rfl; have hcz18_1 : w15.cell? ⟨gb227, 1, none⟩ = some (.int .i64 0) := (kc_ BK227.out 1).trans rfl; have hcz18_2 : w15.cell? ⟨gb227, 2, none⟩ = some (.int .i64 0) := (kc_ BK227.out 2).trans rfl; have hfz18_0 := kf_ BK227.out 0; have hfz18_1 := kf_ BK227.out 1; have hfz18_2 := kf_ BK227.out 2))
      refine bodyPost_ret (results_ct rfl _ _ gb227 23 #[.int .i64 t229, .int .i64 t230, .int .i64 t231] (0, 0) _ rfl (by (with_reducible repeat first | apply kn_ | apply kd_ | apply ka_); refine blk_put (cs := #[.int .i64 t229, .int .i64 t230, .int .i64 0]) ?_ 2 _ rfl; (with_reducible repeat first | apply kn_ | apply kd_ | apply ka_); refine blk_put (cs := #[.int .i64 t229, .int .i64 0, .int .i64 0]) ?_ 1 _ rfl; (with_reducible repeat first | apply kn_ | apply kd_ | apply ka_); refine blk_put (cs := #[.int .i64 0, .int .i64 0, .int .i64 0]) ?_ 0 _ rfl; (with_reducible repeat first | apply kn_ | apply kd_ | apply ka_); refine blk_far ?_ NB227_233.out _; (with_reducible repeat first | apply kn_ | apply kd_ | apply ka_); refine blk_far ?_ NB227_233.out _; (with_reducible repeat first | apply kn_ | apply kd_ | apply ka_); refine blk_far ?_ NB227_233.out _; (with_reducible repeat first | apply kn_ | apply kd_ | apply ka_); exact BK227.out) Tryd.underlying23 rfl (by kernel_rfl)) rfl ?_
      exact ⟨by first | rfl | (simp [errW_none, errW_some] <;> rfl) | (simp [*, errW_none, errW_some] <;> rfl), by repeat (first | (with_reducible first | exact HB.out | apply ba_ | apply pd_ | apply d1_ | refine bs_ ?_ GE227.out | refine bs_ ?_ GE233.out) | exact HB.out)⟩
     ·replace c13 := bf_ c13
      subst c13
      have H1 : (some (0, 0, 0, 20)) = some (r1, r2, r3, r4) := by rw [if_neg (show ¬ (false = true) by decide)] at H; exact H
      clear H; have H := H1; clear H1
      simp only [Option.some.injEq, Prod.mk.injEq] at H
      obtain ⟨rfl, rfl, rfl, rfl⟩ := H
      go_wp2_with (first | ((with_reducible refine gate_callee (f := 30) rfl ?_); refine goesL_ (some 25) rfl rfl Tryd.func30 (by kernel_rfl) rfl #[.int .i64 (wrap64 (t228 + a0))] rfl (by (try simp only [lm_, lq_, lx_]); first | done | rfl | (simp only [ld_, lt_]; rfl)) ?_; (with_reducible refine (neumeref06_of.calls (wrap64 (t228 + a0)) t229 t230 t231 false _ A12.out).mono ?_); rintro e w19 ⟨rfl, hb⟩; refine ⟨_, rfl, ?_⟩; replace BK227 := kb_ BK227 hb; replace HB := hb_ HB (e_ GE227 e0_) hb; (try clear hb); (try clear hb2); (try clear hk); (try clear hi)) | ((with_reducible refine gate_dst (N := 7) rfl ?_); refine box_event ?hg (N := 7) ?hd (cs := #[.int .i64 0, .int .i64 0, .int .i64 0]) (t := 23) ?hr ?_; (case hd => rfl); (case hg => rfl); (case hr => first | (go_simp; done) | (go_simp; rfl)); intro gb233 hg w20 hbox hb; have BK233 := sd_ hbox; have GW233 := gw_ HB (e_ GE227 e0_) hg; have GE233 := GW233; have NB227_233 := nb_ BK227 hg; have NB233_227 := sy_ NB227_233; replace BK227 := kb_ BK227 hb; replace HB := hb_ HB (e_ GE227 e0_) hb; clear hb hbox hg; have hnb21 := NB233_227.out; have hnc21 := NB227_233.out; have hcz22_0 : w20.cell? ⟨gb233, 0, none⟩ = some (.int .i64 0) := (kc_ BK233.out 0).trans rfl; have hcz22_1 : w20.cell? ⟨gb233, 1, none⟩ = some (.int .i64 0) := (kc_ BK233.out 1).trans rfl; have hcz22_2 : w20.cell? ⟨gb233, 2, none⟩ = some (.int .i64 0) := (kc_ BK233.out 2).trans rfl; have hfz22_0 := kf_ BK233.out 0; have hfz22_1 := kf_ BK233.out 1; have hfz22_2 := kf_ BK233.out 2; have hcz23_0 : w20.cell? ⟨gb227, 0, none⟩ = some (.int .i64 0) := (kc_ BK227.out 0).trans rfl; have hcz23_1 : w20.cell? ⟨gb227, 1, none⟩ = some (.int .i64 0) := (kc_ BK227.out 1).trans rfl; have hcz23_2 : w20.cell? ⟨gb227, 2, none⟩ = some (.int .i64 0) := (kc_ BK227.out 2).trans rfl; have hfz23_0 := kf_ BK227.out 0; have hfz23_1 := kf_ BK227.out 1; have hfz23_2 := kf_ BK227.out 2))
      refine bodyPost_ret (results_ct rfl _ _ gb227 23 #[.int .i64 0, .int .i64 0, .int .i64 0] (0, 0) _ rfl (by (with_reducible repeat first | apply kn_ | apply kd_ | apply ka_); refine blk_put (cs := #[.int .i64 0, .int .i64 0, .int .i64 0]) ?_ 2 _ rfl; (with_reducible repeat first | apply kn_ | apply kd_ | apply ka_); refine blk_put (cs := #[.int .i64 0, .int .i64 0, .int .i64 0]) ?_ 1 _ rfl; (with_reducible repeat first | apply kn_ | apply kd_ | apply ka_); refine blk_put (cs := #[.int .i64 0, .int .i64 0, .int .i64 0]) ?_ 0 _ rfl; (with_reducible repeat first | apply kn_ | apply kd_ | apply ka_); refine blk_far ?_ NB227_233.out _; (with_reducible repeat first | apply kn_ | apply kd_ | apply ka_); refine blk_far ?_ NB227_233.out _; (with_reducible repeat first | apply kn_ | apply kd_ | apply ka_); refine blk_far ?_ NB227_233.out _; (with_reducible repeat first | apply kn_ | apply kd_ | apply ka_); exact BK227.out) Tryd.underlying23 rfl (by kernel_rfl)) rfl ?_
      exact ⟨by first | rfl | (simp [errW_none, errW_some] <;> rfl) | (simp [*, errW_none, errW_some] <;> rfl), by repeat (first | (with_reducible first | exact HB.out | apply ba_ | apply pd_ | apply d1_ | refine bs_ ?_ GE227.out | refine bs_ ?_ GE233.out) | exact HB.out)⟩

end Go.Proofs.YtkncoedagigliaaDoor.P
