-- Written by a program of this session (wip/tools/xprint.py, over the kit's print): Lean checks it.
import Derived.Test.YtkncoedagigliaaDoorPx0
namespace Go.Proofs.YtkncoedagigliaaDoor.P
open Go.RowKit Go.Proofs.YtkncoedagigliaaDoorW.PrintWords Go.Proofs.YtkncoedagigliaaDoorW.PrintLast Go.Proofs.YtkncoedagigliaaDoorW.PrintMore
attribute [local go_sem] max2_int min2_int max_two min_two max_three min_three max_four min_four   -- for this text's walks alone
set_option linter.unusedVariables false
set_option linter.unusedSimpArgs false

/-! ### pitch_within: function 28 -/
def pitch_within.f (a0 : Int) (a1 : Int) (a2 : Int) : Option (Bool) := if a1 ≤ a0 then (some (decide (a0 ≤ a2))) else (some false)
set_option maxHeartbeats 8000000 in
set_option maxRecDepth 100000 in
theorem pitch_within.calls (a0 : Int) (a1 : Int) (a2 : Int) (r : Bool) (w : World) (h : pitch_within.f a0 a1 a2 = some r) :
  Calls Tryd.prog 28 #[.int .i64 a0, .int .i64 a1, .int .i64 a2] w fun e w' => e = .returned (.bool r) ∧ Drawn0 w w' := by
 have H : (if a1 ≤ a0 then (some (decide (a0 ≤ a2))) else (some false)) = some r := h
 clear h
 by_cases c4 : a1 ≤ a0
 ·rw [if_pos c4] at H
  have c4b0 : decide (a1 ≤ a0) = true := dt_ c4
  clear c4
  obtain rfl := Option.some.inj H
  go_enter Tryd.func28, Tryd.ntmps28
  go_wp2
  go_ret
  exact ⟨by first | rfl | (simp; done) | (simp [*]; done), by repeat (first | exact Drawn0.refl _ | apply Drawn0.step)⟩
 ·rw [if_neg c4] at H
  have c4b0 : decide (a1 ≤ a0) = false := df_ c4
  clear c4
  obtain rfl := Option.some.inj H
  go_enter Tryd.func28, Tryd.ntmps28
  go_wp2
  go_ret
  exact ⟨by first | rfl | (simp; done) | (simp [*]; done), by repeat (first | exact Drawn0.refl _ | apply Drawn0.step)⟩

/-! ### pitch_Check: function 14 -/
def pitch_Check.f (a0_0 : Int) (a0_1 : Int) (a0_2 : Int) : Option (Bool) := (pitch_within.f a0_0 0 6).bind fun t102 => (if t102 = true then ((pitch_within.f a0_1 (-2) 2).bind fun t103 => (if t103 = true then ((pitch_within.f a0_2 0 9).bind fun t104 => (some t104)) else (some false))) else (some false))
set_option maxHeartbeats 8000000 in
set_option maxRecDepth 100000 in
theorem pitch_Check.calls (a0_0 : Int) (a0_1 : Int) (a0_2 : Int) (r : Bool) (w : World) (h : pitch_Check.f a0_0 a0_1 a0_2 = some r) :
  Calls Tryd.prog 14 #[.agg #[.int .i64 a0_0, .int .i64 a0_1, .int .i64 a0_2]] w fun e w' => e = .returned (.bool r) ∧ Below w.heap.size w w' := by
 have hu23 := Tryd.underlying23
 have HB := sd_ (Below.refl w.heap.size w)
 have H : ((pitch_within.f a0_0 0 6).bind fun t102 => (if t102 = true then ((pitch_within.f a0_1 (-2) 2).bind fun t103 => (if t103 = true then ((pitch_within.f a0_2 0 9).bind fun t104 => (some t104)) else (some false))) else (some false))) = some r := h
 clear h
 replace H := ob_ H
 obtain ⟨t102, A20, H⟩ := H
 replace H : (if t102 = true then ((pitch_within.f a0_1 (-2) 2).bind fun t103 => (if t103 = true then ((pitch_within.f a0_2 0 9).bind fun t104 => (some t104)) else (some false))) else (some false)) = some r := H
 have A2 := sd_ A20
 clear A20
 by_cases c3 : t102 = true
 ·subst c3
  have H1 : ((pitch_within.f a0_1 (-2) 2).bind fun t103 => (if t103 = true then ((pitch_within.f a0_2 0 9).bind fun t104 => (some t104)) else (some false))) = some r := by rw [if_pos rfl] at H; exact H
  clear H; have H := H1; clear H1
  replace H := ob_ H
  obtain ⟨t103, A40, H⟩ := H
  replace H : (if t103 = true then ((pitch_within.f a0_2 0 9).bind fun t104 => (some t104)) else (some false)) = some r := H
  have A4 := sd_ A40
  clear A40
  by_cases c5 : t103 = true
  ·subst c5
   have H1 : ((pitch_within.f a0_2 0 9).bind fun t104 => (some t104)) = some r := by rw [if_pos rfl] at H; exact H
   clear H; have H := H1; clear H1
   replace H := ob_ H
   obtain ⟨t104, A60, H⟩ := H
   replace H : (some t104) = some r := H
   have A6 := sd_ A60
   clear A60
   obtain rfl := Option.some.inj H
   go_enter Tryd.func14, Tryd.ntmps14
   go_wp2_with (first | ((with_reducible refine gate_dst (N := 1) rfl ?_); refine box_event ?hg (N := 1) ?hd (cs := #[.int .i64 a0_0, .int .i64 a0_1, .int .i64 a0_2]) (t := 23) ?hr ?_; (case hd => rfl); (case hg => rfl); (case hr => first | (go_simp; done) | (go_simp; rfl)); intro gb101 hg w7 hbox hb; have BK101 := sd_ hbox; have GW101 := gw_ HB e0_ hg; have GE101 := GW101; replace HB := hb_ HB e0_ hb; clear hb hbox hg; have hcz8_0 : w7.cell? ⟨gb101, 0, none⟩ = some (.int .i64 a0_0) := (kc_ BK101.out 0).trans rfl; have hcz8_1 : w7.cell? ⟨gb101, 1, none⟩ = some (.int .i64 a0_1) := (kc_ BK101.out 1).trans rfl; have hcz8_2 : w7.cell? ⟨gb101, 2, none⟩ = some (.int .i64 a0_2) := (kc_ BK101.out 2).trans rfl; have hfz8_0 := kf_ BK101.out 0; have hfz8_1 := kf_ BK101.out 1; have hfz8_2 := kf_ BK101.out 2) | ((with_reducible refine gate_callee (f := 28) rfl ?_); refine goesL_ (some 5) rfl rfl Tryd.func28 (by kernel_rfl) rfl #[.int .i64 a0_0, .int .i64 0, .int .i64 6] rfl (by (try simp only [lm_, lq_, lx_]); first | done | rfl | (simp only [ld_, lt_]; rfl)) ?_; (with_reducible refine (pitch_within.calls a0_0 0 6 true _ A2.out).mono ?_); rintro e w' ⟨rfl, ⟨nd, rfl⟩⟩; refine ⟨_, rfl, ?_⟩) | (go_at_call 28; (with_reducible refine (pitch_within.calls a0_1 (-2) 2 true _ A4.out).mono ?_); rintro e w' ⟨rfl, ⟨nd, rfl⟩⟩) | (go_at_call 28; (with_reducible refine (pitch_within.calls a0_2 0 9 t104 _ A6.out).mono ?_); rintro e w' ⟨rfl, ⟨nd, rfl⟩⟩))
   go_ret
   exact ⟨by first | rfl | (simp [errW_none, errW_some] <;> rfl) | (simp [*, errW_none, errW_some] <;> rfl), by repeat (first | (with_reducible first | exact HB.out | apply ba_ | apply pd_ | apply d1_ | refine bs_ ?_ GE101.out) | exact HB.out)⟩
  ·replace c5 := bf_ c5
   subst c5
   have H1 : (some false) = some r := by rw [if_neg (show ¬ (false = true) by decide)] at H; exact H
   clear H; have H := H1; clear H1
   obtain rfl := Option.some.inj H
   go_enter Tryd.func14, Tryd.ntmps14
   go_wp2_with (first | ((with_reducible refine gate_dst (N := 1) rfl ?_); refine box_event ?hg (N := 1) ?hd (cs := #[.int .i64 a0_0, .int .i64 a0_1, .int .i64 a0_2]) (t := 23) ?hr ?_; (case hd => rfl); (case hg => rfl); (case hr => first | (go_simp; done) | (go_simp; rfl)); intro gb101 hg w9 hbox hb; have BK101 := sd_ hbox; have GW101 := gw_ HB e0_ hg; have GE101 := GW101; replace HB := hb_ HB e0_ hb; clear hb hbox hg; have hcz10_0 : w9.cell? ⟨gb101, 0, none⟩ = some (.int .i64 a0_0) := (kc_ BK101.out 0).trans rfl; have hcz10_1 : w9.cell? ⟨gb101, 1, none⟩ = some (.int .i64 a0_1) := (kc_ BK101.out 1).trans rfl; have hcz10_2 : w9.cell? ⟨gb101, 2, none⟩ = some (.int .i64 a0_2) := (kc_ BK101.out 2).trans rfl; have hfz10_0 := kf_ BK101.out 0; have hfz10_1 := kf_ BK101.out 1; have hfz10_2 := kf_ BK101.out 2) | ((with_reducible refine gate_callee (f := 28) rfl ?_); refine goesL_ (some 5) rfl rfl Tryd.func28 (by kernel_rfl) rfl #[.int .i64 a0_0, .int .i64 0, .int .i64 6] rfl (by (try simp only [lm_, lq_, lx_]); first | done | rfl | (simp only [ld_, lt_]; rfl)) ?_; (with_reducible refine (pitch_within.calls a0_0 0 6 true _ A2.out).mono ?_); rintro e w' ⟨rfl, ⟨nd, rfl⟩⟩; refine ⟨_, rfl, ?_⟩) | (go_at_call 28; (with_reducible refine (pitch_within.calls a0_1 (-2) 2 false _ A4.out).mono ?_); rintro e w' ⟨rfl, ⟨nd, rfl⟩⟩))
   go_ret
   exact ⟨by first | rfl | (simp [errW_none, errW_some] <;> rfl) | (simp [*, errW_none, errW_some] <;> rfl), by repeat (first | (with_reducible first | exact HB.out | apply ba_ | apply pd_ | apply d1_ | refine bs_ ?_ GE101.out) | exact HB.out)⟩
 ·replace c3 := bf_ c3
  subst c3
  have H1 : (some false) = some r := by rw [if_neg (show ¬ (false = true) by decide)] at H; exact H
  clear H; have H := H1; clear H1
  obtain rfl := Option.some.inj H
  go_enter Tryd.func14, Tryd.ntmps14
  go_wp2_with (first | ((with_reducible refine gate_dst (N := 1) rfl ?_); refine box_event ?hg (N := 1) ?hd (cs := #[.int .i64 a0_0, .int .i64 a0_1, .int .i64 a0_2]) (t := 23) ?hr ?_; (case hd => rfl); (case hg => rfl); (case hr => first | (go_simp; done) | (go_simp; rfl)); intro gb101 hg w11 hbox hb; have BK101 := sd_ hbox; have GW101 := gw_ HB e0_ hg; have GE101 := GW101; replace HB := hb_ HB e0_ hb; clear hb hbox hg; have hcz12_0 : w11.cell? ⟨gb101, 0, none⟩ = some (.int .i64 a0_0) := (kc_ BK101.out 0).trans rfl; have hcz12_1 : w11.cell? ⟨gb101, 1, none⟩ = some (.int .i64 a0_1) := (kc_ BK101.out 1).trans rfl; have hcz12_2 : w11.cell? ⟨gb101, 2, none⟩ = some (.int .i64 a0_2) := (kc_ BK101.out 2).trans rfl; have hfz12_0 := kf_ BK101.out 0; have hfz12_1 := kf_ BK101.out 1; have hfz12_2 := kf_ BK101.out 2) | ((with_reducible refine gate_callee (f := 28) rfl ?_); refine goesL_ (some 5) rfl rfl Tryd.func28 (by kernel_rfl) rfl #[.int .i64 a0_0, .int .i64 0, .int .i64 6] rfl (by (try simp only [lm_, lq_, lx_]); first | done | rfl | (simp only [ld_, lt_]; rfl)) ?_; (with_reducible refine (pitch_within.calls a0_0 0 6 false _ A2.out).mono ?_); rintro e w' ⟨rfl, ⟨nd, rfl⟩⟩; refine ⟨_, rfl, ?_⟩))
  go_ret
  exact ⟨by first | rfl | (simp [errW_none, errW_some] <;> rfl) | (simp [*, errW_none, errW_some] <;> rfl), by repeat (first | (with_reducible first | exact HB.out | apply ba_ | apply pd_ | apply d1_ | refine bs_ ?_ GE101.out) | exact HB.out)⟩

/-! ### pitch_Count: function 18 -/
def pitch_Count.f (a0_0 : Int) (a0_1 : Int) (a0_2 : Int) : Option (Int) := (pitch_Check.f a0_0 a0_1 a0_2).bind fun t106 => (if t106 = true then (some (wrap64 ((wrap64 (7 * a0_2)) + a0_0))) else (some (-1)))
set_option maxHeartbeats 8000000 in
set_option maxRecDepth 100000 in
theorem pitch_Count.calls (a0_0 : Int) (a0_1 : Int) (a0_2 : Int) (r : Int) (w : World) (h : pitch_Count.f a0_0 a0_1 a0_2 = some r) :
  Calls Tryd.prog 18 #[.agg #[.int .i64 a0_0, .int .i64 a0_1, .int .i64 a0_2]] w fun e w' => e = .returned (.int .i64 r) ∧ Below w.heap.size w w' := by
 have hu23 := Tryd.underlying23
 have HB := sd_ (Below.refl w.heap.size w)
 have H : ((pitch_Check.f a0_0 a0_1 a0_2).bind fun t106 => (if t106 = true then (some (wrap64 ((wrap64 (7 * a0_2)) + a0_0))) else (some (-1)))) = some r := h
 clear h
 replace H := ob_ H
 obtain ⟨t106, A20, H⟩ := H
 replace H : (if t106 = true then (some (wrap64 ((wrap64 (7 * a0_2)) + a0_0))) else (some (-1))) = some r := H
 have A2 := sd_ A20
 clear A20
 by_cases c3 : t106 = true
 ·subst c3
  have H1 : (some (wrap64 ((wrap64 (7 * a0_2)) + a0_0))) = some r := by rw [if_pos rfl] at H; exact H
  clear H; have H := H1; clear H1
  obtain rfl := Option.some.inj H
  go_enter Tryd.func18, Tryd.ntmps18
  go_wp2_with (first | ((with_reducible refine gate_dst (N := 1) rfl ?_); refine box_event ?hg (N := 1) ?hd (cs := #[.int .i64 a0_0, .int .i64 a0_1, .int .i64 a0_2]) (t := 23) ?hr ?_; (case hd => rfl); (case hg => rfl); (case hr => first | (go_simp; done) | (go_simp; rfl)); intro gb105 hg w4 hbox hb; have BK105 := sd_ hbox; have GW105 := gw_ HB e0_ hg; have GE105 := GW105; replace HB := hb_ HB e0_ hb; clear hb hbox hg; have hcz5_0 : w4.cell? ⟨gb105, 0, none⟩ = some (.int .i64 a0_0) := (kc_ BK105.out 0).trans rfl; have hcz5_1 : w4.cell? ⟨gb105, 1, none⟩ = some (.int .i64 a0_1) := (kc_ BK105.out 1).trans rfl; have hcz5_2 : w4.cell? ⟨gb105, 2, none⟩ = some (.int .i64 a0_2) := (kc_ BK105.out 2).trans rfl; have hfz5_0 := kf_ BK105.out 0; have hfz5_1 := kf_ BK105.out 1; have hfz5_2 := kf_ BK105.out 2) | ((with_reducible refine gate_callee (f := 14) rfl ?_); refine goesL_ (some 4) rfl rfl Tryd.func14 (by kernel_rfl) rfl #[.agg #[.int .i64 a0_0, .int .i64 a0_1, .int .i64 a0_2]] rfl (by (try simp only [lm_, lq_, lx_]); first | done | rfl | (simp only [ld_, lt_]; rfl)) ?_; (with_reducible refine (pitch_Check.calls a0_0 a0_1 a0_2 true _ A2.out).mono ?_); rintro e w6 ⟨rfl, hb⟩; refine ⟨_, rfl, ?_⟩; replace BK105 := kb_ BK105 hb; replace HB := hb_ HB (e_ GE105 e0_) hb; (try clear hb); (try clear hb2); (try clear hk); (try clear hi); have hcz7_0 : w6.cell? ⟨gb105, 0, none⟩ = some (.int .i64 a0_0) := (kc_ BK105.out 0).trans rfl; have hcz7_1 : w6.cell? ⟨gb105, 1, none⟩ = some (.int .i64 a0_1) := (kc_ BK105.out 1).trans rfl; have hcz7_2 : w6.cell? ⟨gb105, 2, none⟩ = some (.int .i64 a0_2) := (kc_ BK105.out 2).trans rfl; have hfz7_0 := kf_ BK105.out 0; have hfz7_1 := kf_ BK105.out 1; have hfz7_2 := kf_ BK105.out 2))
  go_ret
  exact ⟨by first | rfl | (simp [errW_none, errW_some] <;> rfl) | (simp [*, errW_none, errW_some] <;> rfl), by repeat (first | (with_reducible first | exact HB.out | apply ba_ | apply pd_ | apply d1_ | refine bs_ ?_ GE105.out) | exact HB.out)⟩
 ·replace c3 := bf_ c3
  subst c3
  have H1 : (some (-1)) = some r := by rw [if_neg (show ¬ (false = true) by decide)] at H; exact H
  clear H; have H := H1; clear H1
  obtain rfl := Option.some.inj H
  go_enter Tryd.func18, Tryd.ntmps18
  go_wp2_with (first | ((with_reducible refine gate_dst (N := 1) rfl ?_); refine box_event ?hg (N := 1) ?hd (cs := #[.int .i64 a0_0, .int .i64 a0_1, .int .i64 a0_2]) (t := 23) ?hr ?_; (case hd => rfl); (case hg => rfl); (case hr => first | (go_simp; done) | (go_simp; rfl)); intro gb105 hg w8 hbox hb; have BK105 := sd_ hbox; have GW105 := gw_ HB e0_ hg; have GE105 := GW105; replace HB := hb_ HB e0_ hb; clear hb hbox hg; have hcz9_0 : w8.cell? ⟨gb105, 0, none⟩ = some (.int .i64 a0_0) := (kc_ BK105.out 0).trans rfl; have hcz9_1 : w8.cell? ⟨gb105, 1, none⟩ = some (.int .i64 a0_1) := (kc_ BK105.out 1).trans rfl; have hcz9_2 : w8.cell? ⟨gb105, 2, none⟩ = some (.int .i64 a0_2) := (kc_ BK105.out 2).trans rfl; have hfz9_0 := kf_ BK105.out 0; have hfz9_1 := kf_ BK105.out 1; have hfz9_2 := kf_ BK105.out 2) | ((with_reducible refine gate_callee (f := 14) rfl ?_); refine goesL_ (some 4) rfl rfl Tryd.func14 (by kernel_rfl) rfl #[.agg #[.int .i64 a0_0, .int .i64 a0_1, .int .i64 a0_2]] rfl (by (try simp only [lm_, lq_, lx_]); first | done | rfl | (simp only [ld_, lt_]; rfl)) ?_; (with_reducible refine (pitch_Check.calls a0_0 a0_1 a0_2 false _ A2.out).mono ?_); rintro e w10 ⟨rfl, hb⟩; refine ⟨_, rfl, ?_⟩; replace BK105 := kb_ BK105 hb; replace HB := hb_ HB (e_ GE105 e0_) hb; (try clear hb); (try clear hb2); (try clear hk); (try clear hi)))
  go_ret
  exact ⟨by first | rfl | (simp [errW_none, errW_some] <;> rfl) | (simp [*, errW_none, errW_some] <;> rfl), by repeat (first | (with_reducible first | exact HB.out | apply ba_ | apply pd_ | apply d1_ | refine bs_ ?_ GE105.out) | exact HB.out)⟩

/-! ### pitch_middle: function 26 -/
def pitch_middle.f (a0 : Int) : Option (Int × Bool) := if a0 = 26 then (some (34, true)) else (if a0 = 27 then (some (22, true)) else (if a0 = 28 then (some (28, true)) else (if a0 = 29 then (some (26, true)) else (some (0, false)))))
set_option maxHeartbeats 8000000 in
set_option maxRecDepth 100000 in
theorem pitch_middle.calls (a0 : Int) (r1 : Int) (r2 : Bool) (w : World) (h : pitch_middle.f a0 = some (r1, r2)) :
  Calls Tryd.prog 26 #[.int .i64 a0] w fun e w' => e = .returned (.tuple #[.int .i64 r1, .bool r2]) ∧ Drawn0 w w' := by
 have H : (if a0 = 26 then (some (34, true)) else (if a0 = 27 then (some (22, true)) else (if a0 = 28 then (some (28, true)) else (if a0 = 29 then (some (26, true)) else (some (0, false)))))) = some (r1, r2) := h
 clear h
 by_cases c2 : a0 = 26
 ·rw [if_pos c2] at H
  have c2b0 : (a0 == 26) = true := beq_iff_eq.mpr c2
  have c2b1 : (a0 != 26) = false := bne_eq_false_iff_eq.mpr c2
  clear c2
  simp only [Option.some.injEq, Prod.mk.injEq] at H
  obtain ⟨rfl, rfl⟩ := H
  go_enter Tryd.func26, Tryd.ntmps26
  go_wp2
  go_ret2
  exact ⟨by first | rfl | (simp; done) | (simp [*]; done), by repeat (first | exact Drawn0.refl _ | apply Drawn0.step)⟩
 ·rw [if_neg c2] at H
  have c2b0 : (a0 == 26) = false := beq_eq_false_iff_ne.mpr c2
  have c2b1 : (a0 != 26) = true := bne_iff_ne.mpr c2
  by_cases c3 : a0 = 27
  ·rw [if_pos c3] at H
   have c3b0 : (a0 == 27) = true := beq_iff_eq.mpr c3
   have c3b1 : (a0 != 27) = false := bne_eq_false_iff_eq.mpr c3
   clear c3
   simp only [Option.some.injEq, Prod.mk.injEq] at H
   obtain ⟨rfl, rfl⟩ := H
   go_enter Tryd.func26, Tryd.ntmps26
   go_wp2
   go_ret2
   exact ⟨by first | rfl | (simp; done) | (simp [*]; done), by repeat (first | exact Drawn0.refl _ | apply Drawn0.step)⟩
  ·rw [if_neg c3] at H
   have c3b0 : (a0 == 27) = false := beq_eq_false_iff_ne.mpr c3
   have c3b1 : (a0 != 27) = true := bne_iff_ne.mpr c3
   by_cases c4 : a0 = 28
   ·rw [if_pos c4] at H
    have c4b0 : (a0 == 28) = true := beq_iff_eq.mpr c4
    have c4b1 : (a0 != 28) = false := bne_eq_false_iff_eq.mpr c4
    clear c4
    simp only [Option.some.injEq, Prod.mk.injEq] at H
    obtain ⟨rfl, rfl⟩ := H
    go_enter Tryd.func26, Tryd.ntmps26
    go_wp2
    go_ret2
    exact ⟨by first | rfl | (simp; done) | (simp [*]; done), by repeat (first | exact Drawn0.refl _ | apply Drawn0.step)⟩
   ·rw [if_neg c4] at H
    have c4b0 : (a0 == 28) = false := beq_eq_false_iff_ne.mpr c4
    have c4b1 : (a0 != 28) = true := bne_iff_ne.mpr c4
    by_cases c5 : a0 = 29
    ·rw [if_pos c5] at H
     have c5b0 : (a0 == 29) = true := beq_iff_eq.mpr c5
     have c5b1 : (a0 != 29) = false := bne_eq_false_iff_eq.mpr c5
     clear c5
     simp only [Option.some.injEq, Prod.mk.injEq] at H
     obtain ⟨rfl, rfl⟩ := H
     go_enter Tryd.func26, Tryd.ntmps26
     go_wp2
     go_ret2
     exact ⟨by first | rfl | (simp; done) | (simp [*]; done), by repeat (first | exact Drawn0.refl _ | apply Drawn0.step)⟩
    ·rw [if_neg c5] at H
     have c5b0 : (a0 == 29) = false := beq_eq_false_iff_ne.mpr c5
     have c5b1 : (a0 != 29) = true := bne_iff_ne.mpr c5
     simp only [Option.some.injEq, Prod.mk.injEq] at H
     obtain ⟨rfl, rfl⟩ := H
     go_enter Tryd.func26, Tryd.ntmps26
     go_wp2
     go_ret2
     exact ⟨by first | rfl | (simp; done) | (simp [*]; done), by repeat (first | exact Drawn0.refl _ | apply Drawn0.step)⟩

/-! ### pitch_Place: function 8 -/
def pitch_Place.f (a0_0 : Int) (a0_1 : Int) (a0_2 : Int) (a1 : Int) : Option (Int × Int) := (pitch_middle.f a1).bind fun bt108 => (if bt108.2 = true then ((pitch_Check.f a0_0 a0_1 a0_2).bind fun t110 => (if t110 = true then ((pitch_Count.f a0_0 a0_1 a0_2).bind fun t111 => (some (wrap64 (t111 - bt108.1), 0))) else (some (0, 2)))) else (some (0, 2)))
set_option maxHeartbeats 8000000 in
set_option maxRecDepth 100000 in
theorem pitch_Place.calls (a0_0 : Int) (a0_1 : Int) (a0_2 : Int) (a1 : Int) (r1 : Int) (r2 : Int) (w : World) (h : pitch_Place.f a0_0 a0_1 a0_2 a1 = some (r1, r2)) :
  Calls Tryd.prog 8 #[.agg #[.int .i64 a0_0, .int .i64 a0_1, .int .i64 a0_2], .int .i64 a1] w fun e w' => e = .returned (.tuple #[.int .i64 r1, .int .i64 r2]) ∧ Below w.heap.size w w' := by
 have hu23 := Tryd.underlying23
 have HB := sd_ (Below.refl w.heap.size w)
 have H : ((pitch_middle.f a1).bind fun bt108 => (if bt108.2 = true then ((pitch_Check.f a0_0 a0_1 a0_2).bind fun t110 => (if t110 = true then ((pitch_Count.f a0_0 a0_1 a0_2).bind fun t111 => (some (wrap64 (t111 - bt108.1), 0))) else (some (0, 2)))) else (some (0, 2)))) = some (r1, r2) := h
 clear h
 replace H := ob_ H
 obtain ⟨⟨t108, t109⟩, A30, H⟩ := H
 replace H : (if t109 = true then ((pitch_Check.f a0_0 a0_1 a0_2).bind fun t110 => (if t110 = true then ((pitch_Count.f a0_0 a0_1 a0_2).bind fun t111 => (some (wrap64 (t111 - t108), 0))) else (some (0, 2)))) else (some (0, 2))) = some (r1, r2) := H
 have A3 := sd_ A30
 clear A30
 by_cases c4 : t109 = true
 ·subst c4
  have H1 : ((pitch_Check.f a0_0 a0_1 a0_2).bind fun t110 => (if t110 = true then ((pitch_Count.f a0_0 a0_1 a0_2).bind fun t111 => (some (wrap64 (t111 - t108), 0))) else (some (0, 2)))) = some (r1, r2) := by rw [if_pos rfl] at H; exact H
  clear H; have H := H1; clear H1
  replace H := ob_ H
  obtain ⟨t110, A50, H⟩ := H
  replace H : (if t110 = true then ((pitch_Count.f a0_0 a0_1 a0_2).bind fun t111 => (some (wrap64 (t111 - t108), 0))) else (some (0, 2))) = some (r1, r2) := H
  have A5 := sd_ A50
  clear A50
  by_cases c6 : t110 = true
  ·subst c6
   have H1 : ((pitch_Count.f a0_0 a0_1 a0_2).bind fun t111 => (some (wrap64 (t111 - t108), 0))) = some (r1, r2) := by rw [if_pos rfl] at H; exact H
   clear H; have H := H1; clear H1
   replace H := ob_ H
   obtain ⟨t111, A70, H⟩ := H
   replace H : (some (wrap64 (t111 - t108), 0)) = some (r1, r2) := H
   have A7 := sd_ A70
   clear A70
   simp only [Option.some.injEq, Prod.mk.injEq] at H
   obtain ⟨rfl, rfl⟩ := H
   go_enter Tryd.func8, Tryd.ntmps8
   go_wp2_with (first | ((with_reducible refine gate_dst (N := 2) rfl ?_); refine box_event ?hg (N := 2) ?hd (cs := #[.int .i64 a0_0, .int .i64 a0_1, .int .i64 a0_2]) (t := 23) ?hr ?_; (case hd => rfl); (case hg => rfl); (case hr => first | (go_simp; done) | (go_simp; rfl)); intro gb107 hg w8 hbox hb; have BK107 := sd_ hbox; have GW107 := gw_ HB e0_ hg; have GE107 := GW107; replace HB := hb_ HB e0_ hb; clear hb hbox hg) | ((with_reducible refine gate_callee (f := 26) rfl ?_); refine goesL_ (some 10) rfl rfl Tryd.func26 (by kernel_rfl) rfl #[.int .i64 a1] rfl (by (try simp only [lm_, lq_, lx_]); first | done | rfl | (simp only [ld_, lt_]; rfl)) ?_; (with_reducible refine (pitch_middle.calls a1 t108 true _ A3.out).mono ?_); rintro e w' ⟨rfl, ⟨nd, rfl⟩⟩; refine ⟨_, rfl, ?_⟩; have hcz9_0 : w8.cell? ⟨gb107, 0, none⟩ = some (.int .i64 a0_0) := (kc_ BK107.out 0).trans rfl; have hcz9_1 : w8.cell? ⟨gb107, 1, none⟩ = some (.int .i64 a0_1) := (kc_ BK107.out 1).trans rfl; have hcz9_2 : w8.cell? ⟨gb107, 2, none⟩ = some (.int .i64 a0_2) := (kc_ BK107.out 2).trans rfl; have hfz9_0 := kf_ BK107.out 0; have hfz9_1 := kf_ BK107.out 1; have hfz9_2 := kf_ BK107.out 2) | (go_at_call 14; (with_reducible refine (pitch_Check.calls a0_0 a0_1 a0_2 true _ A5.out).mono ?_); rintro e w10 ⟨rfl, hb⟩; replace BK107 := kb_ BK107 hb; replace HB := hb_ HB (e_ GE107 e0_) hb; (try clear hb); (try clear hb2); (try clear hk); (try clear hi); have hcz11_0 : w10.cell? ⟨gb107, 0, none⟩ = some (.int .i64 a0_0) := (kc_ BK107.out 0).trans rfl; have hcz11_1 : w10.cell? ⟨gb107, 1, none⟩ = some (.int .i64 a0_1) := (kc_ BK107.out 1).trans rfl; have hcz11_2 : w10.cell? ⟨gb107, 2, none⟩ = some (.int .i64 a0_2) := (kc_ BK107.out 2).trans rfl; have hfz11_0 := kf_ BK107.out 0; have hfz11_1 := kf_ BK107.out 1; have hfz11_2 := kf_ BK107.out 2) | ((with_reducible refine gate_callee (f := 18) rfl ?_); refine goesL_ (some 21) rfl rfl Tryd.func18 (by kernel_rfl) rfl #[.agg #[.int .i64 a0_0, .int .i64 a0_1, .int .i64 a0_2]] rfl (by (try simp only [lm_, lq_, lx_]); first | done | rfl | (simp only [ld_, lt_]; rfl)) ?_; (with_reducible refine (pitch_Count.calls a0_0 a0_1 a0_2 t111 _ A7.out).mono ?_); rintro e w12 ⟨rfl, hb⟩; refine ⟨_, rfl, ?_⟩; replace BK107 := kb_ BK107 hb; replace HB := hb_ HB (e_ GE107 e0_) hb; (try clear hb); (try clear hb2); (try clear hk); (try clear hi)))
   go_ret2
   exact ⟨by first | rfl | (simp [errW_none, errW_some] <;> rfl) | (simp [*, errW_none, errW_some] <;> rfl), by repeat (first | (with_reducible first | exact HB.out | apply ba_ | apply pd_ | apply d1_ | refine bs_ ?_ GE107.out) | exact HB.out)⟩
  ·replace c6 := bf_ c6
   subst c6
   have H1 : (some (0, 2)) = some (r1, r2) := by rw [if_neg (show ¬ (false = true) by decide)] at H; exact H
   clear H; have H := H1; clear H1
   simp only [Option.some.injEq, Prod.mk.injEq] at H
   obtain ⟨rfl, rfl⟩ := H
   go_enter Tryd.func8, Tryd.ntmps8
   go_wp2_with (first | ((with_reducible refine gate_dst (N := 2) rfl ?_); refine box_event ?hg (N := 2) ?hd (cs := #[.int .i64 a0_0, .int .i64 a0_1, .int .i64 a0_2]) (t := 23) ?hr ?_; (case hd => rfl); (case hg => rfl); (case hr => first | (go_simp; done) | (go_simp; rfl)); intro gb107 hg w13 hbox hb; have BK107 := sd_ hbox; have GW107 := gw_ HB e0_ hg; have GE107 := GW107; replace HB := hb_ HB e0_ hb; clear hb hbox hg) | ((with_reducible refine gate_callee (f := 26) rfl ?_); refine goesL_ (some 10) rfl rfl Tryd.func26 (by kernel_rfl) rfl #[.int .i64 a1] rfl (by (try simp only [lm_, lq_, lx_]); first | done | rfl | (simp only [ld_, lt_]; rfl)) ?_; (with_reducible refine (pitch_middle.calls a1 t108 true _ A3.out).mono ?_); rintro e w' ⟨rfl, ⟨nd, rfl⟩⟩; refine ⟨_, rfl, ?_⟩; have hcz14_0 : w13.cell? ⟨gb107, 0, none⟩ = some (.int .i64 a0_0) := (kc_ BK107.out 0).trans rfl; have hcz14_1 : w13.cell? ⟨gb107, 1, none⟩ = some (.int .i64 a0_1) := (kc_ BK107.out 1).trans rfl; have hcz14_2 : w13.cell? ⟨gb107, 2, none⟩ = some (.int .i64 a0_2) := (kc_ BK107.out 2).trans rfl; have hfz14_0 := kf_ BK107.out 0; have hfz14_1 := kf_ BK107.out 1; have hfz14_2 := kf_ BK107.out 2) | (go_at_call 14; (with_reducible refine (pitch_Check.calls a0_0 a0_1 a0_2 false _ A5.out).mono ?_); rintro e w15 ⟨rfl, hb⟩; replace BK107 := kb_ BK107 hb; replace HB := hb_ HB (e_ GE107 e0_) hb; (try clear hb); (try clear hb2); (try clear hk); (try clear hi)))
   go_ret2
   exact ⟨by first | rfl | (simp [errW_none, errW_some] <;> rfl) | (simp [*, errW_none, errW_some] <;> rfl), by repeat (first | (with_reducible first | exact HB.out | apply ba_ | apply pd_ | apply d1_ | refine bs_ ?_ GE107.out) | exact HB.out)⟩
 ·replace c4 := bf_ c4
  subst c4
  have H1 : (some (0, 2)) = some (r1, r2) := by rw [if_neg (show ¬ (false = true) by decide)] at H; exact H
  clear H; have H := H1; clear H1
  simp only [Option.some.injEq, Prod.mk.injEq] at H
  obtain ⟨rfl, rfl⟩ := H
  go_enter Tryd.func8, Tryd.ntmps8
  go_wp2_with (first | ((with_reducible refine gate_dst (N := 2) rfl ?_); refine box_event ?hg (N := 2) ?hd (cs := #[.int .i64 a0_0, .int .i64 a0_1, .int .i64 a0_2]) (t := 23) ?hr ?_; (case hd => rfl); (case hg => rfl); (case hr => first | (go_simp; done) | (go_simp; rfl)); intro gb107 hg w16 hbox hb; have BK107 := sd_ hbox; have GW107 := gw_ HB e0_ hg; have GE107 := GW107; replace HB := hb_ HB e0_ hb; clear hb hbox hg) | ((with_reducible refine gate_callee (f := 26) rfl ?_); refine goesL_ (some 10) rfl rfl Tryd.func26 (by kernel_rfl) rfl #[.int .i64 a1] rfl (by (try simp only [lm_, lq_, lx_]); first | done | rfl | (simp only [ld_, lt_]; rfl)) ?_; (with_reducible refine (pitch_middle.calls a1 t108 false _ A3.out).mono ?_); rintro e w' ⟨rfl, ⟨nd, rfl⟩⟩; refine ⟨_, rfl, ?_⟩))
  go_ret2
  exact ⟨by first | rfl | (simp [errW_none, errW_some] <;> rfl) | (simp [*, errW_none, errW_some] <;> rfl), by repeat (first | (with_reducible first | exact HB.out | apply ba_ | apply pd_ | apply d1_ | refine bs_ ?_ GE107.out) | exact HB.out)⟩

/-! ### pitch_counted: function 29 -/
def pitch_counted.f (a0 : Int) : Option (Int × Int × Int × Bool) := (pitch_within.f a0 0 69).bind fun t113 => (if t113 = true then (some (Int.tmod a0 7, 0, wrap64 (Int.tdiv a0 7), true)) else (some (0, 0, 0, false)))
set_option maxHeartbeats 8000000 in
set_option maxRecDepth 100000 in
theorem pitch_counted.calls (a0 : Int) (r1 : Int) (r2 : Int) (r3 : Int) (r4 : Bool) (w : World) (h : pitch_counted.f a0 = some (r1, r2, r3, r4)) :
  Calls Tryd.prog 29 #[.int .i64 a0] w fun e w' => e = .returned (.tuple #[.agg #[.int .i64 r1, .int .i64 r2, .int .i64 r3], .bool r4]) ∧ Below w.heap.size w w' := by
 have hu23 := Tryd.underlying23
 have HB := sd_ (Below.refl w.heap.size w)
 have H : ((pitch_within.f a0 0 69).bind fun t113 => (if t113 = true then (some (Int.tmod a0 7, 0, wrap64 (Int.tdiv a0 7), true)) else (some (0, 0, 0, false)))) = some (r1, r2, r3, r4) := h
 clear h
 replace H := ob_ H
 obtain ⟨t113, A20, H⟩ := H
 replace H : (if t113 = true then (some (Int.tmod a0 7, 0, wrap64 (Int.tdiv a0 7), true)) else (some (0, 0, 0, false))) = some (r1, r2, r3, r4) := H
 have A2 := sd_ A20
 clear A20
 by_cases c3 : t113 = true
 ·subst c3
  have H1 : (some (Int.tmod a0 7, 0, wrap64 (Int.tdiv a0 7), true)) = some (r1, r2, r3, r4) := by rw [if_pos rfl] at H; exact H
  clear H; have H := H1; clear H1
  simp only [Option.some.injEq, Prod.mk.injEq] at H
  obtain ⟨rfl, rfl, rfl, rfl⟩ := H
  go_enter Tryd.func29, Tryd.ntmps29
  go_wp2_with (first | ((with_reducible refine gate_dst (N := 2) rfl ?_); refine box_event ?hg (N := 2) ?hd (cs := #[.int .i64 0, .int .i64 0, .int .i64 0]) (t := 23) ?hr ?_; (case hd => rfl); (case hg => rfl); (case hr => first | (go_simp; done) | (go_simp; rfl)); intro gb112 hg w4 hbox hb; have BK112 := sd_ hbox; have GW112 := gw_ HB e0_ hg; have GE112 := GW112; replace HB := hb_ HB e0_ hb; clear hb hbox hg) | ((with_reducible refine gate_callee (f := 28) rfl ?_); refine goesL_ (some 5) rfl rfl Tryd.func28 (by kernel_rfl) rfl #[.int .i64 a0, .int .i64 0, .int .i64 69] rfl (by (try simp only [lm_, lq_, lx_]); first | done | rfl | (simp only [ld_, lt_]; rfl)) ?_; (with_reducible refine (pitch_within.calls a0 0 69 true _ A2.out).mono ?_); rintro e w' ⟨rfl, ⟨nd, rfl⟩⟩; refine ⟨_, rfl, ?_⟩; (repeat (rw [drewN_self w4]; generalize hq_ : World.drewN w4 _ = w4; have n0_ : Aside0 (w4.heap[gb112]? = some (.cells #[.int .i64 0, .int .i64 0, .int .i64 0] 23 (0, 0))) := ⟨by rw [← hq_]; exact (kk_ BK112.out)⟩; have n1_ : Aside0 (Below w.heap.size w w4) := ⟨by rw [← hq_]; exact (bb_ HB.out (e_ GE112 e0_))⟩; clear BK112 HB hq_; have BK112 := n0_; have HB := n1_; clear n0_ n1_)); have hcz5_0 : w4.cell? ⟨gb112, 0, none⟩ = some (.int .i64 0) := (kc_ BK112.out 0).trans rfl; have hcz5_1 : w4.cell? ⟨gb112, 1, none⟩ = some (.int .i64 0) := (kc_ BK112.out 1).trans rfl; have hcz5_2 : w4.cell? ⟨gb112, 2, none⟩ = some (.int .i64 0) := (kc_ BK112.out 2).trans rfl; have hfz5_0 := kf_ BK112.out 0; have hfz5_1 := kf_ BK112.out 1; have hfz5_2 := kf_ BK112.out 2))
  refine bodyPost_ret (results_ct rfl _ _ gb112 23 #[.int .i64 (Int.tmod a0 7), .int .i64 0, .int .i64 (wrap64 (Int.tdiv a0 7))] (0, 0) _ rfl (by (with_reducible repeat first | apply kn_ | apply kd_ | apply ka_); refine blk_put (cs := #[.int .i64 (Int.tmod a0 7), .int .i64 0, .int .i64 0]) ?_ 2 _ rfl; (with_reducible repeat first | apply kn_ | apply kd_ | apply ka_); refine blk_put (cs := #[.int .i64 (Int.tmod a0 7), .int .i64 0, .int .i64 0]) ?_ 1 _ rfl; (with_reducible repeat first | apply kn_ | apply kd_ | apply ka_); refine blk_put (cs := #[.int .i64 0, .int .i64 0, .int .i64 0]) ?_ 0 _ rfl; (with_reducible repeat first | apply kn_ | apply kd_ | apply ka_); exact BK112.out) Tryd.underlying23 rfl (by kernel_rfl)) rfl ?_
  exact ⟨by first | rfl | (simp [errW_none, errW_some] <;> rfl) | (simp [*, errW_none, errW_some] <;> rfl), by repeat (first | (with_reducible first | exact HB.out | apply ba_ | apply pd_ | apply d1_ | refine bs_ ?_ GE112.out) | exact HB.out)⟩
 ·replace c3 := bf_ c3
  subst c3
  have H1 : (some (0, 0, 0, false)) = some (r1, r2, r3, r4) := by rw [if_neg (show ¬ (false = true) by decide)] at H; exact H
  clear H; have H := H1; clear H1
  simp only [Option.some.injEq, Prod.mk.injEq] at H
  obtain ⟨rfl, rfl, rfl, rfl⟩ := H
  go_enter Tryd.func29, Tryd.ntmps29
  go_wp2_with (first | ((with_reducible refine gate_dst (N := 2) rfl ?_); refine box_event ?hg (N := 2) ?hd (cs := #[.int .i64 0, .int .i64 0, .int .i64 0]) (t := 23) ?hr ?_; (case hd => rfl); (case hg => rfl); (case hr => first | (go_simp; done) | (go_simp; rfl)); intro gb112 hg w6 hbox hb; have BK112 := sd_ hbox; have GW112 := gw_ HB e0_ hg; have GE112 := GW112; replace HB := hb_ HB e0_ hb; clear hb hbox hg) | ((with_reducible refine gate_callee (f := 28) rfl ?_); refine goesL_ (some 5) rfl rfl Tryd.func28 (by kernel_rfl) rfl #[.int .i64 a0, .int .i64 0, .int .i64 69] rfl (by (try simp only [lm_, lq_, lx_]); first | done | rfl | (simp only [ld_, lt_]; rfl)) ?_; (with_reducible refine (pitch_within.calls a0 0 69 false _ A2.out).mono ?_); rintro e w' ⟨rfl, ⟨nd, rfl⟩⟩; refine ⟨_, rfl, ?_⟩; (repeat (rw [drewN_self w6]; generalize hq_ : World.drewN w6 _ = w6; have n0_ : Aside0 (w6.heap[gb112]? = some (.cells #[.int .i64 0, .int .i64 0, .int .i64 0] 23 (0, 0))) := ⟨by rw [← hq_]; exact (kk_ BK112.out)⟩; have n1_ : Aside0 (Below w.heap.size w w6) := ⟨by rw [← hq_]; exact (bb_ HB.out (e_ GE112 e0_))⟩; clear BK112 HB hq_; have BK112 := n0_; have HB := n1_; clear n0_ n1_)); have hcz7_0 : w6.cell? ⟨gb112, 0, none⟩ = some (.int .i64 0) := (kc_ BK112.out 0).trans rfl; have hcz7_1 : w6.cell? ⟨gb112, 1, none⟩ = some (.int .i64 0) := (kc_ BK112.out 1).trans rfl; have hcz7_2 : w6.cell? ⟨gb112, 2, none⟩ = some (.int .i64 0) := (kc_ BK112.out 2).trans rfl; have hfz7_0 := kf_ BK112.out 0; have hfz7_1 := kf_ BK112.out 1; have hfz7_2 := kf_ BK112.out 2))
  refine bodyPost_ret (results_ct rfl _ _ gb112 23 #[.int .i64 0, .int .i64 0, .int .i64 0] (0, 0) _ rfl (by (with_reducible repeat first | apply kn_ | apply kd_ | apply ka_); refine blk_put (cs := #[.int .i64 0, .int .i64 0, .int .i64 0]) ?_ 2 _ rfl; (with_reducible repeat first | apply kn_ | apply kd_ | apply ka_); refine blk_put (cs := #[.int .i64 0, .int .i64 0, .int .i64 0]) ?_ 1 _ rfl; (with_reducible repeat first | apply kn_ | apply kd_ | apply ka_); refine blk_put (cs := #[.int .i64 0, .int .i64 0, .int .i64 0]) ?_ 0 _ rfl; (with_reducible repeat first | apply kn_ | apply kd_ | apply ka_); exact BK112.out) Tryd.underlying23 rfl (by kernel_rfl)) rfl ?_
  exact ⟨by first | rfl | (simp [errW_none, errW_some] <;> rfl) | (simp [*, errW_none, errW_some] <;> rfl), by repeat (first | (with_reducible first | exact HB.out | apply ba_ | apply pd_ | apply d1_ | refine bs_ ?_ GE112.out) | exact HB.out)⟩

/-! ### pitch_At: function 10 -/
def pitch_At.f (a0 : Int) (a1 : Int) : Option (Int × Int × Int × Int) := (pitch_middle.f a1).bind fun bt115 => (if bt115.2 = true then ((pitch_within.f a0 (-1000) 1000).bind fun t117 => (if t117 = true then ((pitch_counted.f (wrap64 (bt115.1 + a0))).bind fun bt118 => (if bt118.2.2.2 = true then (some (bt118.1, bt118.2.1, bt118.2.2.1, 0)) else (some (0, 0, 0, 20)))) else (some (0, 0, 0, 20)))) else (some (0, 0, 0, 2)))
set_option maxHeartbeats 8000000 in
set_option maxRecDepth 100000 in
theorem pitch_At.calls (a0 : Int) (a1 : Int) (r1 : Int) (r2 : Int) (r3 : Int) (r4 : Int) (w : World) (h : pitch_At.f a0 a1 = some (r1, r2, r3, r4)) :
  Calls Tryd.prog 10 #[.int .i64 a0, .int .i64 a1] w fun e w' => e = .returned (.tuple #[.agg #[.int .i64 r1, .int .i64 r2, .int .i64 r3], .int .i64 r4]) ∧ Below w.heap.size w w' := by
 have hu23 := Tryd.underlying23
 have HB := sd_ (Below.refl w.heap.size w)
 have H : ((pitch_middle.f a1).bind fun bt115 => (if bt115.2 = true then ((pitch_within.f a0 (-1000) 1000).bind fun t117 => (if t117 = true then ((pitch_counted.f (wrap64 (bt115.1 + a0))).bind fun bt118 => (if bt118.2.2.2 = true then (some (bt118.1, bt118.2.1, bt118.2.2.1, 0)) else (some (0, 0, 0, 20)))) else (some (0, 0, 0, 20)))) else (some (0, 0, 0, 2)))) = some (r1, r2, r3, r4) := h
 clear h
 replace H := ob_ H
 obtain ⟨⟨t115, t116⟩, A30, H⟩ := H
 replace H : (if t116 = true then ((pitch_within.f a0 (-1000) 1000).bind fun t117 => (if t117 = true then ((pitch_counted.f (wrap64 (t115 + a0))).bind fun bt118 => (if bt118.2.2.2 = true then (some (bt118.1, bt118.2.1, bt118.2.2.1, 0)) else (some (0, 0, 0, 20)))) else (some (0, 0, 0, 20)))) else (some (0, 0, 0, 2))) = some (r1, r2, r3, r4) := H
 have A3 := sd_ A30
 clear A30
 by_cases c4 : t116 = true
 ·subst c4
  have H1 : ((pitch_within.f a0 (-1000) 1000).bind fun t117 => (if t117 = true then ((pitch_counted.f (wrap64 (t115 + a0))).bind fun bt118 => (if bt118.2.2.2 = true then (some (bt118.1, bt118.2.1, bt118.2.2.1, 0)) else (some (0, 0, 0, 20)))) else (some (0, 0, 0, 20)))) = some (r1, r2, r3, r4) := by rw [if_pos rfl] at H; exact H
  clear H; have H := H1; clear H1
  replace H := ob_ H
  obtain ⟨t117, A50, H⟩ := H
  replace H : (if t117 = true then ((pitch_counted.f (wrap64 (t115 + a0))).bind fun bt118 => (if bt118.2.2.2 = true then (some (bt118.1, bt118.2.1, bt118.2.2.1, 0)) else (some (0, 0, 0, 20)))) else (some (0, 0, 0, 20))) = some (r1, r2, r3, r4) := H
  have A5 := sd_ A50
  clear A50
  by_cases c6 : t117 = true
  ·subst c6
   have H1 : ((pitch_counted.f (wrap64 (t115 + a0))).bind fun bt118 => (if bt118.2.2.2 = true then (some (bt118.1, bt118.2.1, bt118.2.2.1, 0)) else (some (0, 0, 0, 20)))) = some (r1, r2, r3, r4) := by rw [if_pos rfl] at H; exact H
   clear H; have H := H1; clear H1
   replace H := ob_ H
   obtain ⟨⟨t118, t119, t120, t121⟩, A70, H⟩ := H
   replace H : (if t121 = true then (some (t118, t119, t120, 0)) else (some (0, 0, 0, 20))) = some (r1, r2, r3, r4) := H
   have A7 := sd_ A70
   clear A70
   by_cases c8 : t121 = true
   ·subst c8
    have H1 : (some (t118, t119, t120, 0)) = some (r1, r2, r3, r4) := by rw [if_pos rfl] at H; exact H
    clear H; have H := H1; clear H1
    simp only [Option.some.injEq, Prod.mk.injEq] at H
    obtain ⟨rfl, rfl, rfl, rfl⟩ := H
    go_enter Tryd.func10, Tryd.ntmps10
    go_wp2_with (first | ((with_reducible refine gate_dst (N := 4) rfl ?_); refine box_event ?hg (N := 4) ?hd (cs := #[.int .i64 0, .int .i64 0, .int .i64 0]) (t := 23) ?hr ?_; (case hd => rfl); (case hg => rfl); (case hr => first | (go_simp; done) | (go_simp; rfl)); intro gb114 hg w9 hbox hb; have BK114 := sd_ hbox; have GW114 := gw_ HB e0_ hg; have GE114 := GW114; replace HB := hb_ HB e0_ hb; clear hb hbox hg) | ((with_reducible refine gate_callee (f := 26) rfl ?_); refine goesL_ (some 11) rfl rfl Tryd.func26 (by kernel_rfl) rfl #[.int .i64 a1] rfl (by (try simp only [lm_, lq_, lx_]); first | done | rfl | (simp only [ld_, lt_]; rfl)) ?_; (with_reducible refine (pitch_middle.calls a1 t115 true _ A3.out).mono ?_); rintro e w' ⟨rfl, ⟨nd, rfl⟩⟩; refine ⟨_, rfl, ?_⟩; (repeat (rw [drewN_self w9]; generalize hq_ : World.drewN w9 _ = w9; have n0_ : Aside0 (w9.heap[gb114]? = some (.cells #[.int .i64 0, .int .i64 0, .int .i64 0] 23 (0, 0))) := ⟨by rw [← hq_]; exact (kk_ BK114.out)⟩; have n1_ : Aside0 (Below w.heap.size w w9) := ⟨by rw [← hq_]; exact (bb_ HB.out (e_ GE114 e0_))⟩; clear BK114 HB hq_; have BK114 := n0_; have HB := n1_; clear n0_ n1_))) | ((with_reducible refine gate_callee (f := 28) rfl ?_); refine goesL_ (some 18) rfl rfl Tryd.func28 (by kernel_rfl) rfl #[.int .i64 a0, .int .i64 (-1000), .int .i64 1000] rfl (by (try simp only [lm_, lq_, lx_]); first | done | rfl | (simp only [ld_, lt_]; rfl)) ?_; (with_reducible refine (pitch_within.calls a0 (-1000) 1000 true _ A5.out).mono ?_); rintro e w' ⟨rfl, ⟨nd, rfl⟩⟩; refine ⟨_, rfl, ?_⟩; (repeat (rw [drewN_self w9]; generalize hq_ : World.drewN w9 _ = w9; have n0_ : Aside0 (w9.heap[gb114]? = some (.cells #[.int .i64 0, .int .i64 0, .int .i64 0] 23 (0, 0))) := ⟨by rw [← hq_]; exact (kk_ BK114.out)⟩; have n1_ : Aside0 (Below w.heap.size w w9) := ⟨by rw [← hq_]; exact (bb_ HB.out (e_ GE114 e0_))⟩; clear BK114 HB hq_; have BK114 := n0_; have HB := n1_; clear n0_ n1_))) | ((with_reducible refine gate_callee (f := 29) rfl ?_); refine goesL_ (some 25) rfl rfl Tryd.func29 (by kernel_rfl) rfl #[.int .i64 (wrap64 (t115 + a0))] rfl (by (try simp only [lm_, lq_, lx_]); first | done | rfl | (simp only [ld_, lt_]; rfl)) ?_; (with_reducible refine (pitch_counted.calls (wrap64 (t115 + a0)) t118 t119 t120 true _ A7.out).mono ?_); rintro e w10 ⟨rfl, hb⟩; refine ⟨_, rfl, ?_⟩; replace BK114 := kb_ BK114 hb; replace HB := hb_ HB (e_ GE114 e0_) hb; (try clear hb); (try clear hb2); (try clear hk); (try clear hi)) | ((with_reducible refine gate_dst (N := 8) rfl ?_); refine box_event ?hg (N := 8) ?hd (cs := #[.int .i64 0, .int .i64 0, .int .i64 0]) (t := 23) ?hr ?_; (case hd => rfl); (case hg => rfl); (case hr => first | (go_simp; done) | (go_simp; rfl)); intro gb122 hg w11 hbox hb; have BK122 := sd_ hbox; have GW122 := gw_ HB (e_ GE114 e0_) hg; have GE122 := GW122; have NB114_122 := nb_ BK114 hg; have NB122_114 := sy_ NB114_122; replace BK114 := kb_ BK114 hb; replace HB := hb_ HB (e_ GE114 e0_) hb; clear hb hbox hg; have hnb12 := NB122_114.out; have hnc12 := NB114_122.out; have hcz13_0 : w11.cell? ⟨gb122, 0, none⟩ = some (.int .i64 0) := (kc_ BK122.out 0).trans rfl; have hcz13_1 : w11.cell? ⟨gb122, 1, none⟩ = some (.int .i64 0) := (kc_ BK122.out 1).trans rfl; have hcz13_2 : w11.cell? ⟨gb122, 2, none⟩ = some (.int .i64 0) := (kc_ BK122.out 2).trans rfl; have hfz13_0 := kf_ BK122.out 0; have hfz13_1 := kf_ BK122.out 1; have hfz13_2 := kf_ BK122.out 2; have hcz14_0 : w11.cell? ⟨gb114, 0, none⟩ = some (.int .i64 0) := (kc_ BK114.out 0).trans rfl; have hcz14_1 : w11.cell? ⟨gb114, 1, none⟩ = some (.int .i64 0) := (kc_ BK114.out 1).trans rfl; have hcz14_2 : w11.cell? ⟨gb114, 2, none⟩ = some (.int .i64 0) := (kc_ BK114.out 2).trans rfl; have hfz14_0 := kf_ BK114.out 0; have hfz14_1 := kf_ BK114.out 1; have hfz14_2 := kf_ BK114.out 2))
    refine bodyPost_ret (results_ct rfl _ _ gb114 23 #[.int .i64 t118, .int .i64 t119, .int .i64 t120] (0, 0) _ rfl (by (with_reducible repeat first | apply kn_ | apply kd_ | apply ka_); refine blk_put (cs := #[.int .i64 t118, .int .i64 t119, .int .i64 0]) ?_ 2 _ rfl; (with_reducible repeat first | apply kn_ | apply kd_ | apply ka_); refine blk_put (cs := #[.int .i64 t118, .int .i64 0, .int .i64 0]) ?_ 1 _ rfl; (with_reducible repeat first | apply kn_ | apply kd_ | apply ka_); refine blk_put (cs := #[.int .i64 0, .int .i64 0, .int .i64 0]) ?_ 0 _ rfl; (with_reducible repeat first | apply kn_ | apply kd_ | apply ka_); refine blk_far ?_ NB114_122.out _; (with_reducible repeat first | apply kn_ | apply kd_ | apply ka_); refine blk_far ?_ NB114_122.out _; (with_reducible repeat first | apply kn_ | apply kd_ | apply ka_); refine blk_far ?_ NB114_122.out _; (with_reducible repeat first | apply kn_ | apply kd_ | apply ka_); exact BK114.out) Tryd.underlying23 rfl (by kernel_rfl)) rfl ?_
    exact ⟨by first | rfl | (simp [errW_none, errW_some] <;> rfl) | (simp [*, errW_none, errW_some] <;> rfl), by repeat (first | (with_reducible first | exact HB.out | apply ba_ | apply pd_ | apply d1_ | refine bs_ ?_ GE114.out | refine bs_ ?_ GE122.out) | exact HB.out)⟩
   ·replace c8 := bf_ c8
    subst c8
    have H1 : (some (0, 0, 0, 20)) = some (r1, r2, r3, r4) := by rw [if_neg (show ¬ (false = true) by decide)] at H; exact H
    clear H; have H := H1; clear H1
    simp only [Option.some.injEq, Prod.mk.injEq] at H
    obtain ⟨rfl, rfl, rfl, rfl⟩ := H
    go_enter Tryd.func10, Tryd.ntmps10
    go_wp2_with (first | ((with_reducible refine gate_dst (N := 4) rfl ?_); refine box_event ?hg (N := 4) ?hd (cs := #[.int .i64 0, .int .i64 0, .int .i64 0]) (t := 23) ?hr ?_; (case hd => rfl); (case hg => rfl); (case hr => first | (go_simp; done) | (go_simp; rfl)); intro gb114 hg w15 hbox hb; have BK114 := sd_ hbox; have GW114 := gw_ HB e0_ hg; have GE114 := GW114; replace HB := hb_ HB e0_ hb; clear hb hbox hg) | ((with_reducible refine gate_callee (f := 26) rfl ?_); refine goesL_ (some 11) rfl rfl Tryd.func26 (by kernel_rfl) rfl #[.int .i64 a1] rfl (by (try simp only [lm_, lq_, lx_]); first | done | rfl | (simp only [ld_, lt_]; rfl)) ?_; (with_reducible refine (pitch_middle.calls a1 t115 true _ A3.out).mono ?_); rintro e w' ⟨rfl, ⟨nd, rfl⟩⟩; refine ⟨_, rfl, ?_⟩; (repeat (rw [drewN_self w15]; generalize hq_ : World.drewN w15 _ = w15; have n0_ : Aside0 (w15.heap[gb114]? = some (.cells #[.int .i64 0, .int .i64 0, .int .i64 0] 23 (0, 0))) := ⟨by rw [← hq_]; exact (kk_ BK114.out)⟩; have n1_ : Aside0 (Below w.heap.size w w15) := ⟨by rw [← hq_]; exact (bb_ HB.out (e_ GE114 e0_))⟩; clear BK114 HB hq_; have BK114 := n0_; have HB := n1_; clear n0_ n1_))) | ((with_reducible refine gate_callee (f := 28) rfl ?_); refine goesL_ (some 18) rfl rfl Tryd.func28 (by kernel_rfl) rfl #[.int .i64 a0, .int .i64 (-1000), .int .i64 1000] rfl (by (try simp only [lm_, lq_, lx_]); first | done | rfl | (simp only [ld_, lt_]; rfl)) ?_; (with_reducible refine (pitch_within.calls a0 (-1000) 1000 true _ A5.out).mono ?_); rintro e w' ⟨rfl, ⟨nd, rfl⟩⟩; refine ⟨_, rfl, ?_⟩; (repeat (rw [drewN_self w15]; generalize hq_ : World.drewN w15 _ = w15; have n0_ : Aside0 (w15.heap[gb114]? = some (.cells #[.int .i64 0, .int .i64 0, .int .i64 0] 23 (0, 0))) := ⟨by rw [← hq_]; exact (kk_ BK114.out)⟩; have n1_ : Aside0 (Below w.heap.size w w15) := ⟨by rw [← hq_]; exact (bb_ HB.out (e_ GE114 e0_))⟩; clear BK114 HB hq_; have BK114 := n0_; have HB := n1_; clear n0_ n1_))) | ((with_reducible refine gate_callee (f := 29) rfl ?_); refine goesL_ (some 25) rfl rfl Tryd.func29 (by kernel_rfl) rfl #[.int .i64 (wrap64 (t115 + a0))] rfl (by (try simp only [lm_, lq_, lx_]); first | done | rfl | (simp only [ld_, lt_]; rfl)) ?_; (with_reducible refine (pitch_counted.calls (wrap64 (t115 + a0)) t118 t119 t120 false _ A7.out).mono ?_); rintro e w16 ⟨rfl, hb⟩; refine ⟨_, rfl, ?_⟩; replace BK114 := kb_ BK114 hb; replace HB := hb_ HB (e_ GE114 e0_) hb; (try clear hb); (try clear hb2); (try clear hk); (try clear hi)) | ((with_reducible refine gate_dst (N := 8) rfl ?_); refine box_event ?hg (N := 8) ?hd (cs := #[.int .i64 0, .int .i64 0, .int .i64 0]) (t := 23) ?hr ?_; (case hd => rfl); (case hg => rfl); (case hr => first | (go_simp; done) | (go_simp; rfl)); intro gb122 hg w17 hbox hb; have BK122 := sd_ hbox; have GW122 := gw_ HB (e_ GE114 e0_) hg; have GE122 := GW122; have NB114_122 := nb_ BK114 hg; have NB122_114 := sy_ NB114_122; replace BK114 := kb_ BK114 hb; replace HB := hb_ HB (e_ GE114 e0_) hb; clear hb hbox hg; have hnb18 := NB122_114.out; have hnc18 := NB114_122.out; have hcz19_0 : w17.cell? ⟨gb122, 0, none⟩ = some (.int .i64 0) := (kc_ BK122.out 0).trans rfl; have hcz19_1 : w17.cell? ⟨gb122, 1, none⟩ = some (.int .i64 0) := (kc_ BK122.out 1).trans rfl; have hcz19_2 : w17.cell? ⟨gb122, 2, none⟩ = some (.int .i64 0) := (kc_ BK122.out 2).trans rfl; have hfz19_0 := kf_ BK122.out 0; have hfz19_1 := kf_ BK122.out 1; have hfz19_2 := kf_ BK122.out 2; have hcz20_0 : w17.cell? ⟨gb114, 0, none⟩ = some (.int .i64 0) := (kc_ BK114.out 0).trans rfl; have hcz20_1 : w17.cell? ⟨gb114, 1, none⟩ = some (.int .i64 0) := (kc_ BK114.out 1).trans rfl; have hcz20_2 : w17.cell? ⟨gb114, 2, none⟩ = some (.int .i64 0) := (kc_ BK114.out 2).trans rfl; have hfz20_0 := kf_ BK114.out 0; have hfz20_1 := kf_ BK114.out 1; have hfz20_2 := kf_ BK114.out 2))
    refine bodyPost_ret (results_ct rfl _ _ gb114 23 #[.int .i64 0, .int .i64 0, .int .i64 0] (0, 0) _ rfl (by (with_reducible repeat first | apply kn_ | apply kd_ | apply ka_); refine blk_put (cs := #[.int .i64 0, .int .i64 0, .int .i64 0]) ?_ 2 _ rfl; (with_reducible repeat first | apply kn_ | apply kd_ | apply ka_); refine blk_put (cs := #[.int .i64 0, .int .i64 0, .int .i64 0]) ?_ 1 _ rfl; (with_reducible repeat first | apply kn_ | apply kd_ | apply ka_); refine blk_put (cs := #[.int .i64 0, .int .i64 0, .int .i64 0]) ?_ 0 _ rfl; (with_reducible repeat first | apply kn_ | apply kd_ | apply ka_); refine blk_far ?_ NB114_122.out _; (with_reducible repeat first | apply kn_ | apply kd_ | apply ka_); refine blk_far ?_ NB114_122.out _; (with_reducible repeat first | apply kn_ | apply kd_ | apply ka_); refine blk_far ?_ NB114_122.out _; (with_reducible repeat first | apply kn_ | apply kd_ | apply ka_); exact BK114.out) Tryd.underlying23 rfl (by kernel_rfl)) rfl ?_
    exact ⟨by first | rfl | (simp [errW_none, errW_some] <;> rfl) | (simp [*, errW_none, errW_some] <;> rfl), by repeat (first | (with_reducible first | exact HB.out | apply ba_ | apply pd_ | apply d1_ | refine bs_ ?_ GE114.out | refine bs_ ?_ GE122.out) | exact HB.out)⟩
  ·replace c6 := bf_ c6
   subst c6
   have H1 : (some (0, 0, 0, 20)) = some (r1, r2, r3, r4) := by rw [if_neg (show ¬ (false = true) by decide)] at H; exact H
   clear H; have H := H1; clear H1
   simp only [Option.some.injEq, Prod.mk.injEq] at H
   obtain ⟨rfl, rfl, rfl, rfl⟩ := H
   go_enter Tryd.func10, Tryd.ntmps10
   go_wp2_with (first | ((with_reducible refine gate_dst (N := 4) rfl ?_); refine box_event ?hg (N := 4) ?hd (cs := #[.int .i64 0, .int .i64 0, .int .i64 0]) (t := 23) ?hr ?_; (case hd => rfl); (case hg => rfl); (case hr => first | (go_simp; done) | (go_simp; rfl)); intro gb114 hg w21 hbox hb; have BK114 := sd_ hbox; have GW114 := gw_ HB e0_ hg; have GE114 := GW114; replace HB := hb_ HB e0_ hb; clear hb hbox hg) | ((with_reducible refine gate_callee (f := 26) rfl ?_); refine goesL_ (some 11) rfl rfl Tryd.func26 (by kernel_rfl) rfl #[.int .i64 a1] rfl (by (try simp only [lm_, lq_, lx_]); first | done | rfl | (simp only [ld_, lt_]; rfl)) ?_; (with_reducible refine (pitch_middle.calls a1 t115 true _ A3.out).mono ?_); rintro e w' ⟨rfl, ⟨nd, rfl⟩⟩; refine ⟨_, rfl, ?_⟩; (repeat (rw [drewN_self w21]; generalize hq_ : World.drewN w21 _ = w21; have n0_ : Aside0 (w21.heap[gb114]? = some (.cells #[.int .i64 0, .int .i64 0, .int .i64 0] 23 (0, 0))) := ⟨by rw [← hq_]; exact (kk_ BK114.out)⟩; have n1_ : Aside0 (Below w.heap.size w w21) := ⟨by rw [← hq_]; exact (bb_ HB.out (e_ GE114 e0_))⟩; clear BK114 HB hq_; have BK114 := n0_; have HB := n1_; clear n0_ n1_))) | ((with_reducible refine gate_callee (f := 28) rfl ?_); refine goesL_ (some 18) rfl rfl Tryd.func28 (by kernel_rfl) rfl #[.int .i64 a0, .int .i64 (-1000), .int .i64 1000] rfl (by (try simp only [lm_, lq_, lx_]); first | done | rfl | (simp only [ld_, lt_]; rfl)) ?_; (with_reducible refine (pitch_within.calls a0 (-1000) 1000 false _ A5.out).mono ?_); rintro e w' ⟨rfl, ⟨nd, rfl⟩⟩; refine ⟨_, rfl, ?_⟩; (repeat (rw [drewN_self w21]; generalize hq_ : World.drewN w21 _ = w21; have n0_ : Aside0 (w21.heap[gb114]? = some (.cells #[.int .i64 0, .int .i64 0, .int .i64 0] 23 (0, 0))) := ⟨by rw [← hq_]; exact (kk_ BK114.out)⟩; have n1_ : Aside0 (Below w.heap.size w w21) := ⟨by rw [← hq_]; exact (bb_ HB.out (e_ GE114 e0_))⟩; clear BK114 HB hq_; have BK114 := n0_; have HB := n1_; clear n0_ n1_)); have hcz22_0 : w21.cell? ⟨gb114, 0, none⟩ = some (.int .i64 0) := (kc_ BK114.out 0).trans rfl; have hcz22_1 : w21.cell? ⟨gb114, 1, none⟩ = some (.int .i64 0) := (kc_ BK114.out 1).trans rfl; have hcz22_2 : w21.cell? ⟨gb114, 2, none⟩ = some (.int .i64 0) := (kc_ BK114.out 2).trans rfl; have hfz22_0 := kf_ BK114.out 0; have hfz22_1 := kf_ BK114.out 1; have hfz22_2 := kf_ BK114.out 2))
   refine bodyPost_ret (results_ct rfl _ _ gb114 23 #[.int .i64 0, .int .i64 0, .int .i64 0] (0, 0) _ rfl (by (with_reducible repeat first | apply kn_ | apply kd_ | apply ka_); refine blk_put (cs := #[.int .i64 0, .int .i64 0, .int .i64 0]) ?_ 2 _ rfl; (with_reducible repeat first | apply kn_ | apply kd_ | apply ka_); refine blk_put (cs := #[.int .i64 0, .int .i64 0, .int .i64 0]) ?_ 1 _ rfl; (with_reducible repeat first | apply kn_ | apply kd_ | apply ka_); refine blk_put (cs := #[.int .i64 0, .int .i64 0, .int .i64 0]) ?_ 0 _ rfl; (with_reducible repeat first | apply kn_ | apply kd_ | apply ka_); exact BK114.out) Tryd.underlying23 rfl (by kernel_rfl)) rfl ?_
   exact ⟨by first | rfl | (simp [errW_none, errW_some] <;> rfl) | (simp [*, errW_none, errW_some] <;> rfl), by repeat (first | (with_reducible first | exact HB.out | apply ba_ | apply pd_ | apply d1_ | refine bs_ ?_ GE114.out) | exact HB.out)⟩
 ·replace c4 := bf_ c4
  subst c4
  have H1 : (some (0, 0, 0, 2)) = some (r1, r2, r3, r4) := by rw [if_neg (show ¬ (false = true) by decide)] at H; exact H
  clear H; have H := H1; clear H1
  simp only [Option.some.injEq, Prod.mk.injEq] at H
  obtain ⟨rfl, rfl, rfl, rfl⟩ := H
  go_enter Tryd.func10, Tryd.ntmps10
  go_wp2_with (first | ((with_reducible refine gate_dst (N := 4) rfl ?_); refine box_event ?hg (N := 4) ?hd (cs := #[.int .i64 0, .int .i64 0, .int .i64 0]) (t := 23) ?hr ?_; (case hd => rfl); (case hg => rfl); (case hr => first | (go_simp; done) | (go_simp; rfl)); intro gb114 hg w23 hbox hb; have BK114 := sd_ hbox; have GW114 := gw_ HB e0_ hg; have GE114 := GW114; replace HB := hb_ HB e0_ hb; clear hb hbox hg) | ((with_reducible refine gate_callee (f := 26) rfl ?_); refine goesL_ (some 11) rfl rfl Tryd.func26 (by kernel_rfl) rfl #[.int .i64 a1] rfl (by (try simp only [lm_, lq_, lx_]); first | done | rfl | (simp only [ld_, lt_]; rfl)) ?_; (with_reducible refine (pitch_middle.calls a1 t115 false _ A3.out).mono ?_); rintro e w' ⟨rfl, ⟨nd, rfl⟩⟩; refine ⟨_, rfl, ?_⟩; (repeat (rw [drewN_self w23]; generalize hq_ : World.drewN w23 _ = w23; have n0_ : Aside0 (w23.heap[gb114]? = some (.cells #[.int .i64 0, .int .i64 0, .int .i64 0] 23 (0, 0))) := ⟨by rw [← hq_]; exact (kk_ BK114.out)⟩; have n1_ : Aside0 (Below w.heap.size w w23) := ⟨by rw [← hq_]; exact (bb_ HB.out (e_ GE114 e0_))⟩; clear BK114 HB hq_; have BK114 := n0_; have HB := n1_; clear n0_ n1_)); have hcz24_0 : w23.cell? ⟨gb114, 0, none⟩ = some (.int .i64 0) := (kc_ BK114.out 0).trans rfl; have hcz24_1 : w23.cell? ⟨gb114, 1, none⟩ = some (.int .i64 0) := (kc_ BK114.out 1).trans rfl; have hcz24_2 : w23.cell? ⟨gb114, 2, none⟩ = some (.int .i64 0) := (kc_ BK114.out 2).trans rfl; have hfz24_0 := kf_ BK114.out 0; have hfz24_1 := kf_ BK114.out 1; have hfz24_2 := kf_ BK114.out 2))
  refine bodyPost_ret (results_ct rfl _ _ gb114 23 #[.int .i64 0, .int .i64 0, .int .i64 0] (0, 0) _ rfl (by (with_reducible repeat first | apply kn_ | apply kd_ | apply ka_); refine blk_put (cs := #[.int .i64 0, .int .i64 0, .int .i64 0]) ?_ 2 _ rfl; (with_reducible repeat first | apply kn_ | apply kd_ | apply ka_); refine blk_put (cs := #[.int .i64 0, .int .i64 0, .int .i64 0]) ?_ 1 _ rfl; (with_reducible repeat first | apply kn_ | apply kd_ | apply ka_); refine blk_put (cs := #[.int .i64 0, .int .i64 0, .int .i64 0]) ?_ 0 _ rfl; (with_reducible repeat first | apply kn_ | apply kd_ | apply ka_); exact BK114.out) Tryd.underlying23 rfl (by kernel_rfl)) rfl ?_
  exact ⟨by first | rfl | (simp [errW_none, errW_some] <;> rfl) | (simp [*, errW_none, errW_some] <;> rfl), by repeat (first | (with_reducible first | exact HB.out | apply ba_ | apply pd_ | apply d1_ | refine bs_ ?_ GE114.out) | exact HB.out)⟩

/-! ### strings_Repeat: function 34 -/
def strings_Repeat.f (a0 : ByteArray) (a1 : Int) : Option ByteArray := if 0 ≤ a1 then (if a1 ≤ 9223372036854775807 then (if a0.size * a1.toNat ≤ 140737488355328 then some ⟨(Lib.repeatL a0.data.toList a1.toNat).toArray⟩ else none) else none) else none
theorem strings_Repeat.calls (a0 : ByteArray) (a1 : Int) (r : ByteArray) (w : World) (h : strings_Repeat.f a0 a1 = some r) :
  Calls Tryd.prog 34 #[.string a0, .int .i64 a1] w fun e w' => e = .returned (.string r) ∧ Below w.heap.size w w' := by
 unfold strings_Repeat.f at h
 split at h
 ·split at h
  ·split at h
   ·rename_i h1 h2 h3
    obtain rfl := Option.some.inj h
    have := Tryd.strings_Repeat a0 a1.toNat w (by omega) h3
    rw [Int.toNat_of_nonneg h1] at this
    exact this
   ·cases h
  ·cases h
 ·cases h

/-! ### pitch_ending: function 35 -/
def pitch_ending.f (a0 : Int) : Option (ByteArray) := if a0 < 0 then ((strings_Repeat.f (⟨#[101, 115]⟩ : ByteArray) (wrap64 (-a0))).bind fun t123 => (some t123)) else ((strings_Repeat.f (⟨#[105, 115]⟩ : ByteArray) a0).bind fun t124 => (some t124))
set_option maxHeartbeats 8000000 in
set_option maxRecDepth 100000 in
theorem pitch_ending.calls (a0 : Int) (r : ByteArray) (w : World) (h : pitch_ending.f a0 = some r) :
  Calls Tryd.prog 35 #[.int .i64 a0] w fun e w' => e = .returned (.string r) ∧ Below w.heap.size w w' := by
 have HB := sd_ (Below.refl w.heap.size w)
 have H : (if a0 < 0 then ((strings_Repeat.f (⟨#[101, 115]⟩ : ByteArray) (wrap64 (-a0))).bind fun t123 => (some t123)) else ((strings_Repeat.f (⟨#[105, 115]⟩ : ByteArray) a0).bind fun t124 => (some t124))) = some r := h
 clear h
 by_cases c2 : a0 < 0
 ·rw [if_pos c2] at H
  have c2b0 : decide (a0 < 0) = true := dt_ c2
  clear c2
  replace H := ob_ H
  obtain ⟨t123, A30, H⟩ := H
  replace H : (some t123) = some r := H
  have A3 := sd_ A30
  clear A30
  obtain rfl := Option.some.inj H
  go_enter Tryd.func35, Tryd.ntmps35
  go_wp2_with (first | ((with_reducible refine gate_callee (f := 34) rfl ?_); refine goesL_ (some 7) rfl rfl Tryd.func34 (by kernel_rfl) rfl #[.string (⟨#[101, 115]⟩ : ByteArray), .int .i64 (wrap64 (-a0))] rfl (by (try simp only [lm_, lq_, lx_]); first | done | rfl | (simp only [ld_, lt_]; rfl)) ?_; (with_reducible refine (strings_Repeat.calls (⟨#[101, 115]⟩ : ByteArray) (wrap64 (-a0)) t123 _ A3.out).mono ?_); rintro e w4 ⟨rfl, hb⟩; refine ⟨_, rfl, ?_⟩; replace HB := hb_ HB e0_ hb; (try clear hb); (try clear hb2); (try clear hk); (try clear hi)))
  go_ret
  exact ⟨by first | rfl | (simp [errW_none, errW_some] <;> rfl) | (simp [*, errW_none, errW_some] <;> rfl), by repeat (first | (with_reducible first | exact HB.out | apply ba_ | apply pd_ | apply d1_) | exact HB.out)⟩
 ·rw [if_neg c2] at H
  have c2b0 : decide (a0 < 0) = false := df_ c2
  clear c2
  replace H := ob_ H
  obtain ⟨t124, A50, H⟩ := H
  replace H : (some t124) = some r := H
  have A5 := sd_ A50
  clear A50
  obtain rfl := Option.some.inj H
  go_enter Tryd.func35, Tryd.ntmps35
  go_wp2_with (first | ((with_reducible refine gate_callee (f := 34) rfl ?_); refine goesL_ (some 9) rfl rfl Tryd.func34 (by kernel_rfl) rfl #[.string (⟨#[105, 115]⟩ : ByteArray), .int .i64 a0] rfl (by (try simp only [lm_, lq_, lx_]); first | done | rfl | (simp only [ld_, lt_]; rfl)) ?_; (with_reducible refine (strings_Repeat.calls (⟨#[105, 115]⟩ : ByteArray) a0 t124 _ A5.out).mono ?_); rintro e w6 ⟨rfl, hb⟩; refine ⟨_, rfl, ?_⟩; replace HB := hb_ HB e0_ hb; (try clear hb); (try clear hb2); (try clear hk); (try clear hi)))
  go_ret
  exact ⟨by first | rfl | (simp [errW_none, errW_some] <;> rfl) | (simp [*, errW_none, errW_some] <;> rfl), by repeat (first | (with_reducible first | exact HB.out | apply ba_ | apply pd_ | apply d1_) | exact HB.out)⟩

/-! ### pitch_Name: function 20 -/
def pitch_Name.f (a0_0 : Int) (a0_1 : Int) (a0_2 : Int) : Option (ByteArray) := (pitch_Check.f a0_0 a0_1 a0_2).bind fun t126 => (if t126 = true then ((strings_Repeat.f (⟨#[39]⟩ : ByteArray) (mx 0 (wrap64 (a0_2 - 3)))).bind fun t127 => ((strings_Repeat.f (⟨#[44]⟩ : ByteArray) (mx 0 (wrap64 (3 - a0_2)))).bind fun t128 => (if t127.size + t128.size ≤ 9223372036854775807 then (if 0 ≤ a0_0 then (if a0_0 ≤ (wrap64 (a0_0 + 1)) then (if (wrap64 (a0_0 + 1)) ≤ 7 then ((pitch_ending.f a0_1).bind fun t129 => (if ((⟨#[99, 100, 101, 102, 103, 97, 98]⟩ : ByteArray).extract (a0_0 : Int).toNat ((wrap64 (a0_0 + 1)) : Int).toNat).size + t129.size ≤ 9223372036854775807 then (if ((⟨#[99, 100, 101, 102, 103, 97, 98]⟩ : ByteArray).extract (a0_0 : Int).toNat ((wrap64 (a0_0 + 1)) : Int).toNat).size + t129.size + (t127.size + t128.size) ≤ 9223372036854775807 then (some ((((⟨#[99, 100, 101, 102, 103, 97, 98]⟩ : ByteArray).extract (a0_0 : Int).toNat ((wrap64 (a0_0 + 1)) : Int).toNat) ++ t129) ++ (t127 ++ t128))) else (none)) else (none))) else (none)) else (none)) else (none)) else (none)))) else (some (⟨#[]⟩ : ByteArray)))
def pitch_Name.T3 : Bool × List (List Nat × List Nat) := (true, [([], []), ([0], [0]), ([1], [1]), ([2], [2]), ([3], [3]), ([], []), ([5], [5]), ([6], [6]), ([7], [7]), ([8, 4], [8]), ([4, 9], [4, 9]), ([10, 9, 0, 1, 2, 3, 4, 5, 6, 7, 8, 9, 10], [10])])
def pitch_Name.B3 : List Nat := [0, 1, 3, 7, 15, 0, 32, 96, 224, 511, 1023, 2047]
theorem pitch_Name.tab3 : rtab .any (opsOf Tryd.f20 3) = pitch_Name.T3 := by kernel_rfl
theorem pitch_Name.bits3 : waitsOk pitch_Name.T3.2 pitch_Name.B3 = true := by kernel_rfl
def pitch_Name.T4 : Bool × List (List Nat × List Nat) := (true, [([], []), ([0], [0]), ([], []), ([2], [2]), ([3], [3]), ([1, 4], [1, 4]), ([], []), ([6], [6]), ([7], [7]), ([5, 8], [5, 8]), ([], []), ([9, 10], [9, 10]), ([11, 8, 0, 1, 2, 3, 4, 5, 6, 7, 8, 9, 10, 11], [11])])
def pitch_Name.B4 : List Nat := [0, 1, 0, 4, 12, 31, 0, 64, 192, 511, 0, 2047, 4095]
theorem pitch_Name.tab4 : rtab .any (opsOf Tryd.f20 4) = pitch_Name.T4 := by kernel_rfl
theorem pitch_Name.bits4 : waitsOk pitch_Name.T4.2 pitch_Name.B4 = true := by kernel_rfl
set_option maxHeartbeats 8000000 in
set_option maxRecDepth 100000 in
theorem pitch_Name.calls (a0_0 : Int) (a0_1 : Int) (a0_2 : Int) (r : ByteArray) (w : World) (h : pitch_Name.f a0_0 a0_1 a0_2 = some r) :
  Calls Tryd.prog 20 #[.agg #[.int .i64 a0_0, .int .i64 a0_1, .int .i64 a0_2]] w fun e w' => e = .returned (.string r) ∧ Below w.heap.size w w' := by
 have hu23 := Tryd.underlying23
 have HB := sd_ (Below.refl w.heap.size w)
 have H : ((pitch_Check.f a0_0 a0_1 a0_2).bind fun t126 => (if t126 = true then ((strings_Repeat.f (⟨#[39]⟩ : ByteArray) (mx 0 (wrap64 (a0_2 - 3)))).bind fun t127 => ((strings_Repeat.f (⟨#[44]⟩ : ByteArray) (mx 0 (wrap64 (3 - a0_2)))).bind fun t128 => (if t127.size + t128.size ≤ 9223372036854775807 then (if 0 ≤ a0_0 then (if a0_0 ≤ (wrap64 (a0_0 + 1)) then (if (wrap64 (a0_0 + 1)) ≤ 7 then ((pitch_ending.f a0_1).bind fun t129 => (if ((⟨#[99, 100, 101, 102, 103, 97, 98]⟩ : ByteArray).extract (a0_0 : Int).toNat ((wrap64 (a0_0 + 1)) : Int).toNat).size + t129.size ≤ 9223372036854775807 then (if ((⟨#[99, 100, 101, 102, 103, 97, 98]⟩ : ByteArray).extract (a0_0 : Int).toNat ((wrap64 (a0_0 + 1)) : Int).toNat).size + t129.size + (t127.size + t128.size) ≤ 9223372036854775807 then (some ((((⟨#[99, 100, 101, 102, 103, 97, 98]⟩ : ByteArray).extract (a0_0 : Int).toNat ((wrap64 (a0_0 + 1)) : Int).toNat) ++ t129) ++ (t127 ++ t128))) else (none)) else (none))) else (none)) else (none)) else (none)) else (none)))) else (some (⟨#[]⟩ : ByteArray)))) = some r := h
 clear h
 replace H := ob_ H
 obtain ⟨t126, A20, H⟩ := H
 replace H : (if t126 = true then ((strings_Repeat.f (⟨#[39]⟩ : ByteArray) (mx 0 (wrap64 (a0_2 - 3)))).bind fun t127 => ((strings_Repeat.f (⟨#[44]⟩ : ByteArray) (mx 0 (wrap64 (3 - a0_2)))).bind fun t128 => (if t127.size + t128.size ≤ 9223372036854775807 then (if 0 ≤ a0_0 then (if a0_0 ≤ (wrap64 (a0_0 + 1)) then (if (wrap64 (a0_0 + 1)) ≤ 7 then ((pitch_ending.f a0_1).bind fun t129 => (if ((⟨#[99, 100, 101, 102, 103, 97, 98]⟩ : ByteArray).extract (a0_0 : Int).toNat ((wrap64 (a0_0 + 1)) : Int).toNat).size + t129.size ≤ 9223372036854775807 then (if ((⟨#[99, 100, 101, 102, 103, 97, 98]⟩ : ByteArray).extract (a0_0 : Int).toNat ((wrap64 (a0_0 + 1)) : Int).toNat).size + t129.size + (t127.size + t128.size) ≤ 9223372036854775807 then (some ((((⟨#[99, 100, 101, 102, 103, 97, 98]⟩ : ByteArray).extract (a0_0 : Int).toNat ((wrap64 (a0_0 + 1)) : Int).toNat) ++ t129) ++ (t127 ++ t128))) else (none)) else (none))) else (none)) else (none)) else (none)) else (none)))) else (some (⟨#[]⟩ : ByteArray))) = some r := H
 have A2 := sd_ A20
 clear A20
 by_cases c3 : t126 = true
 ·subst c3
  have H1 : ((strings_Repeat.f (⟨#[39]⟩ : ByteArray) (mx 0 (wrap64 (a0_2 - 3)))).bind fun t127 => ((strings_Repeat.f (⟨#[44]⟩ : ByteArray) (mx 0 (wrap64 (3 - a0_2)))).bind fun t128 => (if t127.size + t128.size ≤ 9223372036854775807 then (if 0 ≤ a0_0 then (if a0_0 ≤ (wrap64 (a0_0 + 1)) then (if (wrap64 (a0_0 + 1)) ≤ 7 then ((pitch_ending.f a0_1).bind fun t129 => (if ((⟨#[99, 100, 101, 102, 103, 97, 98]⟩ : ByteArray).extract (a0_0 : Int).toNat ((wrap64 (a0_0 + 1)) : Int).toNat).size + t129.size ≤ 9223372036854775807 then (if ((⟨#[99, 100, 101, 102, 103, 97, 98]⟩ : ByteArray).extract (a0_0 : Int).toNat ((wrap64 (a0_0 + 1)) : Int).toNat).size + t129.size + (t127.size + t128.size) ≤ 9223372036854775807 then (some ((((⟨#[99, 100, 101, 102, 103, 97, 98]⟩ : ByteArray).extract (a0_0 : Int).toNat ((wrap64 (a0_0 + 1)) : Int).toNat) ++ t129) ++ (t127 ++ t128))) else (none)) else (none))) else (none)) else (none)) else (none)) else (none)))) = some r := by rw [if_pos rfl] at H; exact H
  clear H; have H := H1; clear H1
  obtain ⟨ji4, hji4⟩ : ∃ j_ : Int, (mx 0 (wrap64 (a0_2 - 3))) = j_ := ⟨_, rfl⟩
  replace H : ((strings_Repeat.f (⟨#[39]⟩ : ByteArray) (ji4)).bind fun t127 => ((strings_Repeat.f (⟨#[44]⟩ : ByteArray) (mx 0 (wrap64 (3 - a0_2)))).bind fun t128 => (if t127.size + t128.size ≤ 9223372036854775807 then (if 0 ≤ a0_0 then (if a0_0 ≤ (wrap64 (a0_0 + 1)) then (if (wrap64 (a0_0 + 1)) ≤ 7 then ((pitch_ending.f a0_1).bind fun t129 => (if ((⟨#[99, 100, 101, 102, 103, 97, 98]⟩ : ByteArray).extract (a0_0 : Int).toNat ((wrap64 (a0_0 + 1)) : Int).toNat).size + t129.size ≤ 9223372036854775807 then (if ((⟨#[99, 100, 101, 102, 103, 97, 98]⟩ : ByteArray).extract (a0_0 : Int).toNat ((wrap64 (a0_0 + 1)) : Int).toNat).size + t129.size + (t127.size + t128.size) ≤ 9223372036854775807 then (some ((((⟨#[99, 100, 101, 102, 103, 97, 98]⟩ : ByteArray).extract (a0_0 : Int).toNat ((wrap64 (a0_0 + 1)) : Int).toNat) ++ t129) ++ (t127 ++ t128))) else (none)) else (none))) else (none)) else (none)) else (none)) else (none)))) = some r := by first | (rw [hji4] at H; exact H) | (simp only [hji4] at H ⊢; exact H)
  (try rw [hji4] at A2)
  (try (have hji4l : 0 ≤ ji4 := by (rw [← hji4]; unfold mx; (repeat' split) <;> omega)))
  (try (have hji4m : 0 ≤ ji4 := by omega))
  have hji4_ : (if 0 < (wrap64 (a0_2 - 3)) then (wrap64 (a0_2 - 3)) else 0) = ji4 := hji4
  replace H := ob_ H
  obtain ⟨t127, A50, H⟩ := H
  replace H : ((strings_Repeat.f (⟨#[44]⟩ : ByteArray) (mx 0 (wrap64 (3 - a0_2)))).bind fun t128 => (if t127.size + t128.size ≤ 9223372036854775807 then (if 0 ≤ a0_0 then (if a0_0 ≤ (wrap64 (a0_0 + 1)) then (if (wrap64 (a0_0 + 1)) ≤ 7 then ((pitch_ending.f a0_1).bind fun t129 => (if ((⟨#[99, 100, 101, 102, 103, 97, 98]⟩ : ByteArray).extract (a0_0 : Int).toNat ((wrap64 (a0_0 + 1)) : Int).toNat).size + t129.size ≤ 9223372036854775807 then (if ((⟨#[99, 100, 101, 102, 103, 97, 98]⟩ : ByteArray).extract (a0_0 : Int).toNat ((wrap64 (a0_0 + 1)) : Int).toNat).size + t129.size + (t127.size + t128.size) ≤ 9223372036854775807 then (some ((((⟨#[99, 100, 101, 102, 103, 97, 98]⟩ : ByteArray).extract (a0_0 : Int).toNat ((wrap64 (a0_0 + 1)) : Int).toNat) ++ t129) ++ (t127 ++ t128))) else (none)) else (none))) else (none)) else (none)) else (none)) else (none))) = some r := H
  have A5 := sd_ A50
  clear A50
  obtain ⟨ji6, hji6⟩ : ∃ j_ : Int, (mx 0 (wrap64 (3 - a0_2))) = j_ := ⟨_, rfl⟩
  replace H : ((strings_Repeat.f (⟨#[44]⟩ : ByteArray) (ji6)).bind fun t128 => (if t127.size + t128.size ≤ 9223372036854775807 then (if 0 ≤ a0_0 then (if a0_0 ≤ (wrap64 (a0_0 + 1)) then (if (wrap64 (a0_0 + 1)) ≤ 7 then ((pitch_ending.f a0_1).bind fun t129 => (if ((⟨#[99, 100, 101, 102, 103, 97, 98]⟩ : ByteArray).extract (a0_0 : Int).toNat ((wrap64 (a0_0 + 1)) : Int).toNat).size + t129.size ≤ 9223372036854775807 then (if ((⟨#[99, 100, 101, 102, 103, 97, 98]⟩ : ByteArray).extract (a0_0 : Int).toNat ((wrap64 (a0_0 + 1)) : Int).toNat).size + t129.size + (t127.size + t128.size) ≤ 9223372036854775807 then (some ((((⟨#[99, 100, 101, 102, 103, 97, 98]⟩ : ByteArray).extract (a0_0 : Int).toNat ((wrap64 (a0_0 + 1)) : Int).toNat) ++ t129) ++ (t127 ++ t128))) else (none)) else (none))) else (none)) else (none)) else (none)) else (none))) = some r := by first | (rw [hji6] at H; exact H) | (simp only [hji6] at H ⊢; exact H)
  (try rw [hji6] at A2)
  (try rw [hji6] at A5)
  (try (have hji6l : 0 ≤ ji6 := by (rw [← hji6]; unfold mx; (repeat' split) <;> omega)))
  (try (have hji6m : 0 ≤ ji6 := by omega))
  have hji6_ : (if 0 < (wrap64 (3 - a0_2)) then (wrap64 (3 - a0_2)) else 0) = ji6 := hji6
  replace H := ob_ H
  obtain ⟨t128, A70, H⟩ := H
  replace H : (if t127.size + t128.size ≤ 9223372036854775807 then (if 0 ≤ a0_0 then (if a0_0 ≤ (wrap64 (a0_0 + 1)) then (if (wrap64 (a0_0 + 1)) ≤ 7 then ((pitch_ending.f a0_1).bind fun t129 => (if ((⟨#[99, 100, 101, 102, 103, 97, 98]⟩ : ByteArray).extract (a0_0 : Int).toNat ((wrap64 (a0_0 + 1)) : Int).toNat).size + t129.size ≤ 9223372036854775807 then (if ((⟨#[99, 100, 101, 102, 103, 97, 98]⟩ : ByteArray).extract (a0_0 : Int).toNat ((wrap64 (a0_0 + 1)) : Int).toNat).size + t129.size + (t127.size + t128.size) ≤ 9223372036854775807 then (some ((((⟨#[99, 100, 101, 102, 103, 97, 98]⟩ : ByteArray).extract (a0_0 : Int).toNat ((wrap64 (a0_0 + 1)) : Int).toNat) ++ t129) ++ (t127 ++ t128))) else (none)) else (none))) else (none)) else (none)) else (none)) else (none)) = some r := H
  have A7 := sd_ A70
  clear A70
  by_cases c8 : t127.size + t128.size ≤ 9223372036854775807
  ·rw [if_pos c8] at H
   have c8b0 := eq_true c8
   have c8b1 : decide (t127.size + t128.size ≤ 9223372036854775807) = true := dt_ c8
   try have c8b2 : (9223372036854775807 < t127.size + t128.size) = False := eq_false (Nat.not_lt.2 c8)
   by_cases c9 : 0 ≤ a0_0
   ·rw [if_pos c9] at H
    have c9b0 := eq_true c9
    have c9b1 : decide (0 ≤ a0_0) = true := dt_ c9
    clear c9
    by_cases c10 : a0_0 ≤ (wrap64 (a0_0 + 1))
    ·rw [if_pos c10] at H
     have c10b0 := eq_true c10
     have c10b1 : decide (a0_0 ≤ (wrap64 (a0_0 + 1))) = true := dt_ c10
     by_cases c11 : (wrap64 (a0_0 + 1)) ≤ 7
     ·rw [if_pos c11] at H
      have c11b0 := eq_true c11
      have c11b1 : decide ((wrap64 (a0_0 + 1)) ≤ 7) = true := dt_ c11
      replace H := ob_ H
      obtain ⟨t129, A120, H⟩ := H
      replace H : (if ((⟨#[99, 100, 101, 102, 103, 97, 98]⟩ : ByteArray).extract (a0_0 : Int).toNat ((wrap64 (a0_0 + 1)) : Int).toNat).size + t129.size ≤ 9223372036854775807 then (if ((⟨#[99, 100, 101, 102, 103, 97, 98]⟩ : ByteArray).extract (a0_0 : Int).toNat ((wrap64 (a0_0 + 1)) : Int).toNat).size + t129.size + (t127.size + t128.size) ≤ 9223372036854775807 then (some ((((⟨#[99, 100, 101, 102, 103, 97, 98]⟩ : ByteArray).extract (a0_0 : Int).toNat ((wrap64 (a0_0 + 1)) : Int).toNat) ++ t129) ++ (t127 ++ t128))) else (none)) else (none)) = some r := H
      have A12 := sd_ A120
      clear A120
      by_cases c13 : ((⟨#[99, 100, 101, 102, 103, 97, 98]⟩ : ByteArray).extract (a0_0 : Int).toNat ((wrap64 (a0_0 + 1)) : Int).toNat).size + t129.size ≤ 9223372036854775807
      ·rw [if_pos c13] at H
       have c13b0 := eq_true c13
       have c13b1 : decide (((⟨#[99, 100, 101, 102, 103, 97, 98]⟩ : ByteArray).extract (a0_0 : Int).toNat ((wrap64 (a0_0 + 1)) : Int).toNat).size + t129.size ≤ 9223372036854775807) = true := dt_ c13
       try have c13b2 : (9223372036854775807 < ((⟨#[99, 100, 101, 102, 103, 97, 98]⟩ : ByteArray).extract (a0_0 : Int).toNat ((wrap64 (a0_0 + 1)) : Int).toNat).size + t129.size) = False := eq_false (Nat.not_lt.2 c13)
       try (have c13b3 := c13b2; simp only [ByteArray.size_extract, Nat.zero_min, Nat.zero_add, Nat.sub_zero, Nat.min_self] at c13b3)
       try (have c13b4 := c13b2; simp only [show ((⟨#[99, 100, 101, 102, 103, 97, 98]⟩ : ByteArray).extract (a0_0 : Int).toNat ((wrap64 (a0_0 + 1)) : Int).toNat).size = ((wrap64 (a0_0 + 1)) : Int).toNat - (a0_0 : Int).toNat from (ByteArray.size_extract ..).trans (congrArg (fun q_ => q_ - (a0_0 : Int).toNat) (Nat.min_eq_left ((Int.toNat_le (n := 7)).2 (show (wrap64 (a0_0 + 1)) ≤ (7 : Int) by first | assumption | exact of_eq_true (by assumption) | exact of_decide_eq_true (by assumption))))), ByteArray.size_extract, Nat.zero_min, Nat.zero_add, Nat.sub_zero, Nat.min_self] at c13b4)
       by_cases c14 : ((⟨#[99, 100, 101, 102, 103, 97, 98]⟩ : ByteArray).extract (a0_0 : Int).toNat ((wrap64 (a0_0 + 1)) : Int).toNat).size + t129.size + (t127.size + t128.size) ≤ 9223372036854775807
       ·rw [if_pos c14] at H
        have c14b0 := eq_true c14
        have c14b1 : decide (((⟨#[99, 100, 101, 102, 103, 97, 98]⟩ : ByteArray).extract (a0_0 : Int).toNat ((wrap64 (a0_0 + 1)) : Int).toNat).size + t129.size + (t127.size + t128.size) ≤ 9223372036854775807) = true := dt_ c14
        try have c14b2 : (9223372036854775807 < ((⟨#[99, 100, 101, 102, 103, 97, 98]⟩ : ByteArray).extract (a0_0 : Int).toNat ((wrap64 (a0_0 + 1)) : Int).toNat).size + t129.size + (t127.size + t128.size)) = False := eq_false (Nat.not_lt.2 c14)
        try (have c14b3 := c14b2; simp only [ByteArray.size_extract, Nat.zero_min, Nat.zero_add, Nat.sub_zero, Nat.min_self] at c14b3)
        try (have c14b4 := c14b2; simp only [show ((⟨#[99, 100, 101, 102, 103, 97, 98]⟩ : ByteArray).extract (a0_0 : Int).toNat ((wrap64 (a0_0 + 1)) : Int).toNat).size = ((wrap64 (a0_0 + 1)) : Int).toNat - (a0_0 : Int).toNat from (ByteArray.size_extract ..).trans (congrArg (fun q_ => q_ - (a0_0 : Int).toNat) (Nat.min_eq_left ((Int.toNat_le (n := 7)).2 (show (wrap64 (a0_0 + 1)) ≤ (7 : Int) by first | assumption | exact of_eq_true (by assumption) | exact of_decide_eq_true (by assumption))))), ByteArray.size_extract, Nat.zero_min, Nat.zero_add, Nat.sub_zero, Nat.min_self] at c14b4)
        obtain rfl := Option.some.inj H
        go_enter Tryd.func20, Tryd.ntmps20
        try go_wp2_with (first | ((with_reducible refine gate_dst (N := 1) rfl ?_); refine box_event ?hg (N := 1) ?hd (cs := #[.int .i64 a0_0, .int .i64 a0_1, .int .i64 a0_2]) (t := 23) ?hr ?_; (case hd => rfl); (case hg => rfl); (case hr => first | (go_simp; done) | (go_simp; rfl)); intro gb125 hg w15 hbox hb; have BK125 := sd_ hbox; have GW125 := gw_ HB e0_ hg; have GE125 := GW125; replace HB := hb_ HB e0_ hb; clear hb hbox hg; have hcz16_0 : w15.cell? ⟨gb125, 0, none⟩ = some (.int .i64 a0_0) := (kc_ BK125.out 0).trans rfl; have hcz16_1 : w15.cell? ⟨gb125, 1, none⟩ = some (.int .i64 a0_1) := (kc_ BK125.out 1).trans rfl; have hcz16_2 : w15.cell? ⟨gb125, 2, none⟩ = some (.int .i64 a0_2) := (kc_ BK125.out 2).trans rfl; have hfz16_0 := kf_ BK125.out 0; have hfz16_1 := kf_ BK125.out 1; have hfz16_2 := kf_ BK125.out 2) | ((with_reducible refine gate_callee (f := 14) rfl ?_); refine goesL_ (some 5) rfl rfl Tryd.func14 (by kernel_rfl) rfl #[.agg #[.int .i64 a0_0, .int .i64 a0_1, .int .i64 a0_2]] rfl (by (try simp only [lm_, lq_, lx_]); first | done | rfl | (simp only [ld_, lt_]; rfl)) ?_; (with_reducible refine (pitch_Check.calls a0_0 a0_1 a0_2 true _ A2.out).mono ?_); rintro e w17 ⟨rfl, hb⟩; refine ⟨_, rfl, ?_⟩; replace BK125 := kb_ BK125 hb; replace HB := hb_ HB (e_ GE125 e0_) hb; (try clear hb); (try clear hb2); (try clear hk); (try clear hi)))
        replace BK125 := sd_ (kd_ BK125.out)
        replace HB := sd_ (d1_ HB.out)
        refine start_ (n := 12) (S := fun w' => w'.cell? ⟨gb125, 0, none⟩ = some (.int .i64 a0_0) ∧ w'.cell? ⟨gb125, 1, none⟩ = some (.int .i64 a0_1) ∧ w'.cell? ⟨gb125, 2, none⟩ = some (.int .i64 a0_2)) (ds := []) (Array.replicate 12 false) (by kernel_rfl) rfl rfl ⟨(kc_ BK125.out 0).trans rfl, (kc_ BK125.out 1).trans rfl, (kc_ BK125.out 2).trans rfl⟩ (fun hHeld => ?_); refine with_tabW pitch_Name.tab3 pitch_Name.bits3 (fun HT_ HW_ => ?_)
        generalize w17.drew = w18 at BK125 HB hHeld ⊢
        refine pu_ (v := ?_) (a' := ?_) 0 7 (bz 12 1) rfl rfl HT_ (by kernel_rfl) (fun _ _ _ h => h) (by rfl) ?_ ?_ ?_
        rotate_left; (intro w'; go_simp; with_reducible rfl); rotate_left; (simp only [Act.put, ls_, lz_, lc_, i64_w, i32_w]; rfl)
        refine pu_ (v := ?_) (a' := ?_) 5 12 (bz 12 33) rfl rfl HT_ (by kernel_rfl) (fun _ _ _ h => h) (by rfl) ?_ ?_ ?_
        rotate_left; (intro w'; go_simp; with_reducible rfl); rotate_left; (simp only [Act.put, ls_, lz_, lc_, i64_w, i32_w]; rfl)
        refine ta_ (v := ?_) (a' := ?_) 1 8 (bz 12 35) rfl rfl HT_ HW_ (by kernel_rfl) (fun _ _ _ h => h) (by rfl) ?_ hHeld ?_ ?_
        rotate_left
        ·rintro w' ⟨s0, s1, s2⟩
         go_simp
         with_reducible rfl
        rotate_left
        ·simp only [Act.put, ls_, lz_, lc_, i64_w, i32_w]
         rfl
        refine pu_ (v := ?_) (a' := ?_) 2 9 (bz 12 39) rfl rfl HT_ (by kernel_rfl) (fun _ _ _ h => h) (by rfl) ?_ ?_ ?_
        rotate_left; (intro w'; go_simp; with_reducible rfl); rotate_left; (simp only [Act.put, ls_, lz_, lc_, i64_w, i32_w]; rfl)
        refine pu_ (v := ?_) (a' := ?_) 3 10 (bz 12 47) rfl rfl HT_ (by kernel_rfl) (fun _ _ _ h => h) (by rfl) ?_ ?_ ?_
        rotate_left; (intro w'; go_simp; with_reducible rfl); rotate_left; (simp only [Act.put, ls_, lz_, lc_, i64_w, i32_w]; rfl)
        refine ta_ (v := ?_) (a' := ?_) 6 13 (bz 12 111) rfl rfl HT_ HW_ (by kernel_rfl) (fun _ _ _ h => h) (by rfl) ?_ hHeld ?_ ?_
        rotate_left
        ·rintro w' ⟨s0, s1, s2⟩
         go_simp
         with_reducible rfl
        rotate_left
        ·simp only [Act.put, ls_, lz_, lc_, i64_w, i32_w]
         rfl
        refine pu_ (v := ?_) (a' := ?_) 7 14 (bz 12 239) rfl rfl HT_ (by kernel_rfl) (fun _ _ _ h => h) (by rfl) ?_ ?_ ?_
        rotate_left; (intro w'; go_simp; with_reducible rfl); rotate_left; (simp only [Act.put, ls_, lz_, lc_, i64_w, i32_w]; rfl)
        refine pu_ (v := ?_) (a' := ?_) 8 15 (bz 12 495) rfl rfl HT_ (by kernel_rfl) (fun _ _ _ h => h) (by rfl) ?_ ?_ ?_
        rotate_left; (intro w'; go_simp; with_reducible rfl); rotate_left; (simp only [Act.put, ls_, lz_, lc_, i64_w, i32_w]; rfl)
        refine on_ (N := some 11) 4 (bz 12 511) rfl rfl HT_ (by kernel_rfl) (by decide) (fun K hK => ?_)
        refine goes_ Tryd.func34 (by kernel_rfl) rfl #[.string (⟨#[39]⟩ : ByteArray), .int .i64 ji4] (by rfl) rfl rfl (by (try simp only [lm_, lq_, lx_]); first | done | (simp only [hji4]; rfl) | rfl | (simp only [ld_, lt_]; rfl)) ?_
        with_reducible refine (strings_Repeat.calls (⟨#[39]⟩ : ByteArray) ji4 t127 _ A5.out).mono ?_
        rintro e w19 ⟨rfl, hb⟩
        refine ⟨_, rfl, ?_⟩
        replace BK125 := kb_ BK125 hb
        replace HB := hb_ HB (e_ GE125 e0_) hb
        (try clear hb)
        (try clear hb2)
        (try clear hk)
        (try clear hi)
        refine hK.out _ _ ⟨(kc_ BK125.out 0).trans rfl, (kc_ BK125.out 1).trans rfl, (kc_ BK125.out 2).trans rfl⟩ (fun hHeld => ?_)
        clear hK K
        refine norm_ (a' := ?_) ?_ ?_
        rotate_left
        ·show Act.put _ (some 11) _ = _
         simp only [Act.put, ls_, lz_, lc_, i64_w, i32_w]
         rfl
        refine on_ (N := some 16) 9 (bz 12 1023) rfl rfl HT_ (by kernel_rfl) (by decide) (fun K hK => ?_)
        refine goes_ Tryd.func34 (by kernel_rfl) rfl #[.string (⟨#[44]⟩ : ByteArray), .int .i64 ji6] (by rfl) rfl rfl (by (try simp only [lm_, lq_, lx_]); first | done | (simp only [hji6]; rfl) | rfl | (simp only [ld_, lt_]; rfl)) ?_
        with_reducible refine (strings_Repeat.calls (⟨#[44]⟩ : ByteArray) ji6 t128 _ A7.out).mono ?_
        rintro e w20 ⟨rfl, hb⟩
        refine ⟨_, rfl, ?_⟩
        replace BK125 := kb_ BK125 hb
        replace HB := hb_ HB (e_ GE125 e0_) hb
        (try clear hb)
        (try clear hb2)
        (try clear hk)
        (try clear hi)
        refine hK.out _ _ ⟨(kc_ BK125.out 0).trans rfl, (kc_ BK125.out 1).trans rfl, (kc_ BK125.out 2).trans rfl⟩ (fun hHeld => ?_)
        clear hK K
        refine norm_ (a' := ?_) ?_ ?_
        rotate_left
        ·show Act.put _ (some 16) _ = _
         simp only [Act.put, ls_, lz_, lc_, i64_w, i32_w]
         rfl
        refine pu_ (v := ?_) (a' := ?_) 10 17 (bz 12 2047) rfl rfl HT_ (by kernel_rfl) (fun _ _ _ h => h) (by rfl) ?_ ?_ ?_
        rotate_left; (intro w'; go_simp; with_reducible rfl); rotate_left; (simp only [Act.put, ls_, lz_, lc_, i64_w, i32_w]; rfl)
        refine pu_ (v := ?_) (a' := ?_) 11 3 (bz 12 4095) rfl rfl HT_ (by kernel_rfl) (fun _ _ _ h => h) (by rfl) ?_ ?_ ?_
        rotate_left; (intro w'; go_simp; with_reducible rfl); rotate_left; (simp only [Act.put, ls_, lz_, lc_, i64_w, i32_w]; rfl)
        refine done_ (done_of HT_.out (by kernel_rfl)) ?_
        try go_wp2
        replace BK125 := sd_ (kd_ BK125.out)
        replace HB := sd_ (d1_ HB.out)
        refine start_ (n := 13) (S := fun w' => w'.cell? ⟨gb125, 0, none⟩ = some (.int .i64 a0_0) ∧ w'.cell? ⟨gb125, 1, none⟩ = some (.int .i64 a0_1) ∧ w'.cell? ⟨gb125, 2, none⟩ = some (.int .i64 a0_2)) (ds := []) (Array.replicate 13 false) (by kernel_rfl) rfl rfl ⟨(kc_ BK125.out 0).trans rfl, (kc_ BK125.out 1).trans rfl, (kc_ BK125.out 2).trans rfl⟩ (fun hHeld => ?_); refine with_tabW pitch_Name.tab4 pitch_Name.bits4 (fun HT_ HW_ => ?_)
        generalize w20.drew = w21 at BK125 HB hHeld ⊢
        refine pu_ (v := ?_) (a' := ?_) 0 18 (bz 13 1) rfl rfl HT_ (by kernel_rfl) (fun _ _ _ h => h) (by rfl) ?_ ?_ ?_
        rotate_left; (intro w'; go_simp; with_reducible rfl); rotate_left; (simp only [Act.put, ls_, lz_, lc_, i64_w, i32_w]; rfl)
        refine pu_ (v := ?_) (a' := ?_) 2 20 (bz 13 5) rfl rfl HT_ (by kernel_rfl) (fun _ _ _ h => h) (by rfl) ?_ ?_ ?_
        rotate_left; (intro w'; go_simp; with_reducible rfl); rotate_left; (simp only [Act.put, ls_, lz_, lc_, i64_w, i32_w]; rfl)
        refine pu_ (v := ?_) (a' := ?_) 6 24 (bz 13 69) rfl rfl HT_ (by kernel_rfl) (fun _ _ _ h => h) (by rfl) ?_ ?_ ?_
        rotate_left; (intro w'; go_simp; with_reducible rfl); rotate_left; (simp only [Act.put, ls_, lz_, lc_, i64_w, i32_w]; rfl)
        refine pu_ (v := ?_) (a' := ?_) 10 28 (bz 13 1093) rfl rfl HT_ (by kernel_rfl) (fun _ _ _ h => h) (by rfl) ?_ ?_ ?_
        rotate_left; (intro w'; go_simp; with_reducible rfl); rotate_left; (simp only [Act.put, ls_, lz_, lc_, i64_w, i32_w]; rfl)
        refine ta_ (v := ?_) (a' := ?_) 1 19 (bz 13 1095) rfl rfl HT_ HW_ (by kernel_rfl) (fun _ _ _ h => h) (by rfl) ?_ hHeld ?_ ?_
        rotate_left
        ·rintro w' ⟨s0, s1, s2⟩
         go_simp
         with_reducible rfl
        rotate_left
        ·simp only [Act.put, ls_, lz_, lc_, i64_w, i32_w]
         rfl
        refine ta_ (v := ?_) (a' := ?_) 3 21 (bz 13 1103) rfl rfl HT_ HW_ (by kernel_rfl) (fun _ _ _ h => h) (by rfl) ?_ hHeld ?_ ?_
        rotate_left
        ·rintro w' ⟨s0, s1, s2⟩
         go_simp
         with_reducible rfl
        rotate_left
        ·simp only [Act.put, ls_, lz_, lc_, i64_w, i32_w]
         rfl
        refine pu_ (v := ?_) (a' := ?_) 4 22 (bz 13 1119) rfl rfl HT_ (by kernel_rfl) (fun _ _ _ h => h) (by rfl) ?_ ?_ ?_
        rotate_left; (intro w'; go_simp; with_reducible rfl); rotate_left; (simp only [Act.put, ls_, lz_, lc_, i64_w, i32_w]; rfl)
        refine pu_ (v := ?_) (a' := ?_) 5 23 (bz 13 1151) rfl rfl HT_ (by kernel_rfl) (fun _ _ _ h => h) (by rfl) ?_ ?_ ?_
        rotate_left; (intro w'; go_simp; with_reducible rfl); rotate_left; (simp only [Act.put, ls_, lz_, lc_, i64_w, i32_w]; rfl)
        refine ta_ (v := ?_) (a' := ?_) 7 25 (bz 13 1279) rfl rfl HT_ HW_ (by kernel_rfl) (fun _ _ _ h => h) (by rfl) ?_ hHeld ?_ ?_
        rotate_left
        ·rintro w' ⟨s0, s1, s2⟩
         go_simp
         with_reducible rfl
        rotate_left
        ·simp only [Act.put, ls_, lz_, lc_, i64_w, i32_w]
         rfl
        refine on_ (N := some 26) 8 (bz 13 1535) rfl rfl HT_ (by kernel_rfl) (by decide) (fun K hK => ?_)
        refine goes_ Tryd.func35 (by kernel_rfl) rfl #[.int .i64 a0_1] (by rfl) rfl rfl (by (try simp only [lm_, lq_, lx_]); first | done | rfl | (simp only [ld_, lt_]; rfl)) ?_
        with_reducible refine (pitch_ending.calls a0_1 t129 _ A12.out).mono ?_
        rintro e w22 ⟨rfl, hb⟩
        refine ⟨_, rfl, ?_⟩
        replace BK125 := kb_ BK125 hb
        replace HB := hb_ HB (e_ GE125 e0_) hb
        (try clear hb)
        (try clear hb2)
        (try clear hk)
        (try clear hi)
        refine hK.out _ _ ⟨(kc_ BK125.out 0).trans rfl, (kc_ BK125.out 1).trans rfl, (kc_ BK125.out 2).trans rfl⟩ (fun hHeld => ?_)
        clear hK K
        refine norm_ (a' := ?_) ?_ ?_
        rotate_left
        ·show Act.put _ (some 26) _ = _
         simp only [Act.put, ls_, lz_, lc_, i64_w, i32_w]
         rfl
        refine pu_ (v := ?_) (a' := ?_) 9 27 (bz 13 2047) rfl rfl HT_ (by kernel_rfl) (fun _ _ _ h => h) (by rfl) ?_ ?_ ?_
        rotate_left; (intro w'; go_simp; with_reducible rfl); rotate_left; (simp only [Act.put, ls_, lz_, lc_, i64_w, i32_w]; rfl)
        refine pu_ (v := ?_) (a' := ?_) 11 29 (bz 13 4095) rfl rfl HT_ (by kernel_rfl) (fun _ _ _ h => h) (by rfl) ?_ ?_ ?_
        rotate_left; (intro w'; go_simp; with_reducible rfl); rotate_left; (simp only [Act.put, ls_, lz_, lc_, i64_w, i32_w]; rfl)
        refine pu_ (v := ?_) (a' := ?_) 12 2 (bz 13 8191) rfl rfl HT_ (by kernel_rfl) (fun _ _ _ h => h) (by rfl) ?_ ?_ ?_
        rotate_left; (intro w'; go_simp; with_reducible rfl); rotate_left; (simp only [Act.put, ls_, lz_, lc_, i64_w, i32_w]; rfl)
        refine done_ (done_of HT_.out (by kernel_rfl)) ?_
        try go_wp2
        go_ret
        exact ⟨by first | rfl | (simp [errW_none, errW_some] <;> rfl) | (simp only [← hji4, ← hji6]; first | rfl | (simp [errW_none, errW_some] <;> rfl)) | (simp [*, errW_none, errW_some] <;> rfl), by repeat (first | (with_reducible first | exact HB.out | apply ba_ | apply pd_ | apply d1_ | refine bs_ ?_ GE125.out) | exact HB.out)⟩
       ·rw [if_neg c14] at H
        exact absurd H (by simp)
      ·rw [if_neg c13] at H
       exact absurd H (by simp)
     ·rw [if_neg c11] at H
      exact absurd H (by simp)
    ·rw [if_neg c10] at H
     exact absurd H (by simp)
   ·rw [if_neg c9] at H
    exact absurd H (by simp)
  ·rw [if_neg c8] at H
   exact absurd H (by simp)
 ·replace c3 := bf_ c3
  subst c3
  have H1 : (some (⟨#[]⟩ : ByteArray)) = some r := by rw [if_neg (show ¬ (false = true) by decide)] at H; exact H
  clear H; have H := H1; clear H1
  obtain rfl := Option.some.inj H
  go_enter Tryd.func20, Tryd.ntmps20
  go_wp2_with (first | ((with_reducible refine gate_dst (N := 1) rfl ?_); refine box_event ?hg (N := 1) ?hd (cs := #[.int .i64 a0_0, .int .i64 a0_1, .int .i64 a0_2]) (t := 23) ?hr ?_; (case hd => rfl); (case hg => rfl); (case hr => first | (go_simp; done) | (go_simp; rfl)); intro gb125 hg w23 hbox hb; have BK125 := sd_ hbox; have GW125 := gw_ HB e0_ hg; have GE125 := GW125; replace HB := hb_ HB e0_ hb; clear hb hbox hg; have hcz24_0 : w23.cell? ⟨gb125, 0, none⟩ = some (.int .i64 a0_0) := (kc_ BK125.out 0).trans rfl; have hcz24_1 : w23.cell? ⟨gb125, 1, none⟩ = some (.int .i64 a0_1) := (kc_ BK125.out 1).trans rfl; have hcz24_2 : w23.cell? ⟨gb125, 2, none⟩ = some (.int .i64 a0_2) := (kc_ BK125.out 2).trans rfl; have hfz24_0 := kf_ BK125.out 0; have hfz24_1 := kf_ BK125.out 1; have hfz24_2 := kf_ BK125.out 2) | ((with_reducible refine gate_callee (f := 14) rfl ?_); refine goesL_ (some 5) rfl rfl Tryd.func14 (by kernel_rfl) rfl #[.agg #[.int .i64 a0_0, .int .i64 a0_1, .int .i64 a0_2]] rfl (by (try simp only [lm_, lq_, lx_]); first | done | rfl | (simp only [ld_, lt_]; rfl)) ?_; (with_reducible refine (pitch_Check.calls a0_0 a0_1 a0_2 false _ A2.out).mono ?_); rintro e w25 ⟨rfl, hb⟩; refine ⟨_, rfl, ?_⟩; replace BK125 := kb_ BK125 hb; replace HB := hb_ HB (e_ GE125 e0_) hb; (try clear hb); (try clear hb2); (try clear hk); (try clear hi)))
  go_ret
  exact ⟨by first | rfl | (simp [errW_none, errW_some] <;> rfl) | (simp [*, errW_none, errW_some] <;> rfl), by repeat (first | (with_reducible first | exact HB.out | apply ba_ | apply pd_ | apply d1_ | refine bs_ ?_ GE125.out) | exact HB.out)⟩

/-! ### strings_TrimRight: function 31 -/
def strings_TrimRight.f (a0 a1 : ByteArray) : Option ByteArray := if a0.size ≤ 9223372036854775807 then (if a1.size < 4294967281 then (if a1.data.toList.all (fun b => decide (b.toNat < 128)) = true then some ⟨(Lib.trimRightS a0.data.toList a1.data.toList).toArray⟩ else none) else none) else none
theorem strings_TrimRight.calls (a0 a1 : ByteArray) (r : ByteArray) (w : World) (h : strings_TrimRight.f a0 a1 = some r) :
  Calls Tryd.prog 31 #[.string a0, .string a1] w fun e w' => e = .returned (.string r) ∧ Below w.heap.size w w' := by
 unfold strings_TrimRight.f at h
 split at h
 ·split at h
  ·split at h
   ·rename_i h1 h2 h3
    obtain rfl := Option.some.inj h
    exact Any.strings_TrimRight_laid Tryd.lays162 (by kernel_rfl) a0 a1 w h1 h2 (fun j b hj => by
     have := List.all_eq_true.1 h3 b (List.mem_of_getElem? hj)
     simpa using this)
   ·cases h
  ·cases h
 ·cases h

/-! ### strings_Count: function 32 -/
/-- What the open variable holds: some number. -/
def LaidE (w : World) : Prop := ∃ m, w.cell? ⟨0, 0, none⟩ = some (.int .i64 m)
theorem LaidE.below {w w1 : World} (h : LaidE w) (hb : Below w.heap.size w w1) : LaidE w1 := by
 obtain ⟨m, hm⟩ := h
 exact ⟨m, pw_cell_below hb hm⟩
def strings_Count.f (a0 a1 : ByteArray) : Option Int := if a0.size < 4294967281 then (if 1 ≤ a1.size then some (Lib.countB a0 a1) else none) else none
theorem strings_Count.calls (a0 a1 : ByteArray) (r : Int) (w : World) (hE : Aside0 (LaidE w)) (h : strings_Count.f a0 a1 = some r) :
  Calls Tryd.prog 32 #[.string a0, .string a1] w fun e w' => e = .returned (.int .i64 r) ∧ Drawn0 w w' := by
 unfold strings_Count.f at h
 split at h
 ·split at h
  ·rename_i h1 h2
   obtain rfl := Option.some.inj h
   obtain ⟨m, hm⟩ := hE.out
   refine (Tryd.strings_Count_any a0 a1 m w h1 hm h2).mono ?_
   rintro e w' ⟨rfl, rfl⟩
   exact ⟨rfl, Drawn0.refl _⟩
  ·cases h
 ·cases h

/-! ### strings_IndexByte: function 33 -/
def strings_IndexByte.f (a0 : ByteArray) (a1 : Int) : Option Int := some (Lib.indexByte a0.data.toList a1.toNat.toUInt8)
theorem strings_IndexByte.calls (a0 : ByteArray) (a1 : Int) (r : Int) (w : World) (h : strings_IndexByte.f a0 a1 = some r) :
  Calls Tryd.prog 33 #[.string a0, .int .u8 a1] w fun e w' => e = .returned (.int .i64 r) ∧ Below w.heap.size w w' := by
 obtain rfl := Option.some.inj h
 refine (Tryd.strings_IndexByte a0 a1 w).mono ?_
 rintro e w' ⟨rfl, rfl⟩
 exact ⟨rfl, Below.refl _ _⟩

end Go.Proofs.YtkncoedagigliaaDoor.P
