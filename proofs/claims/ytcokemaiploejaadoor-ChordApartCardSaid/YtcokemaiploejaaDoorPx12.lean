-- Written by a program of this session (wip/tools/xprint.py, over the kit's print): Lean checks it.
import Derived.Test.YtcokemaiploejaaDoorPx0
import Derived.Test.YtcokemaiploejaaDoorPx9
namespace Go.Proofs.YtcokemaiploejaaDoor.P
open Go.RowKit Go.Proofs.YtcokemaiploejaaDoorW.PrintWords Go.Proofs.YtcokemaiploejaaDoorW.PrintLast Go.Proofs.YtcokemaiploejaaDoorW.PrintMore
attribute [local go_sem] max2_int min2_int max_two min_two max_three min_three max_four min_four   -- for this text's walks alone
set_option linter.unusedVariables false
set_option linter.unusedSimpArgs false

/-! ### neumeref03_Check: function 31 -/
def neumeref03_Check.f (a0_0 : Int) (a0_1 : Int) (a0_2 : Int) (a0_3 : Int) : Option (Bool) := (neumeref01_Ok.f a0_0).bind fun t499 => (if t499 = true then ((neumeref01_Ok.f a0_1).bind fun t500 => (if t500 = true then ((neumeref01_Ok.f a0_2).bind fun t501 => (if t501 = true then ((neumeref01_Ok.f a0_3).bind fun t502 => (if t502 = true then (if a0_0 ≤ a0_2 then (some (decide (a0_1 ≤ a0_3))) else (some false)) else (some false))) else (some false))) else (some false))) else (some false))
set_option maxHeartbeats 8000000 in
set_option maxRecDepth 100000 in
theorem neumeref03_Check.calls (a0_0 : Int) (a0_1 : Int) (a0_2 : Int) (a0_3 : Int) (r : Bool) (w : World) (h : neumeref03_Check.f a0_0 a0_1 a0_2 a0_3 = some r) :
  Calls Tryd.prog 31 #[.agg #[.int .i64 a0_0, .int .i64 a0_1, .int .i64 a0_2, .int .i64 a0_3]] w fun e w' => e = .returned (.bool r) ∧ Below w.heap.size w w' := by
 have hu46 := Tryd.underlying46
 have HB := sd_ (Below.refl w.heap.size w)
 have H : ((neumeref01_Ok.f a0_0).bind fun t499 => (if t499 = true then ((neumeref01_Ok.f a0_1).bind fun t500 => (if t500 = true then ((neumeref01_Ok.f a0_2).bind fun t501 => (if t501 = true then ((neumeref01_Ok.f a0_3).bind fun t502 => (if t502 = true then (if a0_0 ≤ a0_2 then (some (decide (a0_1 ≤ a0_3))) else (some false)) else (some false))) else (some false))) else (some false))) else (some false))) = some r := h
 clear h
 replace H := ob_ H
 obtain ⟨t499, A20, H⟩ := H
 replace H : (if t499 = true then ((neumeref01_Ok.f a0_1).bind fun t500 => (if t500 = true then ((neumeref01_Ok.f a0_2).bind fun t501 => (if t501 = true then ((neumeref01_Ok.f a0_3).bind fun t502 => (if t502 = true then (if a0_0 ≤ a0_2 then (some (decide (a0_1 ≤ a0_3))) else (some false)) else (some false))) else (some false))) else (some false))) else (some false)) = some r := H
 have A2 := sd_ A20
 clear A20
 by_cases c3 : t499 = true
 ·subst c3
  have H1 : ((neumeref01_Ok.f a0_1).bind fun t500 => (if t500 = true then ((neumeref01_Ok.f a0_2).bind fun t501 => (if t501 = true then ((neumeref01_Ok.f a0_3).bind fun t502 => (if t502 = true then (if a0_0 ≤ a0_2 then (some (decide (a0_1 ≤ a0_3))) else (some false)) else (some false))) else (some false))) else (some false))) = some r := by rw [if_pos rfl] at H; exact H
  clear H; have H := H1; clear H1
  replace H := ob_ H
  obtain ⟨t500, A40, H⟩ := H
  replace H : (if t500 = true then ((neumeref01_Ok.f a0_2).bind fun t501 => (if t501 = true then ((neumeref01_Ok.f a0_3).bind fun t502 => (if t502 = true then (if a0_0 ≤ a0_2 then (some (decide (a0_1 ≤ a0_3))) else (some false)) else (some false))) else (some false))) else (some false)) = some r := H
  have A4 := sd_ A40
  clear A40
  by_cases c5 : t500 = true
  ·subst c5
   have H1 : ((neumeref01_Ok.f a0_2).bind fun t501 => (if t501 = true then ((neumeref01_Ok.f a0_3).bind fun t502 => (if t502 = true then (if a0_0 ≤ a0_2 then (some (decide (a0_1 ≤ a0_3))) else (some false)) else (some false))) else (some false))) = some r := by rw [if_pos rfl] at H; exact H
   clear H; have H := H1; clear H1
   replace H := ob_ H
   obtain ⟨t501, A60, H⟩ := H
   replace H : (if t501 = true then ((neumeref01_Ok.f a0_3).bind fun t502 => (if t502 = true then (if a0_0 ≤ a0_2 then (some (decide (a0_1 ≤ a0_3))) else (some false)) else (some false))) else (some false)) = some r := H
   have A6 := sd_ A60
   clear A60
   by_cases c7 : t501 = true
   ·subst c7
    have H1 : ((neumeref01_Ok.f a0_3).bind fun t502 => (if t502 = true then (if a0_0 ≤ a0_2 then (some (decide (a0_1 ≤ a0_3))) else (some false)) else (some false))) = some r := by rw [if_pos rfl] at H; exact H
    clear H; have H := H1; clear H1
    replace H := ob_ H
    obtain ⟨t502, A80, H⟩ := H
    replace H : (if t502 = true then (if a0_0 ≤ a0_2 then (some (decide (a0_1 ≤ a0_3))) else (some false)) else (some false)) = some r := H
    have A8 := sd_ A80
    clear A80
    by_cases c9 : t502 = true
    ·subst c9
     have H1 : (if a0_0 ≤ a0_2 then (some (decide (a0_1 ≤ a0_3))) else (some false)) = some r := by rw [if_pos rfl] at H; exact H
     clear H; have H := H1; clear H1
     by_cases c10 : a0_0 ≤ a0_2
     ·rw [if_pos c10] at H
      have c10b0 : decide (a0_0 ≤ a0_2) = true := dt_ c10
      clear c10
      obtain rfl := Option.some.inj H
      go_enter Tryd.func31, Tryd.ntmps31
      go_wp2_with (first | ((with_reducible refine gate_dst (N := 1) rfl ?_); refine box_event ?hg (N := 1) ?hd (cs := #[.int .i64 a0_0, .int .i64 a0_1, .int .i64 a0_2, .int .i64 a0_3]) (t := 46) ?hr ?_; (case hd => rfl); (case hg => rfl); (case hr => first | (go_simp; done) | (go_simp; rfl)); intro gb498 hg w11 hbox hb; have BK498 := sd_ hbox; have GW498 := gw_ HB e0_ hg; have GE498 := GW498; replace HB := hb_ HB e0_ hb; clear hb hbox hg; have hcz12_0 : w11.cell? ⟨gb498, 0, none⟩ = some (.int .i64 a0_0) := (kc_ BK498.out 0).trans rfl; have hcz12_1 : w11.cell? ⟨gb498, 1, none⟩ = some (.int .i64 a0_1) := (kc_ BK498.out 1).trans rfl; have hcz12_2 : w11.cell? ⟨gb498, 2, none⟩ = some (.int .i64 a0_2) := (kc_ BK498.out 2).trans rfl; have hcz12_3 : w11.cell? ⟨gb498, 3, none⟩ = some (.int .i64 a0_3) := (kc_ BK498.out 3).trans rfl; have hfz12_0 := kf_ BK498.out 0; have hfz12_1 := kf_ BK498.out 1; have hfz12_2 := kf_ BK498.out 2; have hfz12_3 := kf_ BK498.out 3) | ((with_reducible refine gate_callee (f := 43) rfl ?_); refine goesL_ (some 5) rfl rfl Tryd.func43 (by kernel_rfl) rfl #[.int .i64 a0_0] rfl (by (try simp only [lm_, lq_, lx_]); first | done | rfl | (simp only [ld_, lt_]; rfl)) ?_; (with_reducible refine (neumeref01_Ok.calls a0_0 true _ A2.out).mono ?_); rintro e w' ⟨rfl, ⟨nd, rfl⟩⟩; refine ⟨_, rfl, ?_⟩) | (go_at_call 43; (with_reducible refine (neumeref01_Ok.calls a0_1 true _ A4.out).mono ?_); rintro e w' ⟨rfl, ⟨nd, rfl⟩⟩) | (go_at_call 43; (with_reducible refine (neumeref01_Ok.calls a0_2 true _ A6.out).mono ?_); rintro e w' ⟨rfl, ⟨nd, rfl⟩⟩) | (go_at_call 43; (with_reducible refine (neumeref01_Ok.calls a0_3 true _ A8.out).mono ?_); rintro e w' ⟨rfl, ⟨nd, rfl⟩⟩))
      go_ret
      exact ⟨by first | rfl | (simp [errW_none, errW_some] <;> rfl) | (simp [*, errW_none, errW_some] <;> rfl), by repeat (first | (with_reducible first | exact HB.out | apply ba_ | apply pd_ | apply d1_ | refine bs_ ?_ GE498.out) | exact HB.out)⟩
     ·rw [if_neg c10] at H
      have c10b0 : decide (a0_0 ≤ a0_2) = false := df_ c10
      clear c10
      obtain rfl := Option.some.inj H
      go_enter Tryd.func31, Tryd.ntmps31
      go_wp2_with (first | ((with_reducible refine gate_dst (N := 1) rfl ?_); refine box_event ?hg (N := 1) ?hd (cs := #[.int .i64 a0_0, .int .i64 a0_1, .int .i64 a0_2, .int .i64 a0_3]) (t := 46) ?hr ?_; (case hd => rfl); (case hg => rfl); (case hr => first | (go_simp; done) | (go_simp; rfl)); intro gb498 hg w13 hbox hb; have BK498 := sd_ hbox; have GW498 := gw_ HB e0_ hg; have GE498 := GW498; replace HB := hb_ HB e0_ hb; clear hb hbox hg; have hcz14_0 : w13.cell? ⟨gb498, 0, none⟩ = some (.int .i64 a0_0) := (kc_ BK498.out 0).trans rfl; have hcz14_1 : w13.cell? ⟨gb498, 1, none⟩ = some (.int .i64 a0_1) := (kc_ BK498.out 1).trans rfl; have hcz14_2 : w13.cell? ⟨gb498, 2, none⟩ = some (.int .i64 a0_2) := (kc_ BK498.out 2).trans rfl; have hcz14_3 : w13.cell? ⟨gb498, 3, none⟩ = some (.int .i64 a0_3) := (kc_ BK498.out 3).trans rfl; have hfz14_0 := kf_ BK498.out 0; have hfz14_1 := kf_ BK498.out 1; have hfz14_2 := kf_ BK498.out 2; have hfz14_3 := kf_ BK498.out 3) | ((with_reducible refine gate_callee (f := 43) rfl ?_); refine goesL_ (some 5) rfl rfl Tryd.func43 (by kernel_rfl) rfl #[.int .i64 a0_0] rfl (by (try simp only [lm_, lq_, lx_]); first | done | rfl | (simp only [ld_, lt_]; rfl)) ?_; (with_reducible refine (neumeref01_Ok.calls a0_0 true _ A2.out).mono ?_); rintro e w' ⟨rfl, ⟨nd, rfl⟩⟩; refine ⟨_, rfl, ?_⟩) | (go_at_call 43; (with_reducible refine (neumeref01_Ok.calls a0_1 true _ A4.out).mono ?_); rintro e w' ⟨rfl, ⟨nd, rfl⟩⟩) | (go_at_call 43; (with_reducible refine (neumeref01_Ok.calls a0_2 true _ A6.out).mono ?_); rintro e w' ⟨rfl, ⟨nd, rfl⟩⟩) | (go_at_call 43; (with_reducible refine (neumeref01_Ok.calls a0_3 true _ A8.out).mono ?_); rintro e w' ⟨rfl, ⟨nd, rfl⟩⟩))
      go_ret
      exact ⟨by first | rfl | (simp [errW_none, errW_some] <;> rfl) | (simp [*, errW_none, errW_some] <;> rfl), by repeat (first | (with_reducible first | exact HB.out | apply ba_ | apply pd_ | apply d1_ | refine bs_ ?_ GE498.out) | exact HB.out)⟩
    ·replace c9 := bf_ c9
     subst c9
     have H1 : (some false) = some r := by rw [if_neg (show ¬ (false = true) by decide)] at H; exact H
     clear H; have H := H1; clear H1
     obtain rfl := Option.some.inj H
     go_enter Tryd.func31, Tryd.ntmps31
     go_wp2_with (first | ((with_reducible refine gate_dst (N := 1) rfl ?_); refine box_event ?hg (N := 1) ?hd (cs := #[.int .i64 a0_0, .int .i64 a0_1, .int .i64 a0_2, .int .i64 a0_3]) (t := 46) ?hr ?_; (case hd => rfl); (case hg => rfl); (case hr => first | (go_simp; done) | (go_simp; rfl)); intro gb498 hg w15 hbox hb; have BK498 := sd_ hbox; have GW498 := gw_ HB e0_ hg; have GE498 := GW498; replace HB := hb_ HB e0_ hb; clear hb hbox hg; have hcz16_0 : w15.cell? ⟨gb498, 0, none⟩ = some (.int .i64 a0_0) := (kc_ BK498.out 0).trans rfl; have hcz16_1 : w15.cell? ⟨gb498, 1, none⟩ = some (.int .i64 a0_1) := (kc_ BK498.out 1).trans rfl; have hcz16_2 : w15.cell? ⟨gb498, 2, none⟩ = some (.int .i64 a0_2) := (kc_ BK498.out 2).trans rfl; have hcz16_3 : w15.cell? ⟨gb498, 3, none⟩ = some (.int .i64 a0_3) := (kc_ BK498.out 3).trans rfl; have hfz16_0 := kf_ BK498.out 0; have hfz16_1 := kf_ BK498.out 1; have hfz16_2 := kf_ BK498.out 2; have hfz16_3 := kf_ BK498.out 3) | ((with_reducible refine gate_callee (f := 43) rfl ?_); refine goesL_ (some 5) rfl rfl Tryd.func43 (by kernel_rfl) rfl #[.int .i64 a0_0] rfl (by (try simp only [lm_, lq_, lx_]); first | done | rfl | (simp only [ld_, lt_]; rfl)) ?_; (with_reducible refine (neumeref01_Ok.calls a0_0 true _ A2.out).mono ?_); rintro e w' ⟨rfl, ⟨nd, rfl⟩⟩; refine ⟨_, rfl, ?_⟩) | (go_at_call 43; (with_reducible refine (neumeref01_Ok.calls a0_1 true _ A4.out).mono ?_); rintro e w' ⟨rfl, ⟨nd, rfl⟩⟩) | (go_at_call 43; (with_reducible refine (neumeref01_Ok.calls a0_2 true _ A6.out).mono ?_); rintro e w' ⟨rfl, ⟨nd, rfl⟩⟩) | (go_at_call 43; (with_reducible refine (neumeref01_Ok.calls a0_3 false _ A8.out).mono ?_); rintro e w' ⟨rfl, ⟨nd, rfl⟩⟩))
     go_ret
     exact ⟨by first | rfl | (simp [errW_none, errW_some] <;> rfl) | (simp [*, errW_none, errW_some] <;> rfl), by repeat (first | (with_reducible first | exact HB.out | apply ba_ | apply pd_ | apply d1_ | refine bs_ ?_ GE498.out) | exact HB.out)⟩
   ·replace c7 := bf_ c7
    subst c7
    have H1 : (some false) = some r := by rw [if_neg (show ¬ (false = true) by decide)] at H; exact H
    clear H; have H := H1; clear H1
    obtain rfl := Option.some.inj H
    go_enter Tryd.func31, Tryd.ntmps31
    go_wp2_with (first | ((with_reducible refine gate_dst (N := 1) rfl ?_); refine box_event ?hg (N := 1) ?hd (cs := #[.int .i64 a0_0, .int .i64 a0_1, .int .i64 a0_2, .int .i64 a0_3]) (t := 46) ?hr ?_; (case hd => rfl); (case hg => rfl); (case hr => first | (go_simp; done) | (go_simp; rfl)); intro gb498 hg w17 hbox hb; have BK498 := sd_ hbox; have GW498 := gw_ HB e0_ hg; have GE498 := GW498; replace HB := hb_ HB e0_ hb; clear hb hbox hg; have hcz18_0 : w17.cell? ⟨gb498, 0, none⟩ = some (.int .i64 a0_0) := (kc_ BK498.out 0).trans rfl; have hcz18_1 : w17.cell? ⟨gb498, 1, none⟩ = some (.int .i64 a0_1) := (kc_ BK498.out 1).trans rfl; have hcz18_2 : w17.cell? ⟨gb498, 2, none⟩ = some (.int .i64 a0_2) := (kc_ BK498.out 2).trans rfl; have hcz18_3 : w17.cell? ⟨gb498, 3, none⟩ = some (.int .i64 a0_3) := (kc_ BK498.out 3).trans rfl; have hfz18_0 := kf_ BK498.out 0; have hfz18_1 := kf_ BK498.out 1; have hfz18_2 := kf_ BK498.out 2; have hfz18_3 := kf_ BK498.out 3) | ((with_reducible refine gate_callee (f := 43) rfl ?_); refine goesL_ (some 5) rfl rfl Tryd.func43 (by kernel_rfl) rfl #[.int .i64 a0_0] rfl (by (try simp only [lm_, lq_, lx_]); first | done | rfl | (simp only [ld_, lt_]; rfl)) ?_; (with_reducible refine (neumeref01_Ok.calls a0_0 true _ A2.out).mono ?_); rintro e w' ⟨rfl, ⟨nd, rfl⟩⟩; refine ⟨_, rfl, ?_⟩) | (go_at_call 43; (with_reducible refine (neumeref01_Ok.calls a0_1 true _ A4.out).mono ?_); rintro e w' ⟨rfl, ⟨nd, rfl⟩⟩) | (go_at_call 43; (with_reducible refine (neumeref01_Ok.calls a0_2 false _ A6.out).mono ?_); rintro e w' ⟨rfl, ⟨nd, rfl⟩⟩))
    go_ret
    exact ⟨by first | rfl | (simp [errW_none, errW_some] <;> rfl) | (simp [*, errW_none, errW_some] <;> rfl), by repeat (first | (with_reducible first | exact HB.out | apply ba_ | apply pd_ | apply d1_ | refine bs_ ?_ GE498.out) | exact HB.out)⟩
  ·replace c5 := bf_ c5
   subst c5
   have H1 : (some false) = some r := by rw [if_neg (show ¬ (false = true) by decide)] at H; exact H
   clear H; have H := H1; clear H1
   obtain rfl := Option.some.inj H
   go_enter Tryd.func31, Tryd.ntmps31
   go_wp2_with (first | ((with_reducible refine gate_dst (N := 1) rfl ?_); refine box_event ?hg (N := 1) ?hd (cs := #[.int .i64 a0_0, .int .i64 a0_1, .int .i64 a0_2, .int .i64 a0_3]) (t := 46) ?hr ?_; (case hd => rfl); (case hg => rfl); (case hr => first | (go_simp; done) | (go_simp; rfl)); intro gb498 hg w19 hbox hb; have BK498 := sd_ hbox; have GW498 := gw_ HB e0_ hg; have GE498 := GW498; replace HB := hb_ HB e0_ hb; clear hb hbox hg; have hcz20_0 : w19.cell? ⟨gb498, 0, none⟩ = some (.int .i64 a0_0) := (kc_ BK498.out 0).trans rfl; have hcz20_1 : w19.cell? ⟨gb498, 1, none⟩ = some (.int .i64 a0_1) := (kc_ BK498.out 1).trans rfl; have hcz20_2 : w19.cell? ⟨gb498, 2, none⟩ = some (.int .i64 a0_2) := (kc_ BK498.out 2).trans rfl; have hcz20_3 : w19.cell? ⟨gb498, 3, none⟩ = some (.int .i64 a0_3) := (kc_ BK498.out 3).trans rfl; have hfz20_0 := kf_ BK498.out 0; have hfz20_1 := kf_ BK498.out 1; have hfz20_2 := kf_ BK498.out 2; have hfz20_3 := kf_ BK498.out 3) | ((with_reducible refine gate_callee (f := 43) rfl ?_); refine goesL_ (some 5) rfl rfl Tryd.func43 (by kernel_rfl) rfl #[.int .i64 a0_0] rfl (by (try simp only [lm_, lq_, lx_]); first | done | rfl | (simp only [ld_, lt_]; rfl)) ?_; (with_reducible refine (neumeref01_Ok.calls a0_0 true _ A2.out).mono ?_); rintro e w' ⟨rfl, ⟨nd, rfl⟩⟩; refine ⟨_, rfl, ?_⟩) | (go_at_call 43; (with_reducible refine (neumeref01_Ok.calls a0_1 false _ A4.out).mono ?_); rintro e w' ⟨rfl, ⟨nd, rfl⟩⟩))
   go_ret
   exact ⟨by first | rfl | (simp [errW_none, errW_some] <;> rfl) | (simp [*, errW_none, errW_some] <;> rfl), by repeat (first | (with_reducible first | exact HB.out | apply ba_ | apply pd_ | apply d1_ | refine bs_ ?_ GE498.out) | exact HB.out)⟩
 ·replace c3 := bf_ c3
  subst c3
  have H1 : (some false) = some r := by rw [if_neg (show ¬ (false = true) by decide)] at H; exact H
  clear H; have H := H1; clear H1
  obtain rfl := Option.some.inj H
  go_enter Tryd.func31, Tryd.ntmps31
  go_wp2_with (first | ((with_reducible refine gate_dst (N := 1) rfl ?_); refine box_event ?hg (N := 1) ?hd (cs := #[.int .i64 a0_0, .int .i64 a0_1, .int .i64 a0_2, .int .i64 a0_3]) (t := 46) ?hr ?_; (case hd => rfl); (case hg => rfl); (case hr => first | (go_simp; done) | (go_simp; rfl)); intro gb498 hg w21 hbox hb; have BK498 := sd_ hbox; have GW498 := gw_ HB e0_ hg; have GE498 := GW498; replace HB := hb_ HB e0_ hb; clear hb hbox hg; have hcz22_0 : w21.cell? ⟨gb498, 0, none⟩ = some (.int .i64 a0_0) := (kc_ BK498.out 0).trans rfl; have hcz22_1 : w21.cell? ⟨gb498, 1, none⟩ = some (.int .i64 a0_1) := (kc_ BK498.out 1).trans rfl; have hcz22_2 : w21.cell? ⟨gb498, 2, none⟩ = some (.int .i64 a0_2) := (kc_ BK498.out 2).trans rfl; have hcz22_3 : w21.cell? ⟨gb498, 3, none⟩ = some (.int .i64 a0_3) := (kc_ BK498.out 3).trans rfl; have hfz22_0 := kf_ BK498.out 0; have hfz22_1 := kf_ BK498.out 1; have hfz22_2 := kf_ BK498.out 2; have hfz22_3 := kf_ BK498.out 3) | ((with_reducible refine gate_callee (f := 43) rfl ?_); refine goesL_ (some 5) rfl rfl Tryd.func43 (by kernel_rfl) rfl #[.int .i64 a0_0] rfl (by (try simp only [lm_, lq_, lx_]); first | done | rfl | (simp only [ld_, lt_]; rfl)) ?_; (with_reducible refine (neumeref01_Ok.calls a0_0 false _ A2.out).mono ?_); rintro e w' ⟨rfl, ⟨nd, rfl⟩⟩; refine ⟨_, rfl, ?_⟩))
  go_ret
  exact ⟨by first | rfl | (simp [errW_none, errW_some] <;> rfl) | (simp [*, errW_none, errW_some] <;> rfl), by repeat (first | (with_reducible first | exact HB.out | apply ba_ | apply pd_ | apply d1_ | refine bs_ ?_ GE498.out) | exact HB.out)⟩

/-! ### neumeref03_Meet: function 18 -/
def neumeref03_Meet.f (a0_0 : Int) (a0_1 : Int) (a0_2 : Int) (a0_3 : Int) (a1_0 : Int) (a1_1 : Int) (a1_2 : Int) (a1_3 : Int) : Option (Bool) := (neumeref03_Check.f a0_0 a0_1 a0_2 a0_3).bind fun t505 => (if t505 = true then ((neumeref03_Check.f a1_0 a1_1 a1_2 a1_3).bind fun t506 => (if t506 = true then (if (mx a0_0 a1_0) < (mn a0_2 a1_2) then (some (decide ((mx a0_1 a1_1) < (mn a0_3 a1_3)))) else (some false)) else (some false))) else (some false))
set_option maxHeartbeats 8000000 in
set_option maxRecDepth 100000 in
theorem neumeref03_Meet.calls (a0_0 : Int) (a0_1 : Int) (a0_2 : Int) (a0_3 : Int) (a1_0 : Int) (a1_1 : Int) (a1_2 : Int) (a1_3 : Int) (r : Bool) (w : World) (h : neumeref03_Meet.f a0_0 a0_1 a0_2 a0_3 a1_0 a1_1 a1_2 a1_3 = some r) :
  Calls Tryd.prog 18 #[.agg #[.int .i64 a0_0, .int .i64 a0_1, .int .i64 a0_2, .int .i64 a0_3], .agg #[.int .i64 a1_0, .int .i64 a1_1, .int .i64 a1_2, .int .i64 a1_3]] w fun e w' => e = .returned (.bool r) ∧ Below w.heap.size w w' := by
 have hu46 := Tryd.underlying46
 have HB := sd_ (Below.refl w.heap.size w)
 have H : ((neumeref03_Check.f a0_0 a0_1 a0_2 a0_3).bind fun t505 => (if t505 = true then ((neumeref03_Check.f a1_0 a1_1 a1_2 a1_3).bind fun t506 => (if t506 = true then (if (mx a0_0 a1_0) < (mn a0_2 a1_2) then (some (decide ((mx a0_1 a1_1) < (mn a0_3 a1_3)))) else (some false)) else (some false))) else (some false))) = some r := h
 clear h
 replace H := ob_ H
 obtain ⟨t505, A30, H⟩ := H
 replace H : (if t505 = true then ((neumeref03_Check.f a1_0 a1_1 a1_2 a1_3).bind fun t506 => (if t506 = true then (if (mx a0_0 a1_0) < (mn a0_2 a1_2) then (some (decide ((mx a0_1 a1_1) < (mn a0_3 a1_3)))) else (some false)) else (some false))) else (some false)) = some r := H
 have A3 := sd_ A30
 clear A30
 by_cases c4 : t505 = true
 ·subst c4
  have H1 : ((neumeref03_Check.f a1_0 a1_1 a1_2 a1_3).bind fun t506 => (if t506 = true then (if (mx a0_0 a1_0) < (mn a0_2 a1_2) then (some (decide ((mx a0_1 a1_1) < (mn a0_3 a1_3)))) else (some false)) else (some false))) = some r := by rw [if_pos rfl] at H; exact H
  clear H; have H := H1; clear H1
  replace H := ob_ H
  obtain ⟨t506, A50, H⟩ := H
  replace H : (if t506 = true then (if (mx a0_0 a1_0) < (mn a0_2 a1_2) then (some (decide ((mx a0_1 a1_1) < (mn a0_3 a1_3)))) else (some false)) else (some false)) = some r := H
  have A5 := sd_ A50
  clear A50
  by_cases c6 : t506 = true
  ·subst c6
   have H1 : (if (mx a0_0 a1_0) < (mn a0_2 a1_2) then (some (decide ((mx a0_1 a1_1) < (mn a0_3 a1_3)))) else (some false)) = some r := by rw [if_pos rfl] at H; exact H
   clear H; have H := H1; clear H1
   obtain ⟨ji7, hji7⟩ : ∃ j_ : Int, (mx a0_0 a1_0) = j_ := ⟨_, rfl⟩
   replace H : (if (ji7) < (mn a0_2 a1_2) then (some (decide ((mx a0_1 a1_1) < (mn a0_3 a1_3)))) else (some false)) = some r := by first | (rw [hji7] at H; exact H) | (simp only [hji7] at H ⊢; exact H)
   (try rw [hji7] at A3)
   (try rw [hji7] at A5)
   have hji7_ : (if a0_0 < a1_0 then a1_0 else a0_0) = ji7 := hji7
   obtain ⟨ji8, hji8⟩ : ∃ j_ : Int, (mn a0_2 a1_2) = j_ := ⟨_, rfl⟩
   replace H : (if (ji7) < (ji8) then (some (decide ((mx a0_1 a1_1) < (mn a0_3 a1_3)))) else (some false)) = some r := by first | (rw [hji8] at H; exact H) | (simp only [hji8] at H ⊢; exact H)
   (try rw [hji8] at A3)
   (try rw [hji8] at A5)
   have hji8_ : (if a1_2 < a0_2 then a1_2 else a0_2) = ji8 := hji8
   obtain ⟨ji9, hji9⟩ : ∃ j_ : Int, (mx a0_1 a1_1) = j_ := ⟨_, rfl⟩
   replace H : (if (ji7) < (ji8) then (some (decide ((ji9) < (mn a0_3 a1_3)))) else (some false)) = some r := by first | (rw [hji9] at H; exact H) | (simp only [hji9] at H ⊢; exact H)
   (try rw [hji9] at A3)
   (try rw [hji9] at A5)
   have hji9_ : (if a0_1 < a1_1 then a1_1 else a0_1) = ji9 := hji9
   obtain ⟨ji10, hji10⟩ : ∃ j_ : Int, (mn a0_3 a1_3) = j_ := ⟨_, rfl⟩
   replace H : (if (ji7) < (ji8) then (some (decide ((ji9) < (ji10)))) else (some false)) = some r := by first | (rw [hji10] at H; exact H) | (simp only [hji10] at H ⊢; exact H)
   (try rw [hji10] at A3)
   (try rw [hji10] at A5)
   have hji10_ : (if a1_3 < a0_3 then a1_3 else a0_3) = ji10 := hji10
   by_cases c11 : (ji7) < (ji8)
   ·rw [if_pos c11] at H
    have c11b0 : decide ((ji7) < (ji8)) = true := dt_ c11
    clear c11
    obtain rfl := Option.some.inj H
    go_enter Tryd.func18, Tryd.ntmps18
    go_wp2_with (first | ((with_reducible refine gate_dst (N := 2) rfl ?_); refine box_event ?hg (N := 2) ?hd (cs := #[.int .i64 a0_0, .int .i64 a0_1, .int .i64 a0_2, .int .i64 a0_3]) (t := 46) ?hr ?_; (case hd => rfl); (case hg => rfl); (case hr => first | (go_simp; done) | (go_simp; rfl)); intro gb503 hg w12 hbox hb; have BK503 := sd_ hbox; have GW503 := gw_ HB e0_ hg; have GE503 := GW503; replace HB := hb_ HB e0_ hb; clear hb hbox hg) | ((with_reducible refine gate_dst (N := 3) rfl ?_); refine box_event ?hg (N := 3) ?hd (cs := #[.int .i64 a1_0, .int .i64 a1_1, .int .i64 a1_2, .int .i64 a1_3]) (t := 46) ?hr ?_; (case hd => rfl); (case hg => rfl); (case hr => first | (go_simp; done) | (go_simp; rfl)); intro gb504 hg w13 hbox hb; have BK504 := sd_ hbox; have GW504 := gw_ HB (e_ GE503 e0_) hg; have GE504 := GW504; have NB503_504 := nb_ BK503 hg; have NB504_503 := sy_ NB503_504; replace BK503 := kb_ BK503 hb; replace HB := hb_ HB (e_ GE503 e0_) hb; clear hb hbox hg; have hnb14 := NB503_504.out; have hnc14 := NB504_503.out; have hcz15_0 : w13.cell? ⟨gb503, 0, none⟩ = some (.int .i64 a0_0) := (kc_ BK503.out 0).trans rfl; have hcz15_1 : w13.cell? ⟨gb503, 1, none⟩ = some (.int .i64 a0_1) := (kc_ BK503.out 1).trans rfl; have hcz15_2 : w13.cell? ⟨gb503, 2, none⟩ = some (.int .i64 a0_2) := (kc_ BK503.out 2).trans rfl; have hcz15_3 : w13.cell? ⟨gb503, 3, none⟩ = some (.int .i64 a0_3) := (kc_ BK503.out 3).trans rfl; have hfz15_0 := kf_ BK503.out 0; have hfz15_1 := kf_ BK503.out 1; have hfz15_2 := kf_ BK503.out 2; have hfz15_3 := kf_ BK503.out 3) | ((with_reducible refine gate_callee (f := 31) rfl ?_); refine goesL_ (some 8) rfl rfl Tryd.func31 (by kernel_rfl) rfl #[.agg #[.int .i64 a0_0, .int .i64 a0_1, .int .i64 a0_2, .int .i64 a0_3]] rfl (by (try simp only [lm_, lq_, lx_]); first | done | rfl | (simp only [ld_, lt_]; rfl)) ?_; (with_reducible refine (neumeref03_Check.calls a0_0 a0_1 a0_2 a0_3 true _ A3.out).mono ?_); rintro e w16 ⟨rfl, hb⟩; refine ⟨_, rfl, ?_⟩; replace BK503 := kb_ BK503 hb; replace BK504 := kb_ BK504 hb; replace HB := hb_ HB (e_ GE503 (e_ GE504 e0_)) hb; (try clear hb); (try clear hb2); (try clear hk); (try clear hi); have hcz17_0 : w16.cell? ⟨gb504, 0, none⟩ = some (.int .i64 a1_0) := (kc_ BK504.out 0).trans rfl; have hcz17_1 : w16.cell? ⟨gb504, 1, none⟩ = some (.int .i64 a1_1) := (kc_ BK504.out 1).trans rfl; have hcz17_2 : w16.cell? ⟨gb504, 2, none⟩ = some (.int .i64 a1_2) := (kc_ BK504.out 2).trans rfl; have hcz17_3 : w16.cell? ⟨gb504, 3, none⟩ = some (.int .i64 a1_3) := (kc_ BK504.out 3).trans rfl; have hfz17_0 := kf_ BK504.out 0; have hfz17_1 := kf_ BK504.out 1; have hfz17_2 := kf_ BK504.out 2; have hfz17_3 := kf_ BK504.out 3) | (go_at_call 31; (with_reducible refine (neumeref03_Check.calls a1_0 a1_1 a1_2 a1_3 true _ A5.out).mono ?_); rintro e w18 ⟨rfl, hb⟩; replace BK503 := kb_ BK503 hb; replace BK504 := kb_ BK504 hb; replace HB := hb_ HB (e_ GE503 (e_ GE504 e0_)) hb; (try clear hb); (try clear hb2); (try clear hk); (try clear hi); have hcz19_0 : w18.cell? ⟨gb503, 0, none⟩ = some (.int .i64 a0_0) := (kc_ BK503.out 0).trans rfl; have hcz19_1 : w18.cell? ⟨gb503, 1, none⟩ = some (.int .i64 a0_1) := (kc_ BK503.out 1).trans rfl; have hcz19_2 : w18.cell? ⟨gb503, 2, none⟩ = some (.int .i64 a0_2) := (kc_ BK503.out 2).trans rfl; have hcz19_3 : w18.cell? ⟨gb503, 3, none⟩ = some (.int .i64 a0_3) := (kc_ BK503.out 3).trans rfl; have hfz19_0 := kf_ BK503.out 0; have hfz19_1 := kf_ BK503.out 1; have hfz19_2 := kf_ BK503.out 2; have hfz19_3 := kf_ BK503.out 3; have hcz20_0 : w18.cell? ⟨gb504, 0, none⟩ = some (.int .i64 a1_0) := (kc_ BK504.out 0).trans rfl; have hcz20_1 : w18.cell? ⟨gb504, 1, none⟩ = some (.int .i64 a1_1) := (kc_ BK504.out 1).trans rfl; have hcz20_2 : w18.cell? ⟨gb504, 2, none⟩ = some (.int .i64 a1_2) := (kc_ BK504.out 2).trans rfl; have hcz20_3 : w18.cell? ⟨gb504, 3, none⟩ = some (.int .i64 a1_3) := (kc_ BK504.out 3).trans rfl; have hfz20_0 := kf_ BK504.out 0; have hfz20_1 := kf_ BK504.out 1; have hfz20_2 := kf_ BK504.out 2; have hfz20_3 := kf_ BK504.out 3))
    go_ret
    exact ⟨by first | rfl | (simp [errW_none, errW_some] <;> rfl) | (simp only [← hji7, ← hji8, ← hji9, ← hji10]; first | rfl | (simp [errW_none, errW_some] <;> rfl)) | (simp [*, errW_none, errW_some] <;> rfl), by repeat (first | (with_reducible first | exact HB.out | apply ba_ | apply pd_ | apply d1_ | refine bs_ ?_ GE503.out | refine bs_ ?_ GE504.out) | exact HB.out)⟩
   ·rw [if_neg c11] at H
    have c11b0 : decide ((ji7) < (ji8)) = false := df_ c11
    clear c11
    obtain rfl := Option.some.inj H
    go_enter Tryd.func18, Tryd.ntmps18
    go_wp2_with (first | ((with_reducible refine gate_dst (N := 2) rfl ?_); refine box_event ?hg (N := 2) ?hd (cs := #[.int .i64 a0_0, .int .i64 a0_1, .int .i64 a0_2, .int .i64 a0_3]) (t := 46) ?hr ?_; (case hd => rfl); (case hg => rfl); (case hr => first | (go_simp; done) | (go_simp; rfl)); intro gb503 hg w21 hbox hb; have BK503 := sd_ hbox; have GW503 := gw_ HB e0_ hg; have GE503 := GW503; replace HB := hb_ HB e0_ hb; clear hb hbox hg) | ((with_reducible refine gate_dst (N := 3) rfl ?_); refine box_event ?hg (N := 3) ?hd (cs := #[.int .i64 a1_0, .int .i64 a1_1, .int .i64 a1_2, .int .i64 a1_3]) (t := 46) ?hr ?_; (case hd => rfl); (case hg => rfl); (case hr => first | (go_simp; done) | (go_simp; rfl)); intro gb504 hg w22 hbox hb; have BK504 := sd_ hbox; have GW504 := gw_ HB (e_ GE503 e0_) hg; have GE504 := GW504; have NB503_504 := nb_ BK503 hg; have NB504_503 := sy_ NB503_504; replace BK503 := kb_ BK503 hb; replace HB := hb_ HB (e_ GE503 e0_) hb; clear hb hbox hg; have hnb23 := NB503_504.out; have hnc23 := NB504_503.out; have hcz24_0 : w22.cell? ⟨gb503, 0, none⟩ = some (.int .i64 a0_0) := (kc_ BK503.out 0).trans rfl; have hcz24_1 : w22.cell? ⟨gb503, 1, none⟩ = some (.int .i64 a0_1) := (kc_ BK503.out 1).trans rfl; have hcz24_2 : w22.cell? ⟨gb503, 2, none⟩ = some (.int .i64 a0_2) := (kc_ BK503.out 2).trans rfl; have hcz24_3 : w22.cell? ⟨gb503, 3, none⟩ = some (.int .i64 a0_3) := (kc_ BK503.out 3).trans rfl; have hfz24_0 := kf_ BK503.out 0; have hfz24_1 := kf_ BK503.out 1; have hfz24_2 := kf_ BK503.out 2; have hfz24_3 := kf_ BK503.out 3) | ((with_reducible refine gate_callee (f := 31) rfl ?_); refine goesL_ (some 8) rfl rfl Tryd.func31 (by kernel_rfl) rfl #[.agg #[.int .i64 a0_0, .int .i64 a0_1, .int .i64 a0_2, .int .i64 a0_3]] rfl (by (try simp only [lm_, lq_, lx_]); first | done | rfl | (simp only [ld_, lt_]; rfl)) ?_; (with_reducible refine (neumeref03_Check.calls a0_0 a0_1 a0_2 a0_3 true _ A3.out).mono ?_); rintro e w25 ⟨rfl, hb⟩; refine ⟨_, rfl, ?_⟩; replace BK503 := kb_ BK503 hb; replace BK504 := kb_ BK504 hb; replace HB := hb_ HB (e_ GE503 (e_ GE504 e0_)) hb; (try clear hb); (try clear hb2); (try clear hk); (try clear hi); have hcz26_0 : w25.cell? ⟨gb504, 0, none⟩ = some (.int .i64 a1_0) := (kc_ BK504.out 0).trans rfl; have hcz26_1 : w25.cell? ⟨gb504, 1, none⟩ = some (.int .i64 a1_1) := (kc_ BK504.out 1).trans rfl; have hcz26_2 : w25.cell? ⟨gb504, 2, none⟩ = some (.int .i64 a1_2) := (kc_ BK504.out 2).trans rfl; have hcz26_3 : w25.cell? ⟨gb504, 3, none⟩ = some (.int .i64 a1_3) := (kc_ BK504.out 3).trans rfl; have hfz26_0 := kf_ BK504.out 0; have hfz26_1 := kf_ BK504.out 1; have hfz26_2 := kf_ BK504.out 2; have hfz26_3 := kf_ BK504.out 3) | (go_at_call 31; (with_reducible refine (neumeref03_Check.calls a1_0 a1_1 a1_2 a1_3 true _ A5.out).mono ?_); rintro e w27 ⟨rfl, hb⟩; replace BK503 := kb_ BK503 hb; replace BK504 := kb_ BK504 hb; replace HB := hb_ HB (e_ GE503 (e_ GE504 e0_)) hb; (try clear hb); (try clear hb2); (try clear hk); (try clear hi); have hcz28_0 : w27.cell? ⟨gb503, 0, none⟩ = some (.int .i64 a0_0) := (kc_ BK503.out 0).trans rfl; have hcz28_1 : w27.cell? ⟨gb503, 1, none⟩ = some (.int .i64 a0_1) := (kc_ BK503.out 1).trans rfl; have hcz28_2 : w27.cell? ⟨gb503, 2, none⟩ = some (.int .i64 a0_2) := (kc_ BK503.out 2).trans rfl; have hcz28_3 : w27.cell? ⟨gb503, 3, none⟩ = some (.int .i64 a0_3) := (kc_ BK503.out 3).trans rfl; have hfz28_0 := kf_ BK503.out 0; have hfz28_1 := kf_ BK503.out 1; have hfz28_2 := kf_ BK503.out 2; have hfz28_3 := kf_ BK503.out 3; have hcz29_0 : w27.cell? ⟨gb504, 0, none⟩ = some (.int .i64 a1_0) := (kc_ BK504.out 0).trans rfl; have hcz29_1 : w27.cell? ⟨gb504, 1, none⟩ = some (.int .i64 a1_1) := (kc_ BK504.out 1).trans rfl; have hcz29_2 : w27.cell? ⟨gb504, 2, none⟩ = some (.int .i64 a1_2) := (kc_ BK504.out 2).trans rfl; have hcz29_3 : w27.cell? ⟨gb504, 3, none⟩ = some (.int .i64 a1_3) := (kc_ BK504.out 3).trans rfl; have hfz29_0 := kf_ BK504.out 0; have hfz29_1 := kf_ BK504.out 1; have hfz29_2 := kf_ BK504.out 2; have hfz29_3 := kf_ BK504.out 3))
    go_ret
    exact ⟨by first | rfl | (simp [errW_none, errW_some] <;> rfl) | (simp only [← hji7, ← hji8, ← hji9, ← hji10]; first | rfl | (simp [errW_none, errW_some] <;> rfl)) | (simp [*, errW_none, errW_some] <;> rfl), by repeat (first | (with_reducible first | exact HB.out | apply ba_ | apply pd_ | apply d1_ | refine bs_ ?_ GE503.out | refine bs_ ?_ GE504.out) | exact HB.out)⟩
  ·replace c6 := bf_ c6
   subst c6
   have H1 : (some false) = some r := by rw [if_neg (show ¬ (false = true) by decide)] at H; exact H
   clear H; have H := H1; clear H1
   obtain rfl := Option.some.inj H
   go_enter Tryd.func18, Tryd.ntmps18
   go_wp2_with (first | ((with_reducible refine gate_dst (N := 2) rfl ?_); refine box_event ?hg (N := 2) ?hd (cs := #[.int .i64 a0_0, .int .i64 a0_1, .int .i64 a0_2, .int .i64 a0_3]) (t := 46) ?hr ?_; (case hd => rfl); (case hg => rfl); (case hr => first | (go_simp; done) | (go_simp; rfl)); intro gb503 hg w30 hbox hb; have BK503 := sd_ hbox; have GW503 := gw_ HB e0_ hg; have GE503 := GW503; replace HB := hb_ HB e0_ hb; clear hb hbox hg) | ((with_reducible refine gate_dst (N := 3) rfl ?_); refine box_event ?hg (N := 3) ?hd (cs := #[.int .i64 a1_0, .int .i64 a1_1, .int .i64 a1_2, .int .i64 a1_3]) (t := 46) ?hr ?_; (case hd => rfl); (case hg => rfl); (case hr => first | (go_simp; done) | (go_simp; rfl)); intro gb504 hg w31 hbox hb; have BK504 := sd_ hbox; have GW504 := gw_ HB (e_ GE503 e0_) hg; have GE504 := GW504; have NB503_504 := nb_ BK503 hg; have NB504_503 := sy_ NB503_504; replace BK503 := kb_ BK503 hb; replace HB := hb_ HB (e_ GE503 e0_) hb; clear hb hbox hg; have hnb32 := NB503_504.out; have hnc32 := NB504_503.out; have hcz33_0 : w31.cell? ⟨gb503, 0, none⟩ = some (.int .i64 a0_0) := (kc_ BK503.out 0).trans rfl; have hcz33_1 : w31.cell? ⟨gb503, 1, none⟩ = some (.int .i64 a0_1) := (kc_ BK503.out 1).trans rfl; have hcz33_2 : w31.cell? ⟨gb503, 2, none⟩ = some (.int .i64 a0_2) := (kc_ BK503.out 2).trans rfl; have hcz33_3 : w31.cell? ⟨gb503, 3, none⟩ = some (.int .i64 a0_3) := (kc_ BK503.out 3).trans rfl; have hfz33_0 := kf_ BK503.out 0; have hfz33_1 := kf_ BK503.out 1; have hfz33_2 := kf_ BK503.out 2; have hfz33_3 := kf_ BK503.out 3) | ((with_reducible refine gate_callee (f := 31) rfl ?_); refine goesL_ (some 8) rfl rfl Tryd.func31 (by kernel_rfl) rfl #[.agg #[.int .i64 a0_0, .int .i64 a0_1, .int .i64 a0_2, .int .i64 a0_3]] rfl (by (try simp only [lm_, lq_, lx_]); first | done | rfl | (simp only [ld_, lt_]; rfl)) ?_; (with_reducible refine (neumeref03_Check.calls a0_0 a0_1 a0_2 a0_3 true _ A3.out).mono ?_); rintro e w34 ⟨rfl, hb⟩; refine ⟨_, rfl, ?_⟩; replace BK503 := kb_ BK503 hb; replace BK504 := kb_ BK504 hb; replace HB := hb_ HB (e_ GE503 (e_ GE504 e0_)) hb; (try clear hb); (try clear hb2); (try clear hk); (try clear hi); have hcz35_0 : w34.cell? ⟨gb504, 0, none⟩ = some (.int .i64 a1_0) := (kc_ BK504.out 0).trans rfl; have hcz35_1 : w34.cell? ⟨gb504, 1, none⟩ = some (.int .i64 a1_1) := (kc_ BK504.out 1).trans rfl; have hcz35_2 : w34.cell? ⟨gb504, 2, none⟩ = some (.int .i64 a1_2) := (kc_ BK504.out 2).trans rfl; have hcz35_3 : w34.cell? ⟨gb504, 3, none⟩ = some (.int .i64 a1_3) := (kc_ BK504.out 3).trans rfl; have hfz35_0 := kf_ BK504.out 0; have hfz35_1 := kf_ BK504.out 1; have hfz35_2 := kf_ BK504.out 2; have hfz35_3 := kf_ BK504.out 3) | (go_at_call 31; (with_reducible refine (neumeref03_Check.calls a1_0 a1_1 a1_2 a1_3 false _ A5.out).mono ?_); rintro e w36 ⟨rfl, hb⟩; replace BK503 := kb_ BK503 hb; replace BK504 := kb_ BK504 hb; replace HB := hb_ HB (e_ GE503 (e_ GE504 e0_)) hb; (try clear hb); (try clear hb2); (try clear hk); (try clear hi)))
   go_ret
   exact ⟨by first | rfl | (simp [errW_none, errW_some] <;> rfl) | (simp [*, errW_none, errW_some] <;> rfl), by repeat (first | (with_reducible first | exact HB.out | apply ba_ | apply pd_ | apply d1_ | refine bs_ ?_ GE503.out | refine bs_ ?_ GE504.out) | exact HB.out)⟩
 ·replace c4 := bf_ c4
  subst c4
  have H1 : (some false) = some r := by rw [if_neg (show ¬ (false = true) by decide)] at H; exact H
  clear H; have H := H1; clear H1
  obtain rfl := Option.some.inj H
  go_enter Tryd.func18, Tryd.ntmps18
  go_wp2_with (first | ((with_reducible refine gate_dst (N := 2) rfl ?_); refine box_event ?hg (N := 2) ?hd (cs := #[.int .i64 a0_0, .int .i64 a0_1, .int .i64 a0_2, .int .i64 a0_3]) (t := 46) ?hr ?_; (case hd => rfl); (case hg => rfl); (case hr => first | (go_simp; done) | (go_simp; rfl)); intro gb503 hg w37 hbox hb; have BK503 := sd_ hbox; have GW503 := gw_ HB e0_ hg; have GE503 := GW503; replace HB := hb_ HB e0_ hb; clear hb hbox hg) | ((with_reducible refine gate_dst (N := 3) rfl ?_); refine box_event ?hg (N := 3) ?hd (cs := #[.int .i64 a1_0, .int .i64 a1_1, .int .i64 a1_2, .int .i64 a1_3]) (t := 46) ?hr ?_; (case hd => rfl); (case hg => rfl); (case hr => first | (go_simp; done) | (go_simp; rfl)); intro gb504 hg w38 hbox hb; have BK504 := sd_ hbox; have GW504 := gw_ HB (e_ GE503 e0_) hg; have GE504 := GW504; have NB503_504 := nb_ BK503 hg; have NB504_503 := sy_ NB503_504; replace BK503 := kb_ BK503 hb; replace HB := hb_ HB (e_ GE503 e0_) hb; clear hb hbox hg; have hnb39 := NB503_504.out; have hnc39 := NB504_503.out; have hcz40_0 : w38.cell? ⟨gb503, 0, none⟩ = some (.int .i64 a0_0) := (kc_ BK503.out 0).trans rfl; have hcz40_1 : w38.cell? ⟨gb503, 1, none⟩ = some (.int .i64 a0_1) := (kc_ BK503.out 1).trans rfl; have hcz40_2 : w38.cell? ⟨gb503, 2, none⟩ = some (.int .i64 a0_2) := (kc_ BK503.out 2).trans rfl; have hcz40_3 : w38.cell? ⟨gb503, 3, none⟩ = some (.int .i64 a0_3) := (kc_ BK503.out 3).trans rfl; have hfz40_0 := kf_ BK503.out 0; have hfz40_1 := kf_ BK503.out 1; have hfz40_2 := kf_ BK503.out 2; have hfz40_3 := kf_ BK503.out 3) | ((with_reducible refine gate_callee (f := 31) rfl ?_); refine goesL_ (some 8) rfl rfl Tryd.func31 (by kernel_rfl) rfl #[.agg #[.int .i64 a0_0, .int .i64 a0_1, .int .i64 a0_2, .int .i64 a0_3]] rfl (by (try simp only [lm_, lq_, lx_]); first | done | rfl | (simp only [ld_, lt_]; rfl)) ?_; (with_reducible refine (neumeref03_Check.calls a0_0 a0_1 a0_2 a0_3 false _ A3.out).mono ?_); rintro e w41 ⟨rfl, hb⟩; refine ⟨_, rfl, ?_⟩; replace BK503 := kb_ BK503 hb; replace BK504 := kb_ BK504 hb; replace HB := hb_ HB (e_ GE503 (e_ GE504 e0_)) hb; (try clear hb); (try clear hb2); (try clear hk); (try clear hi)))
  go_ret
  exact ⟨by first | rfl | (simp [errW_none, errW_some] <;> rfl) | (simp [*, errW_none, errW_some] <;> rfl), by repeat (first | (with_reducible first | exact HB.out | apply ba_ | apply pd_ | apply d1_ | refine bs_ ?_ GE503.out | refine bs_ ?_ GE504.out) | exact HB.out)⟩

end Go.Proofs.YtcokemaiploejaaDoor.P
