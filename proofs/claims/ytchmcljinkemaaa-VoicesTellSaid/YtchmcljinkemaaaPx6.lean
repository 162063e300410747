-- Written by a program of this session (wip/tools/xprint.py, over the kit's print): Lean checks it.
import Derived.Test.YtchmcljinkemaaaPx0
import Derived.Test.YtchmcljinkemaaaPx5
namespace Go.Proofs.Ytchmcljinkemaaa.P
open Go.RowKit Go.Proofs.YtchmcljinkemaaaW.PrintWords Go.Proofs.YtchmcljinkemaaaW.PrintLast Go.Proofs.YtchmcljinkemaaaW.PrintMore
attribute [local go_sem] max2_int min2_int max_two min_two max_three min_three max_four min_four   -- for this text's walks alone
set_option linter.unusedVariables false
set_option linter.unusedSimpArgs false

/-! ### neumeref24_near: function 35 -/
def neumeref24_near.f (a0_0 : Int) (a0_1 : Int) (a0_2 : Int) (a0_3 : Int) : Option (Bool) := (neumeref03_Check.f a0_0 a0_1 a0_2 a0_3).bind fun t224 => (if t224 = true then (if a0_0 ≥ (-1073741824) then (if a0_2 ≤ 1073741824 then (if a0_1 ≥ (-1073741824) then (some (decide (a0_3 ≤ 1073741824))) else (some false)) else (some false)) else (some false)) else (some false))
set_option maxHeartbeats 8000000 in
set_option maxRecDepth 100000 in
theorem neumeref24_near.calls (a0_0 : Int) (a0_1 : Int) (a0_2 : Int) (a0_3 : Int) (r : Bool) (w : World) (h : neumeref24_near.f a0_0 a0_1 a0_2 a0_3 = some r) :
  Calls Try.prog 35 #[.agg #[.int .i64 a0_0, .int .i64 a0_1, .int .i64 a0_2, .int .i64 a0_3]] w fun e w' => e = .returned (.bool r) ∧ Below w.heap.size w w' := by
 have hu45 := Try.underlying45
 have HB := sd_ (Below.refl w.heap.size w)
 have H : ((neumeref03_Check.f a0_0 a0_1 a0_2 a0_3).bind fun t224 => (if t224 = true then (if a0_0 ≥ (-1073741824) then (if a0_2 ≤ 1073741824 then (if a0_1 ≥ (-1073741824) then (some (decide (a0_3 ≤ 1073741824))) else (some false)) else (some false)) else (some false)) else (some false))) = some r := h
 clear h
 replace H := ob_ H
 obtain ⟨t224, A20, H⟩ := H
 replace H : (if t224 = true then (if a0_0 ≥ (-1073741824) then (if a0_2 ≤ 1073741824 then (if a0_1 ≥ (-1073741824) then (some (decide (a0_3 ≤ 1073741824))) else (some false)) else (some false)) else (some false)) else (some false)) = some r := H
 have A2 := sd_ A20
 clear A20
 by_cases c3 : t224 = true
 ·subst c3
  have H1 : (if a0_0 ≥ (-1073741824) then (if a0_2 ≤ 1073741824 then (if a0_1 ≥ (-1073741824) then (some (decide (a0_3 ≤ 1073741824))) else (some false)) else (some false)) else (some false)) = some r := by rw [if_pos rfl] at H; exact H
  clear H; have H := H1; clear H1
  by_cases c4 : a0_0 ≥ (-1073741824)
  ·rw [if_pos c4] at H
   have c4b0 : decide ((-1073741824) ≤ a0_0) = true := dt_ c4
   clear c4
   by_cases c5 : a0_2 ≤ 1073741824
   ·rw [if_pos c5] at H
    have c5b0 : decide (a0_2 ≤ 1073741824) = true := dt_ c5
    clear c5
    by_cases c6 : a0_1 ≥ (-1073741824)
    ·rw [if_pos c6] at H
     have c6b0 : decide ((-1073741824) ≤ a0_1) = true := dt_ c6
     clear c6
     obtain rfl := Option.some.inj H
     go_enter Try.func35, Try.ntmps35
     go_wp2_with (first | ((with_reducible refine gate_dst (N := 1) rfl ?_); refine box_event ?hg (N := 1) ?hd (cs := #[.int .i64 a0_0, .int .i64 a0_1, .int .i64 a0_2, .int .i64 a0_3]) (t := 45) ?hr ?_; (case hd => rfl); (case hg => rfl); (case hr => first | (go_simp; done) | (go_simp; rfl)); intro gb223 hg w7 hbox hb; have BK223 := sd_ hbox; have GW223 := gw_ HB e0_ hg; have GE223 := GW223; replace HB := hb_ HB e0_ hb; clear hb hbox hg; have hcz8_0 : w7.cell? ⟨gb223, 0, none⟩ = some (.int .i64 a0_0) := (kc_ BK223.out 0).trans rfl; have hcz8_1 : w7.cell? ⟨gb223, 1, none⟩ = some (.int .i64 a0_1) := (kc_ BK223.out 1).trans rfl; have hcz8_2 : w7.cell? ⟨gb223, 2, none⟩ = some (.int .i64 a0_2) := (kc_ BK223.out 2).trans rfl; have hcz8_3 : w7.cell? ⟨gb223, 3, none⟩ = some (.int .i64 a0_3) := (kc_ BK223.out 3).trans rfl; have hfz8_0 := kf_ BK223.out 0; have hfz8_1 := kf_ BK223.out 1; have hfz8_2 := kf_ BK223.out 2; have hfz8_3 := kf_ BK223.out 3) | ((with_reducible refine gate_callee (f := 39) rfl ?_); refine goesL_ (some 4) rfl rfl Try.func39 (by kernel_rfl) rfl #[.agg #[.int .i64 a0_0, .int .i64 a0_1, .int .i64 a0_2, .int .i64 a0_3]] rfl (by (try simp only [lm_, lq_, lx_]); first | done | rfl | (simp only [ld_, lt_]; rfl)) ?_; (with_reducible refine (neumeref03_Check.calls a0_0 a0_1 a0_2 a0_3 true _ A2.out).mono ?_); rintro e w9 ⟨rfl, hb⟩; refine ⟨_, rfl, ?_⟩; replace BK223 := kb_ BK223 hb; replace HB := hb_ HB (e_ GE223 e0_) hb; (try clear hb); (try clear hb2); (try clear hk); (try clear hi); have hcz10_0 : w9.cell? ⟨gb223, 0, none⟩ = some (.int .i64 a0_0) := (kc_ BK223.out 0).trans rfl; have hcz10_1 : w9.cell? ⟨gb223, 1, none⟩ = some (.int .i64 a0_1) := (kc_ BK223.out 1).trans rfl; have hcz10_2 : w9.cell? ⟨gb223, 2, none⟩ = some (.int .i64 a0_2) := (kc_ BK223.out 2).trans rfl; have hcz10_3 : w9.cell? ⟨gb223, 3, none⟩ = some (.int .i64 a0_3) := (kc_ BK223.out 3).trans rfl; have hfz10_0 := kf_ BK223.out 0; have hfz10_1 := kf_ BK223.out 1; have hfz10_2 := kf_ BK223.out 2; have hfz10_3 := kf_ BK223.out 3))
     go_ret
     exact ⟨by first | rfl | (simp [errW_none, errW_some] <;> rfl) | (simp [*, errW_none, errW_some] <;> rfl), by repeat (first | (with_reducible first | exact HB.out | apply ba_ | apply pd_ | apply d1_ | refine bs_ ?_ GE223.out) | exact HB.out)⟩
    ·rw [if_neg c6] at H
     have c6b0 : decide ((-1073741824) ≤ a0_1) = false := df_ c6
     clear c6
     obtain rfl := Option.some.inj H
     go_enter Try.func35, Try.ntmps35
     go_wp2_with (first | ((with_reducible refine gate_dst (N := 1) rfl ?_); refine box_event ?hg (N := 1) ?hd (cs := #[.int .i64 a0_0, .int .i64 a0_1, .int .i64 a0_2, .int .i64 a0_3]) (t := 45) ?hr ?_; (case hd => rfl); (case hg => rfl); (case hr => first | (go_simp; done) | (go_simp; rfl)); intro gb223 hg w11 hbox hb; have BK223 := sd_ hbox; have GW223 := gw_ HB e0_ hg; have GE223 := GW223; replace HB := hb_ HB e0_ hb; clear hb hbox hg; have hcz12_0 : w11.cell? ⟨gb223, 0, none⟩ = some (.int .i64 a0_0) := (kc_ BK223.out 0).trans rfl; have hcz12_1 : w11.cell? ⟨gb223, 1, none⟩ = some (.int .i64 a0_1) := (kc_ BK223.out 1).trans rfl; have hcz12_2 : w11.cell? ⟨gb223, 2, none⟩ = some (.int .i64 a0_2) := (kc_ BK223.out 2).trans rfl; have hcz12_3 : w11.cell? ⟨gb223, 3, none⟩ = some (.int .i64 a0_3) := (kc_ BK223.out 3).trans rfl; have hfz12_0 := kf_ BK223.out 0; have hfz12_1 := kf_ BK223.out 1; have hfz12_2 := kf_ BK223.out 2; have hfz12_3 := kf_ BK223.out 3) | ((with_reducible refine gate_callee (f := 39) rfl ?_); refine goesL_ (some 4) rfl rfl Try.func39 (by kernel_rfl) rfl #[.agg #[.int .i64 a0_0, .int .i64 a0_1, .int .i64 a0_2, .int .i64 a0_3]] rfl (by (try simp only [lm_, lq_, lx_]); first | done | rfl | (simp only [ld_, lt_]; rfl)) ?_; (with_reducible refine (neumeref03_Check.calls a0_0 a0_1 a0_2 a0_3 true _ A2.out).mono ?_); rintro e w13 ⟨rfl, hb⟩; refine ⟨_, rfl, ?_⟩; replace BK223 := kb_ BK223 hb; replace HB := hb_ HB (e_ GE223 e0_) hb; (try clear hb); (try clear hb2); (try clear hk); (try clear hi); have hcz14_0 : w13.cell? ⟨gb223, 0, none⟩ = some (.int .i64 a0_0) := (kc_ BK223.out 0).trans rfl; have hcz14_1 : w13.cell? ⟨gb223, 1, none⟩ = some (.int .i64 a0_1) := (kc_ BK223.out 1).trans rfl; have hcz14_2 : w13.cell? ⟨gb223, 2, none⟩ = some (.int .i64 a0_2) := (kc_ BK223.out 2).trans rfl; have hcz14_3 : w13.cell? ⟨gb223, 3, none⟩ = some (.int .i64 a0_3) := (kc_ BK223.out 3).trans rfl; have hfz14_0 := kf_ BK223.out 0; have hfz14_1 := kf_ BK223.out 1; have hfz14_2 := kf_ BK223.out 2; have hfz14_3 := kf_ BK223.out 3))
     go_ret
     exact ⟨by first | rfl | (simp [errW_none, errW_some] <;> rfl) | (simp [*, errW_none, errW_some] <;> rfl), by repeat (first | (with_reducible first | exact HB.out | apply ba_ | apply pd_ | apply d1_ | refine bs_ ?_ GE223.out) | exact HB.out)⟩
   ·rw [if_neg c5] at H
    have c5b0 : decide (a0_2 ≤ 1073741824) = false := df_ c5
    clear c5
    obtain rfl := Option.some.inj H
    go_enter Try.func35, Try.ntmps35
    go_wp2_with (first | ((with_reducible refine gate_dst (N := 1) rfl ?_); refine box_event ?hg (N := 1) ?hd (cs := #[.int .i64 a0_0, .int .i64 a0_1, .int .i64 a0_2, .int .i64 a0_3]) (t := 45) ?hr ?_; (case hd => rfl); (case hg => rfl); (case hr => first | (go_simp; done) | (go_simp; rfl)); intro gb223 hg w15 hbox hb; have BK223 := sd_ hbox; have GW223 := gw_ HB e0_ hg; have GE223 := GW223; replace HB := hb_ HB e0_ hb; clear hb hbox hg; have hcz16_0 : w15.cell? ⟨gb223, 0, none⟩ = some (.int .i64 a0_0) := (kc_ BK223.out 0).trans rfl; have hcz16_1 : w15.cell? ⟨gb223, 1, none⟩ = some (.int .i64 a0_1) := (kc_ BK223.out 1).trans rfl; have hcz16_2 : w15.cell? ⟨gb223, 2, none⟩ = some (.int .i64 a0_2) := (kc_ BK223.out 2).trans rfl; have hcz16_3 : w15.cell? ⟨gb223, 3, none⟩ = some (.int .i64 a0_3) := (kc_ BK223.out 3).trans rfl; have hfz16_0 := kf_ BK223.out 0; have hfz16_1 := kf_ BK223.out 1; have hfz16_2 := kf_ BK223.out 2; have hfz16_3 := kf_ BK223.out 3) | ((with_reducible refine gate_callee (f := 39) rfl ?_); refine goesL_ (some 4) rfl rfl Try.func39 (by kernel_rfl) rfl #[.agg #[.int .i64 a0_0, .int .i64 a0_1, .int .i64 a0_2, .int .i64 a0_3]] rfl (by (try simp only [lm_, lq_, lx_]); first | done | rfl | (simp only [ld_, lt_]; rfl)) ?_; (with_reducible refine (neumeref03_Check.calls a0_0 a0_1 a0_2 a0_3 true _ A2.out).mono ?_); rintro e w17 ⟨rfl, hb⟩; refine ⟨_, rfl, ?_⟩; replace BK223 := kb_ BK223 hb; replace HB := hb_ HB (e_ GE223 e0_) hb; (try clear hb); (try clear hb2); (try clear hk); (try clear hi); have hcz18_0 : w17.cell? ⟨gb223, 0, none⟩ = some (.int .i64 a0_0) := (kc_ BK223.out 0).trans rfl; have hcz18_1 : w17.cell? ⟨gb223, 1, none⟩ = some (.int .i64 a0_1) := (kc_ BK223.out 1).trans rfl; have hcz18_2 : w17.cell? ⟨gb223, 2, none⟩ = some (.int .i64 a0_2) := (kc_ BK223.out 2).trans rfl; have hcz18_3 : w17.cell? ⟨gb223, 3, none⟩ = some (.int .i64 a0_3) := (kc_ BK223.out 3).trans rfl; have hfz18_0 := kf_ BK223.out 0; have hfz18_1 := kf_ BK223.out 1; have hfz18_2 := kf_ BK223.out 2; have hfz18_3 := kf_ BK223.out 3))
    go_ret
    exact ⟨by first | rfl | (simp [errW_none, errW_some] <;> rfl) | (simp [*, errW_none, errW_some] <;> rfl), by repeat (first | (with_reducible first | exact HB.out | apply ba_ | apply pd_ | apply d1_ | refine bs_ ?_ GE223.out) | exact HB.out)⟩
  ·rw [if_neg c4] at H
   have c4b0 : decide ((-1073741824) ≤ a0_0) = false := df_ c4
   clear c4
   obtain rfl := Option.some.inj H
   go_enter Try.func35, Try.ntmps35
   go_wp2_with (first | ((with_reducible refine gate_dst (N := 1) rfl ?_); refine box_event ?hg (N := 1) ?hd (cs := #[.int .i64 a0_0, .int .i64 a0_1, .int .i64 a0_2, .int .i64 a0_3]) (t := 45) ?hr ?_; (case hd => rfl); (case hg => rfl); (case hr => first | (go_simp; done) | (go_simp; rfl)); intro gb223 hg w19 hbox hb; have BK223 := sd_ hbox; have GW223 := gw_ HB e0_ hg; have GE223 := GW223; replace HB := hb_ HB e0_ hb; clear hb hbox hg; have hcz20_0 : w19.cell? ⟨gb223, 0, none⟩ = some (.int .i64 a0_0) := (kc_ BK223.out 0).trans rfl; have hcz20_1 : w19.cell? ⟨gb223, 1, none⟩ = some (.int .i64 a0_1) := (kc_ BK223.out 1).trans rfl; have hcz20_2 : w19.cell? ⟨gb223, 2, none⟩ = some (.int .i64 a0_2) := (kc_ BK223.out 2).trans rfl; have hcz20_3 : w19.cell? ⟨gb223, 3, none⟩ = some (.int .i64 a0_3) := (kc_ BK223.out 3).trans rfl; have hfz20_0 := kf_ BK223.out 0; have hfz20_1 := kf_ BK223.out 1; have hfz20_2 := kf_ BK223.out 2; have hfz20_3 := kf_ BK223.out 3) | ((with_reducible refine gate_callee (f := 39) rfl ?_); refine goesL_ (some 4) rfl rfl Try.func39 (by kernel_rfl) rfl #[.agg #[.int .i64 a0_0, .int .i64 a0_1, .int .i64 a0_2, .int .i64 a0_3]] rfl (by (try simp only [lm_, lq_, lx_]); first | done | rfl | (simp only [ld_, lt_]; rfl)) ?_; (with_reducible refine (neumeref03_Check.calls a0_0 a0_1 a0_2 a0_3 true _ A2.out).mono ?_); rintro e w21 ⟨rfl, hb⟩; refine ⟨_, rfl, ?_⟩; replace BK223 := kb_ BK223 hb; replace HB := hb_ HB (e_ GE223 e0_) hb; (try clear hb); (try clear hb2); (try clear hk); (try clear hi); have hcz22_0 : w21.cell? ⟨gb223, 0, none⟩ = some (.int .i64 a0_0) := (kc_ BK223.out 0).trans rfl; have hcz22_1 : w21.cell? ⟨gb223, 1, none⟩ = some (.int .i64 a0_1) := (kc_ BK223.out 1).trans rfl; have hcz22_2 : w21.cell? ⟨gb223, 2, none⟩ = some (.int .i64 a0_2) := (kc_ BK223.out 2).trans rfl; have hcz22_3 : w21.cell? ⟨gb223, 3, none⟩ = some (.int .i64 a0_3) := (kc_ BK223.out 3).trans rfl; have hfz22_0 := kf_ BK223.out 0; have hfz22_1 := kf_ BK223.out 1; have hfz22_2 := kf_ BK223.out 2; have hfz22_3 := kf_ BK223.out 3))
   go_ret
   exact ⟨by first | rfl | (simp [errW_none, errW_some] <;> rfl) | (simp [*, errW_none, errW_some] <;> rfl), by repeat (first | (with_reducible first | exact HB.out | apply ba_ | apply pd_ | apply d1_ | refine bs_ ?_ GE223.out) | exact HB.out)⟩
 ·replace c3 := bf_ c3
  subst c3
  have H1 : (some false) = some r := by rw [if_neg (show ¬ (false = true) by decide)] at H; exact H
  clear H; have H := H1; clear H1
  obtain rfl := Option.some.inj H
  go_enter Try.func35, Try.ntmps35
  go_wp2_with (first | ((with_reducible refine gate_dst (N := 1) rfl ?_); refine box_event ?hg (N := 1) ?hd (cs := #[.int .i64 a0_0, .int .i64 a0_1, .int .i64 a0_2, .int .i64 a0_3]) (t := 45) ?hr ?_; (case hd => rfl); (case hg => rfl); (case hr => first | (go_simp; done) | (go_simp; rfl)); intro gb223 hg w23 hbox hb; have BK223 := sd_ hbox; have GW223 := gw_ HB e0_ hg; have GE223 := GW223; replace HB := hb_ HB e0_ hb; clear hb hbox hg; have hcz24_0 : w23.cell? ⟨gb223, 0, none⟩ = some (.int .i64 a0_0) := (kc_ BK223.out 0).trans rfl; have hcz24_1 : w23.cell? ⟨gb223, 1, none⟩ = some (.int .i64 a0_1) := (kc_ BK223.out 1).trans rfl; have hcz24_2 : w23.cell? ⟨gb223, 2, none⟩ = some (.int .i64 a0_2) := (kc_ BK223.out 2).trans rfl; have hcz24_3 : w23.cell? ⟨gb223, 3, none⟩ = some (.int .i64 a0_3) := (kc_ BK223.out 3).trans rfl; have hfz24_0 := kf_ BK223.out 0; have hfz24_1 := kf_ BK223.out 1; have hfz24_2 := kf_ BK223.out 2; have hfz24_3 := kf_ BK223.out 3) | ((with_reducible refine gate_callee (f := 39) rfl ?_); refine goesL_ (some 4) rfl rfl Try.func39 (by kernel_rfl) rfl #[.agg #[.int .i64 a0_0, .int .i64 a0_1, .int .i64 a0_2, .int .i64 a0_3]] rfl (by (try simp only [lm_, lq_, lx_]); first | done | rfl | (simp only [ld_, lt_]; rfl)) ?_; (with_reducible refine (neumeref03_Check.calls a0_0 a0_1 a0_2 a0_3 false _ A2.out).mono ?_); rintro e w25 ⟨rfl, hb⟩; refine ⟨_, rfl, ?_⟩; replace BK223 := kb_ BK223 hb; replace HB := hb_ HB (e_ GE223 e0_) hb; (try clear hb); (try clear hb2); (try clear hk); (try clear hi)))
  go_ret
  exact ⟨by first | rfl | (simp [errW_none, errW_some] <;> rfl) | (simp [*, errW_none, errW_some] <;> rfl), by repeat (first | (with_reducible first | exact HB.out | apply ba_ | apply pd_ | apply d1_ | refine bs_ ?_ GE223.out) | exact HB.out)⟩

/-! ### neumeref24_fit: function 23 -/
def neumeref24_fit.l0 : Nat → List (S45) → Int → Option (Bool)
 | 0, _, _ => none
 | k + 1, x0, x3 => if x3 < (x0.length : Int) then (if 0 ≤ x3 then ((neumeref24_near.f ((rd_T45 x0 x3).f0) ((rd_T45 x0 x3).f1) ((rd_T45 x0 x3).f2) ((rd_T45 x0 x3).f3)).bind fun t226 => (if t226 = true then (neumeref24_fit.l0 k x0 (wrap64 (x3 + 1))) else (some false))) else (none)) else (some true)
def neumeref24_fit.f (k : Nat) (l0 : List (S45)) : Option (Bool) := neumeref24_fit.l0 k l0 0
theorem neumeref24_fit.mono_l : ∀ k, (∀ y0 y1, LeO (neumeref24_fit.l0 k y0 y1) (neumeref24_fit.l0 (k + 1) y0 y1))
 | 0 => fun _ _ r h => by simp [neumeref24_fit.l0] at h
 | k + 1 => by
  have ih0 := neumeref24_fit.mono_l k
  ·intro y0 y1
   unfold neumeref24_fit.l0
   repeat' first
   | (with_reducible exact ih0 _ _)
   | (with_reducible exact LeO.refl _)
   | (with_reducible exact LeO.none _)
   | (with_reducible refine LeO.ite ?_ ?_)
   | (with_reducible refine LeO.bind ?_ (fun _ => ?_))
   | exact ih0 _ _
   | exact LeO.none _
   | refine LeO.ite ?_ ?_
   | refine LeO.bind ?_ (fun _ => ?_)
theorem neumeref24_fit.mono : ∀ a0 k, LeO (neumeref24_fit.f k a0) (neumeref24_fit.f (k + 1) a0) := by
 intro a0 k
 have ih0 := neumeref24_fit.mono_l k
 unfold neumeref24_fit.f
 repeat' first
   | (with_reducible exact ih0 _ _)
   | (with_reducible exact LeO.refl _)
   | (with_reducible exact LeO.none _)
   | (with_reducible refine LeO.ite ?_ ?_)
   | (with_reducible refine LeO.bind ?_ (fun _ => ?_))
   | exact ih0 _ _
   | exact LeO.none _
   | refine LeO.ite ?_ ?_
   | refine LeO.bind ?_ (fun _ => ?_)
set_option maxHeartbeats 8000000 in
set_option maxRecDepth 100000 in
theorem neumeref24_fit.calls (k : Nat) (A0 : Option Addr) (c0 : Nat) (l0 : List (S45)) (r : Bool) (w : World) (hr0 : Kd.C k45 w A0 l0.length l0) (hc0 : l0.length ≤ c0) (h : neumeref24_fit.f k l0 = some r) :
  Calls Try.prog 23 #[.slice A0 l0.length c0] w fun e w' => e = .returned (.bool r) ∧ Below w.heap.size w w' := by
 have hu45 := Try.underlying45
 have HR0 := sd_ hr0
 have HC0 := sd_ hc0
 clear hr0 hc0
 have HB := sd_ (Below.refl w.heap.size w)
 have H : (neumeref24_fit.l0 k l0 0) = some r := h
 clear h
 have H' := sd_ H
 clear H
 go_enter Try.func23, Try.ntmps23
 go_wp2
 go_loopg [3] k (fun kq v3 w' => ∃ (x3_1 : Int), v3 = .int .i64 x3_1 ∧ Aside0 (neumeref24_fit.l0 kq l0 x3_1 = some r) ∧ Aside0 (kq ≤ k) ∧ Aside0 (Below w.heap.size w w'))
 case atStart => exact ⟨(0), (by first | rfl | (simp; done) | (simp [*]; done) | (simp [bne]; done)), H', ⟨Nat.le_refl _⟩, ⟨by repeat (first | (with_reducible first | exact HB.out | apply ba_ | apply pd_ | apply d1_) | exact HB.out)⟩⟩
 case round =>
  clear H'
  obtain ⟨x3_1, rfl, HA, HK1, HB⟩ := hrel
  cases gk with
  | zero => exact absurd HA.out (by simp [neumeref24_fit.l0])
  | succ k1 =>
   have H := HA.out
   clear HA
   simp only [neumeref24_fit.l0] at H
   by_cases c2 : x3_1 < (l0.length : Int)
   ·rw [if_pos c2] at H
    have c2b0 : decide (x3_1 < (l0.length : Int)) = true := dt_ c2
    clear c2
    by_cases c3 : 0 ≤ x3_1
    ·rw [if_pos c3] at H
     have c3b0 : decide (0 ≤ x3_1) = true := dt_ c3
     clear c3
     replace H := ob_ H
     obtain ⟨t226, A40, H⟩ := H
     replace H : (if t226 = true then (neumeref24_fit.l0 k1 l0 (wrap64 (x3_1 + 1))) else (some false)) = some r := H
     have A4 := sd_ A40
     clear A40
     by_cases c5 : t226 = true
     ·subst c5
      have H1 : (neumeref24_fit.l0 k1 l0 (wrap64 (x3_1 + 1))) = some r := by rw [if_pos rfl] at H; exact H
      clear H; have H := H1; clear H1
      have H' := sd_ H
      clear H
      have p225 : 0 ≤ (x3_1 : Int) := od_ (by first | (with_reducible assumption) | assumption)
      have q225 : x3_1 < (l0.length : Int) := od_ (by first | (with_reducible assumption) | assumption)
      obtain ⟨ad225, e225, hx225_0, hx225_1, hx225_2, hx225_3⟩ := at_T45 HR0.out x3_1 p225 q225
      cases e225
      replace hx225_0 := (HB.out.cell (wb_ w _ hx225_0)).trans hx225_0
      replace hx225_1 := (HB.out.cell (wb_ w _ hx225_1)).trans hx225_1
      replace hx225_2 := (HB.out.cell (wb_ w _ hx225_2)).trans hx225_2
      replace hx225_3 := (HB.out.cell (wb_ w _ hx225_3)).trans hx225_3
      replace p225 := eq_true p225
      replace q225 := eq_true q225
      go_wp2_with (first | ((with_reducible refine gate_callee (f := 35) rfl ?_); refine goesL_ (some 14) rfl rfl Try.func35 (by kernel_rfl) rfl #[.agg #[.int .i64 ((rd_T45 l0 x3_1).f0), .int .i64 ((rd_T45 l0 x3_1).f1), .int .i64 ((rd_T45 l0 x3_1).f2), .int .i64 ((rd_T45 l0 x3_1).f3)]] rfl (by (try simp only [lm_, lq_, lx_]); first | done | rfl | (simp only [ld_, lt_]; rfl)) ?_; (with_reducible refine (neumeref24_near.calls ((rd_T45 l0 x3_1).f0) ((rd_T45 l0 x3_1).f1) ((rd_T45 l0 x3_1).f2) ((rd_T45 l0 x3_1).f3) true _ A4.out).mono ?_); rintro e w6 ⟨rfl, hb⟩; refine ⟨_, rfl, ?_⟩; replace HB := hb_ HB e0_ hb; (try clear hb); (try clear hb2); (try clear hk); (try clear hi)))
      go_roundg k1
      case measure => have := HK1.out; omega
      case rel => exact ⟨(wrap64 (x3_1 + 1)), (by first | rfl | (simp; done) | (simp [*]; done) | (simp [bne]; done)), H', ⟨by have := HK1.out; omega⟩, ⟨by repeat (first | (with_reducible first | exact HB.out | apply ba_ | apply pd_ | apply d1_) | exact HB.out)⟩⟩
     ·replace c5 := bf_ c5
      subst c5
      have H1 : (some false) = some r := by rw [if_neg (show ¬ (false = true) by decide)] at H; exact H
      clear H; have H := H1; clear H1
      obtain rfl := Option.some.inj H
      have p225 : 0 ≤ (x3_1 : Int) := od_ (by first | (with_reducible assumption) | assumption)
      have q225 : x3_1 < (l0.length : Int) := od_ (by first | (with_reducible assumption) | assumption)
      obtain ⟨ad225, e225, hx225_0, hx225_1, hx225_2, hx225_3⟩ := at_T45 HR0.out x3_1 p225 q225
      cases e225
      replace hx225_0 := (HB.out.cell (wb_ w _ hx225_0)).trans hx225_0
      replace hx225_1 := (HB.out.cell (wb_ w _ hx225_1)).trans hx225_1
      replace hx225_2 := (HB.out.cell (wb_ w _ hx225_2)).trans hx225_2
      replace hx225_3 := (HB.out.cell (wb_ w _ hx225_3)).trans hx225_3
      replace p225 := eq_true p225
      replace q225 := eq_true q225
      go_wp2_with (first | ((with_reducible refine gate_callee (f := 35) rfl ?_); refine goesL_ (some 14) rfl rfl Try.func35 (by kernel_rfl) rfl #[.agg #[.int .i64 ((rd_T45 l0 x3_1).f0), .int .i64 ((rd_T45 l0 x3_1).f1), .int .i64 ((rd_T45 l0 x3_1).f2), .int .i64 ((rd_T45 l0 x3_1).f3)]] rfl (by (try simp only [lm_, lq_, lx_]); first | done | rfl | (simp only [ld_, lt_]; rfl)) ?_; (with_reducible refine (neumeref24_near.calls ((rd_T45 l0 x3_1).f0) ((rd_T45 l0 x3_1).f1) ((rd_T45 l0 x3_1).f2) ((rd_T45 l0 x3_1).f3) false _ A4.out).mono ?_); rintro e w7 ⟨rfl, hb⟩; refine ⟨_, rfl, ?_⟩; replace HB := hb_ HB e0_ hb; (try clear hb); (try clear hb2); (try clear hk); (try clear hi)))
      go_ret
      exact ⟨by first | rfl | (simp [errW_none, errW_some] <;> rfl) | (simp [*, errW_none, errW_some] <;> rfl), by repeat (first | (with_reducible first | exact HB.out | apply ba_ | apply pd_ | apply d1_) | exact HB.out)⟩
    ·rw [if_neg c3] at H
     exact absurd H (by simp)
   ·rw [if_neg c2] at H
    have c2b0 : decide (x3_1 < (l0.length : Int)) = false := df_ c2
    clear c2
    obtain rfl := Option.some.inj H
    go_wp2
    go_ret
    exact ⟨by first | rfl | (simp [errW_none, errW_some] <;> rfl) | (simp [*, errW_none, errW_some] <;> rfl), by repeat (first | (with_reducible first | exact HB.out | apply ba_ | apply pd_ | apply d1_) | exact HB.out)⟩

/-! ### neumeref24_moved: function 25 -/
def neumeref24_moved.f (a0_0 : Int) (a0_1 : Int) (a0_2 : Int) (a0_3 : Int) (a1 : Int) : Option (Int × Int × Int × Int) := some (wrap64 (a0_0 + a1), a0_1, wrap64 (a0_2 + a1), a0_3)
set_option maxHeartbeats 8000000 in
set_option maxRecDepth 100000 in
theorem neumeref24_moved.calls (a0_0 : Int) (a0_1 : Int) (a0_2 : Int) (a0_3 : Int) (a1 : Int) (r1 : Int) (r2 : Int) (r3 : Int) (r4 : Int) (w : World) (h : neumeref24_moved.f a0_0 a0_1 a0_2 a0_3 a1 = some (r1, r2, r3, r4)) :
  Calls Try.prog 25 #[.agg #[.int .i64 a0_0, .int .i64 a0_1, .int .i64 a0_2, .int .i64 a0_3], .int .i64 a1] w fun e w' => e = .returned (.agg #[.int .i64 r1, .int .i64 r2, .int .i64 r3, .int .i64 r4]) ∧ Below w.heap.size w w' := by
 have hu45 := Try.underlying45
 have HB := sd_ (Below.refl w.heap.size w)
 have H : (some (wrap64 (a0_0 + a1), a0_1, wrap64 (a0_2 + a1), a0_3)) = some (r1, r2, r3, r4) := h
 clear h
 simp only [Option.some.injEq, Prod.mk.injEq] at H
 obtain ⟨rfl, rfl, rfl, rfl⟩ := H
 go_enter Try.func25, Try.ntmps25
 go_wp2_with (first | ((with_reducible refine gate_dst (N := 2) rfl ?_); refine box_event ?hg (N := 2) ?hd (cs := #[.int .i64 a0_0, .int .i64 a0_1, .int .i64 a0_2, .int .i64 a0_3]) (t := 45) ?hr ?_; (case hd => rfl); (case hg => rfl); (case hr => first | (go_simp; done) | (go_simp; rfl)); intro gb227 hg w3 hbox hb; have BK227 := sd_ hbox; have GW227 := gw_ HB e0_ hg; have GE227 := GW227; replace HB := hb_ HB e0_ hb; clear hb hbox hg) | ((with_reducible refine gate_dst (N := 4) rfl ?_); refine box_event ?hg (N := 4) ?hd (cs := #[.int .i64 0, .int .i64 0, .int .i64 0, .int .i64 0]) (t := 45) ?hr ?_; (case hd => rfl); (case hg => rfl); (case hr => first | (go_simp; done) | (go_simp; rfl)); intro gb228 hg w4 hbox hb; have BK228 := sd_ hbox; have GW228 := gw_ HB (e_ GE227 e0_) hg; have GE228 := GW228; have NB227_228 := nb_ BK227 hg; have NB228_227 := sy_ NB227_228; replace BK227 := kb_ BK227 hb; replace HB := hb_ HB (e_ GE227 e0_) hb; clear hb hbox hg; have hnb5 := NB227_228.out; have hnc5 := NB228_227.out; have hcz6_0 : w4.cell? ⟨gb227, 0, none⟩ = some (.int .i64 a0_0) := (kc_ BK227.out 0).trans rfl; have hcz6_1 : w4.cell? ⟨gb227, 1, none⟩ = some (.int .i64 a0_1) := (kc_ BK227.out 1).trans rfl; have hcz6_2 : w4.cell? ⟨gb227, 2, none⟩ = some (.int .i64 a0_2) := (kc_ BK227.out 2).trans rfl; have hcz6_3 : w4.cell? ⟨gb227, 3, none⟩ = some (.int .i64 a0_3) := (kc_ BK227.out 3).trans rfl; have hfz6_0 := kf_ BK227.out 0; have hfz6_1 := kf_ BK227.out 1; have hfz6_2 := kf_ BK227.out 2; have hfz6_3 := kf_ BK227.out 3; have hcz7_0 : w4.cell? ⟨gb228, 0, none⟩ = some (.int .i64 0) := (kc_ BK228.out 0).trans rfl; have hcz7_1 : w4.cell? ⟨gb228, 1, none⟩ = some (.int .i64 0) := (kc_ BK228.out 1).trans rfl; have hcz7_2 : w4.cell? ⟨gb228, 2, none⟩ = some (.int .i64 0) := (kc_ BK228.out 2).trans rfl; have hcz7_3 : w4.cell? ⟨gb228, 3, none⟩ = some (.int .i64 0) := (kc_ BK228.out 3).trans rfl; have hfz7_0 := kf_ BK228.out 0; have hfz7_1 := kf_ BK228.out 1; have hfz7_2 := kf_ BK228.out 2; have hfz7_3 := kf_ BK228.out 3))
 refine bodyPost_ret (results_cell_row rfl _ _ gb228 45 #[.int .i64 (wrap64 (a0_0 + a1)), .int .i64 a0_1, .int .i64 (wrap64 (a0_2 + a1)), .int .i64 a0_3] (0, 0) _ rfl (by (with_reducible repeat first | apply kn_ | apply kd_ | apply ka_); refine blk_put (cs := #[.int .i64 (wrap64 (a0_0 + a1)), .int .i64 a0_1, .int .i64 (wrap64 (a0_2 + a1)), .int .i64 0]) ?_ 3 _ rfl; (with_reducible repeat first | apply kn_ | apply kd_ | apply ka_); refine blk_put (cs := #[.int .i64 (wrap64 (a0_0 + a1)), .int .i64 a0_1, .int .i64 0, .int .i64 0]) ?_ 2 _ rfl; (with_reducible repeat first | apply kn_ | apply kd_ | apply ka_); refine blk_put (cs := #[.int .i64 (wrap64 (a0_0 + a1)), .int .i64 0, .int .i64 0, .int .i64 0]) ?_ 1 _ rfl; (with_reducible repeat first | apply kn_ | apply kd_ | apply ka_); refine blk_put (cs := #[.int .i64 0, .int .i64 0, .int .i64 0, .int .i64 0]) ?_ 0 _ rfl; (with_reducible repeat first | apply kn_ | apply kd_ | apply ka_); exact BK228.out) Try.underlying45 rfl (by kernel_rfl)) rfl ?_
 exact ⟨by first | rfl | (simp [errW_none, errW_some] <;> rfl) | (simp [*, errW_none, errW_some] <;> rfl), by repeat (first | (with_reducible first | exact HB.out | apply ba_ | apply pd_ | apply d1_ | refine bs_ ?_ GE227.out | refine bs_ ?_ GE228.out) | exact HB.out)⟩

/-! ### neumeref24_meets: function 36 -/
mutual
def neumeref24_meets.l0 : Nat → List (S45) → List (S45) → Int → Int → Option (Bool)
 | 0, _, _, _, _ => none
 | k + 1, x0, x1, x2, x7 => if x7 < (x0.length : Int) then (neumeref24_meets.l1 k x0 x1 x2 x7 0) else (some false)
def neumeref24_meets.l1 : Nat → List (S45) → List (S45) → Int → Int → Int → Option (Bool)
 | 0, _, _, _, _, _ => none
 | k + 1, x0, x1, x2, x7, x8 => if x8 < (x1.length : Int) then (if 0 ≤ x7 then (if x7 < (x0.length : Int) then (if 0 ≤ x8 then ((neumeref24_moved.f ((rd_T45 x1 x8).f0) ((rd_T45 x1 x8).f1) ((rd_T45 x1 x8).f2) ((rd_T45 x1 x8).f3) x2).bind fun bt235 => ((neumeref03_Meet.f ((rd_T45 x0 x7).f0) ((rd_T45 x0 x7).f1) ((rd_T45 x0 x7).f2) ((rd_T45 x0 x7).f3) bt235.1 bt235.2.1 bt235.2.2.1 bt235.2.2.2).bind fun t239 => (if t239 = true then (some true) else (neumeref24_meets.l1 k x0 x1 x2 x7 (wrap64 (x8 + 1)))))) else (none)) else (none)) else (none)) else (neumeref24_meets.l0 k x0 x1 x2 (wrap64 (x7 + 1)))
end
def neumeref24_meets.f (k : Nat) (l0 : List (S45)) (l1 : List (S45)) (a2 : Int) : Option (Bool) := neumeref24_meets.l0 k l0 l1 a2 0
theorem neumeref24_meets.mono_l : ∀ k, (∀ y0 y1 y2 y3, LeO (neumeref24_meets.l0 k y0 y1 y2 y3) (neumeref24_meets.l0 (k + 1) y0 y1 y2 y3)) ∧ (∀ y0 y1 y2 y3 y4, LeO (neumeref24_meets.l1 k y0 y1 y2 y3 y4) (neumeref24_meets.l1 (k + 1) y0 y1 y2 y3 y4))
 | 0 => ⟨fun _ _ _ _ r h => by simp [neumeref24_meets.l0] at h, fun _ _ _ _ _ r h => by simp [neumeref24_meets.l1] at h⟩
 | k + 1 => by
  obtain ⟨ih0, ih1⟩ := neumeref24_meets.mono_l k
  refine ⟨?_, ?_⟩
  ·intro y0 y1 y2 y3
   unfold neumeref24_meets.l0
   repeat' first
   | (with_reducible exact ih0 _ _ _ _)
   | (with_reducible exact ih1 _ _ _ _ _)
   | (with_reducible exact LeO.refl _)
   | (with_reducible exact LeO.none _)
   | (with_reducible refine LeO.ite ?_ ?_)
   | (with_reducible refine LeO.bind ?_ (fun _ => ?_))
   | exact ih0 _ _ _ _
   | exact ih1 _ _ _ _ _
   | exact LeO.none _
   | refine LeO.ite ?_ ?_
   | refine LeO.bind ?_ (fun _ => ?_)
  ·intro y0 y1 y2 y3 y4
   unfold neumeref24_meets.l1
   repeat' first
   | (with_reducible exact ih0 _ _ _ _)
   | (with_reducible exact ih1 _ _ _ _ _)
   | (with_reducible exact LeO.refl _)
   | (with_reducible exact LeO.none _)
   | (with_reducible refine LeO.ite ?_ ?_)
   | (with_reducible refine LeO.bind ?_ (fun _ => ?_))
   | exact ih0 _ _ _ _
   | exact ih1 _ _ _ _ _
   | exact LeO.none _
   | refine LeO.ite ?_ ?_
   | refine LeO.bind ?_ (fun _ => ?_)
theorem neumeref24_meets.mono : ∀ a0 a1 a2 k, LeO (neumeref24_meets.f k a0 a1 a2) (neumeref24_meets.f (k + 1) a0 a1 a2) := by
 intro a0 a1 a2 k
 obtain ⟨ih0, ih1⟩ := neumeref24_meets.mono_l k
 unfold neumeref24_meets.f
 repeat' first
   | (with_reducible exact ih0 _ _ _ _)
   | (with_reducible exact ih1 _ _ _ _ _)
   | (with_reducible exact LeO.refl _)
   | (with_reducible exact LeO.none _)
   | (with_reducible refine LeO.ite ?_ ?_)
   | (with_reducible refine LeO.bind ?_ (fun _ => ?_))
   | exact ih0 _ _ _ _
   | exact ih1 _ _ _ _ _
   | exact LeO.none _
   | refine LeO.ite ?_ ?_
   | refine LeO.bind ?_ (fun _ => ?_)
def neumeref24_meets.T7 : Bool × List (List Nat × List Nat) := (true, [([], []), ([], []), ([0, 1], [0, 1]), ([2], [2]), ([], []), ([], []), ([4, 5], [4, 5]), ([6], [6]), ([], []), ([7, 8], [7, 8]), ([3, 9, 9], [3, 9])])
def neumeref24_meets.B7 : List Nat := [0, 0, 3, 7, 0, 0, 48, 112, 0, 496, 1023]
theorem neumeref24_meets.tab7 : rtab .any (opsOf Try.f36 7) = neumeref24_meets.T7 := by kernel_rfl
theorem neumeref24_meets.bits7 : waitsOk neumeref24_meets.T7.2 neumeref24_meets.B7 = true := by kernel_rfl
set_option maxHeartbeats 8000000 in
set_option maxRecDepth 100000 in
theorem neumeref24_meets.calls (k : Nat) (A0 : Option Addr) (c0 : Nat) (l0 : List (S45)) (A1 : Option Addr) (c1 : Nat) (l1 : List (S45)) (a2 : Int) (r : Bool) (w : World) (hr0 : Kd.C k45 w A0 l0.length l0) (hc0 : l0.length ≤ c0) (hr1 : Kd.C k45 w A1 l1.length l1) (hc1 : l1.length ≤ c1) (h : neumeref24_meets.f k l0 l1 a2 = some r) :
  Calls Try.prog 36 #[.slice A0 l0.length c0, .slice A1 l1.length c1, .int .i64 a2] w fun e w' => e = .returned (.bool r) ∧ Below w.heap.size w w' := by
 have hu45 := Try.underlying45
 have HR0 := sd_ hr0
 have HC0 := sd_ hc0
 clear hr0 hc0
 have HR1 := sd_ hr1
 have HC1 := sd_ hc1
 clear hr1 hc1
 have HB := sd_ (Below.refl w.heap.size w)
 have H : (neumeref24_meets.l0 k l0 l1 a2 0) = some r := h
 clear h
 have H' := sd_ H
 clear H
 go_enter Try.func36, Try.ntmps36
 go_wp2
 go_loopg [7] k (fun kq v7 w' => ∃ (x7_1 : Int), v7 = .int .i64 x7_1 ∧ Aside0 (neumeref24_meets.l0 kq l0 l1 a2 x7_1 = some r) ∧ Aside0 (kq ≤ k) ∧ Aside0 (Below w.heap.size w w'))
 case atStart => exact ⟨(0), (by first | rfl | (simp; done) | (simp [*]; done) | (simp [bne]; done)), H', ⟨Nat.le_refl _⟩, ⟨by repeat (first | (with_reducible first | exact HB.out | apply ba_ | apply pd_ | apply d1_) | exact HB.out)⟩⟩
 case round =>
  clear H'
  try clear c1; try clear p2; try clear c3
  obtain ⟨x7_1, rfl, HA, HK1, HB⟩ := hrel
  cases gk with
  | zero => exact absurd HA.out (by simp [neumeref24_meets.l0])
  | succ k1 =>
   have H := HA.out
   clear HA
   simp only [neumeref24_meets.l0] at H
   by_cases c4 : x7_1 < (l0.length : Int)
   ·rw [if_pos c4] at H
    have c4b0 : decide (x7_1 < (l0.length : Int)) = true := dt_ c4
    clear c4
    have H' := sd_ H
    clear H
    go_wp2
    go_loopg [8] k1 (fun kq v8 w' => ∃ (x8_2 : Int), v8 = .int .i64 x8_2 ∧ Aside0 (neumeref24_meets.l1 kq l0 l1 a2 x7_1 x8_2 = some r) ∧ Aside0 (kq ≤ k1) ∧ Aside0 (Below w.heap.size w w'))
    case atStart => exact ⟨(0), (by first | rfl | (simp; done) | (simp [*]; done) | (simp [bne]; done)), H', ⟨Nat.le_refl _⟩, ⟨by repeat (first | (with_reducible first | exact HB.out | apply ba_ | apply pd_ | apply d1_) | exact HB.out)⟩⟩
    case round =>
     clear H'
     try clear c1; try clear p2; try clear c3; try clear c4; try clear c4b0; try clear p2
     obtain ⟨x8_2, rfl, HA, HK2, HB⟩ := hrel
     cases gk with
     | zero => exact absurd HA.out (by simp [neumeref24_meets.l1])
     | succ k2 =>
      have H := HA.out
      clear HA
      simp only [neumeref24_meets.l1] at H
      by_cases c5 : x8_2 < (l1.length : Int)
      ·rw [if_pos c5] at H
       have c5b0 : decide (x8_2 < (l1.length : Int)) = true := dt_ c5
       clear c5
       by_cases c6 : 0 ≤ x7_1
       ·rw [if_pos c6] at H
        have c6b0 : decide (0 ≤ x7_1) = true := dt_ c6
        clear c6
        by_cases c7 : x7_1 < (l0.length : Int)
        ·rw [if_pos c7] at H
         have c7b0 : decide (x7_1 < (l0.length : Int)) = true := dt_ c7
         clear c7
         by_cases c8 : 0 ≤ x8_2
         ·rw [if_pos c8] at H
          have c8b0 : decide (0 ≤ x8_2) = true := dt_ c8
          clear c8
          replace H := ob_ H
          obtain ⟨⟨t235, t236, t237, t238⟩, A90, H⟩ := H
          replace H : ((neumeref03_Meet.f ((rd_T45 l0 x7_1).f0) ((rd_T45 l0 x7_1).f1) ((rd_T45 l0 x7_1).f2) ((rd_T45 l0 x7_1).f3) t235 t236 t237 t238).bind fun t239 => (if t239 = true then (some true) else (neumeref24_meets.l1 k2 l0 l1 a2 x7_1 (wrap64 (x8_2 + 1))))) = some r := H
          have A9 := sd_ A90
          clear A90
          replace H := ob_ H
          obtain ⟨t239, A100, H⟩ := H
          replace H : (if t239 = true then (some true) else (neumeref24_meets.l1 k2 l0 l1 a2 x7_1 (wrap64 (x8_2 + 1)))) = some r := H
          have A10 := sd_ A100
          clear A100
          by_cases c11 : t239 = true
          ·subst c11
           have H1 : (some true) = some r := by rw [if_pos rfl] at H; exact H
           clear H; have H := H1; clear H1
           obtain rfl := Option.some.inj H
           try go_wp2
           replace HB := sd_ (d1_ HB.out)
           have p233 : 0 ≤ (x7_1 : Int) := od_ (by first | (with_reducible assumption) | assumption)
           have q233 : x7_1 < (l0.length : Int) := od_ (by first | (with_reducible assumption) | assumption)
           obtain ⟨ad233, e233, hx233_0, hx233_1, hx233_2, hx233_3⟩ := at_T45 HR0.out x7_1 p233 q233
           have hw233_3 := hx233_3
           have hw233_2 := hx233_2
           have hw233_1 := hx233_1
           have hw233_0 := hx233_0
           cases e233
           replace hx233_0 := (HB.out.cell (wb_ w _ hx233_0)).trans hx233_0
           replace hx233_1 := (HB.out.cell (wb_ w _ hx233_1)).trans hx233_1
           replace hx233_2 := (HB.out.cell (wb_ w _ hx233_2)).trans hx233_2
           replace hx233_3 := (HB.out.cell (wb_ w _ hx233_3)).trans hx233_3
           replace p233 := eq_true p233
           replace q233 := eq_true q233
           have p234 : 0 ≤ (x8_2 : Int) := od_ (by first | (with_reducible assumption) | assumption)
           have q234 : x8_2 < (l1.length : Int) := od_ (by first | (with_reducible assumption) | assumption)
           obtain ⟨ad234, e234, hx234_0, hx234_1, hx234_2, hx234_3⟩ := at_T45 HR1.out x8_2 p234 q234
           have hw234_3 := hx234_3
           have hw234_2 := hx234_2
           have hw234_1 := hx234_1
           have hw234_0 := hx234_0
           cases e234
           replace hx234_0 := (HB.out.cell (wb_ w _ hx234_0)).trans hx234_0
           replace hx234_1 := (HB.out.cell (wb_ w _ hx234_1)).trans hx234_1
           replace hx234_2 := (HB.out.cell (wb_ w _ hx234_2)).trans hx234_2
           replace hx234_3 := (HB.out.cell (wb_ w _ hx234_3)).trans hx234_3
           replace p234 := eq_true p234
           replace q234 := eq_true q234
           refine start_ (n := 11) (S := fun w' => w'.cell? (ad233.add ((x7_1).toNat * 4)) = some (.int .i64 ((rd_T45 l0 x7_1).f0)) ∧ w'.cell? ⟨(ad233.add ((x7_1).toNat * 4)).block, (ad233.add ((x7_1).toNat * 4)).off + 1, none⟩ = some (.int .i64 ((rd_T45 l0 x7_1).f1)) ∧ w'.cell? ⟨(ad233.add ((x7_1).toNat * 4)).block, (ad233.add ((x7_1).toNat * 4)).off + 2, none⟩ = some (.int .i64 ((rd_T45 l0 x7_1).f2)) ∧ w'.cell? ⟨(ad233.add ((x7_1).toNat * 4)).block, (ad233.add ((x7_1).toNat * 4)).off + 3, none⟩ = some (.int .i64 ((rd_T45 l0 x7_1).f3)) ∧ w'.cell? (ad234.add ((x8_2).toNat * 4)) = some (.int .i64 ((rd_T45 l1 x8_2).f0)) ∧ w'.cell? ⟨(ad234.add ((x8_2).toNat * 4)).block, (ad234.add ((x8_2).toNat * 4)).off + 1, none⟩ = some (.int .i64 ((rd_T45 l1 x8_2).f1)) ∧ w'.cell? ⟨(ad234.add ((x8_2).toNat * 4)).block, (ad234.add ((x8_2).toNat * 4)).off + 2, none⟩ = some (.int .i64 ((rd_T45 l1 x8_2).f2)) ∧ w'.cell? ⟨(ad234.add ((x8_2).toNat * 4)).block, (ad234.add ((x8_2).toNat * 4)).off + 3, none⟩ = some (.int .i64 ((rd_T45 l1 x8_2).f3))) (ds := []) (Array.replicate 11 false) (by kernel_rfl) rfl rfl ⟨((HB.out.cell (wb_ w _ hw233_0)).trans hw233_0), ((HB.out.cell (wb_ w _ hw233_1)).trans hw233_1), ((HB.out.cell (wb_ w _ hw233_2)).trans hw233_2), ((HB.out.cell (wb_ w _ hw233_3)).trans hw233_3), ((HB.out.cell (wb_ w _ hw234_0)).trans hw234_0), ((HB.out.cell (wb_ w _ hw234_1)).trans hw234_1), ((HB.out.cell (wb_ w _ hw234_2)).trans hw234_2), ((HB.out.cell (wb_ w _ hw234_3)).trans hw234_3)⟩ (fun hHeld => ?_); refine with_tabW neumeref24_meets.tab7 neumeref24_meets.bits7 (fun HT_ HW_ => ?_)
           generalize wr.drew = w12 at HB hx233_0 hx233_1 hx233_2 hx233_3 hx234_0 hx234_1 hx234_2 hx234_3 hHeld ⊢
           refine pu_ (v := ?_) (a' := ?_) 0 21 (bz 11 1) rfl rfl HT_ (by kernel_rfl) (fun _ _ _ h => h) (by rfl) ?_ ?_ ?_
           rotate_left; (intro w'; go_simp; with_reducible rfl); rotate_left; (simp only [Act.put, ls_, lz_, lc_, i64_w, i32_w]; rfl)
           refine pu_ (v := ?_) (a' := ?_) 1 22 (bz 11 3) rfl rfl HT_ (by kernel_rfl) (fun _ _ _ h => h) (by rfl) ?_ ?_ ?_
           rotate_left; (intro w'; go_simp; with_reducible rfl); rotate_left; (simp only [Act.put, ls_, lz_, lc_, i64_w, i32_w]; rfl)
           refine pu_ (v := ?_) (a' := ?_) 2 23 (bz 11 7) rfl rfl HT_ (by kernel_rfl) (fun _ _ _ h => h) (by rfl) ?_ ?_ ?_
           rotate_left; (intro w'; go_simp; with_reducible rfl); rotate_left; (simp only [Act.put, ls_, lz_, lc_, i64_w, i32_w]; rfl)
           refine pu_ (v := ?_) (a' := ?_) 4 25 (bz 11 23) rfl rfl HT_ (by kernel_rfl) (fun _ _ _ h => h) (by rfl) ?_ ?_ ?_
           rotate_left; (intro w'; go_simp; with_reducible rfl); rotate_left; (simp only [Act.put, ls_, lz_, lc_, i64_w, i32_w]; rfl)
           refine pu_ (v := ?_) (a' := ?_) 5 26 (bz 11 55) rfl rfl HT_ (by kernel_rfl) (fun _ _ _ h => h) (by rfl) ?_ ?_ ?_
           rotate_left; (intro w'; go_simp; with_reducible rfl); rotate_left; (simp only [Act.put, ls_, lz_, lc_, i64_w, i32_w]; rfl)
           refine pu_ (v := ?_) (a' := ?_) 6 27 (bz 11 119) rfl rfl HT_ (by kernel_rfl) (fun _ _ _ h => h) (by rfl) ?_ ?_ ?_
           rotate_left; (intro w'; go_simp; with_reducible rfl); rotate_left; (simp only [Act.put, ls_, lz_, lc_, i64_w, i32_w]; rfl)
           refine pu_ (v := ?_) (a' := ?_) 8 29 (bz 11 375) rfl rfl HT_ (by kernel_rfl) (fun _ _ _ h => h) (by rfl) ?_ ?_ ?_
           rotate_left; (intro w'; go_simp; with_reducible rfl); rotate_left; (simp only [Act.put, ls_, lz_, lc_, i64_w, i32_w]; rfl)
           refine ta_ (v := ?_) (a' := ?_) 3 24 (bz 11 383) rfl rfl HT_ HW_ (by kernel_rfl) (fun _ _ _ h => h) (by rfl) ?_ hHeld ?_ ?_
           rotate_left
           ·rintro w' ⟨s0, s1, s2, s3, s4, s5, s6, s7⟩
            go_simp
            with_reducible rfl
           rotate_left
           ·simp only [Act.put, ls_, lz_, lc_, i64_w, i32_w]
            rfl
           refine ta_ (v := ?_) (a' := ?_) 7 28 (bz 11 511) rfl rfl HT_ HW_ (by kernel_rfl) (fun _ _ _ h => h) (by rfl) ?_ hHeld ?_ ?_
           rotate_left
           ·rintro w' ⟨s0, s1, s2, s3, s4, s5, s6, s7⟩
            go_simp
            with_reducible rfl
           rotate_left
           ·simp only [Act.put, ls_, lz_, lc_, i64_w, i32_w]
            rfl
           refine on_ (N := some 30) 9 (bz 11 1023) rfl rfl HT_ (by kernel_rfl) (by decide) (fun K hK => ?_)
           refine goes_ Try.func25 (by kernel_rfl) rfl #[.agg #[.int .i64 ((rd_T45 l1 x8_2).f0), .int .i64 ((rd_T45 l1 x8_2).f1), .int .i64 ((rd_T45 l1 x8_2).f2), .int .i64 ((rd_T45 l1 x8_2).f3)], .int .i64 a2] (by rfl) rfl rfl (by (try simp only [lm_, lq_, lx_]); first | done | rfl | (simp only [ld_, lt_]; rfl)) ?_
           with_reducible refine (neumeref24_moved.calls ((rd_T45 l1 x8_2).f0) ((rd_T45 l1 x8_2).f1) ((rd_T45 l1 x8_2).f2) ((rd_T45 l1 x8_2).f3) a2 t235 t236 t237 t238 _ A9.out).mono ?_
           rintro e w13 ⟨rfl, hb⟩
           refine ⟨_, rfl, ?_⟩
           replace HB := hb_ HB e0_ hb
           (try clear hb)
           (try clear hb2)
           (try clear hk)
           (try clear hi)
           refine hK.out _ _ ⟨((HB.out.cell (wb_ w _ hw233_0)).trans hw233_0), ((HB.out.cell (wb_ w _ hw233_1)).trans hw233_1), ((HB.out.cell (wb_ w _ hw233_2)).trans hw233_2), ((HB.out.cell (wb_ w _ hw233_3)).trans hw233_3), ((HB.out.cell (wb_ w _ hw234_0)).trans hw234_0), ((HB.out.cell (wb_ w _ hw234_1)).trans hw234_1), ((HB.out.cell (wb_ w _ hw234_2)).trans hw234_2), ((HB.out.cell (wb_ w _ hw234_3)).trans hw234_3)⟩ (fun hHeld => ?_)
           clear hK K
           refine norm_ (a' := ?_) ?_ ?_
           rotate_left
           ·show Act.put _ (some 30) _ = _
            simp only [Act.put, ls_, lz_, lc_, i64_w, i32_w]
            rfl
           refine on_ (N := some 31) 10 (bz 11 2047) rfl rfl HT_ (by kernel_rfl) (by decide) (fun K hK => ?_)
           refine goes_ Try.func31 (by kernel_rfl) rfl #[.agg #[.int .i64 ((rd_T45 l0 x7_1).f0), .int .i64 ((rd_T45 l0 x7_1).f1), .int .i64 ((rd_T45 l0 x7_1).f2), .int .i64 ((rd_T45 l0 x7_1).f3)], .agg #[.int .i64 t235, .int .i64 t236, .int .i64 t237, .int .i64 t238]] (by rfl) rfl rfl (by (try simp only [lm_, lq_, lx_]); first | done | rfl | (simp only [ld_, lt_]; rfl)) ?_
           with_reducible refine (neumeref03_Meet.calls ((rd_T45 l0 x7_1).f0) ((rd_T45 l0 x7_1).f1) ((rd_T45 l0 x7_1).f2) ((rd_T45 l0 x7_1).f3) t235 t236 t237 t238 true _ A10.out).mono ?_
           rintro e w14 ⟨rfl, hb⟩
           refine ⟨_, rfl, ?_⟩
           replace HB := hb_ HB e0_ hb
           (try clear hb)
           (try clear hb2)
           (try clear hk)
           (try clear hi)
           refine hK.out _ _ ⟨((HB.out.cell (wb_ w _ hw233_0)).trans hw233_0), ((HB.out.cell (wb_ w _ hw233_1)).trans hw233_1), ((HB.out.cell (wb_ w _ hw233_2)).trans hw233_2), ((HB.out.cell (wb_ w _ hw233_3)).trans hw233_3), ((HB.out.cell (wb_ w _ hw234_0)).trans hw234_0), ((HB.out.cell (wb_ w _ hw234_1)).trans hw234_1), ((HB.out.cell (wb_ w _ hw234_2)).trans hw234_2), ((HB.out.cell (wb_ w _ hw234_3)).trans hw234_3)⟩ (fun hHeld => ?_)
           clear hK K
           refine norm_ (a' := ?_) ?_ ?_
           rotate_left
           ·show Act.put _ (some 31) _ = _
            simp only [Act.put, ls_, lz_, lc_, i64_w, i32_w]
            rfl
           refine done_ (done_of HT_.out (by kernel_rfl)) ?_
           try go_wp2
           go_ret
           exact ⟨by first | rfl | (simp [errW_none, errW_some] <;> rfl) | (simp [*, errW_none, errW_some] <;> rfl), by repeat (first | (with_reducible first | exact HB.out | apply ba_ | apply pd_ | apply d1_) | exact HB.out)⟩
          ·replace c11 := bf_ c11
           subst c11
           have H1 : (neumeref24_meets.l1 k2 l0 l1 a2 x7_1 (wrap64 (x8_2 + 1))) = some r := by rw [if_neg (show ¬ (false = true) by decide)] at H; exact H
           clear H; have H := H1; clear H1
           have H' := sd_ H
           clear H
           try go_wp2
           replace HB := sd_ (d1_ HB.out)
           have p233 : 0 ≤ (x7_1 : Int) := od_ (by first | (with_reducible assumption) | assumption)
           have q233 : x7_1 < (l0.length : Int) := od_ (by first | (with_reducible assumption) | assumption)
           obtain ⟨ad233, e233, hx233_0, hx233_1, hx233_2, hx233_3⟩ := at_T45 HR0.out x7_1 p233 q233
           have hw233_3 := hx233_3
           have hw233_2 := hx233_2
           have hw233_1 := hx233_1
           have hw233_0 := hx233_0
           cases e233
           replace hx233_0 := (HB.out.cell (wb_ w _ hx233_0)).trans hx233_0
           replace hx233_1 := (HB.out.cell (wb_ w _ hx233_1)).trans hx233_1
           replace hx233_2 := (HB.out.cell (wb_ w _ hx233_2)).trans hx233_2
           replace hx233_3 := (HB.out.cell (wb_ w _ hx233_3)).trans hx233_3
           replace p233 := eq_true p233
           replace q233 := eq_true q233
           have p234 : 0 ≤ (x8_2 : Int) := od_ (by first | (with_reducible assumption) | assumption)
           have q234 : x8_2 < (l1.length : Int) := od_ (by first | (with_reducible assumption) | assumption)
           obtain ⟨ad234, e234, hx234_0, hx234_1, hx234_2, hx234_3⟩ := at_T45 HR1.out x8_2 p234 q234
           have hw234_3 := hx234_3
           have hw234_2 := hx234_2
           have hw234_1 := hx234_1
           have hw234_0 := hx234_0
           cases e234
           replace hx234_0 := (HB.out.cell (wb_ w _ hx234_0)).trans hx234_0
           replace hx234_1 := (HB.out.cell (wb_ w _ hx234_1)).trans hx234_1
           replace hx234_2 := (HB.out.cell (wb_ w _ hx234_2)).trans hx234_2
           replace hx234_3 := (HB.out.cell (wb_ w _ hx234_3)).trans hx234_3
           replace p234 := eq_true p234
           replace q234 := eq_true q234
           refine start_ (n := 11) (S := fun w' => w'.cell? (ad233.add ((x7_1).toNat * 4)) = some (.int .i64 ((rd_T45 l0 x7_1).f0)) ∧ w'.cell? ⟨(ad233.add ((x7_1).toNat * 4)).block, (ad233.add ((x7_1).toNat * 4)).off + 1, none⟩ = some (.int .i64 ((rd_T45 l0 x7_1).f1)) ∧ w'.cell? ⟨(ad233.add ((x7_1).toNat * 4)).block, (ad233.add ((x7_1).toNat * 4)).off + 2, none⟩ = some (.int .i64 ((rd_T45 l0 x7_1).f2)) ∧ w'.cell? ⟨(ad233.add ((x7_1).toNat * 4)).block, (ad233.add ((x7_1).toNat * 4)).off + 3, none⟩ = some (.int .i64 ((rd_T45 l0 x7_1).f3)) ∧ w'.cell? (ad234.add ((x8_2).toNat * 4)) = some (.int .i64 ((rd_T45 l1 x8_2).f0)) ∧ w'.cell? ⟨(ad234.add ((x8_2).toNat * 4)).block, (ad234.add ((x8_2).toNat * 4)).off + 1, none⟩ = some (.int .i64 ((rd_T45 l1 x8_2).f1)) ∧ w'.cell? ⟨(ad234.add ((x8_2).toNat * 4)).block, (ad234.add ((x8_2).toNat * 4)).off + 2, none⟩ = some (.int .i64 ((rd_T45 l1 x8_2).f2)) ∧ w'.cell? ⟨(ad234.add ((x8_2).toNat * 4)).block, (ad234.add ((x8_2).toNat * 4)).off + 3, none⟩ = some (.int .i64 ((rd_T45 l1 x8_2).f3))) (ds := []) (Array.replicate 11 false) (by kernel_rfl) rfl rfl ⟨((HB.out.cell (wb_ w _ hw233_0)).trans hw233_0), ((HB.out.cell (wb_ w _ hw233_1)).trans hw233_1), ((HB.out.cell (wb_ w _ hw233_2)).trans hw233_2), ((HB.out.cell (wb_ w _ hw233_3)).trans hw233_3), ((HB.out.cell (wb_ w _ hw234_0)).trans hw234_0), ((HB.out.cell (wb_ w _ hw234_1)).trans hw234_1), ((HB.out.cell (wb_ w _ hw234_2)).trans hw234_2), ((HB.out.cell (wb_ w _ hw234_3)).trans hw234_3)⟩ (fun hHeld => ?_); refine with_tabW neumeref24_meets.tab7 neumeref24_meets.bits7 (fun HT_ HW_ => ?_)
           generalize wr.drew = w15 at HB hx233_0 hx233_1 hx233_2 hx233_3 hx234_0 hx234_1 hx234_2 hx234_3 hHeld ⊢
           refine pu_ (v := ?_) (a' := ?_) 0 21 (bz 11 1) rfl rfl HT_ (by kernel_rfl) (fun _ _ _ h => h) (by rfl) ?_ ?_ ?_
           rotate_left; (intro w'; go_simp; with_reducible rfl); rotate_left; (simp only [Act.put, ls_, lz_, lc_, i64_w, i32_w]; rfl)
           refine pu_ (v := ?_) (a' := ?_) 1 22 (bz 11 3) rfl rfl HT_ (by kernel_rfl) (fun _ _ _ h => h) (by rfl) ?_ ?_ ?_
           rotate_left; (intro w'; go_simp; with_reducible rfl); rotate_left; (simp only [Act.put, ls_, lz_, lc_, i64_w, i32_w]; rfl)
           refine pu_ (v := ?_) (a' := ?_) 2 23 (bz 11 7) rfl rfl HT_ (by kernel_rfl) (fun _ _ _ h => h) (by rfl) ?_ ?_ ?_
           rotate_left; (intro w'; go_simp; with_reducible rfl); rotate_left; (simp only [Act.put, ls_, lz_, lc_, i64_w, i32_w]; rfl)
           refine pu_ (v := ?_) (a' := ?_) 4 25 (bz 11 23) rfl rfl HT_ (by kernel_rfl) (fun _ _ _ h => h) (by rfl) ?_ ?_ ?_
           rotate_left; (intro w'; go_simp; with_reducible rfl); rotate_left; (simp only [Act.put, ls_, lz_, lc_, i64_w, i32_w]; rfl)
           refine pu_ (v := ?_) (a' := ?_) 5 26 (bz 11 55) rfl rfl HT_ (by kernel_rfl) (fun _ _ _ h => h) (by rfl) ?_ ?_ ?_
           rotate_left; (intro w'; go_simp; with_reducible rfl); rotate_left; (simp only [Act.put, ls_, lz_, lc_, i64_w, i32_w]; rfl)
           refine pu_ (v := ?_) (a' := ?_) 6 27 (bz 11 119) rfl rfl HT_ (by kernel_rfl) (fun _ _ _ h => h) (by rfl) ?_ ?_ ?_
           rotate_left; (intro w'; go_simp; with_reducible rfl); rotate_left; (simp only [Act.put, ls_, lz_, lc_, i64_w, i32_w]; rfl)
           refine pu_ (v := ?_) (a' := ?_) 8 29 (bz 11 375) rfl rfl HT_ (by kernel_rfl) (fun _ _ _ h => h) (by rfl) ?_ ?_ ?_
           rotate_left; (intro w'; go_simp; with_reducible rfl); rotate_left; (simp only [Act.put, ls_, lz_, lc_, i64_w, i32_w]; rfl)
           refine ta_ (v := ?_) (a' := ?_) 3 24 (bz 11 383) rfl rfl HT_ HW_ (by kernel_rfl) (fun _ _ _ h => h) (by rfl) ?_ hHeld ?_ ?_
           rotate_left
           ·rintro w' ⟨s0, s1, s2, s3, s4, s5, s6, s7⟩
            go_simp
            with_reducible rfl
           rotate_left
           ·simp only [Act.put, ls_, lz_, lc_, i64_w, i32_w]
            rfl
           refine ta_ (v := ?_) (a' := ?_) 7 28 (bz 11 511) rfl rfl HT_ HW_ (by kernel_rfl) (fun _ _ _ h => h) (by rfl) ?_ hHeld ?_ ?_
           rotate_left
           ·rintro w' ⟨s0, s1, s2, s3, s4, s5, s6, s7⟩
            go_simp
            with_reducible rfl
           rotate_left
           ·simp only [Act.put, ls_, lz_, lc_, i64_w, i32_w]
            rfl
           refine on_ (N := some 30) 9 (bz 11 1023) rfl rfl HT_ (by kernel_rfl) (by decide) (fun K hK => ?_)
           refine goes_ Try.func25 (by kernel_rfl) rfl #[.agg #[.int .i64 ((rd_T45 l1 x8_2).f0), .int .i64 ((rd_T45 l1 x8_2).f1), .int .i64 ((rd_T45 l1 x8_2).f2), .int .i64 ((rd_T45 l1 x8_2).f3)], .int .i64 a2] (by rfl) rfl rfl (by (try simp only [lm_, lq_, lx_]); first | done | rfl | (simp only [ld_, lt_]; rfl)) ?_
           with_reducible refine (neumeref24_moved.calls ((rd_T45 l1 x8_2).f0) ((rd_T45 l1 x8_2).f1) ((rd_T45 l1 x8_2).f2) ((rd_T45 l1 x8_2).f3) a2 t235 t236 t237 t238 _ A9.out).mono ?_
           rintro e w16 ⟨rfl, hb⟩
           refine ⟨_, rfl, ?_⟩
           replace HB := hb_ HB e0_ hb
           (try clear hb)
           (try clear hb2)
           (try clear hk)
           (try clear hi)
           refine hK.out _ _ ⟨((HB.out.cell (wb_ w _ hw233_0)).trans hw233_0), ((HB.out.cell (wb_ w _ hw233_1)).trans hw233_1), ((HB.out.cell (wb_ w _ hw233_2)).trans hw233_2), ((HB.out.cell (wb_ w _ hw233_3)).trans hw233_3), ((HB.out.cell (wb_ w _ hw234_0)).trans hw234_0), ((HB.out.cell (wb_ w _ hw234_1)).trans hw234_1), ((HB.out.cell (wb_ w _ hw234_2)).trans hw234_2), ((HB.out.cell (wb_ w _ hw234_3)).trans hw234_3)⟩ (fun hHeld => ?_)
           clear hK K
           refine norm_ (a' := ?_) ?_ ?_
           rotate_left
           ·show Act.put _ (some 30) _ = _
            simp only [Act.put, ls_, lz_, lc_, i64_w, i32_w]
            rfl
           refine on_ (N := some 31) 10 (bz 11 2047) rfl rfl HT_ (by kernel_rfl) (by decide) (fun K hK => ?_)
           refine goes_ Try.func31 (by kernel_rfl) rfl #[.agg #[.int .i64 ((rd_T45 l0 x7_1).f0), .int .i64 ((rd_T45 l0 x7_1).f1), .int .i64 ((rd_T45 l0 x7_1).f2), .int .i64 ((rd_T45 l0 x7_1).f3)], .agg #[.int .i64 t235, .int .i64 t236, .int .i64 t237, .int .i64 t238]] (by rfl) rfl rfl (by (try simp only [lm_, lq_, lx_]); first | done | rfl | (simp only [ld_, lt_]; rfl)) ?_
           with_reducible refine (neumeref03_Meet.calls ((rd_T45 l0 x7_1).f0) ((rd_T45 l0 x7_1).f1) ((rd_T45 l0 x7_1).f2) ((rd_T45 l0 x7_1).f3) t235 t236 t237 t238 false _ A10.out).mono ?_
           rintro e w17 ⟨rfl, hb⟩
           refine ⟨_, rfl, ?_⟩
           replace HB := hb_ HB e0_ hb
           (try clear hb)
           (try clear hb2)
           (try clear hk)
           (try clear hi)
           refine hK.out _ _ ⟨((HB.out.cell (wb_ w _ hw233_0)).trans hw233_0), ((HB.out.cell (wb_ w _ hw233_1)).trans hw233_1), ((HB.out.cell (wb_ w _ hw233_2)).trans hw233_2), ((HB.out.cell (wb_ w _ hw233_3)).trans hw233_3), ((HB.out.cell (wb_ w _ hw234_0)).trans hw234_0), ((HB.out.cell (wb_ w _ hw234_1)).trans hw234_1), ((HB.out.cell (wb_ w _ hw234_2)).trans hw234_2), ((HB.out.cell (wb_ w _ hw234_3)).trans hw234_3)⟩ (fun hHeld => ?_)
           clear hK K
           refine norm_ (a' := ?_) ?_ ?_
           rotate_left
           ·show Act.put _ (some 31) _ = _
            simp only [Act.put, ls_, lz_, lc_, i64_w, i32_w]
            rfl
           refine done_ (done_of HT_.out (by kernel_rfl)) ?_
           try go_wp2
           go_roundg k2
           case measure => have := HK1.out; have := HK2.out; omega
           case rel => exact ⟨(wrap64 (x8_2 + 1)), (by first | rfl | (simp; done) | (simp [*]; done) | (simp [bne]; done)), H', ⟨by have := HK1.out; have := HK2.out; omega⟩, ⟨by repeat (first | (with_reducible first | exact HB.out | apply ba_ | apply pd_ | apply d1_) | exact HB.out)⟩⟩
         ·rw [if_neg c8] at H
          exact absurd H (by simp)
        ·rw [if_neg c7] at H
         exact absurd H (by simp)
       ·rw [if_neg c6] at H
        exact absurd H (by simp)
      ·rw [if_neg c5] at H
       have c5b0 : decide (x8_2 < (l1.length : Int)) = false := df_ c5
       clear c5
       have H' := sd_ H
       clear H
       go_wp2
       go_roundg k2
       case measure => have := HK1.out; have := HK2.out; omega
       case rel => exact ⟨(wrap64 (x7_1 + 1)), (by first | rfl | (simp; done) | (simp [*]; done) | (simp [bne]; done)), H', ⟨by have := HK1.out; have := HK2.out; omega⟩, ⟨by repeat (first | (with_reducible first | exact HB.out | apply ba_ | apply pd_ | apply d1_) | exact HB.out)⟩⟩
   ·rw [if_neg c4] at H
    have c4b0 : decide (x7_1 < (l0.length : Int)) = false := df_ c4
    clear c4
    obtain rfl := Option.some.inj H
    go_wp2
    go_ret
    exact ⟨by first | rfl | (simp [errW_none, errW_some] <;> rfl) | (simp [*, errW_none, errW_some] <;> rfl), by repeat (first | (with_reducible first | exact HB.out | apply ba_ | apply pd_ | apply d1_) | exact HB.out)⟩

end Go.Proofs.Ytchmcljinkemaaa.P
