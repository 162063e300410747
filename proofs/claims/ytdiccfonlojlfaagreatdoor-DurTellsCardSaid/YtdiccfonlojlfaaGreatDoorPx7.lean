-- Written by a program of this session (wip/tools/xprint.py, over the kit's print): Lean checks it.
import Derived.Test.YtdiccfonlojlfaaGreatDoorPx0
import Derived.Test.YtdiccfonlojlfaaGreatDoorPx3
import Derived.Test.YtdiccfonlojlfaaGreatDoorPx4
import Derived.Test.YtdiccfonlojlfaaGreatDoorPx6
namespace Go.Proofs.YtdiccfonlojlfaaGreatDoor.P
open Go.RowKit Go.Proofs.YtdiccfonlojlfaaGreatDoorW.PrintWords Go.Proofs.YtdiccfonlojlfaaGreatDoorW.PrintLast Go.Proofs.YtdiccfonlojlfaaGreatDoorW.PrintMore
attribute [local go_sem] max2_int min2_int max_two min_two max_three min_three max_four min_four   -- for this text's walks alone
set_option linter.unusedVariables false
set_option linter.unusedSimpArgs false

/-! ### dur_Bar: function 25 -/
def dur_Bar.f (k : Nat) (a0_0 : Int) (a0_1 : Int) : Option (Int × Int × Int) := (dur_Meter.f a0_0 a0_1).bind fun t226 => ((dur_may.f t226).bind fun t227 => (if t227.isNone = true then ((rat_Of.f k a0_0 a0_1).bind fun bt229 => (some (bt229.1, bt229.2.1, bt229.2.2))) else ((dur_errno.f (some (t227.getD 0))).bind fun t232 => (some (0, 0, t232)))))
theorem dur_Bar.mono : ∀ a0 a1 k, LeO (dur_Bar.f k a0 a1) (dur_Bar.f (k + 1) a0 a1) := by
 intro a0 a1 k
 unfold dur_Bar.f
 repeat' first
   | (with_reducible exact rat_Of.mono _ _ _)
   | (with_reducible exact LeO.refl _)
   | (with_reducible exact LeO.none _)
   | (with_reducible refine LeO.ite ?_ ?_)
   | (with_reducible refine LeO.bind ?_ (fun _ => ?_))
   | exact rat_Of.mono _ _ _
   | exact LeO.none _
   | refine LeO.ite ?_ ?_
   | refine LeO.bind ?_ (fun _ => ?_)
set_option maxHeartbeats 8000000 in
set_option maxRecDepth 100000 in
theorem dur_Bar.calls (k : Nat) (a0_0 : Int) (a0_1 : Int) (r1 : Int) (r2 : Int) (r3 : Int) (w : World) (hE : Aside0 (LaidE w)) (h : dur_Bar.f k a0_0 a0_1 = some (r1, r2, r3)) :
  Calls Tryz.prog 25 #[.agg #[.int .i64 a0_0, .int .i64 a0_1]] w fun e w' => e = .returned (.tuple #[.agg #[.int .i64 r1, .int .i64 r2], .int .i64 r3]) ∧ Below w.heap.size w w' := by
 have hu45 := Tryz.underlying45
 have hu25 := Tryz.underlying25
 have hu61 := Tryz.underlying61
 have HB := sd_ (Below.refl w.heap.size w)
 have H : ((dur_Meter.f a0_0 a0_1).bind fun t226 => ((dur_may.f t226).bind fun t227 => (if t227.isNone = true then ((rat_Of.f k a0_0 a0_1).bind fun bt229 => (some (bt229.1, bt229.2.1, bt229.2.2))) else ((dur_errno.f (some (t227.getD 0))).bind fun t232 => (some (0, 0, t232)))))) = some (r1, r2, r3) := h
 clear h
 replace H := ob_ H
 obtain ⟨t226, A20, H⟩ := H
 replace H : ((dur_may.f t226).bind fun t227 => (if t227.isNone = true then ((rat_Of.f k a0_0 a0_1).bind fun bt229 => (some (bt229.1, bt229.2.1, bt229.2.2))) else ((dur_errno.f (some (t227.getD 0))).bind fun t232 => (some (0, 0, t232))))) = some (r1, r2, r3) := H
 have A2 := sd_ A20
 clear A20
 replace H := ob_ H
 obtain ⟨t227, A30, H⟩ := H
 replace H : (if t227.isNone = true then ((rat_Of.f k a0_0 a0_1).bind fun bt229 => (some (bt229.1, bt229.2.1, bt229.2.2))) else ((dur_errno.f (some (t227.getD 0))).bind fun t232 => (some (0, 0, t232)))) = some (r1, r2, r3) := H
 have A3 := sd_ A30
 clear A30
 rcases t227 with _ | q228
 ·have H1 : ((rat_Of.f k a0_0 a0_1).bind fun bt229 => (some (bt229.1, bt229.2.1, bt229.2.2))) = some (r1, r2, r3) := by rw [if_pos (show (none : Option Int).isNone = true by rfl)] at H; exact H
  clear H; have H := H1; clear H1
  try simp only [errW_none, errW_some]
  replace H := ob_ H
  obtain ⟨⟨t229, t230, t231⟩, A40, H⟩ := H
  replace H : (some (t229, t230, t231)) = some (r1, r2, r3) := H
  have A4 := sd_ A40
  clear A40
  simp only [Option.some.injEq, Prod.mk.injEq] at H
  obtain ⟨rfl, rfl, rfl⟩ := H
  go_enter Tryz.func25, Tryz.ntmps25
  go_wp2_with (first | ((with_reducible refine gate_dst (N := 1) rfl ?_); refine box_event ?hg (N := 1) ?hd (cs := #[.int .i64 a0_0, .int .i64 a0_1]) (t := 45) ?hr ?_; (case hd => rfl); (case hg => rfl); (case hr => first | (go_simp; done) | (go_simp; rfl)); intro gb224 hg w5 hbox hb; have BK224 := sd_ hbox; have GW224 := gw_ HB e0_ hg; have GE224 := GW224; replace HB := hb_ HB e0_ hb; clear hb hbox hg) | ((with_reducible refine gate_dst (N := 2) rfl ?_); refine box_event ?hg (N := 2) ?hd (cs := #[.int .i64 0, .int .i64 0]) (t := 25) ?hr ?_; (case hd => rfl); (case hg => rfl); (case hr => first | (go_simp; done) | (go_simp; rfl)); intro gb225 hg w6 hbox hb; have BK225 := sd_ hbox; have GW225 := gw_ HB (e_ GE224 e0_) hg; have GE225 := GW225; have NB224_225 := nb_ BK224 hg; have NB225_224 := sy_ NB224_225; replace BK224 := kb_ BK224 hb; replace HB := hb_ HB (e_ GE224 e0_) hb; clear hb hbox hg; have hnb7 := NB224_225.out; have hnc7 := NB225_224.out; have hcz8_0 : w6.cell? ⟨gb224, 0, none⟩ = some (.int .i64 a0_0) := (kc_ BK224.out 0).trans rfl; have hcz8_1 : w6.cell? ⟨gb224, 1, none⟩ = some (.int .i64 a0_1) := (kc_ BK224.out 1).trans rfl; have hfz8_0 := kf_ BK224.out 0; have hfz8_1 := kf_ BK224.out 1) | ((with_reducible refine gate_callee (f := 32) rfl ?_); refine goesL_ (some 6) rfl rfl Tryz.func32 (by kernel_rfl) rfl #[.agg #[.int .i64 a0_0, .int .i64 a0_1]] rfl (by (try simp only [lm_, lq_, lx_]); first | done | rfl | (simp only [ld_, lt_]; rfl)) ?_; (with_reducible refine (dur_Meter.calls a0_0 a0_1 t226 _ A2.out).mono ?_); rintro e w9 ⟨rfl, hb⟩; refine ⟨_, rfl, ?_⟩; replace BK224 := kb_ BK224 hb; replace BK225 := kb_ BK225 hb; replace HB := hb_ HB (e_ GE224 (e_ GE225 e0_)) hb; (try clear hb); (try clear hb2); (try clear hk); (try clear hi)) | ((with_reducible refine gate_callee (f := 34) rfl ?_); refine goesL_ (some 7) rfl rfl Tryz.func34 (by kernel_rfl) rfl #[.bool t226] rfl (by (try simp only [lm_, lq_, lx_]); first | done | rfl | (simp only [ld_, lt_]; rfl)) ?_; (with_reducible refine (dur_may.calls t226 none _ ?side1 A3.out).mono ?_); (case side1 => first | (with_reducible exact hE) | exact sd_ (LaidE.below hE.out (bb_ HB.out (e_ GE224 (e_ GE225 e0_))))); rintro e w' ⟨rfl, ⟨nd, rfl⟩⟩; refine ⟨_, rfl, ?_⟩; (try simp only [errW_none, errW_some]); (repeat (rw [drewN_self w9]; generalize hq_ : World.drewN w9 _ = w9; have n0_ : Aside0 (w9.heap[gb224]? = some (.cells #[.int .i64 a0_0, .int .i64 a0_1] 45 (0, 0))) := ⟨by rw [← hq_]; exact (kk_ BK224.out)⟩; have n1_ : Aside0 (w9.heap[gb225]? = some (.cells #[.int .i64 0, .int .i64 0] 25 (0, 0))) := ⟨by rw [← hq_]; exact (kk_ BK225.out)⟩; have n2_ : Aside0 (Below w.heap.size w w9) := ⟨by rw [← hq_]; exact (bb_ HB.out (e_ GE224 (e_ GE225 e0_)))⟩; clear BK224 BK225 HB hq_; have BK224 := n0_; have BK225 := n1_; have HB := n2_; clear n0_ n1_ n2_)); have hcz10_0 : w9.cell? ⟨gb224, 0, none⟩ = some (.int .i64 a0_0) := (kc_ BK224.out 0).trans rfl; have hcz10_1 : w9.cell? ⟨gb224, 1, none⟩ = some (.int .i64 a0_1) := (kc_ BK224.out 1).trans rfl; have hfz10_0 := kf_ BK224.out 0; have hfz10_1 := kf_ BK224.out 1) | ((with_reducible refine gate_callee (f := 36) rfl ?_); refine goesL_ (some 17) rfl rfl Tryz.func36 (by kernel_rfl) rfl #[.int .i64 a0_0, .int .i64 a0_1] rfl (by (try simp only [lm_, lq_, lx_]); first | done | rfl | (simp only [ld_, lt_]; rfl)) ?_; (with_reducible refine (rat_Of.calls k a0_0 a0_1 t229 t230 t231 _ A4.out).mono ?_); rintro e w11 ⟨rfl, hb⟩; refine ⟨_, rfl, ?_⟩; replace BK224 := kb_ BK224 hb; replace BK225 := kb_ BK225 hb; replace HB := hb_ HB (e_ GE224 (e_ GE225 e0_)) hb; (try clear hb); (try clear hb2); (try clear hk); (try clear hi); have hcz12_0 : w11.cell? ⟨gb225, 0, none⟩ = some (.int .i64 0) := (kc_ BK225.out 0).trans rfl; have hcz12_1 : w11.cell? ⟨gb225, 1, none⟩ = some (.int .i64 0) := (kc_ BK225.out 1).trans rfl; have hfz12_0 := kf_ BK225.out 0; have hfz12_1 := kf_ BK225.out 1))
  refine bodyPost_ret (results_ct rfl _ _ gb225 25 #[.int .i64 t229, .int .i64 t230] (0, 0) _ rfl (by (with_reducible repeat first | apply kn_ | apply kd_ | apply ka_); refine blk_put (cs := #[.int .i64 t229, .int .i64 0]) ?_ 1 _ rfl; (with_reducible repeat first | apply kn_ | apply kd_ | apply ka_); refine blk_put (cs := #[.int .i64 0, .int .i64 0]) ?_ 0 _ rfl; (with_reducible repeat first | apply kn_ | apply kd_ | apply ka_); exact BK225.out) Tryz.underlying25 rfl (by kernel_rfl)) rfl ?_
  exact ⟨by first | rfl | (simp [errW_none, errW_some] <;> rfl) | (simp [*, errW_none, errW_some] <;> rfl), by repeat (first | (with_reducible first | exact HB.out | apply ba_ | apply pd_ | apply d1_ | refine bs_ ?_ GE224.out | refine bs_ ?_ GE225.out) | exact HB.out)⟩
 ·have H1 : ((dur_errno.f (some q228)).bind fun t232 => (some (0, 0, t232))) = some (r1, r2, r3) := by rw [if_neg (show ¬ (some q228).isNone = true by simp)] at H; exact H
  clear H; have H := H1; clear H1
  try simp only [errW_none, errW_some]
  replace H := ob_ H
  obtain ⟨t232, A130, H⟩ := H
  replace H : (some (0, 0, t232)) = some (r1, r2, r3) := H
  have A13 := sd_ A130
  clear A130
  simp only [Option.some.injEq, Prod.mk.injEq] at H
  obtain ⟨rfl, rfl, rfl⟩ := H
  go_enter Tryz.func25, Tryz.ntmps25
  go_wp2_with (first | ((with_reducible refine gate_dst (N := 1) rfl ?_); refine box_event ?hg (N := 1) ?hd (cs := #[.int .i64 a0_0, .int .i64 a0_1]) (t := 45) ?hr ?_; (case hd => rfl); (case hg => rfl); (case hr => first | (go_simp; done) | (go_simp; rfl)); intro gb224 hg w14 hbox hb; have BK224 := sd_ hbox; have GW224 := gw_ HB e0_ hg; have GE224 := GW224; replace HB := hb_ HB e0_ hb; clear hb hbox hg) | ((with_reducible refine gate_dst (N := 2) rfl ?_); refine box_event ?hg (N := 2) ?hd (cs := #[.int .i64 0, .int .i64 0]) (t := 25) ?hr ?_; (case hd => rfl); (case hg => rfl); (case hr => first | (go_simp; done) | (go_simp; rfl)); intro gb225 hg w15 hbox hb; have BK225 := sd_ hbox; have GW225 := gw_ HB (e_ GE224 e0_) hg; have GE225 := GW225; have NB224_225 := nb_ BK224 hg; have NB225_224 := sy_ NB224_225; replace BK224 := kb_ BK224 hb; replace HB := hb_ HB (e_ GE224 e0_) hb; clear hb hbox hg; have hnb16 := NB224_225.out; have hnc16 := NB225_224.out; have hcz17_0 : w15.cell? ⟨gb224, 0, none⟩ = some (.int .i64 a0_0) := (kc_ BK224.out 0).trans rfl; have hcz17_1 : w15.cell? ⟨gb224, 1, none⟩ = some (.int .i64 a0_1) := (kc_ BK224.out 1).trans rfl; have hfz17_0 := kf_ BK224.out 0; have hfz17_1 := kf_ BK224.out 1) | ((with_reducible refine gate_callee (f := 32) rfl ?_); refine goesL_ (some 6) rfl rfl Tryz.func32 (by kernel_rfl) rfl #[.agg #[.int .i64 a0_0, .int .i64 a0_1]] rfl (by (try simp only [lm_, lq_, lx_]); first | done | rfl | (simp only [ld_, lt_]; rfl)) ?_; (with_reducible refine (dur_Meter.calls a0_0 a0_1 t226 _ A2.out).mono ?_); rintro e w18 ⟨rfl, hb⟩; refine ⟨_, rfl, ?_⟩; replace BK224 := kb_ BK224 hb; replace BK225 := kb_ BK225 hb; replace HB := hb_ HB (e_ GE224 (e_ GE225 e0_)) hb; (try clear hb); (try clear hb2); (try clear hk); (try clear hi)) | ((with_reducible refine gate_callee (f := 34) rfl ?_); refine goesL_ (some 7) rfl rfl Tryz.func34 (by kernel_rfl) rfl #[.bool t226] rfl (by (try simp only [lm_, lq_, lx_]); first | done | rfl | (simp only [ld_, lt_]; rfl)) ?_; (with_reducible refine (dur_may.calls t226 (some q228) _ ?side1 A3.out).mono ?_); (case side1 => first | (with_reducible exact hE) | exact sd_ (LaidE.below hE.out (bb_ HB.out (e_ GE224 (e_ GE225 e0_))))); rintro e w' ⟨rfl, ⟨nd, rfl⟩⟩; refine ⟨_, rfl, ?_⟩; (try simp only [errW_none, errW_some]); (repeat (rw [drewN_self w18]; generalize hq_ : World.drewN w18 _ = w18; have n0_ : Aside0 (w18.heap[gb224]? = some (.cells #[.int .i64 a0_0, .int .i64 a0_1] 45 (0, 0))) := ⟨by rw [← hq_]; exact (kk_ BK224.out)⟩; have n1_ : Aside0 (w18.heap[gb225]? = some (.cells #[.int .i64 0, .int .i64 0] 25 (0, 0))) := ⟨by rw [← hq_]; exact (kk_ BK225.out)⟩; have n2_ : Aside0 (Below w.heap.size w w18) := ⟨by rw [← hq_]; exact (bb_ HB.out (e_ GE224 (e_ GE225 e0_)))⟩; clear BK224 BK225 HB hq_; have BK224 := n0_; have BK225 := n1_; have HB := n2_; clear n0_ n1_ n2_)); have CA13 := fun W => dur_errno.calls (some q228) t232 W A13.out; try simp only [errW_none, errW_some] at CA13) | (go_at_call 35; (with_reducible refine (CA13 _).mono ?_); rintro e w19 ⟨rfl, hb⟩; replace BK224 := kb_ BK224 hb; replace BK225 := kb_ BK225 hb; replace HB := hb_ HB (e_ GE224 (e_ GE225 e0_)) hb; (try clear hb); (try clear hb2); (try clear hk); (try clear hi); have hcz20_0 : w19.cell? ⟨gb225, 0, none⟩ = some (.int .i64 0) := (kc_ BK225.out 0).trans rfl; have hcz20_1 : w19.cell? ⟨gb225, 1, none⟩ = some (.int .i64 0) := (kc_ BK225.out 1).trans rfl; have hfz20_0 := kf_ BK225.out 0; have hfz20_1 := kf_ BK225.out 1))
  refine bodyPost_ret (results_ct rfl _ _ gb225 25 #[.int .i64 0, .int .i64 0] (0, 0) _ rfl (by (with_reducible repeat first | apply kn_ | apply kd_ | apply ka_); refine blk_put (cs := #[.int .i64 0, .int .i64 0]) ?_ 1 _ rfl; (with_reducible repeat first | apply kn_ | apply kd_ | apply ka_); refine blk_put (cs := #[.int .i64 0, .int .i64 0]) ?_ 0 _ rfl; (with_reducible repeat first | apply kn_ | apply kd_ | apply ka_); exact BK225.out) Tryz.underlying25 rfl (by kernel_rfl)) rfl ?_
  exact ⟨by first | rfl | (simp [errW_none, errW_some] <;> rfl) | (simp [*, errW_none, errW_some] <;> rfl), by repeat (first | (with_reducible first | exact HB.out | apply ba_ | apply pd_ | apply d1_ | refine bs_ ?_ GE224.out | refine bs_ ?_ GE225.out) | exact HB.out)⟩

/-! ### dur_step: function 51 -/
def dur_step.f (a0_0 : Int) (a0_1 : Int) : Option (Int) := if a0_1 ≥ 8 then (if a0_0 > 3 then (if (Int.tmod a0_0 3) = 0 then (some 3) else (some 1)) else (some 1)) else (some 1)
set_option maxHeartbeats 8000000 in
set_option maxRecDepth 100000 in
theorem dur_step.calls (a0_0 : Int) (a0_1 : Int) (r : Int) (w : World) (h : dur_step.f a0_0 a0_1 = some r) :
  Calls Tryz.prog 51 #[.agg #[.int .i64 a0_0, .int .i64 a0_1]] w fun e w' => e = .returned (.int .i64 r) ∧ Below w.heap.size w w' := by
 have hu45 := Tryz.underlying45
 have HB := sd_ (Below.refl w.heap.size w)
 have H : (if a0_1 ≥ 8 then (if a0_0 > 3 then (if (Int.tmod a0_0 3) = 0 then (some 3) else (some 1)) else (some 1)) else (some 1)) = some r := h
 clear h
 by_cases c2 : a0_1 ≥ 8
 ·rw [if_pos c2] at H
  have c2b0 : decide (8 ≤ a0_1) = true := dt_ c2
  clear c2
  by_cases c3 : a0_0 > 3
  ·rw [if_pos c3] at H
   have c3b0 : decide (3 < a0_0) = true := dt_ c3
   clear c3
   by_cases c4 : (Int.tmod a0_0 3) = 0
   ·rw [if_pos c4] at H
    have c4b0 : ((Int.tmod a0_0 3) == 0) = true := beq_iff_eq.mpr c4
    have c4b1 : ((Int.tmod a0_0 3) != 0) = false := bne_eq_false_iff_eq.mpr c4
    clear c4
    obtain rfl := Option.some.inj H
    go_enter Tryz.func51, Tryz.ntmps51
    go_wp2_with (first | ((with_reducible refine gate_dst (N := 1) rfl ?_); refine box_event ?hg (N := 1) ?hd (cs := #[.int .i64 a0_0, .int .i64 a0_1]) (t := 45) ?hr ?_; (case hd => rfl); (case hg => rfl); (case hr => first | (go_simp; done) | (go_simp; rfl)); intro gb233 hg w5 hbox hb; have BK233 := sd_ hbox; have GW233 := gw_ HB e0_ hg; have GE233 := GW233; replace HB := hb_ HB e0_ hb; clear hb hbox hg; have hcz6_0 : w5.cell? ⟨gb233, 0, none⟩ = some (.int .i64 a0_0) := (kc_ BK233.out 0).trans rfl; have hcz6_1 : w5.cell? ⟨gb233, 1, none⟩ = some (.int .i64 a0_1) := (kc_ BK233.out 1).trans rfl; have hfz6_0 := kf_ BK233.out 0; have hfz6_1 := kf_ BK233.out 1))
    go_ret
    exact ⟨by first | rfl | (simp [errW_none, errW_some] <;> rfl) | (simp [*, errW_none, errW_some] <;> rfl), by repeat (first | (with_reducible first | exact HB.out | apply ba_ | apply pd_ | apply d1_ | refine bs_ ?_ GE233.out) | exact HB.out)⟩
   ·rw [if_neg c4] at H
    have c4b0 : ((Int.tmod a0_0 3) == 0) = false := beq_eq_false_iff_ne.mpr c4
    have c4b1 : ((Int.tmod a0_0 3) != 0) = true := bne_iff_ne.mpr c4
    obtain rfl := Option.some.inj H
    go_enter Tryz.func51, Tryz.ntmps51
    go_wp2_with (first | ((with_reducible refine gate_dst (N := 1) rfl ?_); refine box_event ?hg (N := 1) ?hd (cs := #[.int .i64 a0_0, .int .i64 a0_1]) (t := 45) ?hr ?_; (case hd => rfl); (case hg => rfl); (case hr => first | (go_simp; done) | (go_simp; rfl)); intro gb233 hg w7 hbox hb; have BK233 := sd_ hbox; have GW233 := gw_ HB e0_ hg; have GE233 := GW233; replace HB := hb_ HB e0_ hb; clear hb hbox hg; have hcz8_0 : w7.cell? ⟨gb233, 0, none⟩ = some (.int .i64 a0_0) := (kc_ BK233.out 0).trans rfl; have hcz8_1 : w7.cell? ⟨gb233, 1, none⟩ = some (.int .i64 a0_1) := (kc_ BK233.out 1).trans rfl; have hfz8_0 := kf_ BK233.out 0; have hfz8_1 := kf_ BK233.out 1))
    go_ret
    exact ⟨by first | rfl | (simp [errW_none, errW_some] <;> rfl) | (simp [*, errW_none, errW_some] <;> rfl), by repeat (first | (with_reducible first | exact HB.out | apply ba_ | apply pd_ | apply d1_ | refine bs_ ?_ GE233.out) | exact HB.out)⟩
  ·rw [if_neg c3] at H
   have c3b0 : decide (3 < a0_0) = false := df_ c3
   clear c3
   obtain rfl := Option.some.inj H
   go_enter Tryz.func51, Tryz.ntmps51
   go_wp2_with (first | ((with_reducible refine gate_dst (N := 1) rfl ?_); refine box_event ?hg (N := 1) ?hd (cs := #[.int .i64 a0_0, .int .i64 a0_1]) (t := 45) ?hr ?_; (case hd => rfl); (case hg => rfl); (case hr => first | (go_simp; done) | (go_simp; rfl)); intro gb233 hg w9 hbox hb; have BK233 := sd_ hbox; have GW233 := gw_ HB e0_ hg; have GE233 := GW233; replace HB := hb_ HB e0_ hb; clear hb hbox hg; have hcz10_0 : w9.cell? ⟨gb233, 0, none⟩ = some (.int .i64 a0_0) := (kc_ BK233.out 0).trans rfl; have hcz10_1 : w9.cell? ⟨gb233, 1, none⟩ = some (.int .i64 a0_1) := (kc_ BK233.out 1).trans rfl; have hfz10_0 := kf_ BK233.out 0; have hfz10_1 := kf_ BK233.out 1))
   go_ret
   exact ⟨by first | rfl | (simp [errW_none, errW_some] <;> rfl) | (simp [*, errW_none, errW_some] <;> rfl), by repeat (first | (with_reducible first | exact HB.out | apply ba_ | apply pd_ | apply d1_ | refine bs_ ?_ GE233.out) | exact HB.out)⟩
 ·rw [if_neg c2] at H
  have c2b0 : decide (8 ≤ a0_1) = false := df_ c2
  clear c2
  obtain rfl := Option.some.inj H
  go_enter Tryz.func51, Tryz.ntmps51
  go_wp2_with (first | ((with_reducible refine gate_dst (N := 1) rfl ?_); refine box_event ?hg (N := 1) ?hd (cs := #[.int .i64 a0_0, .int .i64 a0_1]) (t := 45) ?hr ?_; (case hd => rfl); (case hg => rfl); (case hr => first | (go_simp; done) | (go_simp; rfl)); intro gb233 hg w11 hbox hb; have BK233 := sd_ hbox; have GW233 := gw_ HB e0_ hg; have GE233 := GW233; replace HB := hb_ HB e0_ hb; clear hb hbox hg; have hcz12_0 : w11.cell? ⟨gb233, 0, none⟩ = some (.int .i64 a0_0) := (kc_ BK233.out 0).trans rfl; have hcz12_1 : w11.cell? ⟨gb233, 1, none⟩ = some (.int .i64 a0_1) := (kc_ BK233.out 1).trans rfl; have hfz12_0 := kf_ BK233.out 0; have hfz12_1 := kf_ BK233.out 1))
  go_ret
  exact ⟨by first | rfl | (simp [errW_none, errW_some] <;> rfl) | (simp [*, errW_none, errW_some] <;> rfl), by repeat (first | (with_reducible first | exact HB.out | apply ba_ | apply pd_ | apply d1_ | refine bs_ ?_ GE233.out) | exact HB.out)⟩

/-! ### dur_Beats: function 27 -/
def dur_Beats.l0 : Nat → List (S25) → Int → Int → Int → Option ((List (S25)) × Int)
 | 0, _, _, _, _ => none
 | k + 1, x5, x6, x235000, x235001 => if x6 < x235000 then ((rat_Of.f k x6 x235001).bind fun bt238 => (if x5.length < 8796093022208 then ((dur_step.f x235000 x235001).bind fun t245 => (dur_Beats.l0 k (x5 ++ [(⟨bt238.1, bt238.2.1⟩ : S25)]) (wrap64 (x6 + t245)) x235000 x235001)) else (none))) else (some (x5, 0))
def dur_Beats.f (k : Nat) (a0_0 : Int) (a0_1 : Int) : Option ((List (S25)) × Int) := (dur_Meter.f a0_0 a0_1).bind fun t235 => ((dur_may.f t235).bind fun t236 => (if t236.isNone = true then (dur_Beats.l0 k ([] : List (S25)) 0 a0_0 a0_1) else ((dur_errno.f (some (t236.getD 0))).bind fun t246 => (some (([] : List (S25)), t246)))))
theorem dur_Beats.mono_l : ∀ k, (∀ y0 y1 y2 y3, LeO (dur_Beats.l0 k y0 y1 y2 y3) (dur_Beats.l0 (k + 1) y0 y1 y2 y3))
 | 0 => fun _ _ _ _ r h => by simp [dur_Beats.l0] at h
 | k + 1 => by
  have ih0 := dur_Beats.mono_l k
  ·intro y0 y1 y2 y3
   unfold dur_Beats.l0
   repeat' first
   | (with_reducible exact ih0 _ _ _ _)
   | (with_reducible exact rat_Of.mono _ _ _)
   | (with_reducible exact LeO.refl _)
   | (with_reducible exact LeO.none _)
   | (with_reducible refine LeO.ite ?_ ?_)
   | (with_reducible refine LeO.bind ?_ (fun _ => ?_))
   | exact ih0 _ _ _ _
   | exact rat_Of.mono _ _ _
   | exact LeO.none _
   | refine LeO.ite ?_ ?_
   | refine LeO.bind ?_ (fun _ => ?_)
theorem dur_Beats.mono : ∀ a0 a1 k, LeO (dur_Beats.f k a0 a1) (dur_Beats.f (k + 1) a0 a1) := by
 intro a0 a1 k
 have ih0 := dur_Beats.mono_l k
 unfold dur_Beats.f
 repeat' first
   | (with_reducible exact ih0 _ _ _ _)
   | (with_reducible exact rat_Of.mono _ _ _)
   | (with_reducible exact LeO.refl _)
   | (with_reducible exact LeO.none _)
   | (with_reducible refine LeO.ite ?_ ?_)
   | (with_reducible refine LeO.bind ?_ (fun _ => ?_))
   | exact ih0 _ _ _ _
   | exact rat_Of.mono _ _ _
   | exact LeO.none _
   | refine LeO.ite ?_ ?_
   | refine LeO.bind ?_ (fun _ => ?_)
set_option maxHeartbeats 8000000 in
set_option maxRecDepth 100000 in
theorem dur_Beats.calls (k : Nat) (a0_0 : Int) (a0_1 : Int) (r1 : List (S25)) (r2 : Int) (w : World) (hE : Aside0 (LaidE w)) (h : dur_Beats.f k a0_0 a0_1 = some (r1, r2)) :
  Calls Tryz.prog 27 #[.agg #[.int .i64 a0_0, .int .i64 a0_1]] w fun e w' => ∃ v0_ : Value, e = .returned (.tuple #[v0_, .int .i64 r2]) ∧ Kd.R k25 25 w' w.heap.size (fun _ => True) v0_ r1 ∧ Below w.heap.size w w' := by
 have hu45 := Tryz.underlying45
 have hu25 := Tryz.underlying25
 have hu61 := Tryz.underlying61
 have HB := sd_ (Below.refl w.heap.size w)
 have H : ((dur_Meter.f a0_0 a0_1).bind fun t235 => ((dur_may.f t235).bind fun t236 => (if t236.isNone = true then (dur_Beats.l0 k ([] : List (S25)) 0 a0_0 a0_1) else ((dur_errno.f (some (t236.getD 0))).bind fun t246 => (some (([] : List (S25)), t246)))))) = some (r1, r2) := h
 clear h
 replace H := ob_ H
 obtain ⟨t235, A20, H⟩ := H
 replace H : ((dur_may.f t235).bind fun t236 => (if t236.isNone = true then (dur_Beats.l0 k ([] : List (S25)) 0 a0_0 a0_1) else ((dur_errno.f (some (t236.getD 0))).bind fun t246 => (some (([] : List (S25)), t246))))) = some (r1, r2) := H
 have A2 := sd_ A20
 clear A20
 replace H := ob_ H
 obtain ⟨t236, A30, H⟩ := H
 replace H : (if t236.isNone = true then (dur_Beats.l0 k ([] : List (S25)) 0 a0_0 a0_1) else ((dur_errno.f (some (t236.getD 0))).bind fun t246 => (some (([] : List (S25)), t246)))) = some (r1, r2) := H
 have A3 := sd_ A30
 clear A30
 rcases t236 with _ | q237
 ·have H1 : (dur_Beats.l0 k ([] : List (S25)) 0 a0_0 a0_1) = some (r1, r2) := by rw [if_pos (show (none : Option Int).isNone = true by rfl)] at H; exact H
  clear H; have H := H1; clear H1
  try simp only [errW_none, errW_some]
  have H' := sd_ H
  clear H
  go_enter Tryz.func27, Tryz.ntmps27
  go_wp2_with (first | ((with_reducible refine gate_dst (N := 1) rfl ?_); refine box_event ?hg (N := 1) ?hd (cs := #[.int .i64 a0_0, .int .i64 a0_1]) (t := 45) ?hr ?_; (case hd => rfl); (case hg => rfl); (case hr => first | (go_simp; done) | (go_simp; rfl)); intro gb234 hg w4 hbox hb; have BK234 := sd_ hbox; have GW234 := gw_ HB e0_ hg; have GE234 := GW234; replace HB := hb_ HB e0_ hb; clear hb hbox hg; have hcz5_0 : w4.cell? ⟨gb234, 0, none⟩ = some (.int .i64 a0_0) := (kc_ BK234.out 0).trans rfl; have hcz5_1 : w4.cell? ⟨gb234, 1, none⟩ = some (.int .i64 a0_1) := (kc_ BK234.out 1).trans rfl; have hfz5_0 := kf_ BK234.out 0; have hfz5_1 := kf_ BK234.out 1) | ((with_reducible refine gate_callee (f := 32) rfl ?_); refine goesL_ (some 10) rfl rfl Tryz.func32 (by kernel_rfl) rfl #[.agg #[.int .i64 a0_0, .int .i64 a0_1]] rfl (by (try simp only [lm_, lq_, lx_]); first | done | rfl | (simp only [ld_, lt_]; rfl)) ?_; (with_reducible refine (dur_Meter.calls a0_0 a0_1 t235 _ A2.out).mono ?_); rintro e w6 ⟨rfl, hb⟩; refine ⟨_, rfl, ?_⟩; replace BK234 := kb_ BK234 hb; replace HB := hb_ HB (e_ GE234 e0_) hb; (try clear hb); (try clear hb2); (try clear hk); (try clear hi)) | ((with_reducible refine gate_callee (f := 34) rfl ?_); refine goesL_ (some 11) rfl rfl Tryz.func34 (by kernel_rfl) rfl #[.bool t235] rfl (by (try simp only [lm_, lq_, lx_]); first | done | rfl | (simp only [ld_, lt_]; rfl)) ?_; (with_reducible refine (dur_may.calls t235 none _ ?side1 A3.out).mono ?_); (case side1 => first | (with_reducible exact hE) | exact sd_ (LaidE.below hE.out (bb_ HB.out (e_ GE234 e0_)))); rintro e w' ⟨rfl, ⟨nd, rfl⟩⟩; refine ⟨_, rfl, ?_⟩; (try simp only [errW_none, errW_some])))
  go_loopg [5, 6] k (fun kq v5 v6 w' => ∃ (x5_1 : List (S25)) (x6_1 : Int), v6 = .int .i64 x6_1 ∧ Aside0 (dur_Beats.l0 kq x5_1 x6_1 a0_0 a0_1 = some (r1, r2)) ∧ Aside0 (kq ≤ k) ∧ Aside0 (Kd.R k25 25 w' w.heap.size (fun _ => True) v5 x5_1) ∧ Aside0 (w'.heap[gb234]? = some (.cells #[.int .i64 a0_0, .int .i64 a0_1] 45 (0, 0))) ∧ Aside0 (Below w.heap.size w w'))
  case atStart => exact ⟨(([] : List (S25))), (0), (by first | rfl | (simp; done) | (simp [*]; done) | (simp [bne]; done)), H', ⟨Nat.le_refl _⟩, ⟨by first | exact Kd.R_nil _ _ _ _ _ | exact Kd.N_nil _ _ _ _ _ | exact Kd.V_nil _ _ _ _ _ | exact Kd.Q_nil _ _ _ _ _ | exact Kd.S_nil _ _ _ _ _⟩, ⟨by (with_reducible repeat first | apply kn_ | apply kd_ | apply ka_); exact BK234.out⟩, ⟨by repeat (first | (with_reducible first | exact HB.out | apply ba_ | apply pd_ | apply d1_ | refine bs_ ?_ GE234.out) | exact HB.out)⟩⟩
  case round =>
   clear H'
   try clear c2; try clear p2; try clear q2; try clear c3; try clear hcz5_0; try clear hcz5_1; try clear hfz5_0; try clear hfz5_1; try clear q237
   obtain ⟨x5_1, x6_1, rfl, HA, HK1, HO_5, BK234, HB⟩ := hrel
   cases gk with
   | zero => exact absurd HA.out (by simp [dur_Beats.l0])
   | succ k1 =>
    have H := HA.out
    clear HA
    simp only [dur_Beats.l0] at H
    by_cases c7 : x6_1 < a0_0
    ·rw [if_pos c7] at H
     have c7b0 : decide (x6_1 < a0_0) = true := dt_ c7
     clear c7
     replace H := ob_ H
     obtain ⟨⟨t238, t239, t240⟩, A80, H⟩ := H
     replace H : (if x5_1.length < 8796093022208 then ((dur_step.f a0_0 a0_1).bind fun t245 => (dur_Beats.l0 k1 (x5_1 ++ [(⟨t238, t239⟩ : S25)]) (wrap64 (x6_1 + t245)) a0_0 a0_1)) else (none)) = some (r1, r2) := H
     have A8 := sd_ A80
     clear A80
     by_cases c9 : x5_1.length < 8796093022208
     ·rw [if_pos c9] at H
      have LMc9 := sd_ c9
      clear c9
      obtain ⟨y242, hy242⟩ : ∃ y_ : List (S25), y_ = (x5_1 ++ [(⟨t238, t239⟩ : S25)]) := ⟨_, rfl⟩
      replace H : ((dur_step.f a0_0 a0_1).bind fun t245 => (dur_Beats.l0 k1 y242 (wrap64 (x6_1 + t245)) a0_0 a0_1)) = some (r1, r2) := by first | (rw [hy242]; with_reducible exact H) | (have H2_ := (Option.bind_some _ _).symm.trans H; rw [hy242]; with_reducible exact H2_) | (have H2_ := (Option.bind_some _ _).symm.trans H; with_reducible exact H2_) | with_reducible exact H | (rw [hy242]; exact H) | exact H
      have Ny242 := sd_ hy242
      clear hy242
      replace H := ob_ H
      obtain ⟨t245, A100, H⟩ := H
      replace H : (dur_Beats.l0 k1 y242 (wrap64 (x6_1 + t245)) a0_0 a0_1) = some (r1, r2) := H
      have A10 := sd_ A100
      clear A100
      have H' := sd_ H
      clear H
      have hcz11_0 : wr.cell? ⟨gb234, 0, none⟩ = some (.int .i64 a0_0) := (kc_ BK234.out 0).trans rfl
      have hcz11_1 : wr.cell? ⟨gb234, 1, none⟩ = some (.int .i64 a0_1) := (kc_ BK234.out 1).trans rfl
      have hfz11_0 := kf_ BK234.out 0
      have hfz11_1 := kf_ BK234.out 1
      go_wp2_with (first | ((with_reducible refine gate_callee (f := 36) rfl ?_); refine goesL_ (some 28) rfl rfl Tryz.func36 (by kernel_rfl) rfl #[.int .i64 x6_1, .int .i64 a0_1] rfl (by (try simp only [lm_, lq_, lx_]); first | done | rfl | (simp only [ld_, lt_]; rfl)) ?_; (with_reducible refine (rat_Of.calls k1 x6_1 a0_1 t238 t239 t240 _ A8.out).mono ?_); rintro e w12 ⟨rfl, hb⟩; refine ⟨_, rfl, ?_⟩; replace HO_5 := sd_ (Kd.R_below (by (with_reducible repeat (first | apply Kd.R_alloc | apply Kd.R_drewN | apply Kd.R_drew)); exact HO_5.out) hb); replace BK234 := kb_ BK234 hb; replace HB := hb_ HB (e_ GE234 e0_) hb; (try clear hb); (try clear hb2); (try clear hk); (try clear hi)) | ((with_reducible refine gate_dst (N := 7) rfl ?_); refine box_event ?hg (N := 7) ?hd (cs := #[.int .i64 0, .int .i64 0]) (t := 25) ?hr ?_; (case hd => rfl); (case hg => rfl); (case hr => first | (go_simp; done) | (go_simp; rfl)); intro gb241 hg w13 hbox hb; have BK241 := sd_ hbox; have GW241 := gw_ HB (e_ GE234 e0_) hg; have GE241 := GW241; have NB234_241 := nb_ BK234 hg; have NB241_234 := sy_ NB234_241; replace HO_5 := sd_ (Kd.R_below (Kd.R_elderB (by (with_reducible repeat (first | apply Kd.R_alloc | apply Kd.R_drewN | apply Kd.R_drew)); exact HO_5.out) gb241 (Nat.le_of_eq hg.symm)) hb); replace BK234 := kb_ BK234 hb; replace HB := hb_ HB (e_ GE234 e0_) hb; clear hb hbox hg; have hnb14 := NB241_234.out; have hnc14 := NB234_241.out; have hcz15_0 : w13.cell? ⟨gb241, 0, none⟩ = some (.int .i64 0) := (kc_ BK241.out 0).trans rfl; have hcz15_1 : w13.cell? ⟨gb241, 1, none⟩ = some (.int .i64 0) := (kc_ BK241.out 1).trans rfl; have hfz15_0 := kf_ BK241.out 0; have hfz15_1 := kf_ BK241.out 1) | ((with_reducible refine gate_builtin (b := .append) (xs := #[.tmp 31, .tmp 33]) rfl ?_); at_builtin; refine Kd.R_append k25 (w0 := w) w.heap.size rfl (.tmp 31) (.tmp 33) 48 25 (.agg #[(.int .i64 0), (.int .i64 0)]) 16 rfl Tryz.underlying48 info25 rfl (by decide) (by omega) u5 x5_1 (⟨t238, t239⟩ : S25) [.int .i64 t238, .int .i64 t239] (fun k_ => k_ ≠ gb241) (fun _ => False) rfl (by first | (go_simp; done) | (go_simp; rfl)) ?aP (fun _ hk => hk.elim) ?aF ?aO ?aB ?aS ?aL ?_; (case aP => exact k25_mkM _ _ _ (⟨t238, t239⟩ : S25)); (case aB => exact (bb_ HB.out (e_ GE234 (e_ GE241 e0_)))); (case aF => exact (fun k_ hk => Kd.freshB (g := gb241) (o := .cells #[.int .i64 t238, .int .i64 t239] 25 (0, 0)) (by (with_reducible repeat first | apply kn_ | apply kd_ | apply ka_); refine blk_put (cs := #[.int .i64 t238, .int .i64 0]) ?_ 1 _ rfl; (with_reducible repeat first | apply kn_ | apply kd_ | apply ka_); refine blk_put (cs := #[.int .i64 0, .int .i64 0]) ?_ 0 _ rfl; (with_reducible repeat first | apply kn_ | apply kd_ | apply ka_); exact BK241.out) k_ hk)); (case aO => exact (by (with_reducible repeat (first | apply Kd.R_alloc | apply Kd.R_drewN | apply Kd.R_drew)); exact Kd.R_mono (Kd.R_far (p := ⟨gb241, 1, none⟩) (Kd.R_far (p := ⟨gb241, 0, none⟩) (Kd.R_mono HO_5.out (fun k_ hk => (⟨hk, hk.2⟩ : _ ∧ k_ ≠ gb241))) (fun _ hk => hk.2) (.int .i64 t238)) (fun _ hk => hk.2) (.int .i64 t239)) (fun _ hk => hk.1.2))); (case aS => exact (bz_ (bb_ HB.out (e_ GE234 (e_ GE241 e0_))))); (case aL => have := LMc9.out; omega); intro v243 w16 ho hb hg hat; rw [← Ny242.out] at ho; have n0_ := sd_ (blk_grown (g := gb234) (o := .cells #[.int .i64 a0_0, .int .i64 a0_1] 45 (0, 0)) (by (with_reducible repeat first | apply kn_ | apply kd_ | apply ka_); refine blk_far ?_ NB234_241.out _; (with_reducible repeat first | apply kn_ | apply kd_ | apply ka_); refine blk_far ?_ NB234_241.out _; (with_reducible repeat first | apply kn_ | apply kd_ | apply ka_); exact BK234.out) hg (Kd.R_ne HO_5.out BK234.out (by decide))); have n1_ := sd_ (blk_grown (g := gb241) (o := .cells #[.int .i64 t238, .int .i64 t239] 25 (0, 0)) (by (with_reducible repeat first | apply kn_ | apply kd_ | apply ka_); refine blk_put (cs := #[.int .i64 t238, .int .i64 0]) ?_ 1 _ rfl; (with_reducible repeat first | apply kn_ | apply kd_ | apply ka_); refine blk_put (cs := #[.int .i64 0, .int .i64 0]) ?_ 0 _ rfl; (with_reducible repeat first | apply kn_ | apply kd_ | apply ka_); exact BK241.out) hg (Kd.R_away HO_5.out (fun _ hk => hk.2))); have n2_ := sd_ (hb); have n3_ := sd_ (ho); clear BK234; clear BK241; clear HB; clear HO_5; have BK234 := n0_; have BK241 := n1_; have HB := n2_; have HO244 := n3_; clear n0_ n1_ n2_ n3_; clear ho hb hg hat; have hcz17_0 : w16.cell? ⟨gb234, 0, none⟩ = some (.int .i64 a0_0) := (kc_ BK234.out 0).trans rfl; have hcz17_1 : w16.cell? ⟨gb234, 1, none⟩ = some (.int .i64 a0_1) := (kc_ BK234.out 1).trans rfl; have hfz17_0 := kf_ BK234.out 0; have hfz17_1 := kf_ BK234.out 1) | ((with_reducible refine gate_callee (f := 51) rfl ?_); refine goesL_ (some 22) rfl rfl Tryz.func51 (by kernel_rfl) rfl #[.agg #[.int .i64 a0_0, .int .i64 a0_1]] rfl (by (try simp only [lm_, lq_, lx_]); first | done | rfl | (simp only [ld_, lt_]; rfl)) ?_; (with_reducible refine (dur_step.calls a0_0 a0_1 t245 _ A10.out).mono ?_); rintro e w18 ⟨rfl, hb⟩; refine ⟨_, rfl, ?_⟩; replace HO244 := sd_ (Kd.R_below (by (with_reducible repeat (first | apply Kd.R_alloc | apply Kd.R_drewN | apply Kd.R_drew)); exact HO244.out) hb); replace BK234 := kb_ BK234 hb; replace BK241 := kb_ BK241 hb; replace HB := hb_ HB (e_ GE234 (e_ GE241 e0_)) hb; (try clear hb); (try clear hb2); (try clear hk); (try clear hi)))
      go_roundg k1
      case measure => have := HK1.out; omega
      case rel => exact ⟨(y242), (wrap64 (x6_1 + t245)), (by first | rfl | (simp; done) | (simp [*]; done) | (simp [bne]; done)), H', ⟨by have := HK1.out; omega⟩, ⟨by (with_reducible repeat (first | apply Kd.R_alloc | apply Kd.R_drewN | apply Kd.R_drew)); exact Kd.R_mono HO244.out (fun _ hk => trivial)⟩, ⟨by (with_reducible repeat first | apply kn_ | apply kd_ | apply ka_); exact BK234.out⟩, ⟨by repeat (first | (with_reducible first | exact HB.out | apply ba_ | apply pd_ | apply d1_ | refine bs_ ?_ GE234.out | refine bs_ ?_ GE241.out) | exact HB.out)⟩⟩
     ·rw [if_neg c9] at H
      exact absurd H (by simp)
    ·rw [if_neg c7] at H
     have c7b0 : decide (x6_1 < a0_0) = false := df_ c7
     clear c7
     simp only [Option.some.injEq, Prod.mk.injEq] at H
     obtain ⟨rfl, rfl⟩ := H
     have hcz19_0 : wr.cell? ⟨gb234, 0, none⟩ = some (.int .i64 a0_0) := (kc_ BK234.out 0).trans rfl
     have hcz19_1 : wr.cell? ⟨gb234, 1, none⟩ = some (.int .i64 a0_1) := (kc_ BK234.out 1).trans rfl
     have hfz19_0 := kf_ BK234.out 0
     have hfz19_1 := kf_ BK234.out 1
     go_wp2
     go_ret2
     exact ⟨_, by first | rfl | (simp [errW_none, errW_some] <;> rfl) | (simp [*, errW_none, errW_some] <;> rfl), by (with_reducible repeat (first | apply Kd.R_alloc | apply Kd.R_drewN | apply Kd.R_drew)); exact HO_5.out, by repeat (first | (with_reducible first | exact HB.out | apply ba_ | apply pd_ | apply d1_ | refine bs_ ?_ GE234.out) | exact HB.out)⟩
 ·have H1 : ((dur_errno.f (some q237)).bind fun t246 => (some (([] : List (S25)), t246))) = some (r1, r2) := by rw [if_neg (show ¬ (some q237).isNone = true by simp)] at H; exact H
  clear H; have H := H1; clear H1
  try simp only [errW_none, errW_some]
  replace H := ob_ H
  obtain ⟨t246, A200, H⟩ := H
  replace H : (some (([] : List (S25)), t246)) = some (r1, r2) := H
  have A20 := sd_ A200
  clear A200
  simp only [Option.some.injEq, Prod.mk.injEq] at H
  obtain ⟨rfl, rfl⟩ := H
  go_enter Tryz.func27, Tryz.ntmps27
  go_wp2_with (first | ((with_reducible refine gate_dst (N := 1) rfl ?_); refine box_event ?hg (N := 1) ?hd (cs := #[.int .i64 a0_0, .int .i64 a0_1]) (t := 45) ?hr ?_; (case hd => rfl); (case hg => rfl); (case hr => first | (go_simp; done) | (go_simp; rfl)); intro gb234 hg w21 hbox hb; have BK234 := sd_ hbox; have GW234 := gw_ HB e0_ hg; have GE234 := GW234; replace HB := hb_ HB e0_ hb; clear hb hbox hg; have hcz22_0 : w21.cell? ⟨gb234, 0, none⟩ = some (.int .i64 a0_0) := (kc_ BK234.out 0).trans rfl; have hcz22_1 : w21.cell? ⟨gb234, 1, none⟩ = some (.int .i64 a0_1) := (kc_ BK234.out 1).trans rfl; have hfz22_0 := kf_ BK234.out 0; have hfz22_1 := kf_ BK234.out 1) | ((with_reducible refine gate_callee (f := 32) rfl ?_); refine goesL_ (some 10) rfl rfl Tryz.func32 (by kernel_rfl) rfl #[.agg #[.int .i64 a0_0, .int .i64 a0_1]] rfl (by (try simp only [lm_, lq_, lx_]); first | done | rfl | (simp only [ld_, lt_]; rfl)) ?_; (with_reducible refine (dur_Meter.calls a0_0 a0_1 t235 _ A2.out).mono ?_); rintro e w23 ⟨rfl, hb⟩; refine ⟨_, rfl, ?_⟩; replace BK234 := kb_ BK234 hb; replace HB := hb_ HB (e_ GE234 e0_) hb; (try clear hb); (try clear hb2); (try clear hk); (try clear hi)) | ((with_reducible refine gate_callee (f := 34) rfl ?_); refine goesL_ (some 11) rfl rfl Tryz.func34 (by kernel_rfl) rfl #[.bool t235] rfl (by (try simp only [lm_, lq_, lx_]); first | done | rfl | (simp only [ld_, lt_]; rfl)) ?_; (with_reducible refine (dur_may.calls t235 (some q237) _ ?side1 A3.out).mono ?_); (case side1 => first | (with_reducible exact hE) | exact sd_ (LaidE.below hE.out (bb_ HB.out (e_ GE234 e0_)))); rintro e w' ⟨rfl, ⟨nd, rfl⟩⟩; refine ⟨_, rfl, ?_⟩; (try simp only [errW_none, errW_some]); have CA20 := fun W => dur_errno.calls (some q237) t246 W A20.out; try simp only [errW_none, errW_some] at CA20) | (go_at_call 35; (with_reducible refine (CA20 _).mono ?_); rintro e w24 ⟨rfl, hb⟩; replace BK234 := kb_ BK234 hb; replace HB := hb_ HB (e_ GE234 e0_) hb; (try clear hb); (try clear hb2); (try clear hk); (try clear hi)))
  go_ret2
  exact ⟨_, by first | rfl | (simp [errW_none, errW_some] <;> rfl) | (simp [*, errW_none, errW_some] <;> rfl), by first | exact Kd.R_nil _ _ _ _ _ | exact Kd.N_nil _ _ _ _ _ | exact Kd.V_nil _ _ _ _ _ | exact Kd.Q_nil _ _ _ _ _ | exact Kd.S_nil _ _ _ _ _, by repeat (first | (with_reducible first | exact HB.out | apply ba_ | apply pd_ | apply d1_ | refine bs_ ?_ GE234.out) | exact HB.out)⟩

/-! ### rat_whole: function 78 -/
def rat_whole.f (a0 : Int) : Option (Int × Int) := some (a0, 1)
set_option maxHeartbeats 8000000 in
set_option maxRecDepth 100000 in
theorem rat_whole.calls (a0 : Int) (r1 : Int) (r2 : Int) (w : World) (h : rat_whole.f a0 = some (r1, r2)) :
  Calls Tryz.prog 78 #[.int .i64 a0] w fun e w' => e = .returned (.agg #[.int .i64 r1, .int .i64 r2]) ∧ Below w.heap.size w w' := by
 have hu25 := Tryz.underlying25
 have HB := sd_ (Below.refl w.heap.size w)
 have H : (some (a0, 1)) = some (r1, r2) := h
 clear h
 simp only [Option.some.injEq, Prod.mk.injEq] at H
 obtain ⟨rfl, rfl⟩ := H
 go_enter Tryz.func78, Tryz.ntmps78
 go_wp2_with (first | ((with_reducible refine gate_dst (N := 2) rfl ?_); refine box_event ?hg (N := 2) ?hd (cs := #[.int .i64 0, .int .i64 0]) (t := 25) ?hr ?_; (case hd => rfl); (case hg => rfl); (case hr => first | (go_simp; done) | (go_simp; rfl)); intro gb247 hg w2 hbox hb; have BK247 := sd_ hbox; have GW247 := gw_ HB e0_ hg; have GE247 := GW247; replace HB := hb_ HB e0_ hb; clear hb hbox hg; have hcz3_0 : w2.cell? ⟨gb247, 0, none⟩ = some (.int .i64 0) := (kc_ BK247.out 0).trans rfl; have hcz3_1 : w2.cell? ⟨gb247, 1, none⟩ = some (.int .i64 0) := (kc_ BK247.out 1).trans rfl; have hfz3_0 := kf_ BK247.out 0; have hfz3_1 := kf_ BK247.out 1))
 refine bodyPost_ret (results_cell_row rfl _ _ gb247 25 #[.int .i64 a0, .int .i64 1] (0, 0) _ rfl (by (with_reducible repeat first | apply kn_ | apply kd_ | apply ka_); refine blk_put (cs := #[.int .i64 a0, .int .i64 0]) ?_ 1 _ rfl; (with_reducible repeat first | apply kn_ | apply kd_ | apply ka_); refine blk_put (cs := #[.int .i64 0, .int .i64 0]) ?_ 0 _ rfl; (with_reducible repeat first | apply kn_ | apply kd_ | apply ka_); exact BK247.out) Tryz.underlying25 rfl (by kernel_rfl)) rfl ?_
 exact ⟨by first | rfl | (simp [errW_none, errW_some] <;> rfl) | (simp [*, errW_none, errW_some] <;> rfl), by repeat (first | (with_reducible first | exact HB.out | apply ba_ | apply pd_ | apply d1_ | refine bs_ ?_ GE247.out) | exact HB.out)⟩

/-! ### rat_product: function 79 -/
def rat_product.j0 : Nat → Int → Int → Int → Int → Bool → Option (Int × Int × Int)
 | 0, _, _, _, _, _ => none
 | k + 1, x8, x9, x10, x11, x55 => if x55 = true then ((rat_zero.f).bind fun bt257 => (some (bt257.1, bt257.2, 3))) else ((rat_sized.f (wrap64 (x8 * x9)) (wrap64 (x10 * x11))).bind fun bt259 => (some (bt259.1, bt259.2.1, bt259.2.2)))
def rat_product.f (k : Nat) (a0_0 : Int) (a0_1 : Int) (a1_0 : Int) (a1_1 : Int) : Option (Int × Int × Int) := (rat_abs.f a0_0).bind fun t251 => ((rat_common.f k t251 a1_1).bind fun t252 => ((rat_abs.f a1_0).bind fun t253 => ((rat_common.f k t253 a0_1).bind fun t254 => (if t252 = 0 then (none) else (if t254 = 0 then (none) else (if (wrap64 (Int.tdiv a1_0 t254)) = 0 then (if (wrap64 (Int.tdiv a1_1 t252)) = 0 then (none) else (rat_product.j0 k (wrap64 (Int.tdiv a0_0 t252)) (wrap64 (Int.tdiv a1_0 t254)) (wrap64 (Int.tdiv a0_1 t254)) (wrap64 (Int.tdiv a1_1 t252)) (decide ((wrap64 (Int.tdiv a0_1 t254)) > (wrap64 (Int.tdiv (1048576 : Int) (wrap64 (Int.tdiv a1_1 t252)))))))) else ((rat_abs.f (wrap64 (Int.tdiv a0_0 t252))).bind fun t255 => ((rat_abs.f (wrap64 (Int.tdiv a1_0 t254))).bind fun t256 => (if t256 = 0 then (none) else (if t255 > (wrap64 (Int.tdiv (1099511627776 : Int) t256)) then (rat_product.j0 k (wrap64 (Int.tdiv a0_0 t252)) (wrap64 (Int.tdiv a1_0 t254)) (wrap64 (Int.tdiv a0_1 t254)) (wrap64 (Int.tdiv a1_1 t252)) true) else (if (wrap64 (Int.tdiv a1_1 t252)) = 0 then (none) else (rat_product.j0 k (wrap64 (Int.tdiv a0_0 t252)) (wrap64 (Int.tdiv a1_0 t254)) (wrap64 (Int.tdiv a0_1 t254)) (wrap64 (Int.tdiv a1_1 t252)) (decide ((wrap64 (Int.tdiv a0_1 t254)) > (wrap64 (Int.tdiv (1048576 : Int) (wrap64 (Int.tdiv a1_1 t252))))))))))))))))))
theorem rat_product.mono_l : ∀ k, (∀ y0 y1 y2 y3 y4, LeO (rat_product.j0 k y0 y1 y2 y3 y4) (rat_product.j0 (k + 1) y0 y1 y2 y3 y4))
 | 0 => fun _ _ _ _ _ r h => by simp [rat_product.j0] at h
 | k + 1 => by
  have ih0 := rat_product.mono_l k
  ·intro y0 y1 y2 y3 y4
   unfold rat_product.j0
   repeat' first
   | (with_reducible exact ih0 _ _ _ _ _)
   | (with_reducible exact rat_common.mono _ _ _)
   | (with_reducible exact LeO.refl _)
   | (with_reducible exact LeO.none _)
   | (with_reducible refine LeO.ite ?_ ?_)
   | (with_reducible refine LeO.bind ?_ (fun _ => ?_))
   | exact ih0 _ _ _ _ _
   | exact rat_common.mono _ _ _
   | exact LeO.none _
   | refine LeO.ite ?_ ?_
   | refine LeO.bind ?_ (fun _ => ?_)
theorem rat_product.mono : ∀ a0 a1 a2 a3 k, LeO (rat_product.f k a0 a1 a2 a3) (rat_product.f (k + 1) a0 a1 a2 a3) := by
 intro a0 a1 a2 a3 k
 have ih0 := rat_product.mono_l k
 unfold rat_product.f
 repeat' first
   | (with_reducible exact ih0 _ _ _ _ _)
   | (with_reducible exact rat_common.mono _ _ _)
   | (with_reducible exact LeO.refl _)
   | (with_reducible exact LeO.none _)
   | (with_reducible refine LeO.ite ?_ ?_)
   | (with_reducible refine LeO.bind ?_ (fun _ => ?_))
   | exact ih0 _ _ _ _ _
   | exact rat_common.mono _ _ _
   | exact LeO.none _
   | refine LeO.ite ?_ ?_
   | refine LeO.bind ?_ (fun _ => ?_)
set_option maxHeartbeats 8000000 in
set_option maxRecDepth 100000 in
theorem rat_product.calls (k : Nat) (a0_0 : Int) (a0_1 : Int) (a1_0 : Int) (a1_1 : Int) (r1 : Int) (r2 : Int) (r3 : Int) (w : World) (h : rat_product.f k a0_0 a0_1 a1_0 a1_1 = some (r1, r2, r3)) :
  Calls Tryz.prog 79 #[.agg #[.int .i64 a0_0, .int .i64 a0_1], .agg #[.int .i64 a1_0, .int .i64 a1_1]] w fun e w' => e = .returned (.tuple #[.agg #[.int .i64 r1, .int .i64 r2], .int .i64 r3]) ∧ Below w.heap.size w w' := by
 have hu25 := Tryz.underlying25
 have HB := sd_ (Below.refl w.heap.size w)
 have H : ((rat_abs.f a0_0).bind fun t251 => ((rat_common.f k t251 a1_1).bind fun t252 => ((rat_abs.f a1_0).bind fun t253 => ((rat_common.f k t253 a0_1).bind fun t254 => (if t252 = 0 then (none) else (if t254 = 0 then (none) else (if (wrap64 (Int.tdiv a1_0 t254)) = 0 then (if (wrap64 (Int.tdiv a1_1 t252)) = 0 then (none) else (rat_product.j0 k (wrap64 (Int.tdiv a0_0 t252)) (wrap64 (Int.tdiv a1_0 t254)) (wrap64 (Int.tdiv a0_1 t254)) (wrap64 (Int.tdiv a1_1 t252)) (decide ((wrap64 (Int.tdiv a0_1 t254)) > (wrap64 (Int.tdiv (1048576 : Int) (wrap64 (Int.tdiv a1_1 t252)))))))) else ((rat_abs.f (wrap64 (Int.tdiv a0_0 t252))).bind fun t255 => ((rat_abs.f (wrap64 (Int.tdiv a1_0 t254))).bind fun t256 => (if t256 = 0 then (none) else (if t255 > (wrap64 (Int.tdiv (1099511627776 : Int) t256)) then (rat_product.j0 k (wrap64 (Int.tdiv a0_0 t252)) (wrap64 (Int.tdiv a1_0 t254)) (wrap64 (Int.tdiv a0_1 t254)) (wrap64 (Int.tdiv a1_1 t252)) true) else (if (wrap64 (Int.tdiv a1_1 t252)) = 0 then (none) else (rat_product.j0 k (wrap64 (Int.tdiv a0_0 t252)) (wrap64 (Int.tdiv a1_0 t254)) (wrap64 (Int.tdiv a0_1 t254)) (wrap64 (Int.tdiv a1_1 t252)) (decide ((wrap64 (Int.tdiv a0_1 t254)) > (wrap64 (Int.tdiv (1048576 : Int) (wrap64 (Int.tdiv a1_1 t252))))))))))))))))))) = some (r1, r2, r3) := h
 clear h
 replace H := ob_ H
 obtain ⟨t251, A30, H⟩ := H
 replace H : ((rat_common.f k t251 a1_1).bind fun t252 => ((rat_abs.f a1_0).bind fun t253 => ((rat_common.f k t253 a0_1).bind fun t254 => (if t252 = 0 then (none) else (if t254 = 0 then (none) else (if (wrap64 (Int.tdiv a1_0 t254)) = 0 then (if (wrap64 (Int.tdiv a1_1 t252)) = 0 then (none) else (rat_product.j0 k (wrap64 (Int.tdiv a0_0 t252)) (wrap64 (Int.tdiv a1_0 t254)) (wrap64 (Int.tdiv a0_1 t254)) (wrap64 (Int.tdiv a1_1 t252)) (decide ((wrap64 (Int.tdiv a0_1 t254)) > (wrap64 (Int.tdiv (1048576 : Int) (wrap64 (Int.tdiv a1_1 t252)))))))) else ((rat_abs.f (wrap64 (Int.tdiv a0_0 t252))).bind fun t255 => ((rat_abs.f (wrap64 (Int.tdiv a1_0 t254))).bind fun t256 => (if t256 = 0 then (none) else (if t255 > (wrap64 (Int.tdiv (1099511627776 : Int) t256)) then (rat_product.j0 k (wrap64 (Int.tdiv a0_0 t252)) (wrap64 (Int.tdiv a1_0 t254)) (wrap64 (Int.tdiv a0_1 t254)) (wrap64 (Int.tdiv a1_1 t252)) true) else (if (wrap64 (Int.tdiv a1_1 t252)) = 0 then (none) else (rat_product.j0 k (wrap64 (Int.tdiv a0_0 t252)) (wrap64 (Int.tdiv a1_0 t254)) (wrap64 (Int.tdiv a0_1 t254)) (wrap64 (Int.tdiv a1_1 t252)) (decide ((wrap64 (Int.tdiv a0_1 t254)) > (wrap64 (Int.tdiv (1048576 : Int) (wrap64 (Int.tdiv a1_1 t252)))))))))))))))))) = some (r1, r2, r3) := H
 have A3 := sd_ A30
 clear A30
 replace H := ob_ H
 obtain ⟨t252, A40, H⟩ := H
 replace H : ((rat_abs.f a1_0).bind fun t253 => ((rat_common.f k t253 a0_1).bind fun t254 => (if t252 = 0 then (none) else (if t254 = 0 then (none) else (if (wrap64 (Int.tdiv a1_0 t254)) = 0 then (if (wrap64 (Int.tdiv a1_1 t252)) = 0 then (none) else (rat_product.j0 k (wrap64 (Int.tdiv a0_0 t252)) (wrap64 (Int.tdiv a1_0 t254)) (wrap64 (Int.tdiv a0_1 t254)) (wrap64 (Int.tdiv a1_1 t252)) (decide ((wrap64 (Int.tdiv a0_1 t254)) > (wrap64 (Int.tdiv (1048576 : Int) (wrap64 (Int.tdiv a1_1 t252)))))))) else ((rat_abs.f (wrap64 (Int.tdiv a0_0 t252))).bind fun t255 => ((rat_abs.f (wrap64 (Int.tdiv a1_0 t254))).bind fun t256 => (if t256 = 0 then (none) else (if t255 > (wrap64 (Int.tdiv (1099511627776 : Int) t256)) then (rat_product.j0 k (wrap64 (Int.tdiv a0_0 t252)) (wrap64 (Int.tdiv a1_0 t254)) (wrap64 (Int.tdiv a0_1 t254)) (wrap64 (Int.tdiv a1_1 t252)) true) else (if (wrap64 (Int.tdiv a1_1 t252)) = 0 then (none) else (rat_product.j0 k (wrap64 (Int.tdiv a0_0 t252)) (wrap64 (Int.tdiv a1_0 t254)) (wrap64 (Int.tdiv a0_1 t254)) (wrap64 (Int.tdiv a1_1 t252)) (decide ((wrap64 (Int.tdiv a0_1 t254)) > (wrap64 (Int.tdiv (1048576 : Int) (wrap64 (Int.tdiv a1_1 t252))))))))))))))))) = some (r1, r2, r3) := H
 have A4 := sd_ A40
 clear A40
 replace H := ob_ H
 obtain ⟨t253, A50, H⟩ := H
 replace H : ((rat_common.f k t253 a0_1).bind fun t254 => (if t252 = 0 then (none) else (if t254 = 0 then (none) else (if (wrap64 (Int.tdiv a1_0 t254)) = 0 then (if (wrap64 (Int.tdiv a1_1 t252)) = 0 then (none) else (rat_product.j0 k (wrap64 (Int.tdiv a0_0 t252)) (wrap64 (Int.tdiv a1_0 t254)) (wrap64 (Int.tdiv a0_1 t254)) (wrap64 (Int.tdiv a1_1 t252)) (decide ((wrap64 (Int.tdiv a0_1 t254)) > (wrap64 (Int.tdiv (1048576 : Int) (wrap64 (Int.tdiv a1_1 t252)))))))) else ((rat_abs.f (wrap64 (Int.tdiv a0_0 t252))).bind fun t255 => ((rat_abs.f (wrap64 (Int.tdiv a1_0 t254))).bind fun t256 => (if t256 = 0 then (none) else (if t255 > (wrap64 (Int.tdiv (1099511627776 : Int) t256)) then (rat_product.j0 k (wrap64 (Int.tdiv a0_0 t252)) (wrap64 (Int.tdiv a1_0 t254)) (wrap64 (Int.tdiv a0_1 t254)) (wrap64 (Int.tdiv a1_1 t252)) true) else (if (wrap64 (Int.tdiv a1_1 t252)) = 0 then (none) else (rat_product.j0 k (wrap64 (Int.tdiv a0_0 t252)) (wrap64 (Int.tdiv a1_0 t254)) (wrap64 (Int.tdiv a0_1 t254)) (wrap64 (Int.tdiv a1_1 t252)) (decide ((wrap64 (Int.tdiv a0_1 t254)) > (wrap64 (Int.tdiv (1048576 : Int) (wrap64 (Int.tdiv a1_1 t252)))))))))))))))) = some (r1, r2, r3) := H
 have A5 := sd_ A50
 clear A50
 replace H := ob_ H
 obtain ⟨t254, A60, H⟩ := H
 replace H : (if t252 = 0 then (none) else (if t254 = 0 then (none) else (if (wrap64 (Int.tdiv a1_0 t254)) = 0 then (if (wrap64 (Int.tdiv a1_1 t252)) = 0 then (none) else (rat_product.j0 k (wrap64 (Int.tdiv a0_0 t252)) (wrap64 (Int.tdiv a1_0 t254)) (wrap64 (Int.tdiv a0_1 t254)) (wrap64 (Int.tdiv a1_1 t252)) (decide ((wrap64 (Int.tdiv a0_1 t254)) > (wrap64 (Int.tdiv (1048576 : Int) (wrap64 (Int.tdiv a1_1 t252)))))))) else ((rat_abs.f (wrap64 (Int.tdiv a0_0 t252))).bind fun t255 => ((rat_abs.f (wrap64 (Int.tdiv a1_0 t254))).bind fun t256 => (if t256 = 0 then (none) else (if t255 > (wrap64 (Int.tdiv (1099511627776 : Int) t256)) then (rat_product.j0 k (wrap64 (Int.tdiv a0_0 t252)) (wrap64 (Int.tdiv a1_0 t254)) (wrap64 (Int.tdiv a0_1 t254)) (wrap64 (Int.tdiv a1_1 t252)) true) else (if (wrap64 (Int.tdiv a1_1 t252)) = 0 then (none) else (rat_product.j0 k (wrap64 (Int.tdiv a0_0 t252)) (wrap64 (Int.tdiv a1_0 t254)) (wrap64 (Int.tdiv a0_1 t254)) (wrap64 (Int.tdiv a1_1 t252)) (decide ((wrap64 (Int.tdiv a0_1 t254)) > (wrap64 (Int.tdiv (1048576 : Int) (wrap64 (Int.tdiv a1_1 t252))))))))))))))) = some (r1, r2, r3) := H
 have A6 := sd_ A60
 clear A60
 by_cases c7 : t252 = 0
 ·rw [if_pos c7] at H
  exact absurd H (by simp)
 ·rw [if_neg c7] at H
  have c7b0 : (t252 == 0) = false := beq_eq_false_iff_ne.mpr c7
  have c7b1 : (t252 != 0) = true := bne_iff_ne.mpr c7
  by_cases c8 : t254 = 0
  ·rw [if_pos c8] at H
   exact absurd H (by simp)
  ·rw [if_neg c8] at H
   have c8b0 : (t254 == 0) = false := beq_eq_false_iff_ne.mpr c8
   have c8b1 : (t254 != 0) = true := bne_iff_ne.mpr c8
   have HC9 := sd_ H
   clear H
   go_enter Tryz.func79, Tryz.ntmps79
   go_upto_region 4 with (first | ((with_reducible refine gate_dst (N := 2) rfl ?_); refine box_event ?hg (N := 2) ?hd (cs := #[.int .i64 a0_0, .int .i64 a0_1]) (t := 25) ?hr ?_; (case hd => rfl); (case hg => rfl); (case hr => first | (go_simp; done) | (go_simp; rfl)); intro gb248 hg w10 hbox hb; have BK248 := sd_ hbox; have GW248 := gw_ HB e0_ hg; have GE248 := GW248; replace HB := hb_ HB e0_ hb; clear hb hbox hg) | ((with_reducible refine gate_dst (N := 3) rfl ?_); refine box_event ?hg (N := 3) ?hd (cs := #[.int .i64 a1_0, .int .i64 a1_1]) (t := 25) ?hr ?_; (case hd => rfl); (case hg => rfl); (case hr => first | (go_simp; done) | (go_simp; rfl)); intro gb249 hg w11 hbox hb; have BK249 := sd_ hbox; have GW249 := gw_ HB (e_ GE248 e0_) hg; have GE249 := GW249; have NB248_249 := nb_ BK248 hg; have NB249_248 := sy_ NB248_249; replace BK248 := kb_ BK248 hb; replace HB := hb_ HB (e_ GE248 e0_) hb; clear hb hbox hg) | ((with_reducible refine gate_dst (N := 4) rfl ?_); refine box_event ?hg (N := 4) ?hd (cs := #[.int .i64 0, .int .i64 0]) (t := 25) ?hr ?_; (case hd => rfl); (case hg => rfl); (case hr => first | (go_simp; done) | (go_simp; rfl)); intro gb250 hg w12 hbox hb; have BK250 := sd_ hbox; have GW250 := gw_ HB (e_ GE248 (e_ GE249 e0_)) hg; have GE250 := GW250; have NB248_250 := nb_ BK248 hg; have NB250_248 := sy_ NB248_250; have NB249_250 := nb_ BK249 hg; have NB250_249 := sy_ NB249_250; replace BK248 := kb_ BK248 hb; replace BK249 := kb_ BK249 hb; replace HB := hb_ HB (e_ GE248 (e_ GE249 e0_)) hb; clear hb hbox hg; have hnb13 := NB248_249.out; have hnc13 := NB249_248.out; have hnb14 := NB248_250.out; have hnc14 := NB250_248.out; have hcz15_0 : w12.cell? ⟨gb248, 0, none⟩ = some (.int .i64 a0_0) := (kc_ BK248.out 0).trans rfl; have hcz15_1 : w12.cell? ⟨gb248, 1, none⟩ = some (.int .i64 a0_1) := (kc_ BK248.out 1).trans rfl; have hfz15_0 := kf_ BK248.out 0; have hfz15_1 := kf_ BK248.out 1) | (go_at_call 65; (with_reducible refine (rat_abs.calls a0_0 t251 _ A3.out).mono ?_); rintro e w' ⟨rfl, ⟨nd, rfl⟩⟩; (try first | exact ⟨rfl, _, World.drewN_drewN _ _ _⟩ | exact ⟨rfl, _, Eq.trans (World.drewN_drewN _ _ _) (congrArg (World.drewN _) (Nat.add_assoc _ _ _))⟩); have hnb16 := NB249_250.out; have hnc16 := NB250_249.out; have hcz17_0 : w12.cell? ⟨gb249, 0, none⟩ = some (.int .i64 a1_0) := (kc_ BK249.out 0).trans rfl; have hcz17_1 : w12.cell? ⟨gb249, 1, none⟩ = some (.int .i64 a1_1) := (kc_ BK249.out 1).trans rfl; have hfz17_0 := kf_ BK249.out 0; have hfz17_1 := kf_ BK249.out 1) | (go_at_call 64; (with_reducible refine (rat_common.calls k t251 a1_1 t252 _ A4.out).mono ?_); rintro e w' ⟨rfl, ⟨nd, rfl⟩⟩; (try first | exact ⟨rfl, _, World.drewN_drewN _ _ _⟩ | exact ⟨rfl, _, Eq.trans (World.drewN_drewN _ _ _) (congrArg (World.drewN _) (Nat.add_assoc _ _ _))⟩)) | (go_at_call 65; (with_reducible refine (rat_abs.calls a1_0 t253 _ A5.out).mono ?_); rintro e w' ⟨rfl, ⟨nd, rfl⟩⟩; (try first | exact ⟨rfl, _, World.drewN_drewN _ _ _⟩ | exact ⟨rfl, _, Eq.trans (World.drewN_drewN _ _ _) (congrArg (World.drewN _) (Nat.add_assoc _ _ _))⟩)) | (go_at_call 64; (with_reducible refine (rat_common.calls k t253 a0_1 t254 _ A6.out).mono ?_); rintro e w' ⟨rfl, ⟨nd, rfl⟩⟩; (try first | exact ⟨rfl, _, World.drewN_drewN _ _ _⟩ | exact ⟨rfl, _, Eq.trans (World.drewN_drewN _ _ _) (congrArg (World.drewN _) (Nat.add_assoc _ _ _))⟩)))
   repeat (go_quiet (first | ((with_reducible refine gate_dst (N := 2) rfl ?_); refine box_event ?hg (N := 2) ?hd (cs := #[.int .i64 a0_0, .int .i64 a0_1]) (t := 25) ?hr ?_; (case hd => rfl); (case hg => rfl); (case hr => first | (go_simp; done) | (go_simp; rfl)); intro gb248 hg w10 hbox hb; have BK248 := sd_ hbox; have GW248 := gw_ HB e0_ hg; have GE248 := GW248; replace HB := hb_ HB e0_ hb; clear hb hbox hg) | ((with_reducible refine gate_dst (N := 3) rfl ?_); refine box_event ?hg (N := 3) ?hd (cs := #[.int .i64 a1_0, .int .i64 a1_1]) (t := 25) ?hr ?_; (case hd => rfl); (case hg => rfl); (case hr => first | (go_simp; done) | (go_simp; rfl)); intro gb249 hg w11 hbox hb; have BK249 := sd_ hbox; have GW249 := gw_ HB (e_ GE248 e0_) hg; have GE249 := GW249; have NB248_249 := nb_ BK248 hg; have NB249_248 := sy_ NB248_249; replace BK248 := kb_ BK248 hb; replace HB := hb_ HB (e_ GE248 e0_) hb; clear hb hbox hg) | ((with_reducible refine gate_dst (N := 4) rfl ?_); refine box_event ?hg (N := 4) ?hd (cs := #[.int .i64 0, .int .i64 0]) (t := 25) ?hr ?_; (case hd => rfl); (case hg => rfl); (case hr => first | (go_simp; done) | (go_simp; rfl)); intro gb250 hg w12 hbox hb; have BK250 := sd_ hbox; have GW250 := gw_ HB (e_ GE248 (e_ GE249 e0_)) hg; have GE250 := GW250; have NB248_250 := nb_ BK248 hg; have NB250_248 := sy_ NB248_250; have NB249_250 := nb_ BK249 hg; have NB250_249 := sy_ NB249_250; replace BK248 := kb_ BK248 hb; replace BK249 := kb_ BK249 hb; replace HB := hb_ HB (e_ GE248 (e_ GE249 e0_)) hb; clear hb hbox hg; have hnb13 := NB248_249.out; have hnc13 := NB249_248.out; have hnb14 := NB248_250.out; have hnc14 := NB250_248.out; have hcz15_0 : w12.cell? ⟨gb248, 0, none⟩ = some (.int .i64 a0_0) := (kc_ BK248.out 0).trans rfl; have hcz15_1 : w12.cell? ⟨gb248, 1, none⟩ = some (.int .i64 a0_1) := (kc_ BK248.out 1).trans rfl; have hfz15_0 := kf_ BK248.out 0; have hfz15_1 := kf_ BK248.out 1) | (go_at_call 65; (with_reducible refine (rat_abs.calls a0_0 t251 _ A3.out).mono ?_); rintro e w' ⟨rfl, ⟨nd, rfl⟩⟩; (try first | exact ⟨rfl, _, World.drewN_drewN _ _ _⟩ | exact ⟨rfl, _, Eq.trans (World.drewN_drewN _ _ _) (congrArg (World.drewN _) (Nat.add_assoc _ _ _))⟩); have hnb16 := NB249_250.out; have hnc16 := NB250_249.out; have hcz17_0 : w12.cell? ⟨gb249, 0, none⟩ = some (.int .i64 a1_0) := (kc_ BK249.out 0).trans rfl; have hcz17_1 : w12.cell? ⟨gb249, 1, none⟩ = some (.int .i64 a1_1) := (kc_ BK249.out 1).trans rfl; have hfz17_0 := kf_ BK249.out 0; have hfz17_1 := kf_ BK249.out 1) | (go_at_call 64; (with_reducible refine (rat_common.calls k t251 a1_1 t252 _ A4.out).mono ?_); rintro e w' ⟨rfl, ⟨nd, rfl⟩⟩; (try first | exact ⟨rfl, _, World.drewN_drewN _ _ _⟩ | exact ⟨rfl, _, Eq.trans (World.drewN_drewN _ _ _) (congrArg (World.drewN _) (Nat.add_assoc _ _ _))⟩)) | (go_at_call 65; (with_reducible refine (rat_abs.calls a1_0 t253 _ A5.out).mono ?_); rintro e w' ⟨rfl, ⟨nd, rfl⟩⟩; (try first | exact ⟨rfl, _, World.drewN_drewN _ _ _⟩ | exact ⟨rfl, _, Eq.trans (World.drewN_drewN _ _ _) (congrArg (World.drewN _) (Nat.add_assoc _ _ _))⟩)) | (go_at_call 64; (with_reducible refine (rat_common.calls k t253 a0_1 t254 _ A6.out).mono ?_); rintro e w' ⟨rfl, ⟨nd, rfl⟩⟩; (try first | exact ⟨rfl, _, World.drewN_drewN _ _ _⟩ | exact ⟨rfl, _, Eq.trans (World.drewN_drewN _ _ _) (congrArg (World.drewN _) (Nat.add_assoc _ _ _))⟩))); go_upto_region 4 with (first | ((with_reducible refine gate_dst (N := 2) rfl ?_); refine box_event ?hg (N := 2) ?hd (cs := #[.int .i64 a0_0, .int .i64 a0_1]) (t := 25) ?hr ?_; (case hd => rfl); (case hg => rfl); (case hr => first | (go_simp; done) | (go_simp; rfl)); intro gb248 hg w10 hbox hb; have BK248 := sd_ hbox; have GW248 := gw_ HB e0_ hg; have GE248 := GW248; replace HB := hb_ HB e0_ hb; clear hb hbox hg) | ((with_reducible refine gate_dst (N := 3) rfl ?_); refine box_event ?hg (N := 3) ?hd (cs := #[.int .i64 a1_0, .int .i64 a1_1]) (t := 25) ?hr ?_; (case hd => rfl); (case hg => rfl); (case hr => first | (go_simp; done) | (go_simp; rfl)); intro gb249 hg w11 hbox hb; have BK249 := sd_ hbox; have GW249 := gw_ HB (e_ GE248 e0_) hg; have GE249 := GW249; have NB248_249 := nb_ BK248 hg; have NB249_248 := sy_ NB248_249; replace BK248 := kb_ BK248 hb; replace HB := hb_ HB (e_ GE248 e0_) hb; clear hb hbox hg) | ((with_reducible refine gate_dst (N := 4) rfl ?_); refine box_event ?hg (N := 4) ?hd (cs := #[.int .i64 0, .int .i64 0]) (t := 25) ?hr ?_; (case hd => rfl); (case hg => rfl); (case hr => first | (go_simp; done) | (go_simp; rfl)); intro gb250 hg w12 hbox hb; have BK250 := sd_ hbox; have GW250 := gw_ HB (e_ GE248 (e_ GE249 e0_)) hg; have GE250 := GW250; have NB248_250 := nb_ BK248 hg; have NB250_248 := sy_ NB248_250; have NB249_250 := nb_ BK249 hg; have NB250_249 := sy_ NB249_250; replace BK248 := kb_ BK248 hb; replace BK249 := kb_ BK249 hb; replace HB := hb_ HB (e_ GE248 (e_ GE249 e0_)) hb; clear hb hbox hg; have hnb13 := NB248_249.out; have hnc13 := NB249_248.out; have hnb14 := NB248_250.out; have hnc14 := NB250_248.out; have hcz15_0 : w12.cell? ⟨gb248, 0, none⟩ = some (.int .i64 a0_0) := (kc_ BK248.out 0).trans rfl; have hcz15_1 : w12.cell? ⟨gb248, 1, none⟩ = some (.int .i64 a0_1) := (kc_ BK248.out 1).trans rfl; have hfz15_0 := kf_ BK248.out 0; have hfz15_1 := kf_ BK248.out 1) | (go_at_call 65; (with_reducible refine (rat_abs.calls a0_0 t251 _ A3.out).mono ?_); rintro e w' ⟨rfl, ⟨nd, rfl⟩⟩; (try first | exact ⟨rfl, _, World.drewN_drewN _ _ _⟩ | exact ⟨rfl, _, Eq.trans (World.drewN_drewN _ _ _) (congrArg (World.drewN _) (Nat.add_assoc _ _ _))⟩); have hnb16 := NB249_250.out; have hnc16 := NB250_249.out; have hcz17_0 : w12.cell? ⟨gb249, 0, none⟩ = some (.int .i64 a1_0) := (kc_ BK249.out 0).trans rfl; have hcz17_1 : w12.cell? ⟨gb249, 1, none⟩ = some (.int .i64 a1_1) := (kc_ BK249.out 1).trans rfl; have hfz17_0 := kf_ BK249.out 0; have hfz17_1 := kf_ BK249.out 1) | (go_at_call 64; (with_reducible refine (rat_common.calls k t251 a1_1 t252 _ A4.out).mono ?_); rintro e w' ⟨rfl, ⟨nd, rfl⟩⟩; (try first | exact ⟨rfl, _, World.drewN_drewN _ _ _⟩ | exact ⟨rfl, _, Eq.trans (World.drewN_drewN _ _ _) (congrArg (World.drewN _) (Nat.add_assoc _ _ _))⟩)) | (go_at_call 65; (with_reducible refine (rat_abs.calls a1_0 t253 _ A5.out).mono ?_); rintro e w' ⟨rfl, ⟨nd, rfl⟩⟩; (try first | exact ⟨rfl, _, World.drewN_drewN _ _ _⟩ | exact ⟨rfl, _, Eq.trans (World.drewN_drewN _ _ _) (congrArg (World.drewN _) (Nat.add_assoc _ _ _))⟩)) | (go_at_call 64; (with_reducible refine (rat_common.calls k t253 a0_1 t254 _ A6.out).mono ?_); rintro e w' ⟨rfl, ⟨nd, rfl⟩⟩; (try first | exact ⟨rfl, _, World.drewN_drewN _ _ _⟩ | exact ⟨rfl, _, Eq.trans (World.drewN_drewN _ _ _) (congrArg (World.drewN _) (Nat.add_assoc _ _ _))⟩))))
   (try simp only [Act.put, ls_, lz_, lc_])
   go_cut [55] (fun v55 wc => ∃ (kq : Nat) (x55_8 : Bool), v55 = .bool x55_8 ∧ Aside0 (rat_product.j0 kq (wrap64 (Int.tdiv a0_0 t252)) (wrap64 (Int.tdiv a1_0 t254)) (wrap64 (Int.tdiv a0_1 t254)) (wrap64 (Int.tdiv a1_1 t252)) x55_8 = some (r1, r2, r3)) ∧ Aside0 (kq ≤ k) ∧ Aside0 (wc.heap[gb248]? = some (.cells #[.int .i64 a0_0, .int .i64 a0_1] 25 (0, 0))) ∧ Aside0 (wc.heap[gb249]? = some (.cells #[.int .i64 a1_0, .int .i64 a1_1] 25 (0, 0))) ∧ Aside0 (wc.heap[gb250]? = some (.cells #[.int .i64 0, .int .i64 0] 25 (0, 0))) ∧ Aside0 (Below w.heap.size w wc))
   case first =>
    have H := HC9.out
    clear HC9
    by_cases c18 : (wrap64 (Int.tdiv a1_0 t254)) = 0
    ·rw [if_pos c18] at H
     have c18b0 : ((wrap64 (Int.tdiv a1_0 t254)) == 0) = true := beq_iff_eq.mpr c18
     have c18b1 : ((wrap64 (Int.tdiv a1_0 t254)) != 0) = false := bne_eq_false_iff_eq.mpr c18
     clear c18
     (first | rw [c18b0] | (simp only [i64_w, i32_w]; rw [c18b0]) | skip)
     by_cases c19 : (wrap64 (Int.tdiv a1_1 t252)) = 0
     ·rw [if_pos c19] at H
      exact absurd H (by simp)
     ·rw [if_neg c19] at H
      have c19b0 : ((wrap64 (Int.tdiv a1_1 t252)) == 0) = false := beq_eq_false_iff_ne.mpr c19
      have c19b1 : ((wrap64 (Int.tdiv a1_1 t252)) != 0) = true := bne_iff_ne.mpr c19
      have H' := sd_ H
      clear H
      go_wp2
      repeat (go_quiet (fail); try go_wp2)
      go_meet
      case rel => exact ⟨_, (decide ((wrap64 (Int.tdiv a0_1 t254)) > (wrap64 (Int.tdiv (1048576 : Int) (wrap64 (Int.tdiv a1_1 t252)))))), (by first | rfl | (simp; done) | (simp [*]; done) | (simp [bne]; done)), H', ⟨by first | omega | exact Nat.le_refl _⟩, ⟨by (with_reducible repeat first | apply kn_ | apply kd_ | apply ka_); exact BK248.out⟩, ⟨by (with_reducible repeat first | apply kn_ | apply kd_ | apply ka_); exact BK249.out⟩, ⟨by (with_reducible repeat first | apply kn_ | apply kd_ | apply ka_); exact BK250.out⟩, ⟨by repeat (first | (with_reducible first | exact HB.out | apply ba_ | apply pd_ | apply d1_ | refine bs_ ?_ GE248.out | refine bs_ ?_ GE249.out | refine bs_ ?_ GE250.out) | exact HB.out)⟩⟩
    ·rw [if_neg c18] at H
     have c18b0 : ((wrap64 (Int.tdiv a1_0 t254)) == 0) = false := beq_eq_false_iff_ne.mpr c18
     have c18b1 : ((wrap64 (Int.tdiv a1_0 t254)) != 0) = true := bne_iff_ne.mpr c18
     (first | rw [c18b0] | (simp only [i64_w, i32_w]; rw [c18b0]) | skip)
     replace H := ob_ H
     obtain ⟨t255, A200, H⟩ := H
     replace H : ((rat_abs.f (wrap64 (Int.tdiv a1_0 t254))).bind fun t256 => (if t256 = 0 then (none) else (if t255 > (wrap64 (Int.tdiv (1099511627776 : Int) t256)) then (rat_product.j0 k (wrap64 (Int.tdiv a0_0 t252)) (wrap64 (Int.tdiv a1_0 t254)) (wrap64 (Int.tdiv a0_1 t254)) (wrap64 (Int.tdiv a1_1 t252)) true) else (if (wrap64 (Int.tdiv a1_1 t252)) = 0 then (none) else (rat_product.j0 k (wrap64 (Int.tdiv a0_0 t252)) (wrap64 (Int.tdiv a1_0 t254)) (wrap64 (Int.tdiv a0_1 t254)) (wrap64 (Int.tdiv a1_1 t252)) (decide ((wrap64 (Int.tdiv a0_1 t254)) > (wrap64 (Int.tdiv (1048576 : Int) (wrap64 (Int.tdiv a1_1 t252))))))))))) = some (r1, r2, r3) := H
     have A20 := sd_ A200
     clear A200
     replace H := ob_ H
     obtain ⟨t256, A210, H⟩ := H
     replace H : (if t256 = 0 then (none) else (if t255 > (wrap64 (Int.tdiv (1099511627776 : Int) t256)) then (rat_product.j0 k (wrap64 (Int.tdiv a0_0 t252)) (wrap64 (Int.tdiv a1_0 t254)) (wrap64 (Int.tdiv a0_1 t254)) (wrap64 (Int.tdiv a1_1 t252)) true) else (if (wrap64 (Int.tdiv a1_1 t252)) = 0 then (none) else (rat_product.j0 k (wrap64 (Int.tdiv a0_0 t252)) (wrap64 (Int.tdiv a1_0 t254)) (wrap64 (Int.tdiv a0_1 t254)) (wrap64 (Int.tdiv a1_1 t252)) (decide ((wrap64 (Int.tdiv a0_1 t254)) > (wrap64 (Int.tdiv (1048576 : Int) (wrap64 (Int.tdiv a1_1 t252)))))))))) = some (r1, r2, r3) := H
     have A21 := sd_ A210
     clear A210
     by_cases c22 : t256 = 0
     ·rw [if_pos c22] at H
      exact absurd H (by simp)
     ·rw [if_neg c22] at H
      have c22b0 : (t256 == 0) = false := beq_eq_false_iff_ne.mpr c22
      have c22b1 : (t256 != 0) = true := bne_iff_ne.mpr c22
      by_cases c23 : t255 > (wrap64 (Int.tdiv (1099511627776 : Int) t256))
      ·rw [if_pos c23] at H
       have c23b0 : decide ((wrap64 (Int.tdiv (1099511627776 : Int) t256)) < t255) = true := dt_ c23
       clear c23
       have H' := sd_ H
       clear H
       go_wp2_with (first | (go_at_call 65; (with_reducible refine (rat_abs.calls (wrap64 (Int.tdiv a0_0 t252)) t255 _ A20.out).mono ?_); rintro e w' ⟨rfl, ⟨nd, rfl⟩⟩; (try first | exact ⟨rfl, _, World.drewN_drewN _ _ _⟩ | exact ⟨rfl, _, Eq.trans (World.drewN_drewN _ _ _) (congrArg (World.drewN _) (Nat.add_assoc _ _ _))⟩)) | (go_at_call 65; (with_reducible refine (rat_abs.calls (wrap64 (Int.tdiv a1_0 t254)) t256 _ A21.out).mono ?_); rintro e w' ⟨rfl, ⟨nd, rfl⟩⟩; (try first | exact ⟨rfl, _, World.drewN_drewN _ _ _⟩ | exact ⟨rfl, _, Eq.trans (World.drewN_drewN _ _ _) (congrArg (World.drewN _) (Nat.add_assoc _ _ _))⟩)))
       repeat (go_quiet (first | (go_at_call 65; (with_reducible refine (rat_abs.calls (wrap64 (Int.tdiv a0_0 t252)) t255 _ A20.out).mono ?_); rintro e w' ⟨rfl, ⟨nd, rfl⟩⟩; (try first | exact ⟨rfl, _, World.drewN_drewN _ _ _⟩ | exact ⟨rfl, _, Eq.trans (World.drewN_drewN _ _ _) (congrArg (World.drewN _) (Nat.add_assoc _ _ _))⟩)) | (go_at_call 65; (with_reducible refine (rat_abs.calls (wrap64 (Int.tdiv a1_0 t254)) t256 _ A21.out).mono ?_); rintro e w' ⟨rfl, ⟨nd, rfl⟩⟩; (try first | exact ⟨rfl, _, World.drewN_drewN _ _ _⟩ | exact ⟨rfl, _, Eq.trans (World.drewN_drewN _ _ _) (congrArg (World.drewN _) (Nat.add_assoc _ _ _))⟩))); try go_wp2_with (first | (go_at_call 65; (with_reducible refine (rat_abs.calls (wrap64 (Int.tdiv a0_0 t252)) t255 _ A20.out).mono ?_); rintro e w' ⟨rfl, ⟨nd, rfl⟩⟩; (try first | exact ⟨rfl, _, World.drewN_drewN _ _ _⟩ | exact ⟨rfl, _, Eq.trans (World.drewN_drewN _ _ _) (congrArg (World.drewN _) (Nat.add_assoc _ _ _))⟩)) | (go_at_call 65; (with_reducible refine (rat_abs.calls (wrap64 (Int.tdiv a1_0 t254)) t256 _ A21.out).mono ?_); rintro e w' ⟨rfl, ⟨nd, rfl⟩⟩; (try first | exact ⟨rfl, _, World.drewN_drewN _ _ _⟩ | exact ⟨rfl, _, Eq.trans (World.drewN_drewN _ _ _) (congrArg (World.drewN _) (Nat.add_assoc _ _ _))⟩))))
       go_meet
       case rel => exact ⟨_, (true), (by first | rfl | (simp; done) | (simp [*]; done) | (simp [bne]; done)), H', ⟨by first | omega | exact Nat.le_refl _⟩, ⟨by (with_reducible repeat first | apply kn_ | apply kd_ | apply ka_); exact BK248.out⟩, ⟨by (with_reducible repeat first | apply kn_ | apply kd_ | apply ka_); exact BK249.out⟩, ⟨by (with_reducible repeat first | apply kn_ | apply kd_ | apply ka_); exact BK250.out⟩, ⟨by repeat (first | (with_reducible first | exact HB.out | apply ba_ | apply pd_ | apply d1_ | refine bs_ ?_ GE248.out | refine bs_ ?_ GE249.out | refine bs_ ?_ GE250.out) | exact HB.out)⟩⟩
      ·rw [if_neg c23] at H
       have c23b0 : decide ((wrap64 (Int.tdiv (1099511627776 : Int) t256)) < t255) = false := df_ c23
       clear c23
       by_cases c24 : (wrap64 (Int.tdiv a1_1 t252)) = 0
       ·rw [if_pos c24] at H
        exact absurd H (by simp)
       ·rw [if_neg c24] at H
        have c24b0 : ((wrap64 (Int.tdiv a1_1 t252)) == 0) = false := beq_eq_false_iff_ne.mpr c24
        have c24b1 : ((wrap64 (Int.tdiv a1_1 t252)) != 0) = true := bne_iff_ne.mpr c24
        have H' := sd_ H
        clear H
        go_wp2_with (first | (go_at_call 65; (with_reducible refine (rat_abs.calls (wrap64 (Int.tdiv a0_0 t252)) t255 _ A20.out).mono ?_); rintro e w' ⟨rfl, ⟨nd, rfl⟩⟩; (try first | exact ⟨rfl, _, World.drewN_drewN _ _ _⟩ | exact ⟨rfl, _, Eq.trans (World.drewN_drewN _ _ _) (congrArg (World.drewN _) (Nat.add_assoc _ _ _))⟩)) | (go_at_call 65; (with_reducible refine (rat_abs.calls (wrap64 (Int.tdiv a1_0 t254)) t256 _ A21.out).mono ?_); rintro e w' ⟨rfl, ⟨nd, rfl⟩⟩; (try first | exact ⟨rfl, _, World.drewN_drewN _ _ _⟩ | exact ⟨rfl, _, Eq.trans (World.drewN_drewN _ _ _) (congrArg (World.drewN _) (Nat.add_assoc _ _ _))⟩)))
        repeat (go_quiet (first | (go_at_call 65; (with_reducible refine (rat_abs.calls (wrap64 (Int.tdiv a0_0 t252)) t255 _ A20.out).mono ?_); rintro e w' ⟨rfl, ⟨nd, rfl⟩⟩; (try first | exact ⟨rfl, _, World.drewN_drewN _ _ _⟩ | exact ⟨rfl, _, Eq.trans (World.drewN_drewN _ _ _) (congrArg (World.drewN _) (Nat.add_assoc _ _ _))⟩)) | (go_at_call 65; (with_reducible refine (rat_abs.calls (wrap64 (Int.tdiv a1_0 t254)) t256 _ A21.out).mono ?_); rintro e w' ⟨rfl, ⟨nd, rfl⟩⟩; (try first | exact ⟨rfl, _, World.drewN_drewN _ _ _⟩ | exact ⟨rfl, _, Eq.trans (World.drewN_drewN _ _ _) (congrArg (World.drewN _) (Nat.add_assoc _ _ _))⟩))); try go_wp2_with (first | (go_at_call 65; (with_reducible refine (rat_abs.calls (wrap64 (Int.tdiv a0_0 t252)) t255 _ A20.out).mono ?_); rintro e w' ⟨rfl, ⟨nd, rfl⟩⟩; (try first | exact ⟨rfl, _, World.drewN_drewN _ _ _⟩ | exact ⟨rfl, _, Eq.trans (World.drewN_drewN _ _ _) (congrArg (World.drewN _) (Nat.add_assoc _ _ _))⟩)) | (go_at_call 65; (with_reducible refine (rat_abs.calls (wrap64 (Int.tdiv a1_0 t254)) t256 _ A21.out).mono ?_); rintro e w' ⟨rfl, ⟨nd, rfl⟩⟩; (try first | exact ⟨rfl, _, World.drewN_drewN _ _ _⟩ | exact ⟨rfl, _, Eq.trans (World.drewN_drewN _ _ _) (congrArg (World.drewN _) (Nat.add_assoc _ _ _))⟩))))
        go_meet
        case rel => exact ⟨_, (decide ((wrap64 (Int.tdiv a0_1 t254)) > (wrap64 (Int.tdiv (1048576 : Int) (wrap64 (Int.tdiv a1_1 t252)))))), (by first | rfl | (simp; done) | (simp [*]; done) | (simp [bne]; done)), H', ⟨by first | omega | exact Nat.le_refl _⟩, ⟨by (with_reducible repeat first | apply kn_ | apply kd_ | apply ka_); exact BK248.out⟩, ⟨by (with_reducible repeat first | apply kn_ | apply kd_ | apply ka_); exact BK249.out⟩, ⟨by (with_reducible repeat first | apply kn_ | apply kd_ | apply ka_); exact BK250.out⟩, ⟨by repeat (first | (with_reducible first | exact HB.out | apply ba_ | apply pd_ | apply d1_ | refine bs_ ?_ GE248.out | refine bs_ ?_ GE249.out | refine bs_ ?_ GE250.out) | exact HB.out)⟩⟩
   case rest =>
    clear HC9
    try clear c1; try clear c2; try clear p2; try clear p6; try clear c7; try clear c7b0; try clear c7b1; try clear c8; try clear c8b0; try clear c8b1; try clear c13; try clear c14; try clear c16; try clear c18; try clear c18b0; try clear c18b1; try clear c19; try clear c19b0; try clear c19b1; try clear c22; try clear c22b0; try clear c22b1; try clear c23; try clear c23b0; try clear c24; try clear c24b0; try clear c24b1; try clear hcz15_0; try clear hcz15_1; try clear hcz17_0; try clear hcz17_1; try clear hfz15_0; try clear hfz15_1; try clear hfz17_0; try clear hfz17_1
    obtain ⟨kq, x55_8, rfl, HA, HJ8, BK248, BK249, BK250, HB⟩ := hcut
    cases kq with
    | zero => exact absurd HA.out (by simp [rat_product.j0])
    | succ kj8 =>
     have H := HA.out
     clear HA
     simp only [rat_product.j0] at H
     by_cases c25 : x55_8 = true
     ·subst c25
      have H1 : ((rat_zero.f).bind fun bt257 => (some (bt257.1, bt257.2, 3))) = some (r1, r2, r3) := by rw [if_pos rfl] at H; exact H
      clear H; have H := H1; clear H1
      replace H := ob_ H
      obtain ⟨⟨t257, t258⟩, A260, H⟩ := H
      replace H : (some (t257, t258, 3)) = some (r1, r2, r3) := H
      have A26 := sd_ A260
      clear A260
      simp only [Option.some.injEq, Prod.mk.injEq] at H
      obtain ⟨rfl, rfl, rfl⟩ := H
      go_wp2_with (first | (go_at_call 57; (with_reducible refine (rat_zero.calls  t257 t258 _ A26.out).mono ?_); rintro e w27 ⟨rfl, hb⟩; replace BK248 := kb_ BK248 hb; replace BK249 := kb_ BK249 hb; replace BK250 := kb_ BK250 hb; replace HB := hb_ HB (e_ GE248 (e_ GE249 (e_ GE250 e0_))) hb; (try clear hb); (try clear hb2); (try clear hk); (try clear hi); have hnb28 := NB250_248.out; have hnc28 := NB248_250.out; have hnb29 := NB250_249.out; have hnc29 := NB249_250.out; have hcz30_0 : w27.cell? ⟨gb250, 0, none⟩ = some (.int .i64 0) := (kc_ BK250.out 0).trans rfl; have hcz30_1 : w27.cell? ⟨gb250, 1, none⟩ = some (.int .i64 0) := (kc_ BK250.out 1).trans rfl; have hfz30_0 := kf_ BK250.out 0; have hfz30_1 := kf_ BK250.out 1))
      repeat (go_quiet (first | (go_at_call 57; (with_reducible refine (rat_zero.calls  t257 t258 _ A26.out).mono ?_); rintro e w27 ⟨rfl, hb⟩; replace BK248 := kb_ BK248 hb; replace BK249 := kb_ BK249 hb; replace BK250 := kb_ BK250 hb; replace HB := hb_ HB (e_ GE248 (e_ GE249 (e_ GE250 e0_))) hb; (try clear hb); (try clear hb2); (try clear hk); (try clear hi); have hnb28 := NB250_248.out; have hnc28 := NB248_250.out; have hnb29 := NB250_249.out; have hnc29 := NB249_250.out; have hcz30_0 : w27.cell? ⟨gb250, 0, none⟩ = some (.int .i64 0) := (kc_ BK250.out 0).trans rfl; have hcz30_1 : w27.cell? ⟨gb250, 1, none⟩ = some (.int .i64 0) := (kc_ BK250.out 1).trans rfl; have hfz30_0 := kf_ BK250.out 0; have hfz30_1 := kf_ BK250.out 1)); try go_wp2_with (first | (go_at_call 57; (with_reducible refine (rat_zero.calls  t257 t258 _ A26.out).mono ?_); rintro e w27 ⟨rfl, hb⟩; replace BK248 := kb_ BK248 hb; replace BK249 := kb_ BK249 hb; replace BK250 := kb_ BK250 hb; replace HB := hb_ HB (e_ GE248 (e_ GE249 (e_ GE250 e0_))) hb; (try clear hb); (try clear hb2); (try clear hk); (try clear hi); have hnb28 := NB250_248.out; have hnc28 := NB248_250.out; have hnb29 := NB250_249.out; have hnc29 := NB249_250.out; have hcz30_0 : w27.cell? ⟨gb250, 0, none⟩ = some (.int .i64 0) := (kc_ BK250.out 0).trans rfl; have hcz30_1 : w27.cell? ⟨gb250, 1, none⟩ = some (.int .i64 0) := (kc_ BK250.out 1).trans rfl; have hfz30_0 := kf_ BK250.out 0; have hfz30_1 := kf_ BK250.out 1)))
      refine bodyPost_ret (results_ct rfl _ _ gb250 25 #[.int .i64 t257, .int .i64 t258] (0, 0) _ rfl (by (with_reducible repeat first | apply kn_ | apply kd_ | apply ka_); refine blk_put (cs := #[.int .i64 t257, .int .i64 0]) ?_ 1 _ rfl; (with_reducible repeat first | apply kn_ | apply kd_ | apply ka_); refine blk_put (cs := #[.int .i64 0, .int .i64 0]) ?_ 0 _ rfl; (with_reducible repeat first | apply kn_ | apply kd_ | apply ka_); exact BK250.out) Tryz.underlying25 rfl (by kernel_rfl)) rfl ?_
      exact ⟨by first | rfl | (simp [errW_none, errW_some] <;> rfl) | (simp [*, errW_none, errW_some] <;> rfl), by repeat (first | (with_reducible first | exact HB.out | apply ba_ | apply pd_ | apply d1_ | refine bs_ ?_ GE248.out | refine bs_ ?_ GE249.out | refine bs_ ?_ GE250.out) | exact HB.out)⟩
     ·replace c25 := bf_ c25
      subst c25
      have H1 : ((rat_sized.f (wrap64 ((wrap64 (Int.tdiv a0_0 t252)) * (wrap64 (Int.tdiv a1_0 t254)))) (wrap64 ((wrap64 (Int.tdiv a0_1 t254)) * (wrap64 (Int.tdiv a1_1 t252))))).bind fun bt259 => (some (bt259.1, bt259.2.1, bt259.2.2))) = some (r1, r2, r3) := by rw [if_neg (show ¬ (false = true) by decide)] at H; exact H
      clear H; have H := H1; clear H1
      replace H := ob_ H
      obtain ⟨⟨t259, t260, t261⟩, A310, H⟩ := H
      replace H : (some (t259, t260, t261)) = some (r1, r2, r3) := H
      have A31 := sd_ A310
      clear A310
      simp only [Option.some.injEq, Prod.mk.injEq] at H
      obtain ⟨rfl, rfl, rfl⟩ := H
      go_wp2_with (first | (go_at_call 82; (with_reducible refine (rat_sized.calls (wrap64 ((wrap64 (Int.tdiv a0_0 t252)) * (wrap64 (Int.tdiv a1_0 t254)))) (wrap64 ((wrap64 (Int.tdiv a0_1 t254)) * (wrap64 (Int.tdiv a1_1 t252)))) t259 t260 t261 _ A31.out).mono ?_); rintro e w32 ⟨rfl, hb⟩; replace BK248 := kb_ BK248 hb; replace BK249 := kb_ BK249 hb; replace BK250 := kb_ BK250 hb; replace HB := hb_ HB (e_ GE248 (e_ GE249 (e_ GE250 e0_))) hb; (try clear hb); (try clear hb2); (try clear hk); (try clear hi); have hnb33 := NB250_248.out; have hnc33 := NB248_250.out; have hnb34 := NB250_249.out; have hnc34 := NB249_250.out; have hcz35_0 : w32.cell? ⟨gb250, 0, none⟩ = some (.int .i64 0) := (kc_ BK250.out 0).trans rfl; have hcz35_1 : w32.cell? ⟨gb250, 1, none⟩ = some (.int .i64 0) := (kc_ BK250.out 1).trans rfl; have hfz35_0 := kf_ BK250.out 0; have hfz35_1 := kf_ BK250.out 1))
      repeat (go_quiet (first | (go_at_call 82; (with_reducible refine (rat_sized.calls (wrap64 ((wrap64 (Int.tdiv a0_0 t252)) * (wrap64 (Int.tdiv a1_0 t254)))) (wrap64 ((wrap64 (Int.tdiv a0_1 t254)) * (wrap64 (Int.tdiv a1_1 t252)))) t259 t260 t261 _ A31.out).mono ?_); rintro e w32 ⟨rfl, hb⟩; replace BK248 := kb_ BK248 hb; replace BK249 := kb_ BK249 hb; replace BK250 := kb_ BK250 hb; replace HB := hb_ HB (e_ GE248 (e_ GE249 (e_ GE250 e0_))) hb; (try clear hb); (try clear hb2); (try clear hk); (try clear hi); have hnb33 := NB250_248.out; have hnc33 := NB248_250.out; have hnb34 := NB250_249.out; have hnc34 := NB249_250.out; have hcz35_0 : w32.cell? ⟨gb250, 0, none⟩ = some (.int .i64 0) := (kc_ BK250.out 0).trans rfl; have hcz35_1 : w32.cell? ⟨gb250, 1, none⟩ = some (.int .i64 0) := (kc_ BK250.out 1).trans rfl; have hfz35_0 := kf_ BK250.out 0; have hfz35_1 := kf_ BK250.out 1)); try go_wp2_with (first | (go_at_call 82; (with_reducible refine (rat_sized.calls (wrap64 ((wrap64 (Int.tdiv a0_0 t252)) * (wrap64 (Int.tdiv a1_0 t254)))) (wrap64 ((wrap64 (Int.tdiv a0_1 t254)) * (wrap64 (Int.tdiv a1_1 t252)))) t259 t260 t261 _ A31.out).mono ?_); rintro e w32 ⟨rfl, hb⟩; replace BK248 := kb_ BK248 hb; replace BK249 := kb_ BK249 hb; replace BK250 := kb_ BK250 hb; replace HB := hb_ HB (e_ GE248 (e_ GE249 (e_ GE250 e0_))) hb; (try clear hb); (try clear hb2); (try clear hk); (try clear hi); have hnb33 := NB250_248.out; have hnc33 := NB248_250.out; have hnb34 := NB250_249.out; have hnc34 := NB249_250.out; have hcz35_0 : w32.cell? ⟨gb250, 0, none⟩ = some (.int .i64 0) := (kc_ BK250.out 0).trans rfl; have hcz35_1 : w32.cell? ⟨gb250, 1, none⟩ = some (.int .i64 0) := (kc_ BK250.out 1).trans rfl; have hfz35_0 := kf_ BK250.out 0; have hfz35_1 := kf_ BK250.out 1)))
      refine bodyPost_ret (results_ct rfl _ _ gb250 25 #[.int .i64 t259, .int .i64 t260] (0, 0) _ rfl (by (with_reducible repeat first | apply kn_ | apply kd_ | apply ka_); refine blk_put (cs := #[.int .i64 t259, .int .i64 0]) ?_ 1 _ rfl; (with_reducible repeat first | apply kn_ | apply kd_ | apply ka_); refine blk_put (cs := #[.int .i64 0, .int .i64 0]) ?_ 0 _ rfl; (with_reducible repeat first | apply kn_ | apply kd_ | apply ka_); exact BK250.out) Tryz.underlying25 rfl (by kernel_rfl)) rfl ?_
      exact ⟨by first | rfl | (simp [errW_none, errW_some] <;> rfl) | (simp [*, errW_none, errW_some] <;> rfl), by repeat (first | (with_reducible first | exact HB.out | apply ba_ | apply pd_ | apply d1_ | refine bs_ ?_ GE248.out | refine bs_ ?_ GE249.out | refine bs_ ?_ GE250.out) | exact HB.out)⟩

/-! ### rat_Mul: function 53 -/
def rat_Mul.j0 : Nat → Bool → Int → Int → Int → Int → Option (Int × Int × Int)
 | 0, _, _, _, _, _ => none
 | k + 1, x18, x263000, x263001, x264000, x264001 => if x18 = true then ((rat_whole.f 0).bind fun bt268 => (some (bt268.1, bt268.2, 0))) else ((rat_product.f k x263000 x263001 x264000 x264001).bind fun bt270 => (some (bt270.1, bt270.2.1, bt270.2.2)))
def rat_Mul.f (k : Nat) (a0_0 : Int) (a0_1 : Int) (a1_0 : Int) (a1_1 : Int) : Option (Int × Int × Int) := (rat_both.f k a0_0 a0_1 a1_0 a1_1).bind fun t265 => (if t265 = true then (if a0_0 = 0 then (rat_Mul.j0 k true a0_0 a0_1 a1_0 a1_1) else (rat_Mul.j0 k (a1_0 == 0) a0_0 a0_1 a1_0 a1_1)) else ((rat_zero.f).bind fun bt266 => (some (bt266.1, bt266.2, 2))))
theorem rat_Mul.mono_l : ∀ k, (∀ y0 y1 y2 y3 y4, LeO (rat_Mul.j0 k y0 y1 y2 y3 y4) (rat_Mul.j0 (k + 1) y0 y1 y2 y3 y4))
 | 0 => fun _ _ _ _ _ r h => by simp [rat_Mul.j0] at h
 | k + 1 => by
  have ih0 := rat_Mul.mono_l k
  ·intro y0 y1 y2 y3 y4
   unfold rat_Mul.j0
   repeat' first
   | (with_reducible exact ih0 _ _ _ _ _)
   | (with_reducible exact rat_both.mono _ _ _ _ _)
   | (with_reducible exact rat_product.mono _ _ _ _ _)
   | (with_reducible exact LeO.refl _)
   | (with_reducible exact LeO.none _)
   | (with_reducible refine LeO.ite ?_ ?_)
   | (with_reducible refine LeO.bind ?_ (fun _ => ?_))
   | exact ih0 _ _ _ _ _
   | exact rat_both.mono _ _ _ _ _
   | exact rat_product.mono _ _ _ _ _
   | exact LeO.none _
   | refine LeO.ite ?_ ?_
   | refine LeO.bind ?_ (fun _ => ?_)
theorem rat_Mul.mono : ∀ a0 a1 a2 a3 k, LeO (rat_Mul.f k a0 a1 a2 a3) (rat_Mul.f (k + 1) a0 a1 a2 a3) := by
 intro a0 a1 a2 a3 k
 have ih0 := rat_Mul.mono_l k
 unfold rat_Mul.f
 repeat' first
   | (with_reducible exact ih0 _ _ _ _ _)
   | (with_reducible exact rat_both.mono _ _ _ _ _)
   | (with_reducible exact rat_product.mono _ _ _ _ _)
   | (with_reducible exact LeO.refl _)
   | (with_reducible exact LeO.none _)
   | (with_reducible refine LeO.ite ?_ ?_)
   | (with_reducible refine LeO.bind ?_ (fun _ => ?_))
   | exact ih0 _ _ _ _ _
   | exact rat_both.mono _ _ _ _ _
   | exact rat_product.mono _ _ _ _ _
   | exact LeO.none _
   | refine LeO.ite ?_ ?_
   | refine LeO.bind ?_ (fun _ => ?_)
set_option maxHeartbeats 8000000 in
set_option maxRecDepth 100000 in
theorem rat_Mul.calls (k : Nat) (a0_0 : Int) (a0_1 : Int) (a1_0 : Int) (a1_1 : Int) (r1 : Int) (r2 : Int) (r3 : Int) (w : World) (h : rat_Mul.f k a0_0 a0_1 a1_0 a1_1 = some (r1, r2, r3)) :
  Calls Tryz.prog 53 #[.agg #[.int .i64 a0_0, .int .i64 a0_1], .agg #[.int .i64 a1_0, .int .i64 a1_1]] w fun e w' => e = .returned (.tuple #[.agg #[.int .i64 r1, .int .i64 r2], .int .i64 r3]) ∧ Below w.heap.size w w' := by
 have hu25 := Tryz.underlying25
 have HB := sd_ (Below.refl w.heap.size w)
 have H : ((rat_both.f k a0_0 a0_1 a1_0 a1_1).bind fun t265 => (if t265 = true then (if a0_0 = 0 then (rat_Mul.j0 k true a0_0 a0_1 a1_0 a1_1) else (rat_Mul.j0 k (a1_0 == 0) a0_0 a0_1 a1_0 a1_1)) else ((rat_zero.f).bind fun bt266 => (some (bt266.1, bt266.2, 2))))) = some (r1, r2, r3) := h
 clear h
 replace H := ob_ H
 obtain ⟨t265, A30, H⟩ := H
 replace H : (if t265 = true then (if a0_0 = 0 then (rat_Mul.j0 k true a0_0 a0_1 a1_0 a1_1) else (rat_Mul.j0 k (a1_0 == 0) a0_0 a0_1 a1_0 a1_1)) else ((rat_zero.f).bind fun bt266 => (some (bt266.1, bt266.2, 2)))) = some (r1, r2, r3) := H
 have A3 := sd_ A30
 clear A30
 by_cases c4 : t265 = true
 ·subst c4
  have H1 : (if a0_0 = 0 then (rat_Mul.j0 k true a0_0 a0_1 a1_0 a1_1) else (rat_Mul.j0 k (a1_0 == 0) a0_0 a0_1 a1_0 a1_1)) = some (r1, r2, r3) := by rw [if_pos rfl] at H; exact H
  clear H; have H := H1; clear H1
  have HC5 := sd_ H
  clear H
  go_enter Tryz.func53, Tryz.ntmps53
  go_upto_region 3 with (first | ((with_reducible refine gate_dst (N := 2) rfl ?_); refine box_event ?hg (N := 2) ?hd (cs := #[.int .i64 a0_0, .int .i64 a0_1]) (t := 25) ?hr ?_; (case hd => rfl); (case hg => rfl); (case hr => first | (go_simp; done) | (go_simp; rfl)); intro gb262 hg w6 hbox hb; have BK262 := sd_ hbox; have GW262 := gw_ HB e0_ hg; have GE262 := GW262; replace HB := hb_ HB e0_ hb; clear hb hbox hg) | ((with_reducible refine gate_dst (N := 3) rfl ?_); refine box_event ?hg (N := 3) ?hd (cs := #[.int .i64 a1_0, .int .i64 a1_1]) (t := 25) ?hr ?_; (case hd => rfl); (case hg => rfl); (case hr => first | (go_simp; done) | (go_simp; rfl)); intro gb263 hg w7 hbox hb; have BK263 := sd_ hbox; have GW263 := gw_ HB (e_ GE262 e0_) hg; have GE263 := GW263; have NB262_263 := nb_ BK262 hg; have NB263_262 := sy_ NB262_263; replace BK262 := kb_ BK262 hb; replace HB := hb_ HB (e_ GE262 e0_) hb; clear hb hbox hg) | ((with_reducible refine gate_dst (N := 4) rfl ?_); refine box_event ?hg (N := 4) ?hd (cs := #[.int .i64 0, .int .i64 0]) (t := 25) ?hr ?_; (case hd => rfl); (case hg => rfl); (case hr => first | (go_simp; done) | (go_simp; rfl)); intro gb264 hg w8 hbox hb; have BK264 := sd_ hbox; have GW264 := gw_ HB (e_ GE262 (e_ GE263 e0_)) hg; have GE264 := GW264; have NB262_264 := nb_ BK262 hg; have NB264_262 := sy_ NB262_264; have NB263_264 := nb_ BK263 hg; have NB264_263 := sy_ NB263_264; replace BK262 := kb_ BK262 hb; replace BK263 := kb_ BK263 hb; replace HB := hb_ HB (e_ GE262 (e_ GE263 e0_)) hb; clear hb hbox hg; have hnb9 := NB262_263.out; have hnc9 := NB263_262.out; have hnb10 := NB262_264.out; have hnc10 := NB264_262.out; have hcz11_0 : w8.cell? ⟨gb262, 0, none⟩ = some (.int .i64 a0_0) := (kc_ BK262.out 0).trans rfl; have hcz11_1 : w8.cell? ⟨gb262, 1, none⟩ = some (.int .i64 a0_1) := (kc_ BK262.out 1).trans rfl; have hfz11_0 := kf_ BK262.out 0; have hfz11_1 := kf_ BK262.out 1; have hnb12 := NB263_264.out; have hnc12 := NB264_263.out; have hcz13_0 : w8.cell? ⟨gb263, 0, none⟩ = some (.int .i64 a1_0) := (kc_ BK263.out 0).trans rfl; have hcz13_1 : w8.cell? ⟨gb263, 1, none⟩ = some (.int .i64 a1_1) := (kc_ BK263.out 1).trans rfl; have hfz13_0 := kf_ BK263.out 0; have hfz13_1 := kf_ BK263.out 1) | ((with_reducible refine gate_callee (f := 66) rfl ?_); refine goesL_ (some 8) rfl rfl Tryz.func66 (by kernel_rfl) rfl #[.agg #[.int .i64 a0_0, .int .i64 a0_1], .agg #[.int .i64 a1_0, .int .i64 a1_1]] rfl (by (try simp only [lm_, lq_, lx_]); first | done | rfl | (simp only [ld_, lt_]; rfl)) ?_; (with_reducible refine (rat_both.calls k a0_0 a0_1 a1_0 a1_1 true _ A3.out).mono ?_); rintro e w14 ⟨rfl, hb⟩; refine ⟨_, rfl, ?_⟩; replace BK262 := kb_ BK262 hb; replace BK263 := kb_ BK263 hb; replace BK264 := kb_ BK264 hb; replace HB := hb_ HB (e_ GE262 (e_ GE263 (e_ GE264 e0_))) hb; (try clear hb); (try clear hb2); (try clear hk); (try clear hi)))
  (try simp only [Act.put, ls_, lz_, lc_])
  go_cut [18] (fun v18 wc => ∃ (kq : Nat) (x18_4 : Bool), v18 = .bool x18_4 ∧ Aside0 (rat_Mul.j0 kq x18_4 a0_0 a0_1 a1_0 a1_1 = some (r1, r2, r3)) ∧ Aside0 (kq ≤ k) ∧ Aside0 (wc.heap[gb262]? = some (.cells #[.int .i64 a0_0, .int .i64 a0_1] 25 (0, 0))) ∧ Aside0 (wc.heap[gb263]? = some (.cells #[.int .i64 a1_0, .int .i64 a1_1] 25 (0, 0))) ∧ Aside0 (wc.heap[gb264]? = some (.cells #[.int .i64 0, .int .i64 0] 25 (0, 0))) ∧ Aside0 (Below w.heap.size w wc))
  case first =>
   have H := HC5.out
   clear HC5
   by_cases c15 : a0_0 = 0
   ·rw [if_pos c15] at H
    have c15b0 : (a0_0 == 0) = true := beq_iff_eq.mpr c15
    have c15b1 : (a0_0 != 0) = false := bne_eq_false_iff_eq.mpr c15
    clear c15
    (first | rw [c15b0] | (simp only [i64_w, i32_w]; rw [c15b0]) | skip)
    have H' := sd_ H
    clear H
    have hnb16 := NB262_263.out
    have hnc16 := NB263_262.out
    have hnb17 := NB262_264.out
    have hnc17 := NB264_262.out
    have hcz18_0 : w14.cell? ⟨gb262, 0, none⟩ = some (.int .i64 a0_0) := (kc_ BK262.out 0).trans rfl
    have hcz18_1 : w14.cell? ⟨gb262, 1, none⟩ = some (.int .i64 a0_1) := (kc_ BK262.out 1).trans rfl
    have hfz18_0 := kf_ BK262.out 0
    have hfz18_1 := kf_ BK262.out 1
    go_wp2
    go_meet
    case rel => exact ⟨_, (true), (by first | rfl | (simp; done) | (simp [*]; done) | (simp [bne]; done)), H', ⟨by first | omega | exact Nat.le_refl _⟩, ⟨by (with_reducible repeat first | apply kn_ | apply kd_ | apply ka_); exact BK262.out⟩, ⟨by (with_reducible repeat first | apply kn_ | apply kd_ | apply ka_); exact BK263.out⟩, ⟨by (with_reducible repeat first | apply kn_ | apply kd_ | apply ka_); exact BK264.out⟩, ⟨by repeat (first | (with_reducible first | exact HB.out | apply ba_ | apply pd_ | apply d1_ | refine bs_ ?_ GE262.out | refine bs_ ?_ GE263.out | refine bs_ ?_ GE264.out) | exact HB.out)⟩⟩
   ·rw [if_neg c15] at H
    have c15b0 : (a0_0 == 0) = false := beq_eq_false_iff_ne.mpr c15
    have c15b1 : (a0_0 != 0) = true := bne_iff_ne.mpr c15
    (first | rw [c15b0] | (simp only [i64_w, i32_w]; rw [c15b0]) | skip)
    have H' := sd_ H
    clear H
    have hnb19 := NB262_263.out
    have hnc19 := NB263_262.out
    have hnb20 := NB262_264.out
    have hnc20 := NB264_262.out
    have hcz21_0 : w14.cell? ⟨gb262, 0, none⟩ = some (.int .i64 a0_0) := (kc_ BK262.out 0).trans rfl
    have hcz21_1 : w14.cell? ⟨gb262, 1, none⟩ = some (.int .i64 a0_1) := (kc_ BK262.out 1).trans rfl
    have hfz21_0 := kf_ BK262.out 0
    have hfz21_1 := kf_ BK262.out 1
    have hnb22 := NB263_264.out
    have hnc22 := NB264_263.out
    have hcz23_0 : w14.cell? ⟨gb263, 0, none⟩ = some (.int .i64 a1_0) := (kc_ BK263.out 0).trans rfl
    have hcz23_1 : w14.cell? ⟨gb263, 1, none⟩ = some (.int .i64 a1_1) := (kc_ BK263.out 1).trans rfl
    have hfz23_0 := kf_ BK263.out 0
    have hfz23_1 := kf_ BK263.out 1
    go_wp2
    go_meet
    case rel => exact ⟨_, ((a1_0 == 0)), (by first | rfl | (simp; done) | (simp [*]; done) | (simp [bne]; done)), H', ⟨by first | omega | exact Nat.le_refl _⟩, ⟨by (with_reducible repeat first | apply kn_ | apply kd_ | apply ka_); exact BK262.out⟩, ⟨by (with_reducible repeat first | apply kn_ | apply kd_ | apply ka_); exact BK263.out⟩, ⟨by (with_reducible repeat first | apply kn_ | apply kd_ | apply ka_); exact BK264.out⟩, ⟨by repeat (first | (with_reducible first | exact HB.out | apply ba_ | apply pd_ | apply d1_ | refine bs_ ?_ GE262.out | refine bs_ ?_ GE263.out | refine bs_ ?_ GE264.out) | exact HB.out)⟩⟩
  case rest =>
   clear HC5
   try clear c1; try clear c2; try clear p2; try clear c4; try clear c5; try clear c6; try clear c9; try clear c10; try clear c12; try clear c15; try clear c15b0; try clear c15b1; try clear c16; try clear c17; try clear c19; try clear c20; try clear c22; try clear hcz11_0; try clear hcz11_1; try clear hcz13_0; try clear hcz13_1; try clear hcz18_0; try clear hcz18_1; try clear hcz21_0; try clear hcz21_1; try clear hcz23_0; try clear hcz23_1; try clear hfz11_0; try clear hfz11_1; try clear hfz13_0; try clear hfz13_1; try clear hfz18_0; try clear hfz18_1; try clear hfz21_0; try clear hfz21_1; try clear hfz23_0; try clear hfz23_1
   obtain ⟨kq, x18_4, rfl, HA, HJ4, BK262, BK263, BK264, HB⟩ := hcut
   cases kq with
   | zero => exact absurd HA.out (by simp [rat_Mul.j0])
   | succ kj4 =>
    have H := HA.out
    clear HA
    simp only [rat_Mul.j0] at H
    by_cases c24 : x18_4 = true
    ·subst c24
     have H1 : ((rat_whole.f 0).bind fun bt268 => (some (bt268.1, bt268.2, 0))) = some (r1, r2, r3) := by rw [if_pos rfl] at H; exact H
     clear H; have H := H1; clear H1
     replace H := ob_ H
     obtain ⟨⟨t268, t269⟩, A250, H⟩ := H
     replace H : (some (t268, t269, 0)) = some (r1, r2, r3) := H
     have A25 := sd_ A250
     clear A250
     simp only [Option.some.injEq, Prod.mk.injEq] at H
     obtain ⟨rfl, rfl, rfl⟩ := H
     go_wp2_with (first | ((with_reducible refine gate_callee (f := 78) rfl ?_); refine goesL_ (some 19) rfl rfl Tryz.func78 (by kernel_rfl) rfl #[.int .i64 0] rfl (by (try simp only [lm_, lq_, lx_]); first | done | rfl | (simp only [ld_, lt_]; rfl)) ?_; (with_reducible refine (rat_whole.calls 0 t268 t269 _ A25.out).mono ?_); rintro e w26 ⟨rfl, hb⟩; refine ⟨_, rfl, ?_⟩; replace BK262 := kb_ BK262 hb; replace BK263 := kb_ BK263 hb; replace BK264 := kb_ BK264 hb; replace HB := hb_ HB (e_ GE262 (e_ GE263 (e_ GE264 e0_))) hb; (try clear hb); (try clear hb2); (try clear hk); (try clear hi); have hnb27 := NB264_262.out; have hnc27 := NB262_264.out; have hnb28 := NB264_263.out; have hnc28 := NB263_264.out; have hcz29_0 : w26.cell? ⟨gb264, 0, none⟩ = some (.int .i64 0) := (kc_ BK264.out 0).trans rfl; have hcz29_1 : w26.cell? ⟨gb264, 1, none⟩ = some (.int .i64 0) := (kc_ BK264.out 1).trans rfl; have hfz29_0 := kf_ BK264.out 0; have hfz29_1 := kf_ BK264.out 1))
     refine bodyPost_ret (results_ct rfl _ _ gb264 25 #[.int .i64 t268, .int .i64 t269] (0, 0) _ rfl (by (with_reducible repeat first | apply kn_ | apply kd_ | apply ka_); refine blk_put (cs := #[.int .i64 t268, .int .i64 0]) ?_ 1 _ rfl; (with_reducible repeat first | apply kn_ | apply kd_ | apply ka_); refine blk_put (cs := #[.int .i64 0, .int .i64 0]) ?_ 0 _ rfl; (with_reducible repeat first | apply kn_ | apply kd_ | apply ka_); exact BK264.out) Tryz.underlying25 rfl (by kernel_rfl)) rfl ?_
     exact ⟨by first | rfl | (simp [errW_none, errW_some] <;> rfl) | (simp [*, errW_none, errW_some] <;> rfl), by repeat (first | (with_reducible first | exact HB.out | apply ba_ | apply pd_ | apply d1_ | refine bs_ ?_ GE262.out | refine bs_ ?_ GE263.out | refine bs_ ?_ GE264.out) | exact HB.out)⟩
    ·replace c24 := bf_ c24
     subst c24
     have H1 : ((rat_product.f kj4 a0_0 a0_1 a1_0 a1_1).bind fun bt270 => (some (bt270.1, bt270.2.1, bt270.2.2))) = some (r1, r2, r3) := by rw [if_neg (show ¬ (false = true) by decide)] at H; exact H
     clear H; have H := H1; clear H1
     replace H := ob_ H
     obtain ⟨⟨t270, t271, t272⟩, A300, H⟩ := H
     replace H : (some (t270, t271, t272)) = some (r1, r2, r3) := H
     have A30 := sd_ A300
     clear A300
     simp only [Option.some.injEq, Prod.mk.injEq] at H
     obtain ⟨rfl, rfl, rfl⟩ := H
     have hnb31 := NB262_263.out
     have hnc31 := NB263_262.out
     have hnb32 := NB262_264.out
     have hnc32 := NB264_262.out
     have hcz33_0 : wc.cell? ⟨gb262, 0, none⟩ = some (.int .i64 a0_0) := (kc_ BK262.out 0).trans rfl
     have hcz33_1 : wc.cell? ⟨gb262, 1, none⟩ = some (.int .i64 a0_1) := (kc_ BK262.out 1).trans rfl
     have hfz33_0 := kf_ BK262.out 0
     have hfz33_1 := kf_ BK262.out 1
     have hnb34 := NB263_264.out
     have hnc34 := NB264_263.out
     have hcz35_0 : wc.cell? ⟨gb263, 0, none⟩ = some (.int .i64 a1_0) := (kc_ BK263.out 0).trans rfl
     have hcz35_1 : wc.cell? ⟨gb263, 1, none⟩ = some (.int .i64 a1_1) := (kc_ BK263.out 1).trans rfl
     have hfz35_0 := kf_ BK263.out 0
     have hfz35_1 := kf_ BK263.out 1
     go_wp2_with (first | ((with_reducible refine gate_callee (f := 79) rfl ?_); refine goesL_ (some 22) rfl rfl Tryz.func79 (by kernel_rfl) rfl #[.agg #[.int .i64 a0_0, .int .i64 a0_1], .agg #[.int .i64 a1_0, .int .i64 a1_1]] rfl (by (try simp only [lm_, lq_, lx_]); first | done | rfl | (simp only [ld_, lt_]; rfl)) ?_; (with_reducible refine (rat_product.calls kj4 a0_0 a0_1 a1_0 a1_1 t270 t271 t272 _ A30.out).mono ?_); rintro e w36 ⟨rfl, hb⟩; refine ⟨_, rfl, ?_⟩; replace BK262 := kb_ BK262 hb; replace BK263 := kb_ BK263 hb; replace BK264 := kb_ BK264 hb; replace HB := hb_ HB (e_ GE262 (e_ GE263 (e_ GE264 e0_))) hb; (try clear hb); (try clear hb2); (try clear hk); (try clear hi); have hcz37_0 : w36.cell? ⟨gb264, 0, none⟩ = some (.int .i64 0) := (kc_ BK264.out 0).trans rfl; have hcz37_1 : w36.cell? ⟨gb264, 1, none⟩ = some (.int .i64 0) := (kc_ BK264.out 1).trans rfl; have hfz37_0 := kf_ BK264.out 0; have hfz37_1 := kf_ BK264.out 1))
     refine bodyPost_ret (results_ct rfl _ _ gb264 25 #[.int .i64 t270, .int .i64 t271] (0, 0) _ rfl (by (with_reducible repeat first | apply kn_ | apply kd_ | apply ka_); refine blk_put (cs := #[.int .i64 t270, .int .i64 0]) ?_ 1 _ rfl; (with_reducible repeat first | apply kn_ | apply kd_ | apply ka_); refine blk_put (cs := #[.int .i64 0, .int .i64 0]) ?_ 0 _ rfl; (with_reducible repeat first | apply kn_ | apply kd_ | apply ka_); exact BK264.out) Tryz.underlying25 rfl (by kernel_rfl)) rfl ?_
     exact ⟨by first | rfl | (simp [errW_none, errW_some] <;> rfl) | (simp [*, errW_none, errW_some] <;> rfl), by repeat (first | (with_reducible first | exact HB.out | apply ba_ | apply pd_ | apply d1_ | refine bs_ ?_ GE262.out | refine bs_ ?_ GE263.out | refine bs_ ?_ GE264.out) | exact HB.out)⟩
 ·replace c4 := bf_ c4
  subst c4
  have H1 : ((rat_zero.f).bind fun bt266 => (some (bt266.1, bt266.2, 2))) = some (r1, r2, r3) := by rw [if_neg (show ¬ (false = true) by decide)] at H; exact H
  clear H; have H := H1; clear H1
  replace H := ob_ H
  obtain ⟨⟨t266, t267⟩, A380, H⟩ := H
  replace H : (some (t266, t267, 2)) = some (r1, r2, r3) := H
  have A38 := sd_ A380
  clear A380
  simp only [Option.some.injEq, Prod.mk.injEq] at H
  obtain ⟨rfl, rfl, rfl⟩ := H
  go_enter Tryz.func53, Tryz.ntmps53
  go_wp2_with (first | ((with_reducible refine gate_dst (N := 2) rfl ?_); refine box_event ?hg (N := 2) ?hd (cs := #[.int .i64 a0_0, .int .i64 a0_1]) (t := 25) ?hr ?_; (case hd => rfl); (case hg => rfl); (case hr => first | (go_simp; done) | (go_simp; rfl)); intro gb262 hg w39 hbox hb; have BK262 := sd_ hbox; have GW262 := gw_ HB e0_ hg; have GE262 := GW262; replace HB := hb_ HB e0_ hb; clear hb hbox hg) | ((with_reducible refine gate_dst (N := 3) rfl ?_); refine box_event ?hg (N := 3) ?hd (cs := #[.int .i64 a1_0, .int .i64 a1_1]) (t := 25) ?hr ?_; (case hd => rfl); (case hg => rfl); (case hr => first | (go_simp; done) | (go_simp; rfl)); intro gb263 hg w40 hbox hb; have BK263 := sd_ hbox; have GW263 := gw_ HB (e_ GE262 e0_) hg; have GE263 := GW263; have NB262_263 := nb_ BK262 hg; have NB263_262 := sy_ NB262_263; replace BK262 := kb_ BK262 hb; replace HB := hb_ HB (e_ GE262 e0_) hb; clear hb hbox hg) | ((with_reducible refine gate_dst (N := 4) rfl ?_); refine box_event ?hg (N := 4) ?hd (cs := #[.int .i64 0, .int .i64 0]) (t := 25) ?hr ?_; (case hd => rfl); (case hg => rfl); (case hr => first | (go_simp; done) | (go_simp; rfl)); intro gb264 hg w41 hbox hb; have BK264 := sd_ hbox; have GW264 := gw_ HB (e_ GE262 (e_ GE263 e0_)) hg; have GE264 := GW264; have NB262_264 := nb_ BK262 hg; have NB264_262 := sy_ NB262_264; have NB263_264 := nb_ BK263 hg; have NB264_263 := sy_ NB263_264; replace BK262 := kb_ BK262 hb; replace BK263 := kb_ BK263 hb; replace HB := hb_ HB (e_ GE262 (e_ GE263 e0_)) hb; clear hb hbox hg; have hnb42 := NB262_263.out; have hnc42 := NB263_262.out; have hnb43 := NB262_264.out; have hnc43 := NB264_262.out; have hcz44_0 : w41.cell? ⟨gb262, 0, none⟩ = some (.int .i64 a0_0) := (kc_ BK262.out 0).trans rfl; have hcz44_1 : w41.cell? ⟨gb262, 1, none⟩ = some (.int .i64 a0_1) := (kc_ BK262.out 1).trans rfl; have hfz44_0 := kf_ BK262.out 0; have hfz44_1 := kf_ BK262.out 1; have hnb45 := NB263_264.out; have hnc45 := NB264_263.out; have hcz46_0 : w41.cell? ⟨gb263, 0, none⟩ = some (.int .i64 a1_0) := (kc_ BK263.out 0).trans rfl; have hcz46_1 : w41.cell? ⟨gb263, 1, none⟩ = some (.int .i64 a1_1) := (kc_ BK263.out 1).trans rfl; have hfz46_0 := kf_ BK263.out 0; have hfz46_1 := kf_ BK263.out 1) | ((with_reducible refine gate_callee (f := 66) rfl ?_); refine goesL_ (some 8) rfl rfl Tryz.func66 (by kernel_rfl) rfl #[.agg #[.int .i64 a0_0, .int .i64 a0_1], .agg #[.int .i64 a1_0, .int .i64 a1_1]] rfl (by (try simp only [lm_, lq_, lx_]); first | done | rfl | (simp only [ld_, lt_]; rfl)) ?_; (with_reducible refine (rat_both.calls k a0_0 a0_1 a1_0 a1_1 false _ A3.out).mono ?_); rintro e w47 ⟨rfl, hb⟩; refine ⟨_, rfl, ?_⟩; replace BK262 := kb_ BK262 hb; replace BK263 := kb_ BK263 hb; replace BK264 := kb_ BK264 hb; replace HB := hb_ HB (e_ GE262 (e_ GE263 (e_ GE264 e0_))) hb; (try clear hb); (try clear hb2); (try clear hk); (try clear hi)) | ((with_reducible refine gate_callee (f := 57) rfl ?_); refine goesL_ (some 10) rfl rfl Tryz.func57 (by kernel_rfl) rfl #[] rfl (by (try simp only [lm_, lq_, lx_]); first | done | rfl | (simp only [ld_, lt_]; rfl)) ?_; (with_reducible refine (rat_zero.calls  t266 t267 _ A38.out).mono ?_); rintro e w48 ⟨rfl, hb⟩; refine ⟨_, rfl, ?_⟩; replace BK262 := kb_ BK262 hb; replace BK263 := kb_ BK263 hb; replace BK264 := kb_ BK264 hb; replace HB := hb_ HB (e_ GE262 (e_ GE263 (e_ GE264 e0_))) hb; (try clear hb); (try clear hb2); (try clear hk); (try clear hi); have hcz49_0 : w48.cell? ⟨gb264, 0, none⟩ = some (.int .i64 0) := (kc_ BK264.out 0).trans rfl; have hcz49_1 : w48.cell? ⟨gb264, 1, none⟩ = some (.int .i64 0) := (kc_ BK264.out 1).trans rfl; have hfz49_0 := kf_ BK264.out 0; have hfz49_1 := kf_ BK264.out 1))
  refine bodyPost_ret (results_ct rfl _ _ gb264 25 #[.int .i64 t266, .int .i64 t267] (0, 0) _ rfl (by (with_reducible repeat first | apply kn_ | apply kd_ | apply ka_); refine blk_put (cs := #[.int .i64 t266, .int .i64 0]) ?_ 1 _ rfl; (with_reducible repeat first | apply kn_ | apply kd_ | apply ka_); refine blk_put (cs := #[.int .i64 0, .int .i64 0]) ?_ 0 _ rfl; (with_reducible repeat first | apply kn_ | apply kd_ | apply ka_); exact BK264.out) Tryz.underlying25 rfl (by kernel_rfl)) rfl ?_
  exact ⟨by first | rfl | (simp [errW_none, errW_some] <;> rfl) | (simp [*, errW_none, errW_some] <;> rfl), by repeat (first | (with_reducible first | exact HB.out | apply ba_ | apply pd_ | apply d1_ | refine bs_ ?_ GE262.out | refine bs_ ?_ GE263.out | refine bs_ ?_ GE264.out) | exact HB.out)⟩

end Go.Proofs.YtdiccfonlojlfaaGreatDoor.P
