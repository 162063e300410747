-- Written by a program of this session (wip/tools/xprint.py, over the kit's print): Lean checks it.
import Derived.Test.YtdiccfonlojlfaaGreatDoorPx0
import Derived.Test.YtdiccfonlojlfaaGreatDoorPx2
import Derived.Test.YtdiccfonlojlfaaGreatDoorPx3
import Derived.Test.YtdiccfonlojlfaaGreatDoorPx4
import Derived.Test.YtdiccfonlojlfaaGreatDoorPx7
import Derived.Test.YtdiccfonlojlfaaGreatDoorPx8
namespace Go.Proofs.YtdiccfonlojlfaaGreatDoor.P
open Go.RowKit Go.Proofs.YtdiccfonlojlfaaGreatDoorW.PrintWords Go.Proofs.YtdiccfonlojlfaaGreatDoorW.PrintLast Go.Proofs.YtdiccfonlojlfaaGreatDoorW.PrintMore
attribute [local go_sem] max2_int min2_int max_two min_two max_three min_three max_four min_four   -- for this text's walks alone
set_option linter.unusedVariables false
set_option linter.unusedSimpArgs false

attribute [local go_sem high] eqA25
/-! ### dur_Beat: function 29 -/
def dur_Beat.j0 : Nat → Bool → Int → Int → Int → Int → Option (Int × Int)
 | 0, _, _, _, _, _ => none
 | k + 1, x38, x276000, x276001, x277000, x277001 => if x38 = true then (some (0, 2)) else ((rat_Of.f k x276001 1).bind fun bt283 => ((rat_Mul.f k x277000 x277001 bt283.1 bt283.2.1).bind fun bt287 => (if bt287.2.2 = 0 then ((rat_Floor.f k bt287.1 bt287.2.1).bind fun t291 => ((dur_step.f x276000 x276001).bind fun t292 => (if t292 = 0 then (none) else (some (wrap64 (Int.tdiv t291 t292), 0))))) else ((dur_Beats.f k x276000 x276001).bind fun bt293 => ((api_Rat.f k bt293.1 x277000 x277001 ()).bind fun bt297 => (if bt297.2 = true then (some (bt297.1, 0)) else (some (wrap64 (bt297.1 - 1), 0))))))))
def dur_Beat.f (k : Nat) (a0_0 : Int) (a0_1 : Int) (a1_0 : Int) (a1_1 : Int) : Option (Int × Int) := (dur_Bar.f k a0_0 a0_1).bind fun bt277 => (if bt277.2.2 = 0 then ((rat_Check.f k a1_0 a1_1).bind fun t281 => (if t281 = true then (if a1_0 < 0 then (dur_Beat.j0 k true a0_0 a0_1 a1_0 a1_1) else ((rat_Cmp.f k a1_0 a1_1 bt277.1 bt277.2.1).bind fun t282 => (dur_Beat.j0 k (decide (t282 ≥ 0)) a0_0 a0_1 a1_0 a1_1))) else (dur_Beat.j0 k true a0_0 a0_1 a1_0 a1_1))) else (dur_Beat.j0 k true a0_0 a0_1 a1_0 a1_1))
theorem dur_Beat.mono_l : ∀ k, (∀ y0 y1 y2 y3 y4, LeO (dur_Beat.j0 k y0 y1 y2 y3 y4) (dur_Beat.j0 (k + 1) y0 y1 y2 y3 y4))
 | 0 => fun _ _ _ _ _ r h => by simp [dur_Beat.j0] at h
 | k + 1 => by
  have ih0 := dur_Beat.mono_l k
  ·intro y0 y1 y2 y3 y4
   unfold dur_Beat.j0
   repeat' first
   | (with_reducible exact ih0 _ _ _ _ _)
   | (with_reducible exact api_Rat.mono _ _ _ _ _)
   | (with_reducible exact dur_Bar.mono _ _ _)
   | (with_reducible exact dur_Beats.mono _ _ _)
   | (with_reducible exact rat_Check.mono _ _ _)
   | (with_reducible exact rat_Cmp.mono _ _ _ _ _)
   | (with_reducible exact rat_Floor.mono _ _ _)
   | (with_reducible exact rat_Mul.mono _ _ _ _ _)
   | (with_reducible exact rat_Of.mono _ _ _)
   | (with_reducible exact LeO.refl _)
   | (with_reducible exact LeO.none _)
   | (with_reducible refine LeO.ite ?_ ?_)
   | (with_reducible refine LeO.bind ?_ (fun _ => ?_))
   | exact ih0 _ _ _ _ _
   | exact api_Rat.mono _ _ _ _ _
   | exact dur_Bar.mono _ _ _
   | exact dur_Beats.mono _ _ _
   | exact rat_Check.mono _ _ _
   | exact rat_Cmp.mono _ _ _ _ _
   | exact rat_Floor.mono _ _ _
   | exact rat_Mul.mono _ _ _ _ _
   | exact rat_Of.mono _ _ _
   | exact LeO.none _
   | refine LeO.ite ?_ ?_
   | refine LeO.bind ?_ (fun _ => ?_)
theorem dur_Beat.mono : ∀ a0 a1 a2 a3 k, LeO (dur_Beat.f k a0 a1 a2 a3) (dur_Beat.f (k + 1) a0 a1 a2 a3) := by
 intro a0 a1 a2 a3 k
 have ih0 := dur_Beat.mono_l k
 unfold dur_Beat.f
 repeat' first
   | (with_reducible exact ih0 _ _ _ _ _)
   | (with_reducible exact api_Rat.mono _ _ _ _ _)
   | (with_reducible exact dur_Bar.mono _ _ _)
   | (with_reducible exact dur_Beats.mono _ _ _)
   | (with_reducible exact rat_Check.mono _ _ _)
   | (with_reducible exact rat_Cmp.mono _ _ _ _ _)
   | (with_reducible exact rat_Floor.mono _ _ _)
   | (with_reducible exact rat_Mul.mono _ _ _ _ _)
   | (with_reducible exact rat_Of.mono _ _ _)
   | (with_reducible exact LeO.refl _)
   | (with_reducible exact LeO.none _)
   | (with_reducible refine LeO.ite ?_ ?_)
   | (with_reducible refine LeO.bind ?_ (fun _ => ?_))
   | exact ih0 _ _ _ _ _
   | exact api_Rat.mono _ _ _ _ _
   | exact dur_Bar.mono _ _ _
   | exact dur_Beats.mono _ _ _
   | exact rat_Check.mono _ _ _
   | exact rat_Cmp.mono _ _ _ _ _
   | exact rat_Floor.mono _ _ _
   | exact rat_Mul.mono _ _ _ _ _
   | exact rat_Of.mono _ _ _
   | exact LeO.none _
   | refine LeO.ite ?_ ?_
   | refine LeO.bind ?_ (fun _ => ?_)
set_option maxHeartbeats 8000000 in
set_option maxRecDepth 100000 in
theorem dur_Beat.calls (k : Nat) (a0_0 : Int) (a0_1 : Int) (a1_0 : Int) (a1_1 : Int) (r1 : Int) (r2 : Int) (w : World) (hE : Aside0 (LaidE w)) (h : dur_Beat.f k a0_0 a0_1 a1_0 a1_1 = some (r1, r2)) :
  Calls Tryz.prog 29 #[.agg #[.int .i64 a0_0, .int .i64 a0_1], .agg #[.int .i64 a1_0, .int .i64 a1_1]] w fun e w' => e = .returned (.tuple #[.int .i64 r1, .int .i64 r2]) ∧ Below w.heap.size w w' := by
 have hu45 := Tryz.underlying45
 have hu25 := Tryz.underlying25
 have HB := sd_ (Below.refl w.heap.size w)
 have H : ((dur_Bar.f k a0_0 a0_1).bind fun bt277 => (if bt277.2.2 = 0 then ((rat_Check.f k a1_0 a1_1).bind fun t281 => (if t281 = true then (if a1_0 < 0 then (dur_Beat.j0 k true a0_0 a0_1 a1_0 a1_1) else ((rat_Cmp.f k a1_0 a1_1 bt277.1 bt277.2.1).bind fun t282 => (dur_Beat.j0 k (decide (t282 ≥ 0)) a0_0 a0_1 a1_0 a1_1))) else (dur_Beat.j0 k true a0_0 a0_1 a1_0 a1_1))) else (dur_Beat.j0 k true a0_0 a0_1 a1_0 a1_1))) = some (r1, r2) := h
 clear h
 replace H := ob_ H
 obtain ⟨⟨t277, t278, t279⟩, A30, H⟩ := H
 replace H : (if t279 = 0 then ((rat_Check.f k a1_0 a1_1).bind fun t281 => (if t281 = true then (if a1_0 < 0 then (dur_Beat.j0 k true a0_0 a0_1 a1_0 a1_1) else ((rat_Cmp.f k a1_0 a1_1 t277 t278).bind fun t282 => (dur_Beat.j0 k (decide (t282 ≥ 0)) a0_0 a0_1 a1_0 a1_1))) else (dur_Beat.j0 k true a0_0 a0_1 a1_0 a1_1))) else (dur_Beat.j0 k true a0_0 a0_1 a1_0 a1_1)) = some (r1, r2) := H
 have A3 := sd_ A30
 clear A30
 have HC4 := sd_ H
 clear H
 go_enter Tryz.func29, Tryz.ntmps29
 go_upto_region 2 with (first | ((with_reducible refine gate_dst (N := 2) rfl ?_); refine box_event ?hg (N := 2) ?hd (cs := #[.int .i64 a0_0, .int .i64 a0_1]) (t := 45) ?hr ?_; (case hd => rfl); (case hg => rfl); (case hr => first | (go_simp; done) | (go_simp; rfl)); intro gb275 hg w5 hbox hb; have BK275 := sd_ hbox; have GW275 := gw_ HB e0_ hg; have GE275 := GW275; replace HB := hb_ HB e0_ hb; clear hb hbox hg) | ((with_reducible refine gate_dst (N := 3) rfl ?_); refine box_event ?hg (N := 3) ?hd (cs := #[.int .i64 a1_0, .int .i64 a1_1]) (t := 25) ?hr ?_; (case hd => rfl); (case hg => rfl); (case hr => first | (go_simp; done) | (go_simp; rfl)); intro gb276 hg w6 hbox hb; have BK276 := sd_ hbox; have GW276 := gw_ HB (e_ GE275 e0_) hg; have GE276 := GW276; have NB275_276 := nb_ BK275 hg; have NB276_275 := sy_ NB275_276; replace BK275 := kb_ BK275 hb; replace HB := hb_ HB (e_ GE275 e0_) hb; clear hb hbox hg; have hnb7 := NB275_276.out; have hnc7 := NB276_275.out; have hcz8_0 : w6.cell? ⟨gb275, 0, none⟩ = some (.int .i64 a0_0) := (kc_ BK275.out 0).trans rfl; have hcz8_1 : w6.cell? ⟨gb275, 1, none⟩ = some (.int .i64 a0_1) := (kc_ BK275.out 1).trans rfl; have hfz8_0 := kf_ BK275.out 0; have hfz8_1 := kf_ BK275.out 1) | ((with_reducible refine gate_callee (f := 25) rfl ?_); refine goesL_ (some 18) rfl rfl Tryz.func25 (by kernel_rfl) rfl #[.agg #[.int .i64 a0_0, .int .i64 a0_1]] rfl (by (try simp only [lm_, lq_, lx_]); first | done | rfl | (simp only [ld_, lt_]; rfl)) ?_; (with_reducible refine (dur_Bar.calls k a0_0 a0_1 t277 t278 t279 _ ?side1 A3.out).mono ?_); (case side1 => first | (with_reducible exact hE) | exact sd_ (LaidE.below hE.out (bb_ HB.out (e_ GE275 (e_ GE276 e0_))))); rintro e w9 ⟨rfl, hb⟩; refine ⟨_, rfl, ?_⟩; replace BK275 := kb_ BK275 hb; replace BK276 := kb_ BK276 hb; replace HB := hb_ HB (e_ GE275 (e_ GE276 e0_)) hb; (try clear hb); (try clear hb2); (try clear hk); (try clear hi)) | ((with_reducible refine gate_dst (N := 6) rfl ?_); refine box_event ?hg (N := 6) ?hd (cs := #[.int .i64 0, .int .i64 0]) (t := 25) ?hr ?_; (case hd => rfl); (case hg => rfl); (case hr => first | (go_simp; done) | (go_simp; rfl)); intro gb280 hg w10 hbox hb; have BK280 := sd_ hbox; have GW280 := gw_ HB (e_ GE275 (e_ GE276 e0_)) hg; have GE280 := GW280; have NB275_280 := nb_ BK275 hg; have NB280_275 := sy_ NB275_280; have NB276_280 := nb_ BK276 hg; have NB280_276 := sy_ NB276_280; replace BK275 := kb_ BK275 hb; replace BK276 := kb_ BK276 hb; replace HB := hb_ HB (e_ GE275 (e_ GE276 e0_)) hb; clear hb hbox hg; have hnb11 := NB280_275.out; have hnc11 := NB275_280.out; have hnb12 := NB280_276.out; have hnc12 := NB276_280.out; have hcz13_0 : w10.cell? ⟨gb280, 0, none⟩ = some (.int .i64 0) := (kc_ BK280.out 0).trans rfl; have hcz13_1 : w10.cell? ⟨gb280, 1, none⟩ = some (.int .i64 0) := (kc_ BK280.out 1).trans rfl; have hfz13_0 := kf_ BK280.out 0; have hfz13_1 := kf_ BK280.out 1))
 (try simp only [Act.put, ls_, lz_, lc_])
 go_cut [38] (fun v38 wc => ∃ (kq : Nat) (x38_3 : Bool), v38 = .bool x38_3 ∧ Aside0 (dur_Beat.j0 kq x38_3 a0_0 a0_1 a1_0 a1_1 = some (r1, r2)) ∧ Aside0 (kq ≤ k) ∧ Aside0 (wc.heap[gb275]? = some (.cells #[.int .i64 a0_0, .int .i64 a0_1] 45 (0, 0))) ∧ Aside0 (wc.heap[gb276]? = some (.cells #[.int .i64 a1_0, .int .i64 a1_1] 25 (0, 0))) ∧ Aside0 (wc.heap[gb280]? = some (.cells #[.int .i64 t277, .int .i64 t278] 25 (0, 0))) ∧ Aside0 (Below w.heap.size w wc))
 case first =>
  have H := HC4.out
  clear HC4
  by_cases c14 : t279 = 0
  ·rw [if_pos c14] at H
   have c14b0 : (t279 == 0) = true := beq_iff_eq.mpr c14
   have c14b1 : (t279 != 0) = false := bne_eq_false_iff_eq.mpr c14
   clear c14
   (first | rw [c14b0] | (simp only [i64_w, i32_w]; rw [c14b0]) | skip)
   replace H := ob_ H
   obtain ⟨t281, A150, H⟩ := H
   replace H : (if t281 = true then (if a1_0 < 0 then (dur_Beat.j0 k true a0_0 a0_1 a1_0 a1_1) else ((rat_Cmp.f k a1_0 a1_1 t277 t278).bind fun t282 => (dur_Beat.j0 k (decide (t282 ≥ 0)) a0_0 a0_1 a1_0 a1_1))) else (dur_Beat.j0 k true a0_0 a0_1 a1_0 a1_1)) = some (r1, r2) := H
   have A15 := sd_ A150
   clear A150
   by_cases c16 : t281 = true
   ·subst c16
    have H1 : (if a1_0 < 0 then (dur_Beat.j0 k true a0_0 a0_1 a1_0 a1_1) else ((rat_Cmp.f k a1_0 a1_1 t277 t278).bind fun t282 => (dur_Beat.j0 k (decide (t282 ≥ 0)) a0_0 a0_1 a1_0 a1_1))) = some (r1, r2) := by rw [if_pos rfl] at H; exact H
    clear H; have H := H1; clear H1
    by_cases c17 : a1_0 < 0
    ·rw [if_pos c17] at H
     have c17b0 : decide (a1_0 < 0) = true := dt_ c17
     clear c17
     have H' := sd_ H
     clear H
     have hnb18 := NB276_275.out
     have hnc18 := NB275_276.out
     have hnb19 := NB276_280.out
     have hnc19 := NB280_276.out
     have hcz20_0 : w10.cell? ⟨gb276, 0, none⟩ = some (.int .i64 a1_0) := (kc_ BK276.out 0).trans rfl
     have hcz20_1 : w10.cell? ⟨gb276, 1, none⟩ = some (.int .i64 a1_1) := (kc_ BK276.out 1).trans rfl
     have hfz20_0 := kf_ BK276.out 0
     have hfz20_1 := kf_ BK276.out 1
     go_wp2_with (first | (go_at_call 44; (with_reducible refine (rat_Check.calls k a1_0 a1_1 true _ A15.out).mono ?_); rintro e w21 ⟨rfl, hb⟩; replace BK275 := sd_ (blk_below (g := gb275) (o := .cells #[.int .i64 a0_0, .int .i64 a0_1] 45 (0, 0)) (by (with_reducible repeat first | apply kn_ | apply kd_ | apply ka_); refine blk_far ?_ NB275_280.out _; (with_reducible repeat first | apply kn_ | apply kd_ | apply ka_); refine blk_far ?_ NB275_280.out _; (with_reducible repeat first | apply kn_ | apply kd_ | apply ka_); exact BK275.out) hb); replace BK276 := sd_ (blk_below (g := gb276) (o := .cells #[.int .i64 a1_0, .int .i64 a1_1] 25 (0, 0)) (by (with_reducible repeat first | apply kn_ | apply kd_ | apply ka_); refine blk_far ?_ NB276_280.out _; (with_reducible repeat first | apply kn_ | apply kd_ | apply ka_); refine blk_far ?_ NB276_280.out _; (with_reducible repeat first | apply kn_ | apply kd_ | apply ka_); exact BK276.out) hb); replace BK280 := sd_ (blk_below (g := gb280) (o := .cells #[.int .i64 t277, .int .i64 t278] 25 (0, 0)) (by (with_reducible repeat first | apply kn_ | apply kd_ | apply ka_); refine blk_put (cs := #[.int .i64 t277, .int .i64 0]) ?_ 1 _ rfl; (with_reducible repeat first | apply kn_ | apply kd_ | apply ka_); refine blk_put (cs := #[.int .i64 0, .int .i64 0]) ?_ 0 _ rfl; (with_reducible repeat first | apply kn_ | apply kd_ | apply ka_); exact BK280.out) hb); replace HB := hb_ HB (e_ GE275 (e_ GE276 (e_ GE280 e0_))) hb; (try clear hb); (try clear hb2); (try clear hk); (try clear hi); have hcz22_0 : w21.cell? ⟨gb276, 0, none⟩ = some (.int .i64 a1_0) := (kc_ BK276.out 0).trans rfl; have hcz22_1 : w21.cell? ⟨gb276, 1, none⟩ = some (.int .i64 a1_1) := (kc_ BK276.out 1).trans rfl; have hfz22_0 := kf_ BK276.out 0; have hfz22_1 := kf_ BK276.out 1))
     go_meet
     case rel => exact ⟨_, (true), (by first | rfl | (simp; done) | (simp [*]; done) | (simp [bne]; done)), H', ⟨by first | omega | exact Nat.le_refl _⟩, ⟨by (with_reducible repeat first | apply kn_ | apply kd_ | apply ka_); exact BK275.out⟩, ⟨by (with_reducible repeat first | apply kn_ | apply kd_ | apply ka_); exact BK276.out⟩, ⟨by (with_reducible repeat first | apply kn_ | apply kd_ | apply ka_); exact BK280.out⟩, ⟨by repeat (first | (with_reducible first | exact HB.out | apply ba_ | apply pd_ | apply d1_ | refine bs_ ?_ GE275.out | refine bs_ ?_ GE276.out | refine bs_ ?_ GE280.out) | exact HB.out)⟩⟩
    ·rw [if_neg c17] at H
     have c17b0 : decide (a1_0 < 0) = false := df_ c17
     clear c17
     replace H := ob_ H
     obtain ⟨t282, A230, H⟩ := H
     replace H : (dur_Beat.j0 k (decide (t282 ≥ 0)) a0_0 a0_1 a1_0 a1_1) = some (r1, r2) := H
     have A23 := sd_ A230
     clear A230
     have H' := sd_ H
     clear H
     have hnb24 := NB276_275.out
     have hnc24 := NB275_276.out
     have hnb25 := NB276_280.out
     have hnc25 := NB280_276.out
     have hcz26_0 : w10.cell? ⟨gb276, 0, none⟩ = some (.int .i64 a1_0) := (kc_ BK276.out 0).trans rfl
     have hcz26_1 : w10.cell? ⟨gb276, 1, none⟩ = some (.int .i64 a1_1) := (kc_ BK276.out 1).trans rfl
     have hfz26_0 := kf_ BK276.out 0
     have hfz26_1 := kf_ BK276.out 1
     go_wp2_with (first | (go_at_call 44; (with_reducible refine (rat_Check.calls k a1_0 a1_1 true _ A15.out).mono ?_); rintro e w27 ⟨rfl, hb⟩; replace BK275 := sd_ (blk_below (g := gb275) (o := .cells #[.int .i64 a0_0, .int .i64 a0_1] 45 (0, 0)) (by (with_reducible repeat first | apply kn_ | apply kd_ | apply ka_); refine blk_far ?_ NB275_280.out _; (with_reducible repeat first | apply kn_ | apply kd_ | apply ka_); refine blk_far ?_ NB275_280.out _; (with_reducible repeat first | apply kn_ | apply kd_ | apply ka_); exact BK275.out) hb); replace BK276 := sd_ (blk_below (g := gb276) (o := .cells #[.int .i64 a1_0, .int .i64 a1_1] 25 (0, 0)) (by (with_reducible repeat first | apply kn_ | apply kd_ | apply ka_); refine blk_far ?_ NB276_280.out _; (with_reducible repeat first | apply kn_ | apply kd_ | apply ka_); refine blk_far ?_ NB276_280.out _; (with_reducible repeat first | apply kn_ | apply kd_ | apply ka_); exact BK276.out) hb); replace BK280 := sd_ (blk_below (g := gb280) (o := .cells #[.int .i64 t277, .int .i64 t278] 25 (0, 0)) (by (with_reducible repeat first | apply kn_ | apply kd_ | apply ka_); refine blk_put (cs := #[.int .i64 t277, .int .i64 0]) ?_ 1 _ rfl; (with_reducible repeat first | apply kn_ | apply kd_ | apply ka_); refine blk_put (cs := #[.int .i64 0, .int .i64 0]) ?_ 0 _ rfl; (with_reducible repeat first | apply kn_ | apply kd_ | apply ka_); exact BK280.out) hb); replace HB := hb_ HB (e_ GE275 (e_ GE276 (e_ GE280 e0_))) hb; (try clear hb); (try clear hb2); (try clear hk); (try clear hi); have hcz28_0 : w27.cell? ⟨gb276, 0, none⟩ = some (.int .i64 a1_0) := (kc_ BK276.out 0).trans rfl; have hcz28_1 : w27.cell? ⟨gb276, 1, none⟩ = some (.int .i64 a1_1) := (kc_ BK276.out 1).trans rfl; have hfz28_0 := kf_ BK276.out 0; have hfz28_1 := kf_ BK276.out 1; have hnb29 := NB280_275.out; have hnc29 := NB275_280.out; have hcz30_0 : w27.cell? ⟨gb280, 0, none⟩ = some (.int .i64 t277) := (kc_ BK280.out 0).trans rfl; have hcz30_1 : w27.cell? ⟨gb280, 1, none⟩ = some (.int .i64 t278) := (kc_ BK280.out 1).trans rfl; have hfz30_0 := kf_ BK280.out 0; have hfz30_1 := kf_ BK280.out 1) | (go_at_call 52; (with_reducible refine (rat_Cmp.calls k a1_0 a1_1 t277 t278 t282 _ A23.out).mono ?_); rintro e w31 ⟨rfl, hb⟩; replace BK275 := kb_ BK275 hb; replace BK276 := kb_ BK276 hb; replace BK280 := kb_ BK280 hb; replace HB := hb_ HB (e_ GE275 (e_ GE276 (e_ GE280 e0_))) hb; (try clear hb); (try clear hb2); (try clear hk); (try clear hi)))
     go_meet
     case rel => exact ⟨_, (decide (t282 ≥ 0)), (by first | rfl | (simp; done) | (simp [*]; done) | (simp [bne]; done)), H', ⟨by first | omega | exact Nat.le_refl _⟩, ⟨by (with_reducible repeat first | apply kn_ | apply kd_ | apply ka_); exact BK275.out⟩, ⟨by (with_reducible repeat first | apply kn_ | apply kd_ | apply ka_); exact BK276.out⟩, ⟨by (with_reducible repeat first | apply kn_ | apply kd_ | apply ka_); exact BK280.out⟩, ⟨by repeat (first | (with_reducible first | exact HB.out | apply ba_ | apply pd_ | apply d1_ | refine bs_ ?_ GE275.out | refine bs_ ?_ GE276.out | refine bs_ ?_ GE280.out) | exact HB.out)⟩⟩
   ·replace c16 := bf_ c16
    subst c16
    have H1 : (dur_Beat.j0 k true a0_0 a0_1 a1_0 a1_1) = some (r1, r2) := by rw [if_neg (show ¬ (false = true) by decide)] at H; exact H
    clear H; have H := H1; clear H1
    have H' := sd_ H
    clear H
    have hnb32 := NB276_275.out
    have hnc32 := NB275_276.out
    have hnb33 := NB276_280.out
    have hnc33 := NB280_276.out
    have hcz34_0 : w10.cell? ⟨gb276, 0, none⟩ = some (.int .i64 a1_0) := (kc_ BK276.out 0).trans rfl
    have hcz34_1 : w10.cell? ⟨gb276, 1, none⟩ = some (.int .i64 a1_1) := (kc_ BK276.out 1).trans rfl
    have hfz34_0 := kf_ BK276.out 0
    have hfz34_1 := kf_ BK276.out 1
    go_wp2_with (first | (go_at_call 44; (with_reducible refine (rat_Check.calls k a1_0 a1_1 false _ A15.out).mono ?_); rintro e w35 ⟨rfl, hb⟩; replace BK275 := sd_ (blk_below (g := gb275) (o := .cells #[.int .i64 a0_0, .int .i64 a0_1] 45 (0, 0)) (by (with_reducible repeat first | apply kn_ | apply kd_ | apply ka_); refine blk_far ?_ NB275_280.out _; (with_reducible repeat first | apply kn_ | apply kd_ | apply ka_); refine blk_far ?_ NB275_280.out _; (with_reducible repeat first | apply kn_ | apply kd_ | apply ka_); exact BK275.out) hb); replace BK276 := sd_ (blk_below (g := gb276) (o := .cells #[.int .i64 a1_0, .int .i64 a1_1] 25 (0, 0)) (by (with_reducible repeat first | apply kn_ | apply kd_ | apply ka_); refine blk_far ?_ NB276_280.out _; (with_reducible repeat first | apply kn_ | apply kd_ | apply ka_); refine blk_far ?_ NB276_280.out _; (with_reducible repeat first | apply kn_ | apply kd_ | apply ka_); exact BK276.out) hb); replace BK280 := sd_ (blk_below (g := gb280) (o := .cells #[.int .i64 t277, .int .i64 t278] 25 (0, 0)) (by (with_reducible repeat first | apply kn_ | apply kd_ | apply ka_); refine blk_put (cs := #[.int .i64 t277, .int .i64 0]) ?_ 1 _ rfl; (with_reducible repeat first | apply kn_ | apply kd_ | apply ka_); refine blk_put (cs := #[.int .i64 0, .int .i64 0]) ?_ 0 _ rfl; (with_reducible repeat first | apply kn_ | apply kd_ | apply ka_); exact BK280.out) hb); replace HB := hb_ HB (e_ GE275 (e_ GE276 (e_ GE280 e0_))) hb; (try clear hb); (try clear hb2); (try clear hk); (try clear hi)))
    go_meet
    case rel => exact ⟨_, (true), (by first | rfl | (simp; done) | (simp [*]; done) | (simp [bne]; done)), H', ⟨by first | omega | exact Nat.le_refl _⟩, ⟨by (with_reducible repeat first | apply kn_ | apply kd_ | apply ka_); exact BK275.out⟩, ⟨by (with_reducible repeat first | apply kn_ | apply kd_ | apply ka_); exact BK276.out⟩, ⟨by (with_reducible repeat first | apply kn_ | apply kd_ | apply ka_); exact BK280.out⟩, ⟨by repeat (first | (with_reducible first | exact HB.out | apply ba_ | apply pd_ | apply d1_ | refine bs_ ?_ GE275.out | refine bs_ ?_ GE276.out | refine bs_ ?_ GE280.out) | exact HB.out)⟩⟩
  ·rw [if_neg c14] at H
   have c14b0 : (t279 == 0) = false := beq_eq_false_iff_ne.mpr c14
   have c14b1 : (t279 != 0) = true := bne_iff_ne.mpr c14
   (first | rw [c14b0] | (simp only [i64_w, i32_w]; rw [c14b0]) | skip)
   have H' := sd_ H
   clear H
   go_wp2
   go_meet
   case rel => exact ⟨_, (true), (by first | rfl | (simp; done) | (simp [*]; done) | (simp [bne]; done)), H', ⟨by first | omega | exact Nat.le_refl _⟩, ⟨by (with_reducible repeat first | apply kn_ | apply kd_ | apply ka_); refine blk_far ?_ NB275_280.out _; (with_reducible repeat first | apply kn_ | apply kd_ | apply ka_); refine blk_far ?_ NB275_280.out _; (with_reducible repeat first | apply kn_ | apply kd_ | apply ka_); exact BK275.out⟩, ⟨by (with_reducible repeat first | apply kn_ | apply kd_ | apply ka_); refine blk_far ?_ NB276_280.out _; (with_reducible repeat first | apply kn_ | apply kd_ | apply ka_); refine blk_far ?_ NB276_280.out _; (with_reducible repeat first | apply kn_ | apply kd_ | apply ka_); exact BK276.out⟩, ⟨by (with_reducible repeat first | apply kn_ | apply kd_ | apply ka_); refine blk_put (cs := #[.int .i64 t277, .int .i64 0]) ?_ 1 _ rfl; (with_reducible repeat first | apply kn_ | apply kd_ | apply ka_); refine blk_put (cs := #[.int .i64 0, .int .i64 0]) ?_ 0 _ rfl; (with_reducible repeat first | apply kn_ | apply kd_ | apply ka_); exact BK280.out⟩, ⟨by repeat (first | (with_reducible first | exact HB.out | apply ba_ | apply pd_ | apply d1_ | refine bs_ ?_ GE275.out | refine bs_ ?_ GE276.out | refine bs_ ?_ GE280.out) | exact HB.out)⟩⟩
 case rest =>
  clear HC4
  try clear c1; try clear c2; try clear p2; try clear c3; try clear c7; try clear c11; try clear c12; try clear c14; try clear c14b0; try clear c14b1; try clear c16; try clear c17; try clear c17b0; try clear c18; try clear c19; try clear c24; try clear c25; try clear c29; try clear c32; try clear c33; try clear hcz13_0; try clear hcz13_1; try clear hcz20_0; try clear hcz20_1; try clear hcz22_0; try clear hcz22_1; try clear hcz26_0; try clear hcz26_1; try clear hcz28_0; try clear hcz28_1; try clear hcz30_0; try clear hcz30_1; try clear hcz34_0; try clear hcz34_1; try clear hcz8_0; try clear hcz8_1; try clear hfz13_0; try clear hfz13_1; try clear hfz20_0; try clear hfz20_1; try clear hfz22_0; try clear hfz22_1; try clear hfz26_0; try clear hfz26_1; try clear hfz28_0; try clear hfz28_1; try clear hfz30_0; try clear hfz30_1; try clear hfz34_0; try clear hfz34_1; try clear hfz8_0; try clear hfz8_1
  obtain ⟨kq, x38_3, rfl, HA, HJ3, BK275, BK276, BK280, HB⟩ := hcut
  cases kq with
  | zero => exact absurd HA.out (by simp [dur_Beat.j0])
  | succ kj3 =>
   have H := HA.out
   clear HA
   simp only [dur_Beat.j0] at H
   by_cases c36 : x38_3 = true
   ·subst c36
    have H1 : (some (0, 2)) = some (r1, r2) := by rw [if_pos rfl] at H; exact H
    clear H; have H := H1; clear H1
    simp only [Option.some.injEq, Prod.mk.injEq] at H
    obtain ⟨rfl, rfl⟩ := H
    go_wp2
    go_ret2
    exact ⟨by first | rfl | (simp [errW_none, errW_some] <;> rfl) | (simp [*, errW_none, errW_some] <;> rfl), by repeat (first | (with_reducible first | exact HB.out | apply ba_ | apply pd_ | apply d1_ | refine bs_ ?_ GE275.out | refine bs_ ?_ GE276.out | refine bs_ ?_ GE280.out) | exact HB.out)⟩
   ·replace c36 := bf_ c36
    subst c36
    have H1 : ((rat_Of.f kj3 a0_1 1).bind fun bt283 => ((rat_Mul.f kj3 a1_0 a1_1 bt283.1 bt283.2.1).bind fun bt287 => (if bt287.2.2 = 0 then ((rat_Floor.f kj3 bt287.1 bt287.2.1).bind fun t291 => ((dur_step.f a0_0 a0_1).bind fun t292 => (if t292 = 0 then (none) else (some (wrap64 (Int.tdiv t291 t292), 0))))) else ((dur_Beats.f kj3 a0_0 a0_1).bind fun bt293 => ((api_Rat.f kj3 bt293.1 a1_0 a1_1 ()).bind fun bt297 => (if bt297.2 = true then (some (bt297.1, 0)) else (some (wrap64 (bt297.1 - 1), 0)))))))) = some (r1, r2) := by rw [if_neg (show ¬ (false = true) by decide)] at H; exact H
    clear H; have H := H1; clear H1
    replace H := ob_ H
    obtain ⟨⟨t283, t284, t285⟩, A370, H⟩ := H
    replace H : ((rat_Mul.f kj3 a1_0 a1_1 t283 t284).bind fun bt287 => (if bt287.2.2 = 0 then ((rat_Floor.f kj3 bt287.1 bt287.2.1).bind fun t291 => ((dur_step.f a0_0 a0_1).bind fun t292 => (if t292 = 0 then (none) else (some (wrap64 (Int.tdiv t291 t292), 0))))) else ((dur_Beats.f kj3 a0_0 a0_1).bind fun bt293 => ((api_Rat.f kj3 bt293.1 a1_0 a1_1 ()).bind fun bt297 => (if bt297.2 = true then (some (bt297.1, 0)) else (some (wrap64 (bt297.1 - 1), 0))))))) = some (r1, r2) := H
    have A37 := sd_ A370
    clear A370
    replace H := ob_ H
    obtain ⟨⟨t287, t288, t289⟩, A380, H⟩ := H
    replace H : (if t289 = 0 then ((rat_Floor.f kj3 t287 t288).bind fun t291 => ((dur_step.f a0_0 a0_1).bind fun t292 => (if t292 = 0 then (none) else (some (wrap64 (Int.tdiv t291 t292), 0))))) else ((dur_Beats.f kj3 a0_0 a0_1).bind fun bt293 => ((api_Rat.f kj3 bt293.1 a1_0 a1_1 ()).bind fun bt297 => (if bt297.2 = true then (some (bt297.1, 0)) else (some (wrap64 (bt297.1 - 1), 0)))))) = some (r1, r2) := H
    have A38 := sd_ A380
    clear A380
    by_cases c39 : t289 = 0
    ·rw [if_pos c39] at H
     have c39b0 : (t289 == 0) = true := beq_iff_eq.mpr c39
     have c39b1 : (t289 != 0) = false := bne_eq_false_iff_eq.mpr c39
     clear c39
     replace H := ob_ H
     obtain ⟨t291, A400, H⟩ := H
     replace H : ((dur_step.f a0_0 a0_1).bind fun t292 => (if t292 = 0 then (none) else (some (wrap64 (Int.tdiv t291 t292), 0)))) = some (r1, r2) := H
     have A40 := sd_ A400
     clear A400
     replace H := ob_ H
     obtain ⟨t292, A410, H⟩ := H
     replace H : (if t292 = 0 then (none) else (some (wrap64 (Int.tdiv t291 t292), 0))) = some (r1, r2) := H
     have A41 := sd_ A410
     clear A410
     by_cases c42 : t292 = 0
     ·rw [if_pos c42] at H
      exact absurd H (by simp)
     ·rw [if_neg c42] at H
      have c42b0 : (t292 == 0) = false := beq_eq_false_iff_ne.mpr c42
      have c42b1 : (t292 != 0) = true := bne_iff_ne.mpr c42
      simp only [Option.some.injEq, Prod.mk.injEq] at H
      obtain ⟨rfl, rfl⟩ := H
      have hnb43 := NB275_276.out
      have hnc43 := NB276_275.out
      have hnb44 := NB275_280.out
      have hnc44 := NB280_275.out
      have hcz45_0 : wc.cell? ⟨gb275, 0, none⟩ = some (.int .i64 a0_0) := (kc_ BK275.out 0).trans rfl
      have hcz45_1 : wc.cell? ⟨gb275, 1, none⟩ = some (.int .i64 a0_1) := (kc_ BK275.out 1).trans rfl
      have hfz45_0 := kf_ BK275.out 0
      have hfz45_1 := kf_ BK275.out 1
      try go_wp2_with (first | ((with_reducible refine gate_callee (f := 36) rfl ?_); refine goesL_ (some 42) rfl rfl Tryz.func36 (by kernel_rfl) rfl #[.int .i64 a0_1, .int .i64 1] rfl (by (try simp only [lm_, lq_, lx_]); first | done | rfl | (simp only [ld_, lt_]; rfl)) ?_; (with_reducible refine (rat_Of.calls kj3 a0_1 1 t283 t284 t285 _ A37.out).mono ?_); rintro e w46 ⟨rfl, hb⟩; refine ⟨_, rfl, ?_⟩; replace BK275 := kb_ BK275 hb; replace BK276 := kb_ BK276 hb; replace BK280 := kb_ BK280 hb; replace HB := hb_ HB (e_ GE275 (e_ GE276 (e_ GE280 e0_))) hb; (try clear hb); (try clear hb2); (try clear hk); (try clear hi)) | ((with_reducible refine gate_dst (N := 8) rfl ?_); refine box_event ?hg (N := 8) ?hd (cs := #[.int .i64 0, .int .i64 0]) (t := 25) ?hr ?_; (case hd => rfl); (case hg => rfl); (case hr => first | (go_simp; done) | (go_simp; rfl)); intro gb286 hg w47 hbox hb; have BK286 := sd_ hbox; have GW286 := gw_ HB (e_ GE275 (e_ GE276 (e_ GE280 e0_))) hg; have GE286 := GW286; have NB275_286 := nb_ BK275 hg; have NB286_275 := sy_ NB275_286; have NB276_286 := nb_ BK276 hg; have NB286_276 := sy_ NB276_286; have NB280_286 := nb_ BK280 hg; have NB286_280 := sy_ NB280_286; replace BK275 := kb_ BK275 hb; replace BK276 := kb_ BK276 hb; replace BK280 := kb_ BK280 hb; replace HB := hb_ HB (e_ GE275 (e_ GE276 (e_ GE280 e0_))) hb; clear hb hbox hg; have hnb48 := NB286_275.out; have hnc48 := NB275_286.out; have hnb49 := NB286_276.out; have hnc49 := NB276_286.out; have hnb50 := NB286_280.out; have hnc50 := NB280_286.out; have hcz51_0 : w47.cell? ⟨gb286, 0, none⟩ = some (.int .i64 0) := (kc_ BK286.out 0).trans rfl; have hcz51_1 : w47.cell? ⟨gb286, 1, none⟩ = some (.int .i64 0) := (kc_ BK286.out 1).trans rfl; have hfz51_0 := kf_ BK286.out 0; have hfz51_1 := kf_ BK286.out 1; have hnb52 := NB276_280.out; have hnc52 := NB280_276.out; have hcz53_0 : w47.cell? ⟨gb276, 0, none⟩ = some (.int .i64 a1_0) := (kc_ BK276.out 0).trans rfl; have hcz53_1 : w47.cell? ⟨gb276, 1, none⟩ = some (.int .i64 a1_1) := (kc_ BK276.out 1).trans rfl; have hfz53_0 := kf_ BK276.out 0; have hfz53_1 := kf_ BK276.out 1) | ((with_reducible refine gate_callee (f := 53) rfl ?_); refine goesL_ (some 48) rfl rfl Tryz.func53 (by kernel_rfl) rfl #[.agg #[.int .i64 a1_0, .int .i64 a1_1], .agg #[.int .i64 t283, .int .i64 t284]] rfl (by (try simp only [lm_, lq_, lx_]); first | done | rfl | (simp only [ld_, lt_]; rfl)) ?_; (with_reducible refine (rat_Mul.calls kj3 a1_0 a1_1 t283 t284 t287 t288 t289 _ A38.out).mono ?_); rintro e w54 ⟨rfl, hb⟩; refine ⟨_, rfl, ?_⟩; replace BK275 := sd_ (blk_below (g := gb275) (o := .cells #[.int .i64 a0_0, .int .i64 a0_1] 45 (0, 0)) (by (with_reducible repeat first | apply kn_ | apply kd_ | apply ka_); refine blk_far ?_ NB275_286.out _; (with_reducible repeat first | apply kn_ | apply kd_ | apply ka_); refine blk_far ?_ NB275_286.out _; (with_reducible repeat first | apply kn_ | apply kd_ | apply ka_); exact BK275.out) hb); replace BK276 := sd_ (blk_below (g := gb276) (o := .cells #[.int .i64 a1_0, .int .i64 a1_1] 25 (0, 0)) (by (with_reducible repeat first | apply kn_ | apply kd_ | apply ka_); refine blk_far ?_ NB276_286.out _; (with_reducible repeat first | apply kn_ | apply kd_ | apply ka_); refine blk_far ?_ NB276_286.out _; (with_reducible repeat first | apply kn_ | apply kd_ | apply ka_); exact BK276.out) hb); replace BK280 := sd_ (blk_below (g := gb280) (o := .cells #[.int .i64 t277, .int .i64 t278] 25 (0, 0)) (by (with_reducible repeat first | apply kn_ | apply kd_ | apply ka_); refine blk_far ?_ NB280_286.out _; (with_reducible repeat first | apply kn_ | apply kd_ | apply ka_); refine blk_far ?_ NB280_286.out _; (with_reducible repeat first | apply kn_ | apply kd_ | apply ka_); exact BK280.out) hb); replace BK286 := sd_ (blk_below (g := gb286) (o := .cells #[.int .i64 t283, .int .i64 t284] 25 (0, 0)) (by (with_reducible repeat first | apply kn_ | apply kd_ | apply ka_); refine blk_put (cs := #[.int .i64 t283, .int .i64 0]) ?_ 1 _ rfl; (with_reducible repeat first | apply kn_ | apply kd_ | apply ka_); refine blk_put (cs := #[.int .i64 0, .int .i64 0]) ?_ 0 _ rfl; (with_reducible repeat first | apply kn_ | apply kd_ | apply ka_); exact BK286.out) hb); replace HB := hb_ HB (e_ GE275 (e_ GE276 (e_ GE280 (e_ GE286 e0_)))) hb; (try clear hb); (try clear hb2); (try clear hk); (try clear hi)) | ((with_reducible refine gate_dst (N := 10) rfl ?_); refine box_event ?hg (N := 10) ?hd (cs := #[.int .i64 0, .int .i64 0]) (t := 25) ?hr ?_; (case hd => rfl); (case hg => rfl); (case hr => first | (go_simp; done) | (go_simp; rfl)); intro gb290 hg w55 hbox hb; have BK290 := sd_ hbox; have GW290 := gw_ HB (e_ GE275 (e_ GE276 (e_ GE280 (e_ GE286 e0_)))) hg; have GE290 := GW290; have NB275_290 := nb_ BK275 hg; have NB290_275 := sy_ NB275_290; have NB276_290 := nb_ BK276 hg; have NB290_276 := sy_ NB276_290; have NB280_290 := nb_ BK280 hg; have NB290_280 := sy_ NB280_290; have NB286_290 := nb_ BK286 hg; have NB290_286 := sy_ NB286_290; replace BK275 := kb_ BK275 hb; replace BK276 := kb_ BK276 hb; replace BK280 := kb_ BK280 hb; replace BK286 := kb_ BK286 hb; replace HB := hb_ HB (e_ GE275 (e_ GE276 (e_ GE280 (e_ GE286 e0_)))) hb; clear hb hbox hg; have hnb56 := NB290_275.out; have hnc56 := NB275_290.out; have hnb57 := NB290_276.out; have hnc57 := NB276_290.out; have hnb58 := NB290_280.out; have hnc58 := NB280_290.out; have hnb59 := NB290_286.out; have hnc59 := NB286_290.out; have hcz60_0 : w55.cell? ⟨gb290, 0, none⟩ = some (.int .i64 0) := (kc_ BK290.out 0).trans rfl; have hcz60_1 : w55.cell? ⟨gb290, 1, none⟩ = some (.int .i64 0) := (kc_ BK290.out 1).trans rfl; have hfz60_0 := kf_ BK290.out 0; have hfz60_1 := kf_ BK290.out 1))
      have n0_ : Aside0 (((w55.setCell ⟨gb290, 0, none⟩ (.int .i64 t287)).setCell ⟨gb290, 1, none⟩ (.int .i64 t288)).heap[gb275]? = some (.cells #[.int .i64 a0_0, .int .i64 a0_1] 45 (0, 0))) := ⟨by (with_reducible repeat first | apply kn_ | apply kd_ | apply ka_); refine blk_far ?_ NB275_290.out _; (with_reducible repeat first | apply kn_ | apply kd_ | apply ka_); refine blk_far ?_ NB275_290.out _; (with_reducible repeat first | apply kn_ | apply kd_ | apply ka_); exact BK275.out⟩
      have n1_ : Aside0 (((w55.setCell ⟨gb290, 0, none⟩ (.int .i64 t287)).setCell ⟨gb290, 1, none⟩ (.int .i64 t288)).heap[gb276]? = some (.cells #[.int .i64 a1_0, .int .i64 a1_1] 25 (0, 0))) := ⟨by (with_reducible repeat first | apply kn_ | apply kd_ | apply ka_); refine blk_far ?_ NB276_290.out _; (with_reducible repeat first | apply kn_ | apply kd_ | apply ka_); refine blk_far ?_ NB276_290.out _; (with_reducible repeat first | apply kn_ | apply kd_ | apply ka_); exact BK276.out⟩
      have n2_ : Aside0 (((w55.setCell ⟨gb290, 0, none⟩ (.int .i64 t287)).setCell ⟨gb290, 1, none⟩ (.int .i64 t288)).heap[gb280]? = some (.cells #[.int .i64 t277, .int .i64 t278] 25 (0, 0))) := ⟨by (with_reducible repeat first | apply kn_ | apply kd_ | apply ka_); refine blk_far ?_ NB280_290.out _; (with_reducible repeat first | apply kn_ | apply kd_ | apply ka_); refine blk_far ?_ NB280_290.out _; (with_reducible repeat first | apply kn_ | apply kd_ | apply ka_); exact BK280.out⟩
      have n3_ : Aside0 (((w55.setCell ⟨gb290, 0, none⟩ (.int .i64 t287)).setCell ⟨gb290, 1, none⟩ (.int .i64 t288)).heap[gb286]? = some (.cells #[.int .i64 t283, .int .i64 t284] 25 (0, 0))) := ⟨by (with_reducible repeat first | apply kn_ | apply kd_ | apply ka_); refine blk_far ?_ NB286_290.out _; (with_reducible repeat first | apply kn_ | apply kd_ | apply ka_); refine blk_far ?_ NB286_290.out _; (with_reducible repeat first | apply kn_ | apply kd_ | apply ka_); exact BK286.out⟩
      have n4_ : Aside0 (((w55.setCell ⟨gb290, 0, none⟩ (.int .i64 t287)).setCell ⟨gb290, 1, none⟩ (.int .i64 t288)).heap[gb290]? = some (.cells #[.int .i64 t287, .int .i64 t288] 25 (0, 0))) := ⟨by (with_reducible repeat first | apply kn_ | apply kd_ | apply ka_); refine blk_put (cs := #[.int .i64 t287, .int .i64 0]) ?_ 1 _ rfl; (with_reducible repeat first | apply kn_ | apply kd_ | apply ka_); refine blk_put (cs := #[.int .i64 0, .int .i64 0]) ?_ 0 _ rfl; (with_reducible repeat first | apply kn_ | apply kd_ | apply ka_); exact BK290.out⟩
      have n5_ : Aside0 (Below w.heap.size w ((w55.setCell ⟨gb290, 0, none⟩ (.int .i64 t287)).setCell ⟨gb290, 1, none⟩ (.int .i64 t288))) := ⟨by repeat (first | (with_reducible first | exact HB.out | apply ba_ | apply pd_ | apply d1_ | refine bs_ ?_ GE275.out | refine bs_ ?_ GE276.out | refine bs_ ?_ GE280.out | refine bs_ ?_ GE286.out | refine bs_ ?_ GE290.out) | exact HB.out)⟩
      (try clear BK275)
      (try clear BK276)
      (try clear BK280)
      (try clear BK286)
      (try clear BK290)
      (try clear HB)
      generalize ((w55.setCell ⟨gb290, 0, none⟩ (.int .i64 t287)).setCell ⟨gb290, 1, none⟩ (.int .i64 t288)) = w61 at n0_ n1_ n2_ n3_ n4_ n5_ ⊢
      have BK275 := n0_
      have BK276 := n1_
      have BK280 := n2_
      have BK286 := n3_
      have BK290 := n4_
      have HB := n5_
      clear n0_ n1_ n2_ n3_ n4_ n5_
      replace BK275 := sd_ (kd_ BK275.out)
      replace BK276 := sd_ (kd_ BK276.out)
      replace BK280 := sd_ (kd_ BK280.out)
      replace BK286 := sd_ (kd_ BK286.out)
      replace BK290 := sd_ (kd_ BK290.out)
      replace HB := sd_ (d1_ HB.out)
      refine start_ (n := 7) (S := fun w' => w'.cell? ⟨gb290, 0, none⟩ = some (.int .i64 t287) ∧ w'.cell? ⟨gb290, 1, none⟩ = some (.int .i64 t288) ∧ w'.cell? ⟨gb275, 0, none⟩ = some (.int .i64 a0_0) ∧ w'.cell? ⟨gb275, 1, none⟩ = some (.int .i64 a0_1)) (ds := []) #[false, false, false, false, false, false, false] (by kernel_rfl) rfl rfl ⟨(kc_ BK290.out 0).trans rfl, (kc_ BK290.out 1).trans rfl, (kc_ BK275.out 0).trans rfl, (kc_ BK275.out 1).trans rfl⟩ (fun hHeld => ?_)
      generalize w61.drew = w62 at BK275 BK276 BK280 BK286 BK290 HB hHeld ⊢
      refine take_ (i := 0) (N := some 69) (v := ?_) (a' := ?_) #[true, false, false, false, false, false, false] rfl rfl (by kernel_rfl) (fun _ _ _ h => h) (Or.inl ⟨by rfl, ?_⟩) hHeld ?_ ?_
      rotate_left
      ·rintro w' ⟨s0, s1, s2, s3⟩
       go_simp
       with_reducible rfl
      rotate_left
      ·simp only [Act.put, ls_, lz_, lc_, i64_w, i32_w]
       rfl
      refine take_ (i := 2) (N := some 71) (v := ?_) (a' := ?_) #[true, false, true, false, false, false, false] rfl rfl (by kernel_rfl) (fun _ _ _ h => h) (Or.inl ⟨by rfl, ?_⟩) hHeld ?_ ?_
      rotate_left
      ·rintro w' ⟨s0, s1, s2, s3⟩
       go_simp
       with_reducible rfl
      rotate_left
      ·simp only [Act.put, ls_, lz_, lc_, i64_w, i32_w]
       rfl
      refine one_ (i := 1) (N := some 70) #[true, true, true, false, false, false, false] rfl rfl (by kernel_rfl) (by decide) (fun K hK => ?_)
      refine goes_ Tryz.func55 (by kernel_rfl) rfl #[.agg #[.int .i64 t287, .int .i64 t288]] (by rfl) rfl rfl (by (try simp only [lm_, lq_, lx_]); first | done | rfl | (simp only [ld_, lt_]; rfl)) ?_
      with_reducible refine (rat_Floor.calls kj3 t287 t288 t291 _ A40.out).mono ?_
      rintro e w63 ⟨rfl, hb⟩
      refine ⟨_, rfl, ?_⟩
      replace BK275 := kb_ BK275 hb
      replace BK276 := kb_ BK276 hb
      replace BK280 := kb_ BK280 hb
      replace BK286 := kb_ BK286 hb
      replace BK290 := kb_ BK290 hb
      replace HB := hb_ HB (e_ GE275 (e_ GE276 (e_ GE280 (e_ GE286 (e_ GE290 e0_))))) hb
      (try clear hb)
      (try clear hb2)
      (try clear hk)
      (try clear hi)
      refine hK.out _ _ ⟨(kc_ BK290.out 0).trans rfl, (kc_ BK290.out 1).trans rfl, (kc_ BK275.out 0).trans rfl, (kc_ BK275.out 1).trans rfl⟩ (fun hHeld => ?_)
      clear hK K
      refine norm_ (a' := ?_) ?_ ?_
      rotate_left
      ·show Act.put _ (some 70) _ = _
       simp only [Act.put, ls_, lz_, lc_, i64_w, i32_w]
       rfl
      refine one_ (i := 3) (N := some 72) #[true, true, true, true, false, false, false] rfl rfl (by kernel_rfl) (by decide) (fun K hK => ?_)
      refine goes_ Tryz.func51 (by kernel_rfl) rfl #[.agg #[.int .i64 a0_0, .int .i64 a0_1]] (by rfl) rfl rfl (by (try simp only [lm_, lq_, lx_]); first | done | rfl | (simp only [ld_, lt_]; rfl)) ?_
      with_reducible refine (dur_step.calls a0_0 a0_1 t292 _ A41.out).mono ?_
      rintro e w64 ⟨rfl, hb⟩
      refine ⟨_, rfl, ?_⟩
      replace BK275 := kb_ BK275 hb
      replace BK276 := kb_ BK276 hb
      replace BK280 := kb_ BK280 hb
      replace BK286 := kb_ BK286 hb
      replace BK290 := kb_ BK290 hb
      replace HB := hb_ HB (e_ GE275 (e_ GE276 (e_ GE280 (e_ GE286 (e_ GE290 e0_))))) hb
      (try clear hb)
      (try clear hb2)
      (try clear hk)
      (try clear hi)
      refine hK.out _ _ ⟨(kc_ BK290.out 0).trans rfl, (kc_ BK290.out 1).trans rfl, (kc_ BK275.out 0).trans rfl, (kc_ BK275.out 1).trans rfl⟩ (fun hHeld => ?_)
      clear hK K
      refine norm_ (a' := ?_) ?_ ?_
      rotate_left
      ·show Act.put _ (some 72) _ = _
       simp only [Act.put, ls_, lz_, lc_, i64_w, i32_w]
       rfl
      refine pure_ (i := 4) (N := some 73) (v := ?_) (a' := ?_) #[true, true, true, true, true, false, false] rfl rfl (by kernel_rfl) (fun _ _ _ h => h) (Or.inl ⟨by rfl, ?_⟩) ?_ ?_
      rotate_left; (intro w'; go_simp; with_reducible rfl); rotate_left; (simp only [Act.put, ls_, lz_, lc_, i64_w, i32_w]; rfl)
      refine pure_ (i := 5) (N := some 4) (v := ?_) (a' := ?_) #[true, true, true, true, true, true, false] rfl rfl (by kernel_rfl) (fun _ _ _ h => h) (Or.inl ⟨by rfl, ?_⟩) ?_ ?_
      rotate_left; (intro w'; go_simp; with_reducible rfl); rotate_left; (simp only [Act.put, ls_, lz_, lc_, i64_w, i32_w]; rfl)
      refine pure_ (i := 6) (N := some 5) (v := ?_) (a' := ?_) #[true, true, true, true, true, true, true] rfl rfl (by kernel_rfl) (fun _ _ _ h => h) (Or.inl ⟨by rfl, ?_⟩) ?_ ?_
      rotate_left; (intro w'; go_simp; with_reducible rfl); rotate_left; (simp only [Act.put, ls_, lz_, lc_, i64_w, i32_w]; rfl)
      refine done_ (by kernel_rfl) ?_
      try go_wp2
      go_ret2
      exact ⟨by first | rfl | (simp [errW_none, errW_some] <;> rfl) | (simp [*, errW_none, errW_some] <;> rfl), by repeat (first | (with_reducible first | exact HB.out | apply ba_ | apply pd_ | apply d1_ | refine bs_ ?_ GE275.out | refine bs_ ?_ GE276.out | refine bs_ ?_ GE280.out | refine bs_ ?_ GE286.out | refine bs_ ?_ GE290.out) | exact HB.out)⟩
    ·rw [if_neg c39] at H
     have c39b0 : (t289 == 0) = false := beq_eq_false_iff_ne.mpr c39
     have c39b1 : (t289 != 0) = true := bne_iff_ne.mpr c39
     replace H := ob_ H
     obtain ⟨⟨t293, t296⟩, A650, H⟩ := H
     replace H : ((api_Rat.f kj3 t293 a1_0 a1_1 ()).bind fun bt297 => (if bt297.2 = true then (some (bt297.1, 0)) else (some (wrap64 (bt297.1 - 1), 0)))) = some (r1, r2) := H
     have A65 := sd_ A650
     clear A650
     replace H := ob_ H
     obtain ⟨⟨t297, t298⟩, A660, H⟩ := H
     replace H : (if t298 = true then (some (t297, 0)) else (some (wrap64 (t297 - 1), 0))) = some (r1, r2) := H
     have A66 := sd_ A660
     clear A660
     by_cases c67 : t298 = true
     ·subst c67
      have H1 : (some (t297, 0)) = some (r1, r2) := by rw [if_pos rfl] at H; exact H
      clear H; have H := H1; clear H1
      simp only [Option.some.injEq, Prod.mk.injEq] at H
      obtain ⟨rfl, rfl⟩ := H
      have hnb68 := NB275_276.out
      have hnc68 := NB276_275.out
      have hnb69 := NB275_280.out
      have hnc69 := NB280_275.out
      have hcz70_0 : wc.cell? ⟨gb275, 0, none⟩ = some (.int .i64 a0_0) := (kc_ BK275.out 0).trans rfl
      have hcz70_1 : wc.cell? ⟨gb275, 1, none⟩ = some (.int .i64 a0_1) := (kc_ BK275.out 1).trans rfl
      have hfz70_0 := kf_ BK275.out 0
      have hfz70_1 := kf_ BK275.out 1
      go_wp2_with (first | ((with_reducible refine gate_callee (f := 36) rfl ?_); refine goesL_ (some 42) rfl rfl Tryz.func36 (by kernel_rfl) rfl #[.int .i64 a0_1, .int .i64 1] rfl (by (try simp only [lm_, lq_, lx_]); first | done | rfl | (simp only [ld_, lt_]; rfl)) ?_; (with_reducible refine (rat_Of.calls kj3 a0_1 1 t283 t284 t285 _ A37.out).mono ?_); rintro e w71 ⟨rfl, hb⟩; refine ⟨_, rfl, ?_⟩; replace BK275 := kb_ BK275 hb; replace BK276 := kb_ BK276 hb; replace BK280 := kb_ BK280 hb; replace HB := hb_ HB (e_ GE275 (e_ GE276 (e_ GE280 e0_))) hb; (try clear hb); (try clear hb2); (try clear hk); (try clear hi)) | ((with_reducible refine gate_dst (N := 8) rfl ?_); refine box_event ?hg (N := 8) ?hd (cs := #[.int .i64 0, .int .i64 0]) (t := 25) ?hr ?_; (case hd => rfl); (case hg => rfl); (case hr => first | (go_simp; done) | (go_simp; rfl)); intro gb286 hg w72 hbox hb; have BK286 := sd_ hbox; have GW286 := gw_ HB (e_ GE275 (e_ GE276 (e_ GE280 e0_))) hg; have GE286 := GW286; have NB275_286 := nb_ BK275 hg; have NB286_275 := sy_ NB275_286; have NB276_286 := nb_ BK276 hg; have NB286_276 := sy_ NB276_286; have NB280_286 := nb_ BK280 hg; have NB286_280 := sy_ NB280_286; replace BK275 := kb_ BK275 hb; replace BK276 := kb_ BK276 hb; replace BK280 := kb_ BK280 hb; replace HB := hb_ HB (e_ GE275 (e_ GE276 (e_ GE280 e0_))) hb; clear hb hbox hg; have hnb73 := NB286_275.out; have hnc73 := NB275_286.out; have hnb74 := NB286_276.out; have hnc74 := NB276_286.out; have hnb75 := NB286_280.out; have hnc75 := NB280_286.out; have hcz76_0 : w72.cell? ⟨gb286, 0, none⟩ = some (.int .i64 0) := (kc_ BK286.out 0).trans rfl; have hcz76_1 : w72.cell? ⟨gb286, 1, none⟩ = some (.int .i64 0) := (kc_ BK286.out 1).trans rfl; have hfz76_0 := kf_ BK286.out 0; have hfz76_1 := kf_ BK286.out 1; have hnb77 := NB276_280.out; have hnc77 := NB280_276.out; have hcz78_0 : w72.cell? ⟨gb276, 0, none⟩ = some (.int .i64 a1_0) := (kc_ BK276.out 0).trans rfl; have hcz78_1 : w72.cell? ⟨gb276, 1, none⟩ = some (.int .i64 a1_1) := (kc_ BK276.out 1).trans rfl; have hfz78_0 := kf_ BK276.out 0; have hfz78_1 := kf_ BK276.out 1) | ((with_reducible refine gate_callee (f := 53) rfl ?_); refine goesL_ (some 48) rfl rfl Tryz.func53 (by kernel_rfl) rfl #[.agg #[.int .i64 a1_0, .int .i64 a1_1], .agg #[.int .i64 t283, .int .i64 t284]] rfl (by (try simp only [lm_, lq_, lx_]); first | done | rfl | (simp only [ld_, lt_]; rfl)) ?_; (with_reducible refine (rat_Mul.calls kj3 a1_0 a1_1 t283 t284 t287 t288 t289 _ A38.out).mono ?_); rintro e w79 ⟨rfl, hb⟩; refine ⟨_, rfl, ?_⟩; replace BK275 := sd_ (blk_below (g := gb275) (o := .cells #[.int .i64 a0_0, .int .i64 a0_1] 45 (0, 0)) (by (with_reducible repeat first | apply kn_ | apply kd_ | apply ka_); refine blk_far ?_ NB275_286.out _; (with_reducible repeat first | apply kn_ | apply kd_ | apply ka_); refine blk_far ?_ NB275_286.out _; (with_reducible repeat first | apply kn_ | apply kd_ | apply ka_); exact BK275.out) hb); replace BK276 := sd_ (blk_below (g := gb276) (o := .cells #[.int .i64 a1_0, .int .i64 a1_1] 25 (0, 0)) (by (with_reducible repeat first | apply kn_ | apply kd_ | apply ka_); refine blk_far ?_ NB276_286.out _; (with_reducible repeat first | apply kn_ | apply kd_ | apply ka_); refine blk_far ?_ NB276_286.out _; (with_reducible repeat first | apply kn_ | apply kd_ | apply ka_); exact BK276.out) hb); replace BK280 := sd_ (blk_below (g := gb280) (o := .cells #[.int .i64 t277, .int .i64 t278] 25 (0, 0)) (by (with_reducible repeat first | apply kn_ | apply kd_ | apply ka_); refine blk_far ?_ NB280_286.out _; (with_reducible repeat first | apply kn_ | apply kd_ | apply ka_); refine blk_far ?_ NB280_286.out _; (with_reducible repeat first | apply kn_ | apply kd_ | apply ka_); exact BK280.out) hb); replace BK286 := sd_ (blk_below (g := gb286) (o := .cells #[.int .i64 t283, .int .i64 t284] 25 (0, 0)) (by (with_reducible repeat first | apply kn_ | apply kd_ | apply ka_); refine blk_put (cs := #[.int .i64 t283, .int .i64 0]) ?_ 1 _ rfl; (with_reducible repeat first | apply kn_ | apply kd_ | apply ka_); refine blk_put (cs := #[.int .i64 0, .int .i64 0]) ?_ 0 _ rfl; (with_reducible repeat first | apply kn_ | apply kd_ | apply ka_); exact BK286.out) hb); replace HB := hb_ HB (e_ GE275 (e_ GE276 (e_ GE280 (e_ GE286 e0_)))) hb; (try clear hb); (try clear hb2); (try clear hk); (try clear hi)) | ((with_reducible refine gate_dst (N := 10) rfl ?_); refine box_event ?hg (N := 10) ?hd (cs := #[.int .i64 0, .int .i64 0]) (t := 25) ?hr ?_; (case hd => rfl); (case hg => rfl); (case hr => first | (go_simp; done) | (go_simp; rfl)); intro gb290 hg w80 hbox hb; have BK290 := sd_ hbox; have GW290 := gw_ HB (e_ GE275 (e_ GE276 (e_ GE280 (e_ GE286 e0_)))) hg; have GE290 := GW290; have NB275_290 := nb_ BK275 hg; have NB290_275 := sy_ NB275_290; have NB276_290 := nb_ BK276 hg; have NB290_276 := sy_ NB276_290; have NB280_290 := nb_ BK280 hg; have NB290_280 := sy_ NB280_290; have NB286_290 := nb_ BK286 hg; have NB290_286 := sy_ NB286_290; replace BK275 := kb_ BK275 hb; replace BK276 := kb_ BK276 hb; replace BK280 := kb_ BK280 hb; replace BK286 := kb_ BK286 hb; replace HB := hb_ HB (e_ GE275 (e_ GE276 (e_ GE280 (e_ GE286 e0_)))) hb; clear hb hbox hg; have hnb81 := NB290_275.out; have hnc81 := NB275_290.out; have hnb82 := NB290_276.out; have hnc82 := NB276_290.out; have hnb83 := NB290_280.out; have hnc83 := NB280_290.out; have hnb84 := NB290_286.out; have hnc84 := NB286_290.out; have hcz85_0 : w80.cell? ⟨gb290, 0, none⟩ = some (.int .i64 0) := (kc_ BK290.out 0).trans rfl; have hcz85_1 : w80.cell? ⟨gb290, 1, none⟩ = some (.int .i64 0) := (kc_ BK290.out 1).trans rfl; have hfz85_0 := kf_ BK290.out 0; have hfz85_1 := kf_ BK290.out 1; have hcz86_0 : w80.cell? ⟨gb275, 0, none⟩ = some (.int .i64 a0_0) := (kc_ BK275.out 0).trans rfl; have hcz86_1 : w80.cell? ⟨gb275, 1, none⟩ = some (.int .i64 a0_1) := (kc_ BK275.out 1).trans rfl; have hfz86_0 := kf_ BK275.out 0; have hfz86_1 := kf_ BK275.out 1) | ((with_reducible refine gate_callee (f := 27) rfl ?_); refine goesL_ (some 55) rfl rfl Tryz.func27 (by kernel_rfl) rfl #[.agg #[.int .i64 a0_0, .int .i64 a0_1]] rfl (by (try simp only [lm_, lq_, lx_]); first | done | rfl | (simp only [ld_, lt_]; rfl)) ?_; (with_reducible refine (dur_Beats.calls kj3 a0_0 a0_1 t293 t296 _ ?side1 A65.out).mono ?_); (case side1 => first | (with_reducible exact hE) | exact sd_ (LaidE.below hE.out (bb_ HB.out (e_ GE275 (e_ GE276 (e_ GE280 (e_ GE286 (e_ GE290 e0_)))))))); rintro e w87 ⟨v294, rfl, ho0, hb⟩; refine ⟨_, rfl, ?_⟩; have HO295 := sd_ (Kd.R_lower (Kd.R_newB (Kd.R_newB (Kd.R_newB (Kd.R_newB ho0 (g := gb276) (o := .cells #[.int .i64 a1_0, .int .i64 a1_1] 25 (0, 0)) (by (with_reducible repeat first | apply kn_ | apply kd_ | apply ka_); refine blk_far ?_ NB276_290.out _; (with_reducible repeat first | apply kn_ | apply kd_ | apply ka_); refine blk_far ?_ NB276_290.out _; (with_reducible repeat first | apply kn_ | apply kd_ | apply ka_); exact BK276.out)) (g := gb280) (o := .cells #[.int .i64 t277, .int .i64 t278] 25 (0, 0)) (by (with_reducible repeat first | apply kn_ | apply kd_ | apply ka_); refine blk_far ?_ NB280_290.out _; (with_reducible repeat first | apply kn_ | apply kd_ | apply ka_); refine blk_far ?_ NB280_290.out _; (with_reducible repeat first | apply kn_ | apply kd_ | apply ka_); exact BK280.out)) (g := gb286) (o := .cells #[.int .i64 t283, .int .i64 t284] 25 (0, 0)) (by (with_reducible repeat first | apply kn_ | apply kd_ | apply ka_); refine blk_far ?_ NB286_290.out _; (with_reducible repeat first | apply kn_ | apply kd_ | apply ka_); refine blk_far ?_ NB286_290.out _; (with_reducible repeat first | apply kn_ | apply kd_ | apply ka_); exact BK286.out)) (g := gb290) (o := .cells #[.int .i64 t287, .int .i64 t288] 25 (0, 0)) (by (with_reducible repeat first | apply kn_ | apply kd_ | apply ka_); refine blk_put (cs := #[.int .i64 t287, .int .i64 0]) ?_ 1 _ rfl; (with_reducible repeat first | apply kn_ | apply kd_ | apply ka_); refine blk_put (cs := #[.int .i64 0, .int .i64 0]) ?_ 0 _ rfl; (with_reducible repeat first | apply kn_ | apply kd_ | apply ka_); exact BK290.out)) (bz_ (bb_ HB.out (e_ GE275 (e_ GE276 (e_ GE280 (e_ GE286 (e_ GE290 e0_)))))))); replace BK275 := sd_ (blk_below (g := gb275) (o := .cells #[.int .i64 a0_0, .int .i64 a0_1] 45 (0, 0)) (by (with_reducible repeat first | apply kn_ | apply kd_ | apply ka_); refine blk_far ?_ NB275_290.out _; (with_reducible repeat first | apply kn_ | apply kd_ | apply ka_); refine blk_far ?_ NB275_290.out _; (with_reducible repeat first | apply kn_ | apply kd_ | apply ka_); exact BK275.out) hb); replace BK276 := sd_ (blk_below (g := gb276) (o := .cells #[.int .i64 a1_0, .int .i64 a1_1] 25 (0, 0)) (by (with_reducible repeat first | apply kn_ | apply kd_ | apply ka_); refine blk_far ?_ NB276_290.out _; (with_reducible repeat first | apply kn_ | apply kd_ | apply ka_); refine blk_far ?_ NB276_290.out _; (with_reducible repeat first | apply kn_ | apply kd_ | apply ka_); exact BK276.out) hb); replace BK280 := sd_ (blk_below (g := gb280) (o := .cells #[.int .i64 t277, .int .i64 t278] 25 (0, 0)) (by (with_reducible repeat first | apply kn_ | apply kd_ | apply ka_); refine blk_far ?_ NB280_290.out _; (with_reducible repeat first | apply kn_ | apply kd_ | apply ka_); refine blk_far ?_ NB280_290.out _; (with_reducible repeat first | apply kn_ | apply kd_ | apply ka_); exact BK280.out) hb); replace BK286 := sd_ (blk_below (g := gb286) (o := .cells #[.int .i64 t283, .int .i64 t284] 25 (0, 0)) (by (with_reducible repeat first | apply kn_ | apply kd_ | apply ka_); refine blk_far ?_ NB286_290.out _; (with_reducible repeat first | apply kn_ | apply kd_ | apply ka_); refine blk_far ?_ NB286_290.out _; (with_reducible repeat first | apply kn_ | apply kd_ | apply ka_); exact BK286.out) hb); replace BK290 := sd_ (blk_below (g := gb290) (o := .cells #[.int .i64 t287, .int .i64 t288] 25 (0, 0)) (by (with_reducible repeat first | apply kn_ | apply kd_ | apply ka_); refine blk_put (cs := #[.int .i64 t287, .int .i64 0]) ?_ 1 _ rfl; (with_reducible repeat first | apply kn_ | apply kd_ | apply ka_); refine blk_put (cs := #[.int .i64 0, .int .i64 0]) ?_ 0 _ rfl; (with_reducible repeat first | apply kn_ | apply kd_ | apply ka_); exact BK290.out) hb); replace HB := hb_ HB (e_ GE275 (e_ GE276 (e_ GE280 (e_ GE286 (e_ GE290 e0_))))) hb; (try clear hb); (try clear hb2); (try clear hk); (try clear hi); (try clear ho0); have hcz88_0 : w87.cell? ⟨gb276, 0, none⟩ = some (.int .i64 a1_0) := (kc_ BK276.out 0).trans rfl; have hcz88_1 : w87.cell? ⟨gb276, 1, none⟩ = some (.int .i64 a1_1) := (kc_ BK276.out 1).trans rfl; have hfz88_0 := kf_ BK276.out 0; have hfz88_1 := kf_ BK276.out 1; obtain ⟨Ao89, co89, eo89⟩ := Kd.R_slice HO295.out; subst eo89) | ((with_reducible refine gate_callee (f := 54) rfl ?_); refine goesL_ (some 61) rfl rfl Tryz.func54 (by kernel_rfl) rfl #[.slice Ao89 t293.length co89, .agg #[.int .i64 a1_0, .int .i64 a1_1], .func (.func 52) #[] #[]] rfl (by (try simp only [lm_, lq_, lx_]); first | done | rfl | (simp only [ld_, lt_]; rfl)) ?_; (with_reducible refine (api_Rat.calls kj3 _ _ t293 a1_0 a1_1 () t297 true _ ?side1 ?side2 A66.out).mono ?_); (case side1 => repeat (first | exact (Kd.R_reads' HO295.out).2.2 | (with_reducible refine Kd.C_alloc ?_ _) | (with_reducible refine Kd.C_drewN ?_ _) | (with_reducible refine Kd.C_drew ?_))); (case side2 => exact (Kd.R_reads' HO295.out).2.1); rintro e w90 ⟨rfl, hb⟩; refine ⟨_, rfl, ?_⟩; replace HO295 := sd_ (Kd.R_below (by (with_reducible repeat (first | apply Kd.R_alloc | apply Kd.R_drewN | apply Kd.R_drew)); exact HO295.out) hb); replace BK275 := kb_ BK275 hb; replace BK276 := kb_ BK276 hb; replace BK280 := kb_ BK280 hb; replace BK286 := kb_ BK286 hb; replace BK290 := kb_ BK290 hb; replace HB := hb_ HB (e_ GE275 (e_ GE276 (e_ GE280 (e_ GE286 (e_ GE290 e0_))))) hb; (try clear hb); (try clear hb2); (try clear hk); (try clear hi)))
      go_ret2
      exact ⟨by first | rfl | (simp [errW_none, errW_some] <;> rfl) | (simp [*, errW_none, errW_some] <;> rfl), by repeat (first | (with_reducible first | exact HB.out | apply ba_ | apply pd_ | apply d1_ | refine bs_ ?_ GE275.out | refine bs_ ?_ GE276.out | refine bs_ ?_ GE280.out | refine bs_ ?_ GE286.out | refine bs_ ?_ GE290.out) | exact HB.out)⟩
     ·replace c67 := bf_ c67
      subst c67
      have H1 : (some (wrap64 (t297 - 1), 0)) = some (r1, r2) := by rw [if_neg (show ¬ (false = true) by decide)] at H; exact H
      clear H; have H := H1; clear H1
      simp only [Option.some.injEq, Prod.mk.injEq] at H
      obtain ⟨rfl, rfl⟩ := H
      have hnb91 := NB275_276.out
      have hnc91 := NB276_275.out
      have hnb92 := NB275_280.out
      have hnc92 := NB280_275.out
      have hcz93_0 : wc.cell? ⟨gb275, 0, none⟩ = some (.int .i64 a0_0) := (kc_ BK275.out 0).trans rfl
      have hcz93_1 : wc.cell? ⟨gb275, 1, none⟩ = some (.int .i64 a0_1) := (kc_ BK275.out 1).trans rfl
      have hfz93_0 := kf_ BK275.out 0
      have hfz93_1 := kf_ BK275.out 1
      go_wp2_with (first | ((with_reducible refine gate_callee (f := 36) rfl ?_); refine goesL_ (some 42) rfl rfl Tryz.func36 (by kernel_rfl) rfl #[.int .i64 a0_1, .int .i64 1] rfl (by (try simp only [lm_, lq_, lx_]); first | done | rfl | (simp only [ld_, lt_]; rfl)) ?_; (with_reducible refine (rat_Of.calls kj3 a0_1 1 t283 t284 t285 _ A37.out).mono ?_); rintro e w94 ⟨rfl, hb⟩; refine ⟨_, rfl, ?_⟩; replace BK275 := kb_ BK275 hb; replace BK276 := kb_ BK276 hb; replace BK280 := kb_ BK280 hb; replace HB := hb_ HB (e_ GE275 (e_ GE276 (e_ GE280 e0_))) hb; (try clear hb); (try clear hb2); (try clear hk); (try clear hi)) | ((with_reducible refine gate_dst (N := 8) rfl ?_); refine box_event ?hg (N := 8) ?hd (cs := #[.int .i64 0, .int .i64 0]) (t := 25) ?hr ?_; (case hd => rfl); (case hg => rfl); (case hr => first | (go_simp; done) | (go_simp; rfl)); intro gb286 hg w95 hbox hb; have BK286 := sd_ hbox; have GW286 := gw_ HB (e_ GE275 (e_ GE276 (e_ GE280 e0_))) hg; have GE286 := GW286; have NB275_286 := nb_ BK275 hg; have NB286_275 := sy_ NB275_286; have NB276_286 := nb_ BK276 hg; have NB286_276 := sy_ NB276_286; have NB280_286 := nb_ BK280 hg; have NB286_280 := sy_ NB280_286; replace BK275 := kb_ BK275 hb; replace BK276 := kb_ BK276 hb; replace BK280 := kb_ BK280 hb; replace HB := hb_ HB (e_ GE275 (e_ GE276 (e_ GE280 e0_))) hb; clear hb hbox hg; have hnb96 := NB286_275.out; have hnc96 := NB275_286.out; have hnb97 := NB286_276.out; have hnc97 := NB276_286.out; have hnb98 := NB286_280.out; have hnc98 := NB280_286.out; have hcz99_0 : w95.cell? ⟨gb286, 0, none⟩ = some (.int .i64 0) := (kc_ BK286.out 0).trans rfl; have hcz99_1 : w95.cell? ⟨gb286, 1, none⟩ = some (.int .i64 0) := (kc_ BK286.out 1).trans rfl; have hfz99_0 := kf_ BK286.out 0; have hfz99_1 := kf_ BK286.out 1; have hnb100 := NB276_280.out; have hnc100 := NB280_276.out; have hcz101_0 : w95.cell? ⟨gb276, 0, none⟩ = some (.int .i64 a1_0) := (kc_ BK276.out 0).trans rfl; have hcz101_1 : w95.cell? ⟨gb276, 1, none⟩ = some (.int .i64 a1_1) := (kc_ BK276.out 1).trans rfl; have hfz101_0 := kf_ BK276.out 0; have hfz101_1 := kf_ BK276.out 1) | ((with_reducible refine gate_callee (f := 53) rfl ?_); refine goesL_ (some 48) rfl rfl Tryz.func53 (by kernel_rfl) rfl #[.agg #[.int .i64 a1_0, .int .i64 a1_1], .agg #[.int .i64 t283, .int .i64 t284]] rfl (by (try simp only [lm_, lq_, lx_]); first | done | rfl | (simp only [ld_, lt_]; rfl)) ?_; (with_reducible refine (rat_Mul.calls kj3 a1_0 a1_1 t283 t284 t287 t288 t289 _ A38.out).mono ?_); rintro e w102 ⟨rfl, hb⟩; refine ⟨_, rfl, ?_⟩; replace BK275 := sd_ (blk_below (g := gb275) (o := .cells #[.int .i64 a0_0, .int .i64 a0_1] 45 (0, 0)) (by (with_reducible repeat first | apply kn_ | apply kd_ | apply ka_); refine blk_far ?_ NB275_286.out _; (with_reducible repeat first | apply kn_ | apply kd_ | apply ka_); refine blk_far ?_ NB275_286.out _; (with_reducible repeat first | apply kn_ | apply kd_ | apply ka_); exact BK275.out) hb); replace BK276 := sd_ (blk_below (g := gb276) (o := .cells #[.int .i64 a1_0, .int .i64 a1_1] 25 (0, 0)) (by (with_reducible repeat first | apply kn_ | apply kd_ | apply ka_); refine blk_far ?_ NB276_286.out _; (with_reducible repeat first | apply kn_ | apply kd_ | apply ka_); refine blk_far ?_ NB276_286.out _; (with_reducible repeat first | apply kn_ | apply kd_ | apply ka_); exact BK276.out) hb); replace BK280 := sd_ (blk_below (g := gb280) (o := .cells #[.int .i64 t277, .int .i64 t278] 25 (0, 0)) (by (with_reducible repeat first | apply kn_ | apply kd_ | apply ka_); refine blk_far ?_ NB280_286.out _; (with_reducible repeat first | apply kn_ | apply kd_ | apply ka_); refine blk_far ?_ NB280_286.out _; (with_reducible repeat first | apply kn_ | apply kd_ | apply ka_); exact BK280.out) hb); replace BK286 := sd_ (blk_below (g := gb286) (o := .cells #[.int .i64 t283, .int .i64 t284] 25 (0, 0)) (by (with_reducible repeat first | apply kn_ | apply kd_ | apply ka_); refine blk_put (cs := #[.int .i64 t283, .int .i64 0]) ?_ 1 _ rfl; (with_reducible repeat first | apply kn_ | apply kd_ | apply ka_); refine blk_put (cs := #[.int .i64 0, .int .i64 0]) ?_ 0 _ rfl; (with_reducible repeat first | apply kn_ | apply kd_ | apply ka_); exact BK286.out) hb); replace HB := hb_ HB (e_ GE275 (e_ GE276 (e_ GE280 (e_ GE286 e0_)))) hb; (try clear hb); (try clear hb2); (try clear hk); (try clear hi)) | ((with_reducible refine gate_dst (N := 10) rfl ?_); refine box_event ?hg (N := 10) ?hd (cs := #[.int .i64 0, .int .i64 0]) (t := 25) ?hr ?_; (case hd => rfl); (case hg => rfl); (case hr => first | (go_simp; done) | (go_simp; rfl)); intro gb290 hg w103 hbox hb; have BK290 := sd_ hbox; have GW290 := gw_ HB (e_ GE275 (e_ GE276 (e_ GE280 (e_ GE286 e0_)))) hg; have GE290 := GW290; have NB275_290 := nb_ BK275 hg; have NB290_275 := sy_ NB275_290; have NB276_290 := nb_ BK276 hg; have NB290_276 := sy_ NB276_290; have NB280_290 := nb_ BK280 hg; have NB290_280 := sy_ NB280_290; have NB286_290 := nb_ BK286 hg; have NB290_286 := sy_ NB286_290; replace BK275 := kb_ BK275 hb; replace BK276 := kb_ BK276 hb; replace BK280 := kb_ BK280 hb; replace BK286 := kb_ BK286 hb; replace HB := hb_ HB (e_ GE275 (e_ GE276 (e_ GE280 (e_ GE286 e0_)))) hb; clear hb hbox hg; have hnb104 := NB290_275.out; have hnc104 := NB275_290.out; have hnb105 := NB290_276.out; have hnc105 := NB276_290.out; have hnb106 := NB290_280.out; have hnc106 := NB280_290.out; have hnb107 := NB290_286.out; have hnc107 := NB286_290.out; have hcz108_0 : w103.cell? ⟨gb290, 0, none⟩ = some (.int .i64 0) := (kc_ BK290.out 0).trans rfl; have hcz108_1 : w103.cell? ⟨gb290, 1, none⟩ = some (.int .i64 0) := (kc_ BK290.out 1).trans rfl; have hfz108_0 := kf_ BK290.out 0; have hfz108_1 := kf_ BK290.out 1; have hcz109_0 : w103.cell? ⟨gb275, 0, none⟩ = some (.int .i64 a0_0) := (kc_ BK275.out 0).trans rfl; have hcz109_1 : w103.cell? ⟨gb275, 1, none⟩ = some (.int .i64 a0_1) := (kc_ BK275.out 1).trans rfl; have hfz109_0 := kf_ BK275.out 0; have hfz109_1 := kf_ BK275.out 1) | ((with_reducible refine gate_callee (f := 27) rfl ?_); refine goesL_ (some 55) rfl rfl Tryz.func27 (by kernel_rfl) rfl #[.agg #[.int .i64 a0_0, .int .i64 a0_1]] rfl (by (try simp only [lm_, lq_, lx_]); first | done | rfl | (simp only [ld_, lt_]; rfl)) ?_; (with_reducible refine (dur_Beats.calls kj3 a0_0 a0_1 t293 t296 _ ?side1 A65.out).mono ?_); (case side1 => first | (with_reducible exact hE) | exact sd_ (LaidE.below hE.out (bb_ HB.out (e_ GE275 (e_ GE276 (e_ GE280 (e_ GE286 (e_ GE290 e0_)))))))); rintro e w110 ⟨v294, rfl, ho0, hb⟩; refine ⟨_, rfl, ?_⟩; have HO295 := sd_ (Kd.R_lower (Kd.R_newB (Kd.R_newB (Kd.R_newB (Kd.R_newB ho0 (g := gb276) (o := .cells #[.int .i64 a1_0, .int .i64 a1_1] 25 (0, 0)) (by (with_reducible repeat first | apply kn_ | apply kd_ | apply ka_); refine blk_far ?_ NB276_290.out _; (with_reducible repeat first | apply kn_ | apply kd_ | apply ka_); refine blk_far ?_ NB276_290.out _; (with_reducible repeat first | apply kn_ | apply kd_ | apply ka_); exact BK276.out)) (g := gb280) (o := .cells #[.int .i64 t277, .int .i64 t278] 25 (0, 0)) (by (with_reducible repeat first | apply kn_ | apply kd_ | apply ka_); refine blk_far ?_ NB280_290.out _; (with_reducible repeat first | apply kn_ | apply kd_ | apply ka_); refine blk_far ?_ NB280_290.out _; (with_reducible repeat first | apply kn_ | apply kd_ | apply ka_); exact BK280.out)) (g := gb286) (o := .cells #[.int .i64 t283, .int .i64 t284] 25 (0, 0)) (by (with_reducible repeat first | apply kn_ | apply kd_ | apply ka_); refine blk_far ?_ NB286_290.out _; (with_reducible repeat first | apply kn_ | apply kd_ | apply ka_); refine blk_far ?_ NB286_290.out _; (with_reducible repeat first | apply kn_ | apply kd_ | apply ka_); exact BK286.out)) (g := gb290) (o := .cells #[.int .i64 t287, .int .i64 t288] 25 (0, 0)) (by (with_reducible repeat first | apply kn_ | apply kd_ | apply ka_); refine blk_put (cs := #[.int .i64 t287, .int .i64 0]) ?_ 1 _ rfl; (with_reducible repeat first | apply kn_ | apply kd_ | apply ka_); refine blk_put (cs := #[.int .i64 0, .int .i64 0]) ?_ 0 _ rfl; (with_reducible repeat first | apply kn_ | apply kd_ | apply ka_); exact BK290.out)) (bz_ (bb_ HB.out (e_ GE275 (e_ GE276 (e_ GE280 (e_ GE286 (e_ GE290 e0_)))))))); replace BK275 := sd_ (blk_below (g := gb275) (o := .cells #[.int .i64 a0_0, .int .i64 a0_1] 45 (0, 0)) (by (with_reducible repeat first | apply kn_ | apply kd_ | apply ka_); refine blk_far ?_ NB275_290.out _; (with_reducible repeat first | apply kn_ | apply kd_ | apply ka_); refine blk_far ?_ NB275_290.out _; (with_reducible repeat first | apply kn_ | apply kd_ | apply ka_); exact BK275.out) hb); replace BK276 := sd_ (blk_below (g := gb276) (o := .cells #[.int .i64 a1_0, .int .i64 a1_1] 25 (0, 0)) (by (with_reducible repeat first | apply kn_ | apply kd_ | apply ka_); refine blk_far ?_ NB276_290.out _; (with_reducible repeat first | apply kn_ | apply kd_ | apply ka_); refine blk_far ?_ NB276_290.out _; (with_reducible repeat first | apply kn_ | apply kd_ | apply ka_); exact BK276.out) hb); replace BK280 := sd_ (blk_below (g := gb280) (o := .cells #[.int .i64 t277, .int .i64 t278] 25 (0, 0)) (by (with_reducible repeat first | apply kn_ | apply kd_ | apply ka_); refine blk_far ?_ NB280_290.out _; (with_reducible repeat first | apply kn_ | apply kd_ | apply ka_); refine blk_far ?_ NB280_290.out _; (with_reducible repeat first | apply kn_ | apply kd_ | apply ka_); exact BK280.out) hb); replace BK286 := sd_ (blk_below (g := gb286) (o := .cells #[.int .i64 t283, .int .i64 t284] 25 (0, 0)) (by (with_reducible repeat first | apply kn_ | apply kd_ | apply ka_); refine blk_far ?_ NB286_290.out _; (with_reducible repeat first | apply kn_ | apply kd_ | apply ka_); refine blk_far ?_ NB286_290.out _; (with_reducible repeat first | apply kn_ | apply kd_ | apply ka_); exact BK286.out) hb); replace BK290 := sd_ (blk_below (g := gb290) (o := .cells #[.int .i64 t287, .int .i64 t288] 25 (0, 0)) (by (with_reducible repeat first | apply kn_ | apply kd_ | apply ka_); refine blk_put (cs := #[.int .i64 t287, .int .i64 0]) ?_ 1 _ rfl; (with_reducible repeat first | apply kn_ | apply kd_ | apply ka_); refine blk_put (cs := #[.int .i64 0, .int .i64 0]) ?_ 0 _ rfl; (with_reducible repeat first | apply kn_ | apply kd_ | apply ka_); exact BK290.out) hb); replace HB := hb_ HB (e_ GE275 (e_ GE276 (e_ GE280 (e_ GE286 (e_ GE290 e0_))))) hb; (try clear hb); (try clear hb2); (try clear hk); (try clear hi); (try clear ho0); have hcz111_0 : w110.cell? ⟨gb276, 0, none⟩ = some (.int .i64 a1_0) := (kc_ BK276.out 0).trans rfl; have hcz111_1 : w110.cell? ⟨gb276, 1, none⟩ = some (.int .i64 a1_1) := (kc_ BK276.out 1).trans rfl; have hfz111_0 := kf_ BK276.out 0; have hfz111_1 := kf_ BK276.out 1; obtain ⟨Ao112, co112, eo112⟩ := Kd.R_slice HO295.out; subst eo112) | ((with_reducible refine gate_callee (f := 54) rfl ?_); refine goesL_ (some 61) rfl rfl Tryz.func54 (by kernel_rfl) rfl #[.slice Ao112 t293.length co112, .agg #[.int .i64 a1_0, .int .i64 a1_1], .func (.func 52) #[] #[]] rfl (by (try simp only [lm_, lq_, lx_]); first | done | rfl | (simp only [ld_, lt_]; rfl)) ?_; (with_reducible refine (api_Rat.calls kj3 _ _ t293 a1_0 a1_1 () t297 false _ ?side1 ?side2 A66.out).mono ?_); (case side1 => repeat (first | exact (Kd.R_reads' HO295.out).2.2 | (with_reducible refine Kd.C_alloc ?_ _) | (with_reducible refine Kd.C_drewN ?_ _) | (with_reducible refine Kd.C_drew ?_))); (case side2 => exact (Kd.R_reads' HO295.out).2.1); rintro e w113 ⟨rfl, hb⟩; refine ⟨_, rfl, ?_⟩; replace HO295 := sd_ (Kd.R_below (by (with_reducible repeat (first | apply Kd.R_alloc | apply Kd.R_drewN | apply Kd.R_drew)); exact HO295.out) hb); replace BK275 := kb_ BK275 hb; replace BK276 := kb_ BK276 hb; replace BK280 := kb_ BK280 hb; replace BK286 := kb_ BK286 hb; replace BK290 := kb_ BK290 hb; replace HB := hb_ HB (e_ GE275 (e_ GE276 (e_ GE280 (e_ GE286 (e_ GE290 e0_))))) hb; (try clear hb); (try clear hb2); (try clear hk); (try clear hi)))
      go_ret2
      exact ⟨by first | rfl | (simp [errW_none, errW_some] <;> rfl) | (simp [*, errW_none, errW_some] <;> rfl), by repeat (first | (with_reducible first | exact HB.out | apply ba_ | apply pd_ | apply d1_ | refine bs_ ?_ GE275.out | refine bs_ ?_ GE276.out | refine bs_ ?_ GE280.out | refine bs_ ?_ GE286.out | refine bs_ ?_ GE290.out) | exact HB.out)⟩

/-! ### neumeref07_Rats: function 31 -/
def neumeref07_Rats.l0 : Nat → List (S25) → List (S25) → Int → Option (Bool)
 | 0, _, _, _ => none
 | k + 1, x0, x1, x5 => if x5 < (x0.length : Int) then (if 0 ≤ x5 then (if x5 < (x1.length : Int) then (if (!(((rd_T25 x0 x5).f0) == ((rd_T25 x1 x5).f0)) || (!(((rd_T25 x0 x5).f1) == ((rd_T25 x1 x5).f1)))) = true then (some false) else (neumeref07_Rats.l0 k x0 x1 (wrap64 (x5 + 1)))) else (none)) else (none)) else (some true)
def neumeref07_Rats.f (k : Nat) (l0 : List (S25)) (l1 : List (S25)) : Option (Bool) := if (l0.length : Int) = (l1.length : Int) then (neumeref07_Rats.l0 k l0 l1 0) else (some false)
theorem neumeref07_Rats.mono_l : ∀ k, (∀ y0 y1 y2, LeO (neumeref07_Rats.l0 k y0 y1 y2) (neumeref07_Rats.l0 (k + 1) y0 y1 y2))
 | 0 => fun _ _ _ r h => by simp [neumeref07_Rats.l0] at h
 | k + 1 => by
  have ih0 := neumeref07_Rats.mono_l k
  ·intro y0 y1 y2
   unfold neumeref07_Rats.l0
   repeat' first
   | (with_reducible exact ih0 _ _ _)
   | (with_reducible exact LeO.refl _)
   | (with_reducible exact LeO.none _)
   | (with_reducible refine LeO.ite ?_ ?_)
   | (with_reducible refine LeO.bind ?_ (fun _ => ?_))
   | exact ih0 _ _ _
   | exact LeO.none _
   | refine LeO.ite ?_ ?_
   | refine LeO.bind ?_ (fun _ => ?_)
theorem neumeref07_Rats.mono : ∀ a0 a1 k, LeO (neumeref07_Rats.f k a0 a1) (neumeref07_Rats.f (k + 1) a0 a1) := by
 intro a0 a1 k
 have ih0 := neumeref07_Rats.mono_l k
 unfold neumeref07_Rats.f
 repeat' first
   | (with_reducible exact ih0 _ _ _)
   | (with_reducible exact LeO.refl _)
   | (with_reducible exact LeO.none _)
   | (with_reducible refine LeO.ite ?_ ?_)
   | (with_reducible refine LeO.bind ?_ (fun _ => ?_))
   | exact ih0 _ _ _
   | exact LeO.none _
   | refine LeO.ite ?_ ?_
   | refine LeO.bind ?_ (fun _ => ?_)
set_option maxHeartbeats 8000000 in
set_option maxRecDepth 100000 in
theorem neumeref07_Rats.calls (k : Nat) (A0 : Option Addr) (c0 : Nat) (l0 : List (S25)) (A1 : Option Addr) (c1 : Nat) (l1 : List (S25)) (r : Bool) (w : World) (hr0 : Kd.C k25 w A0 l0.length l0) (hc0 : l0.length ≤ c0) (hr1 : Kd.C k25 w A1 l1.length l1) (hc1 : l1.length ≤ c1) (h : neumeref07_Rats.f k l0 l1 = some r) :
  Calls Tryz.prog 31 #[.slice A0 l0.length c0, .slice A1 l1.length c1] w fun e w' => e = .returned (.bool r) ∧ Drawn0 w w' := by
 have hu25 := Tryz.underlying25
 have HR0 := sd_ hr0
 have HC0 := sd_ hc0
 clear hr0 hc0
 have HR1 := sd_ hr1
 have HC1 := sd_ hc1
 clear hr1 hc1
 have H : (if (l0.length : Int) = (l1.length : Int) then (neumeref07_Rats.l0 k l0 l1 0) else (some false)) = some r := h
 clear h
 by_cases c3 : (l0.length : Int) = (l1.length : Int)
 ·rw [if_pos c3] at H
  have c3b0 : ((l0.length : Int) == (l1.length : Int)) = true := beq_iff_eq.mpr c3
  have c3b1 : ((l0.length : Int) != (l1.length : Int)) = false := bne_eq_false_iff_eq.mpr c3
  have c3b2 : (l0.length == l1.length) = true := by first | simpa using c3 | (simp at c3 ⊢; omega)
  clear c3
  have H' := sd_ H
  clear H
  go_enter Tryz.func31, Tryz.ntmps31
  go_wp2
  repeat (go_quiet (fail); try go_wp2)
  go_loopg [5] k (fun kq v5 w' => ∃ (x5_1 : Int), v5 = .int .i64 x5_1 ∧ Aside0 (neumeref07_Rats.l0 kq l0 l1 x5_1 = some r) ∧ Aside0 (kq ≤ k) ∧ Drawn0 w w')
  case atStart => exact ⟨(0), (by first | rfl | (simp; done) | (simp [*]; done) | (simp [bne]; done)), H', ⟨Nat.le_refl _⟩, by repeat (first | exact Drawn0.refl _ | apply Drawn0.step)⟩
  case round =>
   clear H'
   try clear c1; try clear p2; try clear c3; try clear c3b0; try clear c3b1; try clear c3b2
   obtain ⟨x5_1, rfl, HA, HK1, ⟨m1, rfl⟩⟩ := hrel
   cases gk with
   | zero => exact absurd HA.out (by simp [neumeref07_Rats.l0])
   | succ k1 =>
    have H := HA.out
    clear HA
    simp only [neumeref07_Rats.l0] at H
    by_cases c4 : x5_1 < (l0.length : Int)
    ·rw [if_pos c4] at H
     have c4b0 : decide (x5_1 < (l0.length : Int)) = true := dt_ c4
     clear c4
     by_cases c5 : 0 ≤ x5_1
     ·rw [if_pos c5] at H
      have c5b0 : decide (0 ≤ x5_1) = true := dt_ c5
      clear c5
      by_cases c6 : x5_1 < (l1.length : Int)
      ·rw [if_pos c6] at H
       have c6b0 : decide (x5_1 < (l1.length : Int)) = true := dt_ c6
       clear c6
       by_cases c7 : (!(((rd_T25 l0 x5_1).f0) == ((rd_T25 l1 x5_1).f0)) || (!(((rd_T25 l0 x5_1).f1) == ((rd_T25 l1 x5_1).f1)))) = true
       ·rw [if_pos c7] at H
        have c7b0 : (!(((rd_T25 l0 x5_1).f0) == ((rd_T25 l1 x5_1).f0)) || (!(((rd_T25 l0 x5_1).f1) == ((rd_T25 l1 x5_1).f1)))) = true := c7
        clear c7
        obtain rfl := Option.some.inj H
        have p299 : 0 ≤ (x5_1 : Int) := od_ (by first | (with_reducible assumption) | assumption)
        have q299 : x5_1 < (l0.length : Int) := od_ (by first | (with_reducible assumption) | assumption)
        obtain ⟨ad299, e299, hx299_0, hx299_1⟩ := at_T25 HR0.out x5_1 p299 q299
        cases e299
        replace p299 := eq_true p299
        replace q299 := eq_true q299
        have p300 : 0 ≤ (x5_1 : Int) := od_ (by first | (with_reducible assumption) | assumption)
        have q300 : x5_1 < (l1.length : Int) := od_ (by first | (with_reducible assumption) | assumption)
        obtain ⟨ad300, e300, hx300_0, hx300_1⟩ := at_T25 HR1.out x5_1 p300 q300
        cases e300
        replace p300 := eq_true p300
        replace q300 := eq_true q300
        go_wp2
        repeat (go_quiet (fail); try go_wp2)
        go_ret
        exact ⟨by first | rfl | (simp; done) | (simp [*]; done), by repeat (first | exact Drawn0.refl _ | apply Drawn0.step)⟩
       ·rw [if_neg c7] at H
        have c7b0 : (!(((rd_T25 l0 x5_1).f0) == ((rd_T25 l1 x5_1).f0)) || (!(((rd_T25 l0 x5_1).f1) == ((rd_T25 l1 x5_1).f1)))) = false := by simpa using c7
        clear c7
        have H' := sd_ H
        clear H
        have p299 : 0 ≤ (x5_1 : Int) := od_ (by first | (with_reducible assumption) | assumption)
        have q299 : x5_1 < (l0.length : Int) := od_ (by first | (with_reducible assumption) | assumption)
        obtain ⟨ad299, e299, hx299_0, hx299_1⟩ := at_T25 HR0.out x5_1 p299 q299
        cases e299
        replace p299 := eq_true p299
        replace q299 := eq_true q299
        have p300 : 0 ≤ (x5_1 : Int) := od_ (by first | (with_reducible assumption) | assumption)
        have q300 : x5_1 < (l1.length : Int) := od_ (by first | (with_reducible assumption) | assumption)
        obtain ⟨ad300, e300, hx300_0, hx300_1⟩ := at_T25 HR1.out x5_1 p300 q300
        cases e300
        replace p300 := eq_true p300
        replace q300 := eq_true q300
        go_wp2
        repeat (go_quiet (fail); try go_wp2)
        go_roundg k1
        case measure => have := HK1.out; omega
        case rel => exact ⟨(wrap64 (x5_1 + 1)), (by first | rfl | (simp; done) | (simp [*]; done) | (simp [bne]; done)), H', ⟨by have := HK1.out; omega⟩, by repeat (first | exact Drawn0.refl _ | apply Drawn0.step)⟩
      ·rw [if_neg c6] at H
       exact absurd H (by simp)
     ·rw [if_neg c5] at H
      exact absurd H (by simp)
    ·rw [if_neg c4] at H
     have c4b0 : decide (x5_1 < (l0.length : Int)) = false := df_ c4
     clear c4
     obtain rfl := Option.some.inj H
     go_wp2
     repeat (go_quiet (fail); try go_wp2)
     go_ret
     exact ⟨by first | rfl | (simp; done) | (simp [*]; done), by repeat (first | exact Drawn0.refl _ | apply Drawn0.step)⟩
 ·rw [if_neg c3] at H
  have c3b0 : ((l0.length : Int) == (l1.length : Int)) = false := beq_eq_false_iff_ne.mpr c3
  have c3b1 : ((l0.length : Int) != (l1.length : Int)) = true := bne_iff_ne.mpr c3
  have c3b2 : (l0.length == l1.length) = false := by first | simpa using c3 | (simp at c3 ⊢; omega)
  obtain rfl := Option.some.inj H
  go_enter Tryz.func31, Tryz.ntmps31
  go_wp2
  repeat (go_quiet (fail); try go_wp2)
  go_ret
  exact ⟨by first | rfl | (simp; done) | (simp [*]; done), by repeat (first | exact Drawn0.refl _ | apply Drawn0.step)⟩

end Go.Proofs.YtdiccfonlojlfaaGreatDoor.P
