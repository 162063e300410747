-- Written by a program of this session (wip/tools/xprint.py, over the kit's print): Lean checks it.
import Derived.Test.YtdiccfonlojlfaaDoorPx0
import Derived.Test.YtdiccfonlojlfaaDoorPx1
import Derived.Test.YtdiccfonlojlfaaDoorPx2
import Derived.Test.YtdiccfonlojlfaaDoorPx3
import Derived.Test.YtdiccfonlojlfaaDoorPx5
import Derived.Test.YtdiccfonlojlfaaDoorPx6
import Derived.Test.YtdiccfonlojlfaaDoorPx7
import Derived.Test.YtdiccfonlojlfaaDoorPx8
namespace Go.Proofs.YtdiccfonlojlfaaDoor.P
open Go.RowKit Go.Proofs.YtdiccfonlojlfaaDoorW.PrintWords Go.Proofs.YtdiccfonlojlfaaDoorW.PrintLast Go.Proofs.YtdiccfonlojlfaaDoorW.PrintMore
attribute [local go_sem] max2_int min2_int max_two min_two max_three min_three max_four min_four   -- for this text's walks alone
set_option linter.unusedVariables false
set_option linter.unusedSimpArgs false

attribute [local go_sem high] eqA23 eqA25
/-! ### dur_Beat: function 19 -/
def dur_Beat.j0 : Nat → Bool → Int → Int → Int → Int → Option (Int × Int)
 | 0, _, _, _, _, _ => none
 | k + 1, x38, x268000, x268001, x269000, x269001 => if x38 = true then (some (0, 2)) else ((rat_Of.f k x268001 1).bind fun bt275 => ((rat_Mul.f k x269000 x269001 bt275.1 bt275.2.1).bind fun bt279 => (if bt279.2.2 = 0 then ((rat_Floor.f k bt279.1 bt279.2.1).bind fun t283 => ((dur_step.f x268000 x268001).bind fun t284 => (if t284 = 0 then (none) else (some (wrap64 (Int.tdiv t283 t284), 0))))) else ((dur_Beats.f k x268000 x268001).bind fun bt285 => ((api_Rat.f k bt285.1 x269000 x269001 ()).bind fun bt289 => (if bt289.2 = true then (some (bt289.1, 0)) else (some (wrap64 (bt289.1 - 1), 0))))))))
def dur_Beat.f (k : Nat) (a0_0 : Int) (a0_1 : Int) (a1_0 : Int) (a1_1 : Int) : Option (Int × Int) := (dur_Bar.f k a0_0 a0_1).bind fun bt269 => (if bt269.2.2 = 0 then ((rat_Check.f k a1_0 a1_1).bind fun t273 => (if t273 = true then (if a1_0 < 0 then (dur_Beat.j0 k true a0_0 a0_1 a1_0 a1_1) else ((rat_Cmp.f k a1_0 a1_1 bt269.1 bt269.2.1).bind fun t274 => (dur_Beat.j0 k (decide (t274 ≥ 0)) a0_0 a0_1 a1_0 a1_1))) else (dur_Beat.j0 k true a0_0 a0_1 a1_0 a1_1))) else (dur_Beat.j0 k true a0_0 a0_1 a1_0 a1_1))
theorem dur_Beat.mono_l : ∀ k, (∀ y0 y1 y2 y3 y4, LeO (dur_Beat.j0 k y0 y1 y2 y3 y4) (dur_Beat.j0 (k + 1) y0 y1 y2 y3 y4))
 | 0 => fun _ _ _ _ _ r h => by simp [dur_Beat.j0] at h
 | k + 1 => by
  have ih0 := dur_Beat.mono_l k
  ·intro y0 y1 y2 y3 y4
   unfold dur_Beat.j0
   repeat' first
   | (with_reducible exact ih0 _ _ _ _ _)
   | (with_reducible exact api_Rat.mono _ _ _ _ _)
   | (with_reducible exact dur_Bar.mono _ _ _)
   | (with_reducible exact dur_Beats.mono _ _ _)
   | (with_reducible exact rat_Check.mono _ _ _)
   | (with_reducible exact rat_Cmp.mono _ _ _ _ _)
   | (with_reducible exact rat_Floor.mono _ _ _)
   | (with_reducible exact rat_Mul.mono _ _ _ _ _)
   | (with_reducible exact rat_Of.mono _ _ _)
   | (with_reducible exact LeO.refl _)
   | (with_reducible exact LeO.none _)
   | (with_reducible refine LeO.ite ?_ ?_)
   | (with_reducible refine LeO.bind ?_ (fun _ => ?_))
   | exact ih0 _ _ _ _ _
   | exact api_Rat.mono _ _ _ _ _
   | exact dur_Bar.mono _ _ _
   | exact dur_Beats.mono _ _ _
   | exact rat_Check.mono _ _ _
   | exact rat_Cmp.mono _ _ _ _ _
   | exact rat_Floor.mono _ _ _
   | exact rat_Mul.mono _ _ _ _ _
   | exact rat_Of.mono _ _ _
   | exact LeO.none _
   | refine LeO.ite ?_ ?_
   | refine LeO.bind ?_ (fun _ => ?_)
theorem dur_Beat.mono : ∀ a0 a1 a2 a3 k, LeO (dur_Beat.f k a0 a1 a2 a3) (dur_Beat.f (k + 1) a0 a1 a2 a3) := by
 intro a0 a1 a2 a3 k
 have ih0 := dur_Beat.mono_l k
 unfold dur_Beat.f
 repeat' first
   | (with_reducible exact ih0 _ _ _ _ _)
   | (with_reducible exact api_Rat.mono _ _ _ _ _)
   | (with_reducible exact dur_Bar.mono _ _ _)
   | (with_reducible exact dur_Beats.mono _ _ _)
   | (with_reducible exact rat_Check.mono _ _ _)
   | (with_reducible exact rat_Cmp.mono _ _ _ _ _)
   | (with_reducible exact rat_Floor.mono _ _ _)
   | (with_reducible exact rat_Mul.mono _ _ _ _ _)
   | (with_reducible exact rat_Of.mono _ _ _)
   | (with_reducible exact LeO.refl _)
   | (with_reducible exact LeO.none _)
   | (with_reducible refine LeO.ite ?_ ?_)
   | (with_reducible refine LeO.bind ?_ (fun _ => ?_))
   | exact ih0 _ _ _ _ _
   | exact api_Rat.mono _ _ _ _ _
   | exact dur_Bar.mono _ _ _
   | exact dur_Beats.mono _ _ _
   | exact rat_Check.mono _ _ _
   | exact rat_Cmp.mono _ _ _ _ _
   | exact rat_Floor.mono _ _ _
   | exact rat_Mul.mono _ _ _ _ _
   | exact rat_Of.mono _ _ _
   | exact LeO.none _
   | refine LeO.ite ?_ ?_
   | refine LeO.bind ?_ (fun _ => ?_)
set_option maxHeartbeats 8000000 in
set_option maxRecDepth 100000 in
theorem dur_Beat.calls (k : Nat) (a0_0 : Int) (a0_1 : Int) (a1_0 : Int) (a1_1 : Int) (r1 : Int) (r2 : Int) (w : World) (h : dur_Beat.f k a0_0 a0_1 a1_0 a1_1 = some (r1, r2)) :
  Calls Tryd.prog 19 #[.agg #[.int .i64 a0_0,.int .i64 a0_1],.agg #[.int .i64 a1_0,.int .i64 a1_1]] w fun e w' => e = .returned (.tuple #[.int .i64 r1,.int .i64 r2]) ∧ Below w.heap.size w w' := by
 have hu42 := Tryd.underlying42
 have hu25 := Tryd.underlying25
 have HB := sd_ (Below.refl w.heap.size w)
 have H : ((dur_Bar.f k a0_0 a0_1).bind fun bt269 => (if bt269.2.2 = 0 then ((rat_Check.f k a1_0 a1_1).bind fun t273 => (if t273 = true then (if a1_0 < 0 then (dur_Beat.j0 k true a0_0 a0_1 a1_0 a1_1) else ((rat_Cmp.f k a1_0 a1_1 bt269.1 bt269.2.1).bind fun t274 => (dur_Beat.j0 k (decide (t274 ≥ 0)) a0_0 a0_1 a1_0 a1_1))) else (dur_Beat.j0 k true a0_0 a0_1 a1_0 a1_1))) else (dur_Beat.j0 k true a0_0 a0_1 a1_0 a1_1))) = some (r1,r2) := h
 clear h
 replace H := ob_ H
 obtain ⟨⟨t269,t270,t271⟩,A30,H⟩ := H
 try dsimp only at H
 have A3 := sd_ A30
 clear A30
 have HC4 := sd_ H
 clear H
 go_enter Tryd.func19,Tryd.ntmps19
 go_upto_region 2 with (first|((with_reducible refine gate_dst (N := 2) rfl ?_);refine box_event ?hg (N := 2) ?hd (cs := #[.int .i64 a0_0,.int .i64 a0_1]) (t := 42) ?hr ?_;(case hd => rfl);(case hg => rfl);(case hr => first|(go_simp;done)|(go_simp;rfl));intro gb267 hg w5 hbox hb;have BK267 := sd_ hbox;have GW267 := gw_ HB e0_ hg;have GE267 := GW267;replace HB := hb_ HB e0_ hb;clear hb hbox hg)|((with_reducible refine gate_dst (N := 3) rfl ?_);refine box_event ?hg (N := 3) ?hd (cs := #[.int .i64 a1_0,.int .i64 a1_1]) (t := 25) ?hr ?_;(case hd => rfl);(case hg => rfl);(case hr => first|(go_simp;done)|(go_simp;rfl));intro gb268 hg w6 hbox hb;have BK268 := sd_ hbox;have GW268 := gw_ HB (e_ GE267 e0_) hg;have GE268 := GW268;have NB267_268 := nb_ BK267 hg;have NB268_267 := sy_ NB267_268;replace BK267 := kb_ BK267 hb;replace HB := hb_ HB (e_ GE267 e0_) hb;clear hb hbox hg;have hnb7 := NB267_268.out;have hnc7 := NB268_267.out;have hcz8_0 : w6.cell? ⟨gb267,0,none⟩ = some (.int .i64 a0_0) := (kc_ BK267.out 0).trans rfl;have hcz8_1 : w6.cell? ⟨gb267,1,none⟩ = some (.int .i64 a0_1) := (kc_ BK267.out 1).trans rfl;have hfz8_0 := kf_ BK267.out 0;have hfz8_1 := kf_ BK267.out 1)|((with_reducible refine gate_callee (f := 15) rfl ?_);refine goesL_ (some 18) rfl rfl Tryd.func15 (by kernel_rfl) rfl #[.agg #[.int .i64 a0_0,.int .i64 a0_1]] rfl (by (try simp only [lm_,lq_,lx_]);first|done|rfl|(simp only [ld_,lt_];rfl)) ?_;(with_reducible refine (dur_Bar.calls k a0_0 a0_1 t269 t270 t271 _ A3.out).mono ?_);rintro e w9 ⟨rfl,hb⟩;refine ⟨_,rfl,?_⟩;replace BK267 := kb_ BK267 hb;replace BK268 := kb_ BK268 hb;replace HB := hb_ HB (e_ GE267 (e_ GE268 e0_)) hb;(try clear hb);(try clear hb2);(try clear hk);(try clear hi))|((with_reducible refine gate_dst (N := 6) rfl ?_);refine box_event ?hg (N := 6) ?hd (cs := #[.int .i64 0,.int .i64 0]) (t := 25) ?hr ?_;(case hd => rfl);(case hg => rfl);(case hr => first|(go_simp;done)|(go_simp;rfl));intro gb272 hg w10 hbox hb;have BK272 := sd_ hbox;have GW272 := gw_ HB (e_ GE267 (e_ GE268 e0_)) hg;have GE272 := GW272;have NB267_272 := nb_ BK267 hg;have NB272_267 := sy_ NB267_272;have NB268_272 := nb_ BK268 hg;have NB272_268 := sy_ NB268_272;replace BK267 := kb_ BK267 hb;replace BK268 := kb_ BK268 hb;replace HB := hb_ HB (e_ GE267 (e_ GE268 e0_)) hb;clear hb hbox hg;have hnb11 := NB272_267.out;have hnc11 := NB267_272.out;have hnb12 := NB272_268.out;have hnc12 := NB268_272.out;have hcz13_0 : w10.cell? ⟨gb272,0,none⟩ = some (.int .i64 0) := (kc_ BK272.out 0).trans rfl;have hcz13_1 : w10.cell? ⟨gb272,1,none⟩ = some (.int .i64 0) := (kc_ BK272.out 1).trans rfl;have hfz13_0 := kf_ BK272.out 0;have hfz13_1 := kf_ BK272.out 1))
 (try simp only [Act.put,ls_,lz_,lc_])
 go_cut [38] (fun v38 wc => ∃ (kq : Nat) (x38_3 : Bool),v38 = .bool x38_3 ∧ Aside0 (dur_Beat.j0 kq x38_3 a0_0 a0_1 a1_0 a1_1 = some (r1,r2)) ∧ Aside0 (kq ≤ k) ∧ Aside0 (wc.heap[gb267]? = some (.cells #[.int .i64 a0_0,.int .i64 a0_1] 42 (0,0))) ∧ Aside0 (wc.heap[gb268]? = some (.cells #[.int .i64 a1_0,.int .i64 a1_1] 25 (0,0))) ∧ Aside0 (wc.heap[gb272]? = some (.cells #[.int .i64 t269,.int .i64 t270] 25 (0,0))) ∧ Aside0 (Below w.heap.size w wc))
 case first =>
  have H := HC4.out
  clear HC4
  by_cases c14 : t271 = 0
  ·rw [if_pos c14] at H
   have c14b0 : (t271 == 0) = true := beq_iff_eq.mpr c14
   have c14b1 : (t271 != 0) = false := bne_eq_false_iff_eq.mpr c14
   clear c14
   (first|rw [c14b0]|(simp only [i64_w,i32_w];rw [c14b0])|skip)
   replace H := ob_ H
   obtain ⟨t273,A150,H⟩ := H
   try dsimp only at H
   have A15 := sd_ A150
   clear A150
   by_cases c16 : t273 = true
   ·subst c16
    have H1 : (if a1_0 < 0 then (dur_Beat.j0 k true a0_0 a0_1 a1_0 a1_1) else ((rat_Cmp.f k a1_0 a1_1 t269 t270).bind fun t274 => (dur_Beat.j0 k (decide (t274 ≥ 0)) a0_0 a0_1 a1_0 a1_1))) = some (r1,r2) := by rw [if_pos rfl] at H;exact H
    clear H;have H := H1;clear H1
    by_cases c17 : a1_0 < 0
    ·rw [if_pos c17] at H
     have c17b0 : decide (a1_0 < 0) = true := dt_ c17
     clear c17
     have H' := sd_ H
     clear H
     have hnb18 := NB268_267.out
     have hnc18 := NB267_268.out
     have hnb19 := NB268_272.out
     have hnc19 := NB272_268.out
     have hcz20_0 : w10.cell? ⟨gb268,0,none⟩ = some (.int .i64 a1_0) := (kc_ BK268.out 0).trans rfl
     have hcz20_1 : w10.cell? ⟨gb268,1,none⟩ = some (.int .i64 a1_1) := (kc_ BK268.out 1).trans rfl
     have hfz20_0 := kf_ BK268.out 0
     have hfz20_1 := kf_ BK268.out 1
     go_wp2_with (first|(go_at_call 34;(with_reducible refine (rat_Check.calls k a1_0 a1_1 true _ A15.out).mono ?_);rintro e w21 ⟨rfl,hb⟩;replace BK267 := sd_ (blk_below (g := gb267) (o := .cells #[.int .i64 a0_0,.int .i64 a0_1] 42 (0,0)) (by (with_reducible repeat first|apply kn_|apply kd_|apply ka_);refine blk_far ?_ NB267_272.out _;(with_reducible repeat first|apply kn_|apply kd_|apply ka_);refine blk_far ?_ NB267_272.out _;(with_reducible repeat first|apply kn_|apply kd_|apply ka_);exact BK267.out) hb);replace BK268 := sd_ (blk_below (g := gb268) (o := .cells #[.int .i64 a1_0,.int .i64 a1_1] 25 (0,0)) (by (with_reducible repeat first|apply kn_|apply kd_|apply ka_);refine blk_far ?_ NB268_272.out _;(with_reducible repeat first|apply kn_|apply kd_|apply ka_);refine blk_far ?_ NB268_272.out _;(with_reducible repeat first|apply kn_|apply kd_|apply ka_);exact BK268.out) hb);replace BK272 := sd_ (blk_below (g := gb272) (o := .cells #[.int .i64 t269,.int .i64 t270] 25 (0,0)) (by (with_reducible repeat first|apply kn_|apply kd_|apply ka_);refine blk_put (cs := #[.int .i64 t269,.int .i64 0]) ?_ 1 _ rfl;(with_reducible repeat first|apply kn_|apply kd_|apply ka_);refine blk_put (cs := #[.int .i64 0,.int .i64 0]) ?_ 0 _ rfl;(with_reducible repeat first|apply kn_|apply kd_|apply ka_);exact BK272.out) hb);replace HB := hb_ HB (e_ GE267 (e_ GE268 (e_ GE272 e0_))) hb;(try clear hb);(try clear hb2);(try clear hk);(try clear hi);have hcz22_0 : w21.cell? ⟨gb268,0,none⟩ = some (.int .i64 a1_0) := (kc_ BK268.out 0).trans rfl;have hcz22_1 : w21.cell? ⟨gb268,1,none⟩ = some (.int .i64 a1_1) := (kc_ BK268.out 1).trans rfl;have hfz22_0 := kf_ BK268.out 0;have hfz22_1 := kf_ BK268.out 1))
     go_meet
     case rel => exact ⟨_,(true),(by first|rfl|(simp;done)|(simp [*];done)|(simp [bne];done)),H',⟨by first|omega|exact Nat.le_refl _⟩,⟨by (with_reducible repeat first|apply kn_|apply kd_|apply ka_);exact BK267.out⟩,⟨by (with_reducible repeat first|apply kn_|apply kd_|apply ka_);exact BK268.out⟩,⟨by (with_reducible repeat first|apply kn_|apply kd_|apply ka_);exact BK272.out⟩,⟨by repeat (first|(with_reducible first|exact HB.out|apply ba_|apply pd_|apply d1_|refine bs_ ?_ GE267.out|refine bs_ ?_ GE268.out|refine bs_ ?_ GE272.out)|exact HB.out)⟩⟩
    ·rw [if_neg c17] at H
     have c17b0 : decide (a1_0 < 0) = false := df_ c17
     clear c17
     replace H := ob_ H
     obtain ⟨t274,A230,H⟩ := H
     replace H : (dur_Beat.j0 k (decide (t274 ≥ 0)) a0_0 a0_1 a1_0 a1_1) = some (r1,r2) := H
     have A23 := sd_ A230
     clear A230
     have H' := sd_ H
     clear H
     have hnb24 := NB268_267.out
     have hnc24 := NB267_268.out
     have hnb25 := NB268_272.out
     have hnc25 := NB272_268.out
     have hcz26_0 : w10.cell? ⟨gb268,0,none⟩ = some (.int .i64 a1_0) := (kc_ BK268.out 0).trans rfl
     have hcz26_1 : w10.cell? ⟨gb268,1,none⟩ = some (.int .i64 a1_1) := (kc_ BK268.out 1).trans rfl
     have hfz26_0 := kf_ BK268.out 0
     have hfz26_1 := kf_ BK268.out 1
     go_wp2_with (first|(go_at_call 34;(with_reducible refine (rat_Check.calls k a1_0 a1_1 true _ A15.out).mono ?_);rintro e w27 ⟨rfl,hb⟩;replace BK267 := sd_ (blk_below (g := gb267) (o := .cells #[.int .i64 a0_0,.int .i64 a0_1] 42 (0,0)) (by (with_reducible repeat first|apply kn_|apply kd_|apply ka_);refine blk_far ?_ NB267_272.out _;(with_reducible repeat first|apply kn_|apply kd_|apply ka_);refine blk_far ?_ NB267_272.out _;(with_reducible repeat first|apply kn_|apply kd_|apply ka_);exact BK267.out) hb);replace BK268 := sd_ (blk_below (g := gb268) (o := .cells #[.int .i64 a1_0,.int .i64 a1_1] 25 (0,0)) (by (with_reducible repeat first|apply kn_|apply kd_|apply ka_);refine blk_far ?_ NB268_272.out _;(with_reducible repeat first|apply kn_|apply kd_|apply ka_);refine blk_far ?_ NB268_272.out _;(with_reducible repeat first|apply kn_|apply kd_|apply ka_);exact BK268.out) hb);replace BK272 := sd_ (blk_below (g := gb272) (o := .cells #[.int .i64 t269,.int .i64 t270] 25 (0,0)) (by (with_reducible repeat first|apply kn_|apply kd_|apply ka_);refine blk_put (cs := #[.int .i64 t269,.int .i64 0]) ?_ 1 _ rfl;(with_reducible repeat first|apply kn_|apply kd_|apply ka_);refine blk_put (cs := #[.int .i64 0,.int .i64 0]) ?_ 0 _ rfl;(with_reducible repeat first|apply kn_|apply kd_|apply ka_);exact BK272.out) hb);replace HB := hb_ HB (e_ GE267 (e_ GE268 (e_ GE272 e0_))) hb;(try clear hb);(try clear hb2);(try clear hk);(try clear hi);have hcz28_0 : w27.cell? ⟨gb268,0,none⟩ = some (.int .i64 a1_0) := (kc_ BK268.out 0).trans rfl;have hcz28_1 : w27.cell? ⟨gb268,1,none⟩ = some (.int .i64 a1_1) := (kc_ BK268.out 1).trans rfl;have hfz28_0 := kf_ BK268.out 0;have hfz28_1 := kf_ BK268.out 1;have hnb29 := NB272_267.out;have hnc29 := NB267_272.out;have hcz30_0 : w27.cell? ⟨gb272,0,none⟩ = some (.int .i64 t269) := (kc_ BK272.out 0).trans rfl;have hcz30_1 : w27.cell? ⟨gb272,1,none⟩ = some (.int .i64 t270) := (kc_ BK272.out 1).trans rfl;have hfz30_0 := kf_ BK272.out 0;have hfz30_1 := kf_ BK272.out 1)|(go_at_call 42;(with_reducible refine (rat_Cmp.calls k a1_0 a1_1 t269 t270 t274 _ A23.out).mono ?_);rintro e w31 ⟨rfl,hb⟩;replace BK267 := kb_ BK267 hb;replace BK268 := kb_ BK268 hb;replace BK272 := kb_ BK272 hb;replace HB := hb_ HB (e_ GE267 (e_ GE268 (e_ GE272 e0_))) hb;(try clear hb);(try clear hb2);(try clear hk);(try clear hi)))
     go_meet
     case rel => exact ⟨_,(decide (t274 ≥ 0)),(by first|rfl|(simp;done)|(simp [*];done)|(simp [bne];done)),H',⟨by first|omega|exact Nat.le_refl _⟩,⟨by (with_reducible repeat first|apply kn_|apply kd_|apply ka_);exact BK267.out⟩,⟨by (with_reducible repeat first|apply kn_|apply kd_|apply ka_);exact BK268.out⟩,⟨by (with_reducible repeat first|apply kn_|apply kd_|apply ka_);exact BK272.out⟩,⟨by repeat (first|(with_reducible first|exact HB.out|apply ba_|apply pd_|apply d1_|refine bs_ ?_ GE267.out|refine bs_ ?_ GE268.out|refine bs_ ?_ GE272.out)|exact HB.out)⟩⟩
   ·replace c16 := bf_ c16
    subst c16
    have H1 : (dur_Beat.j0 k true a0_0 a0_1 a1_0 a1_1) = some (r1,r2) := by rw [if_neg (show ¬ (false = true) by decide)] at H;exact H
    clear H;have H := H1;clear H1
    have H' := sd_ H
    clear H
    have hnb32 := NB268_267.out
    have hnc32 := NB267_268.out
    have hnb33 := NB268_272.out
    have hnc33 := NB272_268.out
    have hcz34_0 : w10.cell? ⟨gb268,0,none⟩ = some (.int .i64 a1_0) := (kc_ BK268.out 0).trans rfl
    have hcz34_1 : w10.cell? ⟨gb268,1,none⟩ = some (.int .i64 a1_1) := (kc_ BK268.out 1).trans rfl
    have hfz34_0 := kf_ BK268.out 0
    have hfz34_1 := kf_ BK268.out 1
    go_wp2_with (first|(go_at_call 34;(with_reducible refine (rat_Check.calls k a1_0 a1_1 false _ A15.out).mono ?_);rintro e w35 ⟨rfl,hb⟩;replace BK267 := sd_ (blk_below (g := gb267) (o := .cells #[.int .i64 a0_0,.int .i64 a0_1] 42 (0,0)) (by (with_reducible repeat first|apply kn_|apply kd_|apply ka_);refine blk_far ?_ NB267_272.out _;(with_reducible repeat first|apply kn_|apply kd_|apply ka_);refine blk_far ?_ NB267_272.out _;(with_reducible repeat first|apply kn_|apply kd_|apply ka_);exact BK267.out) hb);replace BK268 := sd_ (blk_below (g := gb268) (o := .cells #[.int .i64 a1_0,.int .i64 a1_1] 25 (0,0)) (by (with_reducible repeat first|apply kn_|apply kd_|apply ka_);refine blk_far ?_ NB268_272.out _;(with_reducible repeat first|apply kn_|apply kd_|apply ka_);refine blk_far ?_ NB268_272.out _;(with_reducible repeat first|apply kn_|apply kd_|apply ka_);exact BK268.out) hb);replace BK272 := sd_ (blk_below (g := gb272) (o := .cells #[.int .i64 t269,.int .i64 t270] 25 (0,0)) (by (with_reducible repeat first|apply kn_|apply kd_|apply ka_);refine blk_put (cs := #[.int .i64 t269,.int .i64 0]) ?_ 1 _ rfl;(with_reducible repeat first|apply kn_|apply kd_|apply ka_);refine blk_put (cs := #[.int .i64 0,.int .i64 0]) ?_ 0 _ rfl;(with_reducible repeat first|apply kn_|apply kd_|apply ka_);exact BK272.out) hb);replace HB := hb_ HB (e_ GE267 (e_ GE268 (e_ GE272 e0_))) hb;(try clear hb);(try clear hb2);(try clear hk);(try clear hi)))
    go_meet
    case rel => exact ⟨_,(true),(by first|rfl|(simp;done)|(simp [*];done)|(simp [bne];done)),H',⟨by first|omega|exact Nat.le_refl _⟩,⟨by (with_reducible repeat first|apply kn_|apply kd_|apply ka_);exact BK267.out⟩,⟨by (with_reducible repeat first|apply kn_|apply kd_|apply ka_);exact BK268.out⟩,⟨by (with_reducible repeat first|apply kn_|apply kd_|apply ka_);exact BK272.out⟩,⟨by repeat (first|(with_reducible first|exact HB.out|apply ba_|apply pd_|apply d1_|refine bs_ ?_ GE267.out|refine bs_ ?_ GE268.out|refine bs_ ?_ GE272.out)|exact HB.out)⟩⟩
  ·rw [if_neg c14] at H
   have c14b0 : (t271 == 0) = false := beq_eq_false_iff_ne.mpr c14
   have c14b1 : (t271 != 0) = true := bne_iff_ne.mpr c14
   (first|rw [c14b0]|(simp only [i64_w,i32_w];rw [c14b0])|skip)
   have H' := sd_ H
   clear H
   go_wp2
   go_meet
   case rel => exact ⟨_,(true),(by first|rfl|(simp;done)|(simp [*];done)|(simp [bne];done)),H',⟨by first|omega|exact Nat.le_refl _⟩,⟨by (with_reducible repeat first|apply kn_|apply kd_|apply ka_);refine blk_far ?_ NB267_272.out _;(with_reducible repeat first|apply kn_|apply kd_|apply ka_);refine blk_far ?_ NB267_272.out _;(with_reducible repeat first|apply kn_|apply kd_|apply ka_);exact BK267.out⟩,⟨by (with_reducible repeat first|apply kn_|apply kd_|apply ka_);refine blk_far ?_ NB268_272.out _;(with_reducible repeat first|apply kn_|apply kd_|apply ka_);refine blk_far ?_ NB268_272.out _;(with_reducible repeat first|apply kn_|apply kd_|apply ka_);exact BK268.out⟩,⟨by (with_reducible repeat first|apply kn_|apply kd_|apply ka_);refine blk_put (cs := #[.int .i64 t269,.int .i64 0]) ?_ 1 _ rfl;(with_reducible repeat first|apply kn_|apply kd_|apply ka_);refine blk_put (cs := #[.int .i64 0,.int .i64 0]) ?_ 0 _ rfl;(with_reducible repeat first|apply kn_|apply kd_|apply ka_);exact BK272.out⟩,⟨by repeat (first|(with_reducible first|exact HB.out|apply ba_|apply pd_|apply d1_|refine bs_ ?_ GE267.out|refine bs_ ?_ GE268.out|refine bs_ ?_ GE272.out)|exact HB.out)⟩⟩
 case rest =>
  clear HC4
  try clear c1;try clear c2;try clear p2;try clear c3;try clear c7;try clear c11;try clear c12;try clear c14;try clear c14b0;try clear c14b1;try clear c15;try clear c16;try clear c17;try clear c17b0;try clear c18;try clear c19;try clear c24;try clear c25;try clear c29;try clear c32;try clear c33;try clear hcz13_0;try clear hcz13_1;try clear hcz20_0;try clear hcz20_1;try clear hcz22_0;try clear hcz22_1;try clear hcz26_0;try clear hcz26_1;try clear hcz28_0;try clear hcz28_1;try clear hcz30_0;try clear hcz30_1;try clear hcz34_0;try clear hcz34_1;try clear hcz8_0;try clear hcz8_1;try clear hfz13_0;try clear hfz13_1;try clear hfz20_0;try clear hfz20_1;try clear hfz22_0;try clear hfz22_1;try clear hfz26_0;try clear hfz26_1;try clear hfz28_0;try clear hfz28_1;try clear hfz30_0;try clear hfz30_1;try clear hfz34_0;try clear hfz34_1;try clear hfz8_0;try clear hfz8_1
  obtain ⟨kq,x38_3,rfl,HA,HJ3,BK267,BK268,BK272,HB⟩ := hcut
  cases kq with
  | zero => exact absurd HA.out (by simp [dur_Beat.j0])
  | succ kj3 =>
   have H := HA.out
   clear HA
   simp only [dur_Beat.j0] at H
   by_cases c36 : x38_3 = true
   ·subst c36
    have H1 : (some (0,2)) = some (r1,r2) := by rw [if_pos rfl] at H;exact H
    clear H;have H := H1;clear H1
    simp only [Option.some.injEq,Prod.mk.injEq] at H
    obtain ⟨rfl,rfl⟩ := H
    go_wp2
    go_ret2
    exact ⟨by first|rfl|(simp [errW_none,errW_some] <;> rfl)|(simp [*,errW_none,errW_some] <;> rfl),by repeat (first|(with_reducible first|exact HB.out|apply ba_|apply pd_|apply d1_|refine bs_ ?_ GE267.out|refine bs_ ?_ GE268.out|refine bs_ ?_ GE272.out)|exact HB.out)⟩
   ·replace c36 := bf_ c36
    subst c36
    have H1 : ((rat_Of.f kj3 a0_1 1).bind fun bt275 => ((rat_Mul.f kj3 a1_0 a1_1 bt275.1 bt275.2.1).bind fun bt279 => (if bt279.2.2 = 0 then ((rat_Floor.f kj3 bt279.1 bt279.2.1).bind fun t283 => ((dur_step.f a0_0 a0_1).bind fun t284 => (if t284 = 0 then (none) else (some (wrap64 (Int.tdiv t283 t284),0))))) else ((dur_Beats.f kj3 a0_0 a0_1).bind fun bt285 => ((api_Rat.f kj3 bt285.1 a1_0 a1_1 ()).bind fun bt289 => (if bt289.2 = true then (some (bt289.1,0)) else (some (wrap64 (bt289.1 - 1),0)))))))) = some (r1,r2) := by rw [if_neg (show ¬ (false = true) by decide)] at H;exact H
    clear H;have H := H1;clear H1
    replace H := ob_ H
    obtain ⟨⟨t275,t276,t277⟩,A370,H⟩ := H
    try dsimp only at H
    have A37 := sd_ A370
    clear A370
    replace H := ob_ H
    obtain ⟨⟨t279,t280,t281⟩,A380,H⟩ := H
    try dsimp only at H
    have A38 := sd_ A380
    clear A380
    by_cases c39 : t281 = 0
    ·rw [if_pos c39] at H
     have c39b0 : (t281 == 0) = true := beq_iff_eq.mpr c39
     have c39b1 : (t281 != 0) = false := bne_eq_false_iff_eq.mpr c39
     clear c39
     replace H := ob_ H
     obtain ⟨t283,A400,H⟩ := H
     replace H : ((dur_step.f a0_0 a0_1).bind fun t284 => (if t284 = 0 then (none) else (some (wrap64 (Int.tdiv t283 t284),0)))) = some (r1,r2) := H
     have A40 := sd_ A400
     clear A400
     replace H := ob_ H
     obtain ⟨t284,A410,H⟩ := H
     replace H : (if t284 = 0 then (none) else (some (wrap64 (Int.tdiv t283 t284),0))) = some (r1,r2) := H
     have A41 := sd_ A410
     clear A410
     by_cases c42 : t284 = 0
     ·rw [if_pos c42] at H
      exact absurd H (by simp)
     ·rw [if_neg c42] at H
      have c42b0 : (t284 == 0) = false := beq_eq_false_iff_ne.mpr c42
      have c42b1 : (t284 != 0) = true := bne_iff_ne.mpr c42
      simp only [Option.some.injEq,Prod.mk.injEq] at H
      obtain ⟨rfl,rfl⟩ := H
      have hnb43 := NB267_268.out
      have hnc43 := NB268_267.out
      have hnb44 := NB267_272.out
      have hnc44 := NB272_267.out
      have hcz45_0 : wc.cell? ⟨gb267,0,none⟩ = some (.int .i64 a0_0) := (kc_ BK267.out 0).trans rfl
      have hcz45_1 : wc.cell? ⟨gb267,1,none⟩ = some (.int .i64 a0_1) := (kc_ BK267.out 1).trans rfl
      have hfz45_0 := kf_ BK267.out 0
      have hfz45_1 := kf_ BK267.out 1
      try go_wp2_with (first|((with_reducible refine gate_callee (f := 23) rfl ?_);refine goesL_ (some 42) rfl rfl Tryd.func23 (by kernel_rfl) rfl #[.int .i64 a0_1,.int .i64 1] rfl (by (try simp only [lm_,lq_,lx_]);first|done|rfl|(simp only [ld_,lt_];rfl)) ?_;(with_reducible refine (rat_Of.calls kj3 a0_1 1 t275 t276 t277 _ A37.out).mono ?_);rintro e w46 ⟨rfl,hb⟩;refine ⟨_,rfl,?_⟩;replace BK267 := kb_ BK267 hb;replace BK268 := kb_ BK268 hb;replace BK272 := kb_ BK272 hb;replace HB := hb_ HB (e_ GE267 (e_ GE268 (e_ GE272 e0_))) hb;(try clear hb);(try clear hb2);(try clear hk);(try clear hi))|((with_reducible refine gate_dst (N := 8) rfl ?_);refine box_event ?hg (N := 8) ?hd (cs := #[.int .i64 0,.int .i64 0]) (t := 25) ?hr ?_;(case hd => rfl);(case hg => rfl);(case hr => first|(go_simp;done)|(go_simp;rfl));intro gb278 hg w47 hbox hb;have BK278 := sd_ hbox;have GW278 := gw_ HB (e_ GE267 (e_ GE268 (e_ GE272 e0_))) hg;have GE278 := GW278;have NB267_278 := nb_ BK267 hg;have NB278_267 := sy_ NB267_278;have NB268_278 := nb_ BK268 hg;have NB278_268 := sy_ NB268_278;have NB272_278 := nb_ BK272 hg;have NB278_272 := sy_ NB272_278;replace BK267 := kb_ BK267 hb;replace BK268 := kb_ BK268 hb;replace BK272 := kb_ BK272 hb;replace HB := hb_ HB (e_ GE267 (e_ GE268 (e_ GE272 e0_))) hb;clear hb hbox hg;have hnb48 := NB278_267.out;have hnc48 := NB267_278.out;have hnb49 := NB278_268.out;have hnc49 := NB268_278.out;have hnb50 := NB278_272.out;have hnc50 := NB272_278.out;have hcz51_0 : w47.cell? ⟨gb278,0,none⟩ = some (.int .i64 0) := (kc_ BK278.out 0).trans rfl;have hcz51_1 : w47.cell? ⟨gb278,1,none⟩ = some (.int .i64 0) := (kc_ BK278.out 1).trans rfl;have hfz51_0 := kf_ BK278.out 0;have hfz51_1 := kf_ BK278.out 1;have hnb52 := NB268_272.out;have hnc52 := NB272_268.out;have hcz53_0 : w47.cell? ⟨gb268,0,none⟩ = some (.int .i64 a1_0) := (kc_ BK268.out 0).trans rfl;have hcz53_1 : w47.cell? ⟨gb268,1,none⟩ = some (.int .i64 a1_1) := (kc_ BK268.out 1).trans rfl;have hfz53_0 := kf_ BK268.out 0;have hfz53_1 := kf_ BK268.out 1)|((with_reducible refine gate_callee (f := 43) rfl ?_);refine goesL_ (some 48) rfl rfl Tryd.func43 (by kernel_rfl) rfl #[.agg #[.int .i64 a1_0,.int .i64 a1_1],.agg #[.int .i64 t275,.int .i64 t276]] rfl (by (try simp only [lm_,lq_,lx_]);first|done|rfl|(simp only [ld_,lt_];rfl)) ?_;(with_reducible refine (rat_Mul.calls kj3 a1_0 a1_1 t275 t276 t279 t280 t281 _ A38.out).mono ?_);rintro e w54 ⟨rfl,hb⟩;refine ⟨_,rfl,?_⟩;replace BK267 := sd_ (blk_below (g := gb267) (o := .cells #[.int .i64 a0_0,.int .i64 a0_1] 42 (0,0)) (by (with_reducible repeat first|apply kn_|apply kd_|apply ka_);refine blk_far ?_ NB267_278.out _;(with_reducible repeat first|apply kn_|apply kd_|apply ka_);refine blk_far ?_ NB267_278.out _;(with_reducible repeat first|apply kn_|apply kd_|apply ka_);exact BK267.out) hb);replace BK268 := sd_ (blk_below (g := gb268) (o := .cells #[.int .i64 a1_0,.int .i64 a1_1] 25 (0,0)) (by (with_reducible repeat first|apply kn_|apply kd_|apply ka_);refine blk_far ?_ NB268_278.out _;(with_reducible repeat first|apply kn_|apply kd_|apply ka_);refine blk_far ?_ NB268_278.out _;(with_reducible repeat first|apply kn_|apply kd_|apply ka_);exact BK268.out) hb);replace BK272 := sd_ (blk_below (g := gb272) (o := .cells #[.int .i64 t269,.int .i64 t270] 25 (0,0)) (by (with_reducible repeat first|apply kn_|apply kd_|apply ka_);refine blk_far ?_ NB272_278.out _;(with_reducible repeat first|apply kn_|apply kd_|apply ka_);refine blk_far ?_ NB272_278.out _;(with_reducible repeat first|apply kn_|apply kd_|apply ka_);exact BK272.out) hb);replace BK278 := sd_ (blk_below (g := gb278) (o := .cells #[.int .i64 t275,.int .i64 t276] 25 (0,0)) (by (with_reducible repeat first|apply kn_|apply kd_|apply ka_);refine blk_put (cs := #[.int .i64 t275,.int .i64 0]) ?_ 1 _ rfl;(with_reducible repeat first|apply kn_|apply kd_|apply ka_);refine blk_put (cs := #[.int .i64 0,.int .i64 0]) ?_ 0 _ rfl;(with_reducible repeat first|apply kn_|apply kd_|apply ka_);exact BK278.out) hb);replace HB := hb_ HB (e_ GE267 (e_ GE268 (e_ GE272 (e_ GE278 e0_)))) hb;(try clear hb);(try clear hb2);(try clear hk);(try clear hi))|((with_reducible refine gate_dst (N := 10) rfl ?_);refine box_event ?hg (N := 10) ?hd (cs := #[.int .i64 0,.int .i64 0]) (t := 25) ?hr ?_;(case hd => rfl);(case hg => rfl);(case hr => first|(go_simp;done)|(go_simp;rfl));intro gb282 hg w55 hbox hb;have BK282 := sd_ hbox;have GW282 := gw_ HB (e_ GE267 (e_ GE268 (e_ GE272 (e_ GE278 e0_)))) hg;have GE282 := GW282;have NB267_282 := nb_ BK267 hg;have NB282_267 := sy_ NB267_282;have NB268_282 := nb_ BK268 hg;have NB282_268 := sy_ NB268_282;have NB272_282 := nb_ BK272 hg;have NB282_272 := sy_ NB272_282;have NB278_282 := nb_ BK278 hg;have NB282_278 := sy_ NB278_282;replace BK267 := kb_ BK267 hb;replace BK268 := kb_ BK268 hb;replace BK272 := kb_ BK272 hb;replace BK278 := kb_ BK278 hb;replace HB := hb_ HB (e_ GE267 (e_ GE268 (e_ GE272 (e_ GE278 e0_)))) hb;clear hb hbox hg;have hnb56 := NB282_267.out;have hnc56 := NB267_282.out;have hnb57 := NB282_268.out;have hnc57 := NB268_282.out;have hnb58 := NB282_272.out;have hnc58 := NB272_282.out;have hnb59 := NB282_278.out;have hnc59 := NB278_282.out;have hcz60_0 : w55.cell? ⟨gb282,0,none⟩ = some (.int .i64 0) := (kc_ BK282.out 0).trans rfl;have hcz60_1 : w55.cell? ⟨gb282,1,none⟩ = some (.int .i64 0) := (kc_ BK282.out 1).trans rfl;have hfz60_0 := kf_ BK282.out 0;have hfz60_1 := kf_ BK282.out 1))
      have n0_ : Aside0 (((w55.setCell ⟨gb282,0,none⟩ (.int .i64 t279)).setCell ⟨gb282,1,none⟩ (.int .i64 t280)).heap[gb267]? = some (.cells #[.int .i64 a0_0,.int .i64 a0_1] 42 (0,0))) := ⟨by (with_reducible repeat first|apply kn_|apply kd_|apply ka_);refine blk_far ?_ NB267_282.out _;(with_reducible repeat first|apply kn_|apply kd_|apply ka_);refine blk_far ?_ NB267_282.out _;(with_reducible repeat first|apply kn_|apply kd_|apply ka_);exact BK267.out⟩
      have n1_ : Aside0 (((w55.setCell ⟨gb282,0,none⟩ (.int .i64 t279)).setCell ⟨gb282,1,none⟩ (.int .i64 t280)).heap[gb268]? = some (.cells #[.int .i64 a1_0,.int .i64 a1_1] 25 (0,0))) := ⟨by (with_reducible repeat first|apply kn_|apply kd_|apply ka_);refine blk_far ?_ NB268_282.out _;(with_reducible repeat first|apply kn_|apply kd_|apply ka_);refine blk_far ?_ NB268_282.out _;(with_reducible repeat first|apply kn_|apply kd_|apply ka_);exact BK268.out⟩
      have n2_ : Aside0 (((w55.setCell ⟨gb282,0,none⟩ (.int .i64 t279)).setCell ⟨gb282,1,none⟩ (.int .i64 t280)).heap[gb272]? = some (.cells #[.int .i64 t269,.int .i64 t270] 25 (0,0))) := ⟨by (with_reducible repeat first|apply kn_|apply kd_|apply ka_);refine blk_far ?_ NB272_282.out _;(with_reducible repeat first|apply kn_|apply kd_|apply ka_);refine blk_far ?_ NB272_282.out _;(with_reducible repeat first|apply kn_|apply kd_|apply ka_);exact BK272.out⟩
      have n3_ : Aside0 (((w55.setCell ⟨gb282,0,none⟩ (.int .i64 t279)).setCell ⟨gb282,1,none⟩ (.int .i64 t280)).heap[gb278]? = some (.cells #[.int .i64 t275,.int .i64 t276] 25 (0,0))) := ⟨by (with_reducible repeat first|apply kn_|apply kd_|apply ka_);refine blk_far ?_ NB278_282.out _;(with_reducible repeat first|apply kn_|apply kd_|apply ka_);refine blk_far ?_ NB278_282.out _;(with_reducible repeat first|apply kn_|apply kd_|apply ka_);exact BK278.out⟩
      have n4_ : Aside0 (((w55.setCell ⟨gb282,0,none⟩ (.int .i64 t279)).setCell ⟨gb282,1,none⟩ (.int .i64 t280)).heap[gb282]? = some (.cells #[.int .i64 t279,.int .i64 t280] 25 (0,0))) := ⟨by (with_reducible repeat first|apply kn_|apply kd_|apply ka_);refine blk_put (cs := #[.int .i64 t279,.int .i64 0]) ?_ 1 _ rfl;(with_reducible repeat first|apply kn_|apply kd_|apply ka_);refine blk_put (cs := #[.int .i64 0,.int .i64 0]) ?_ 0 _ rfl;(with_reducible repeat first|apply kn_|apply kd_|apply ka_);exact BK282.out⟩
      have n5_ : Aside0 (Below w.heap.size w ((w55.setCell ⟨gb282,0,none⟩ (.int .i64 t279)).setCell ⟨gb282,1,none⟩ (.int .i64 t280))) := ⟨by repeat (first|(with_reducible first|exact HB.out|apply ba_|apply pd_|apply d1_|refine bs_ ?_ GE267.out|refine bs_ ?_ GE268.out|refine bs_ ?_ GE272.out|refine bs_ ?_ GE278.out|refine bs_ ?_ GE282.out)|exact HB.out)⟩
      (try clear BK267)
      (try clear BK268)
      (try clear BK272)
      (try clear BK278)
      (try clear BK282)
      (try clear HB)
      generalize ((w55.setCell ⟨gb282,0,none⟩ (.int .i64 t279)).setCell ⟨gb282,1,none⟩ (.int .i64 t280)) = w61 at n0_ n1_ n2_ n3_ n4_ n5_ ⊢
      have BK267 := n0_
      have BK268 := n1_
      have BK272 := n2_
      have BK278 := n3_
      have BK282 := n4_
      have HB := n5_
      clear n0_ n1_ n2_ n3_ n4_ n5_
      replace BK267 := sd_ (kd_ BK267.out)
      replace BK268 := sd_ (kd_ BK268.out)
      replace BK272 := sd_ (kd_ BK272.out)
      replace BK278 := sd_ (kd_ BK278.out)
      replace BK282 := sd_ (kd_ BK282.out)
      replace HB := sd_ (d1_ HB.out)
      refine start_ (n := 7) (S := fun w' => w'.cell? ⟨gb282,0,none⟩ = some (.int .i64 t279) ∧ w'.cell? ⟨gb282,1,none⟩ = some (.int .i64 t280) ∧ w'.cell? ⟨gb267,0,none⟩ = some (.int .i64 a0_0) ∧ w'.cell? ⟨gb267,1,none⟩ = some (.int .i64 a0_1)) (ds := []) #[false,false,false,false,false,false,false] (by kernel_rfl) rfl rfl ⟨(kc_ BK282.out 0).trans rfl,(kc_ BK282.out 1).trans rfl,(kc_ BK267.out 0).trans rfl,(kc_ BK267.out 1).trans rfl⟩ (fun hHeld => ?_)
      generalize w61.drew = w62 at BK267 BK268 BK272 BK278 BK282 HB hHeld ⊢
      refine take_ (i := 0) (N := some 69) (v := ?_) (a' := ?_) #[true,false,false,false,false,false,false] rfl rfl (by kernel_rfl) (fun _ _ _ h => h) (Or.inl ⟨by rfl,?_⟩) hHeld ?_ ?_
      rotate_left
      ·rintro w' ⟨s0,s1,s2,s3⟩
       go_simp
       with_reducible rfl
      rotate_left
      ·simp only [Act.put,ls_,lz_,lc_,i64_w,i32_w]
       rfl
      refine take_ (i := 2) (N := some 71) (v := ?_) (a' := ?_) #[true,false,true,false,false,false,false] rfl rfl (by kernel_rfl) (fun _ _ _ h => h) (Or.inl ⟨by rfl,?_⟩) hHeld ?_ ?_
      rotate_left
      ·rintro w' ⟨s0,s1,s2,s3⟩
       go_simp
       with_reducible rfl
      rotate_left
      ·simp only [Act.put,ls_,lz_,lc_,i64_w,i32_w]
       rfl
      refine one_ (i := 1) (N := some 70) #[true,true,true,false,false,false,false] rfl rfl (by kernel_rfl) (by decide) (fun K hK => ?_)
      refine goes_ Tryd.func45 (by kernel_rfl) rfl #[.agg #[.int .i64 t279,.int .i64 t280]] (by rfl) rfl rfl (by (try simp only [lm_,lq_,lx_]);first|done|rfl|(simp only [ld_,lt_];rfl)) ?_
      with_reducible refine (rat_Floor.calls kj3 t279 t280 t283 _ A40.out).mono ?_
      rintro e w63 ⟨rfl,hb⟩
      refine ⟨_,rfl,?_⟩
      replace BK267 := kb_ BK267 hb
      replace BK268 := kb_ BK268 hb
      replace BK272 := kb_ BK272 hb
      replace BK278 := kb_ BK278 hb
      replace BK282 := kb_ BK282 hb
      replace HB := hb_ HB (e_ GE267 (e_ GE268 (e_ GE272 (e_ GE278 (e_ GE282 e0_))))) hb
      (try clear hb)
      (try clear hb2)
      (try clear hk)
      (try clear hi)
      refine hK.out _ _ ⟨(kc_ BK282.out 0).trans rfl,(kc_ BK282.out 1).trans rfl,(kc_ BK267.out 0).trans rfl,(kc_ BK267.out 1).trans rfl⟩ (fun hHeld => ?_)
      clear hK K
      refine norm_ (a' := ?_) ?_ ?_
      rotate_left
      ·show Act.put _ (some 70) _ = _
       simp only [Act.put,ls_,lz_,lc_,i64_w,i32_w]
       rfl
      refine one_ (i := 3) (N := some 72) #[true,true,true,true,false,false,false] rfl rfl (by kernel_rfl) (by decide) (fun K hK => ?_)
      refine goes_ Tryd.func40 (by kernel_rfl) rfl #[.agg #[.int .i64 a0_0,.int .i64 a0_1]] (by rfl) rfl rfl (by (try simp only [lm_,lq_,lx_]);first|done|rfl|(simp only [ld_,lt_];rfl)) ?_
      with_reducible refine (dur_step.calls a0_0 a0_1 t284 _ A41.out).mono ?_
      rintro e w64 ⟨rfl,hb⟩
      refine ⟨_,rfl,?_⟩
      replace BK267 := kb_ BK267 hb
      replace BK268 := kb_ BK268 hb
      replace BK272 := kb_ BK272 hb
      replace BK278 := kb_ BK278 hb
      replace BK282 := kb_ BK282 hb
      replace HB := hb_ HB (e_ GE267 (e_ GE268 (e_ GE272 (e_ GE278 (e_ GE282 e0_))))) hb
      (try clear hb)
      (try clear hb2)
      (try clear hk)
      (try clear hi)
      refine hK.out _ _ ⟨(kc_ BK282.out 0).trans rfl,(kc_ BK282.out 1).trans rfl,(kc_ BK267.out 0).trans rfl,(kc_ BK267.out 1).trans rfl⟩ (fun hHeld => ?_)
      clear hK K
      refine norm_ (a' := ?_) ?_ ?_
      rotate_left
      ·show Act.put _ (some 72) _ = _
       simp only [Act.put,ls_,lz_,lc_,i64_w,i32_w]
       rfl
      refine pure_ (i := 4) (N := some 73) (v := ?_) (a' := ?_) #[true,true,true,true,true,false,false] rfl rfl (by kernel_rfl) (fun _ _ _ h => h) (Or.inl ⟨by rfl,?_⟩) ?_ ?_
      rotate_left;(intro w';go_simp;with_reducible rfl);rotate_left;(simp only [Act.put,ls_,lz_,lc_,i64_w,i32_w];rfl)
      refine pure_ (i := 5) (N := some 4) (v := ?_) (a' := ?_) #[true,true,true,true,true,true,false] rfl rfl (by kernel_rfl) (fun _ _ _ h => h) (Or.inl ⟨by rfl,?_⟩) ?_ ?_
      rotate_left;(intro w';go_simp;with_reducible rfl);rotate_left;(simp only [Act.put,ls_,lz_,lc_,i64_w,i32_w];rfl)
      refine pure_ (i := 6) (N := some 5) (v := ?_) (a' := ?_) #[true,true,true,true,true,true,true] rfl rfl (by kernel_rfl) (fun _ _ _ h => h) (Or.inl ⟨by rfl,?_⟩) ?_ ?_
      rotate_left;(intro w';go_simp;with_reducible rfl);rotate_left;(simp only [Act.put,ls_,lz_,lc_,i64_w,i32_w];rfl)
      refine done_ (by kernel_rfl) ?_
      try go_wp2
      go_ret2
      exact ⟨by first|rfl|(simp [errW_none,errW_some] <;> rfl)|(simp [*,errW_none,errW_some] <;> rfl),by repeat (first|(with_reducible first|exact HB.out|apply ba_|apply pd_|apply d1_|refine bs_ ?_ GE267.out|refine bs_ ?_ GE268.out|refine bs_ ?_ GE272.out|refine bs_ ?_ GE278.out|refine bs_ ?_ GE282.out)|exact HB.out)⟩
    ·rw [if_neg c39] at H
     have c39b0 : (t281 == 0) = false := beq_eq_false_iff_ne.mpr c39
     have c39b1 : (t281 != 0) = true := bne_iff_ne.mpr c39
     replace H := ob_ H
     obtain ⟨⟨t285,t288⟩,A650,H⟩ := H
     replace H : ((api_Rat.f kj3 t285 a1_0 a1_1 ()).bind fun bt289 => (if bt289.2 = true then (some (bt289.1,0)) else (some (wrap64 (bt289.1 - 1),0)))) = some (r1,r2) := H
     have A65 := sd_ A650
     clear A650
     replace H := ob_ H
     obtain ⟨⟨t289,t290⟩,A660,H⟩ := H
     replace H : (if t290 = true then (some (t289,0)) else (some (wrap64 (t289 - 1),0))) = some (r1,r2) := H
     have A66 := sd_ A660
     clear A660
     by_cases c67 : t290 = true
     ·subst c67
      have H1 : (some (t289,0)) = some (r1,r2) := by rw [if_pos rfl] at H;exact H
      clear H;have H := H1;clear H1
      simp only [Option.some.injEq,Prod.mk.injEq] at H
      obtain ⟨rfl,rfl⟩ := H
      have hnb68 := NB267_268.out
      have hnc68 := NB268_267.out
      have hnb69 := NB267_272.out
      have hnc69 := NB272_267.out
      have hcz70_0 : wc.cell? ⟨gb267,0,none⟩ = some (.int .i64 a0_0) := (kc_ BK267.out 0).trans rfl
      have hcz70_1 : wc.cell? ⟨gb267,1,none⟩ = some (.int .i64 a0_1) := (kc_ BK267.out 1).trans rfl
      have hfz70_0 := kf_ BK267.out 0
      have hfz70_1 := kf_ BK267.out 1
      go_wp2_with (first|((with_reducible refine gate_callee (f := 23) rfl ?_);refine goesL_ (some 42) rfl rfl Tryd.func23 (by kernel_rfl) rfl #[.int .i64 a0_1,.int .i64 1] rfl (by (try simp only [lm_,lq_,lx_]);first|done|rfl|(simp only [ld_,lt_];rfl)) ?_;(with_reducible refine (rat_Of.calls kj3 a0_1 1 t275 t276 t277 _ A37.out).mono ?_);rintro e w71 ⟨rfl,hb⟩;refine ⟨_,rfl,?_⟩;replace BK267 := kb_ BK267 hb;replace BK268 := kb_ BK268 hb;replace BK272 := kb_ BK272 hb;replace HB := hb_ HB (e_ GE267 (e_ GE268 (e_ GE272 e0_))) hb;(try clear hb);(try clear hb2);(try clear hk);(try clear hi))|((with_reducible refine gate_dst (N := 8) rfl ?_);refine box_event ?hg (N := 8) ?hd (cs := #[.int .i64 0,.int .i64 0]) (t := 25) ?hr ?_;(case hd => rfl);(case hg => rfl);(case hr => first|(go_simp;done)|(go_simp;rfl));intro gb278 hg w72 hbox hb;have BK278 := sd_ hbox;have GW278 := gw_ HB (e_ GE267 (e_ GE268 (e_ GE272 e0_))) hg;have GE278 := GW278;have NB267_278 := nb_ BK267 hg;have NB278_267 := sy_ NB267_278;have NB268_278 := nb_ BK268 hg;have NB278_268 := sy_ NB268_278;have NB272_278 := nb_ BK272 hg;have NB278_272 := sy_ NB272_278;replace BK267 := kb_ BK267 hb;replace BK268 := kb_ BK268 hb;replace BK272 := kb_ BK272 hb;replace HB := hb_ HB (e_ GE267 (e_ GE268 (e_ GE272 e0_))) hb;clear hb hbox hg;have hnb73 := NB278_267.out;have hnc73 := NB267_278.out;have hnb74 := NB278_268.out;have hnc74 := NB268_278.out;have hnb75 := NB278_272.out;have hnc75 := NB272_278.out;have hcz76_0 : w72.cell? ⟨gb278,0,none⟩ = some (.int .i64 0) := (kc_ BK278.out 0).trans rfl;have hcz76_1 : w72.cell? ⟨gb278,1,none⟩ = some (.int .i64 0) := (kc_ BK278.out 1).trans rfl;have hfz76_0 := kf_ BK278.out 0;have hfz76_1 := kf_ BK278.out 1;have hnb77 := NB268_272.out;have hnc77 := NB272_268.out;have hcz78_0 : w72.cell? ⟨gb268,0,none⟩ = some (.int .i64 a1_0) := (kc_ BK268.out 0).trans rfl;have hcz78_1 : w72.cell? ⟨gb268,1,none⟩ = some (.int .i64 a1_1) := (kc_ BK268.out 1).trans rfl;have hfz78_0 := kf_ BK268.out 0;have hfz78_1 := kf_ BK268.out 1)|((with_reducible refine gate_callee (f := 43) rfl ?_);refine goesL_ (some 48) rfl rfl Tryd.func43 (by kernel_rfl) rfl #[.agg #[.int .i64 a1_0,.int .i64 a1_1],.agg #[.int .i64 t275,.int .i64 t276]] rfl (by (try simp only [lm_,lq_,lx_]);first|done|rfl|(simp only [ld_,lt_];rfl)) ?_;(with_reducible refine (rat_Mul.calls kj3 a1_0 a1_1 t275 t276 t279 t280 t281 _ A38.out).mono ?_);rintro e w79 ⟨rfl,hb⟩;refine ⟨_,rfl,?_⟩;replace BK267 := sd_ (blk_below (g := gb267) (o := .cells #[.int .i64 a0_0,.int .i64 a0_1] 42 (0,0)) (by (with_reducible repeat first|apply kn_|apply kd_|apply ka_);refine blk_far ?_ NB267_278.out _;(with_reducible repeat first|apply kn_|apply kd_|apply ka_);refine blk_far ?_ NB267_278.out _;(with_reducible repeat first|apply kn_|apply kd_|apply ka_);exact BK267.out) hb);replace BK268 := sd_ (blk_below (g := gb268) (o := .cells #[.int .i64 a1_0,.int .i64 a1_1] 25 (0,0)) (by (with_reducible repeat first|apply kn_|apply kd_|apply ka_);refine blk_far ?_ NB268_278.out _;(with_reducible repeat first|apply kn_|apply kd_|apply ka_);refine blk_far ?_ NB268_278.out _;(with_reducible repeat first|apply kn_|apply kd_|apply ka_);exact BK268.out) hb);replace BK272 := sd_ (blk_below (g := gb272) (o := .cells #[.int .i64 t269,.int .i64 t270] 25 (0,0)) (by (with_reducible repeat first|apply kn_|apply kd_|apply ka_);refine blk_far ?_ NB272_278.out _;(with_reducible repeat first|apply kn_|apply kd_|apply ka_);refine blk_far ?_ NB272_278.out _;(with_reducible repeat first|apply kn_|apply kd_|apply ka_);exact BK272.out) hb);replace BK278 := sd_ (blk_below (g := gb278) (o := .cells #[.int .i64 t275,.int .i64 t276] 25 (0,0)) (by (with_reducible repeat first|apply kn_|apply kd_|apply ka_);refine blk_put (cs := #[.int .i64 t275,.int .i64 0]) ?_ 1 _ rfl;(with_reducible repeat first|apply kn_|apply kd_|apply ka_);refine blk_put (cs := #[.int .i64 0,.int .i64 0]) ?_ 0 _ rfl;(with_reducible repeat first|apply kn_|apply kd_|apply ka_);exact BK278.out) hb);replace HB := hb_ HB (e_ GE267 (e_ GE268 (e_ GE272 (e_ GE278 e0_)))) hb;(try clear hb);(try clear hb2);(try clear hk);(try clear hi))|((with_reducible refine gate_dst (N := 10) rfl ?_);refine box_event ?hg (N := 10) ?hd (cs := #[.int .i64 0,.int .i64 0]) (t := 25) ?hr ?_;(case hd => rfl);(case hg => rfl);(case hr => first|(go_simp;done)|(go_simp;rfl));intro gb282 hg w80 hbox hb;have BK282 := sd_ hbox;have GW282 := gw_ HB (e_ GE267 (e_ GE268 (e_ GE272 (e_ GE278 e0_)))) hg;have GE282 := GW282;have NB267_282 := nb_ BK267 hg;have NB282_267 := sy_ NB267_282;have NB268_282 := nb_ BK268 hg;have NB282_268 := sy_ NB268_282;have NB272_282 := nb_ BK272 hg;have NB282_272 := sy_ NB272_282;have NB278_282 := nb_ BK278 hg;have NB282_278 := sy_ NB278_282;replace BK267 := kb_ BK267 hb;replace BK268 := kb_ BK268 hb;replace BK272 := kb_ BK272 hb;replace BK278 := kb_ BK278 hb;replace HB := hb_ HB (e_ GE267 (e_ GE268 (e_ GE272 (e_ GE278 e0_)))) hb;clear hb hbox hg;have hnb81 := NB282_267.out;have hnc81 := NB267_282.out;have hnb82 := NB282_268.out;have hnc82 := NB268_282.out;have hnb83 := NB282_272.out;have hnc83 := NB272_282.out;have hnb84 := NB282_278.out;have hnc84 := NB278_282.out;have hcz85_0 : w80.cell? ⟨gb282,0,none⟩ = some (.int .i64 0) := (kc_ BK282.out 0).trans rfl;have hcz85_1 : w80.cell? ⟨gb282,1,none⟩ = some (.int .i64 0) := (kc_ BK282.out 1).trans rfl;have hfz85_0 := kf_ BK282.out 0;have hfz85_1 := kf_ BK282.out 1;have hcz86_0 : w80.cell? ⟨gb267,0,none⟩ = some (.int .i64 a0_0) := (kc_ BK267.out 0).trans rfl;have hcz86_1 : w80.cell? ⟨gb267,1,none⟩ = some (.int .i64 a0_1) := (kc_ BK267.out 1).trans rfl;have hfz86_0 := kf_ BK267.out 0;have hfz86_1 := kf_ BK267.out 1)|((with_reducible refine gate_callee (f := 14) rfl ?_);refine goesL_ (some 55) rfl rfl Tryd.func14 (by kernel_rfl) rfl #[.agg #[.int .i64 a0_0,.int .i64 a0_1]] rfl (by (try simp only [lm_,lq_,lx_]);first|done|rfl|(simp only [ld_,lt_];rfl)) ?_;(with_reducible refine (dur_Beats.calls kj3 a0_0 a0_1 t285 t288 _ A65.out).mono ?_);rintro e w87 ⟨v286,rfl,ho0,hb⟩;refine ⟨_,rfl,?_⟩;have HO287 := sd_ (Kd.R_lower (Kd.R_newB (Kd.R_newB (Kd.R_newB (Kd.R_newB ho0 (g := gb268) (o := .cells #[.int .i64 a1_0,.int .i64 a1_1] 25 (0,0)) (by (with_reducible repeat first|apply kn_|apply kd_|apply ka_);refine blk_far ?_ NB268_282.out _;(with_reducible repeat first|apply kn_|apply kd_|apply ka_);refine blk_far ?_ NB268_282.out _;(with_reducible repeat first|apply kn_|apply kd_|apply ka_);exact BK268.out)) (g := gb272) (o := .cells #[.int .i64 t269,.int .i64 t270] 25 (0,0)) (by (with_reducible repeat first|apply kn_|apply kd_|apply ka_);refine blk_far ?_ NB272_282.out _;(with_reducible repeat first|apply kn_|apply kd_|apply ka_);refine blk_far ?_ NB272_282.out _;(with_reducible repeat first|apply kn_|apply kd_|apply ka_);exact BK272.out)) (g := gb278) (o := .cells #[.int .i64 t275,.int .i64 t276] 25 (0,0)) (by (with_reducible repeat first|apply kn_|apply kd_|apply ka_);refine blk_far ?_ NB278_282.out _;(with_reducible repeat first|apply kn_|apply kd_|apply ka_);refine blk_far ?_ NB278_282.out _;(with_reducible repeat first|apply kn_|apply kd_|apply ka_);exact BK278.out)) (g := gb282) (o := .cells #[.int .i64 t279,.int .i64 t280] 25 (0,0)) (by (with_reducible repeat first|apply kn_|apply kd_|apply ka_);refine blk_put (cs := #[.int .i64 t279,.int .i64 0]) ?_ 1 _ rfl;(with_reducible repeat first|apply kn_|apply kd_|apply ka_);refine blk_put (cs := #[.int .i64 0,.int .i64 0]) ?_ 0 _ rfl;(with_reducible repeat first|apply kn_|apply kd_|apply ka_);exact BK282.out)) (bz_ (bb_ HB.out (e_ GE267 (e_ GE268 (e_ GE272 (e_ GE278 (e_ GE282 e0_))))))));replace BK267 := sd_ (blk_below (g := gb267) (o := .cells #[.int .i64 a0_0,.int .i64 a0_1] 42 (0,0)) (by (with_reducible repeat first|apply kn_|apply kd_|apply ka_);refine blk_far ?_ NB267_282.out _;(with_reducible repeat first|apply kn_|apply kd_|apply ka_);refine blk_far ?_ NB267_282.out _;(with_reducible repeat first|apply kn_|apply kd_|apply ka_);exact BK267.out) hb);replace BK268 := sd_ (blk_below (g := gb268) (o := .cells #[.int .i64 a1_0,.int .i64 a1_1] 25 (0,0)) (by (with_reducible repeat first|apply kn_|apply kd_|apply ka_);refine blk_far ?_ NB268_282.out _;(with_reducible repeat first|apply kn_|apply kd_|apply ka_);refine blk_far ?_ NB268_282.out _;(with_reducible repeat first|apply kn_|apply kd_|apply ka_);exact BK268.out) hb);replace BK272 := sd_ (blk_below (g := gb272) (o := .cells #[.int .i64 t269,.int .i64 t270] 25 (0,0)) (by (with_reducible repeat first|apply kn_|apply kd_|apply ka_);refine blk_far ?_ NB272_282.out _;(with_reducible repeat first|apply kn_|apply kd_|apply ka_);refine blk_far ?_ NB272_282.out _;(with_reducible repeat first|apply kn_|apply kd_|apply ka_);exact BK272.out) hb);replace BK278 := sd_ (blk_below (g := gb278) (o := .cells #[.int .i64 t275,.int .i64 t276] 25 (0,0)) (by (with_reducible repeat first|apply kn_|apply kd_|apply ka_);refine blk_far ?_ NB278_282.out _;(with_reducible repeat first|apply kn_|apply kd_|apply ka_);refine blk_far ?_ NB278_282.out _;(with_reducible repeat first|apply kn_|apply kd_|apply ka_);exact BK278.out) hb);replace BK282 := sd_ (blk_below (g := gb282) (o := .cells #[.int .i64 t279,.int .i64 t280] 25 (0,0)) (by (with_reducible repeat first|apply kn_|apply kd_|apply ka_);refine blk_put (cs := #[.int .i64 t279,.int .i64 0]) ?_ 1 _ rfl;(with_reducible repeat first|apply kn_|apply kd_|apply ka_);refine blk_put (cs := #[.int .i64 0,.int .i64 0]) ?_ 0 _ rfl;(with_reducible repeat first|apply kn_|apply kd_|apply ka_);exact BK282.out) hb);replace HB := hb_ HB (e_ GE267 (e_ GE268 (e_ GE272 (e_ GE278 (e_ GE282 e0_))))) hb;(try clear hb);(try clear hb2);(try clear hk);(try clear hi);(try clear ho0);have hcz88_0 : w87.cell? ⟨gb268,0,none⟩ = some (.int .i64 a1_0) := (kc_ BK268.out 0).trans rfl;have hcz88_1 : w87.cell? ⟨gb268,1,none⟩ = some (.int .i64 a1_1) := (kc_ BK268.out 1).trans rfl;have hfz88_0 := kf_ BK268.out 0;have hfz88_1 := kf_ BK268.out 1;obtain ⟨Ao89,co89,eo89⟩ := Kd.R_slice HO287.out;subst eo89)|((with_reducible refine gate_callee (f := 44) rfl ?_);refine goesL_ (some 61) rfl rfl Tryd.func44 (by kernel_rfl) rfl #[.slice Ao89 t285.length co89,.agg #[.int .i64 a1_0,.int .i64 a1_1],.func (.func 42) #[] #[]] rfl (by (try simp only [lm_,lq_,lx_]);first|done|rfl|(simp only [ld_,lt_];rfl)) ?_;(with_reducible refine (api_Rat.calls kj3 _ _ t285 a1_0 a1_1 () t289 true _ ?side1 ?side2 A66.out).mono ?_);(case side1 => repeat (first|exact (Kd.R_reads' HO287.out).2.2|(with_reducible refine Kd.C_alloc ?_ _)|(with_reducible refine Kd.C_drewN ?_ _)|(with_reducible refine Kd.C_drew ?_)));(case side2 => exact (Kd.R_reads' HO287.out).2.1);rintro e w90 ⟨rfl,hb⟩;refine ⟨_,rfl,?_⟩;replace HO287 := sd_ (Kd.R_below (by (with_reducible repeat (first|apply Kd.R_alloc|apply Kd.R_drewN|apply Kd.R_drew));exact HO287.out) hb);replace BK267 := kb_ BK267 hb;replace BK268 := kb_ BK268 hb;replace BK272 := kb_ BK272 hb;replace BK278 := kb_ BK278 hb;replace BK282 := kb_ BK282 hb;replace HB := hb_ HB (e_ GE267 (e_ GE268 (e_ GE272 (e_ GE278 (e_ GE282 e0_))))) hb;(try clear hb);(try clear hb2);(try clear hk);(try clear hi)))
      go_ret2
      exact ⟨by first|rfl|(simp [errW_none,errW_some] <;> rfl)|(simp [*,errW_none,errW_some] <;> rfl),by repeat (first|(with_reducible first|exact HB.out|apply ba_|apply pd_|apply d1_|refine bs_ ?_ GE267.out|refine bs_ ?_ GE268.out|refine bs_ ?_ GE272.out|refine bs_ ?_ GE278.out|refine bs_ ?_ GE282.out)|exact HB.out)⟩
     ·replace c67 := bf_ c67
      subst c67
      have H1 : (some (wrap64 (t289 - 1),0)) = some (r1,r2) := by rw [if_neg (show ¬ (false = true) by decide)] at H;exact H
      clear H;have H := H1;clear H1
      simp only [Option.some.injEq,Prod.mk.injEq] at H
      obtain ⟨rfl,rfl⟩ := H
      have hnb91 := NB267_268.out
      have hnc91 := NB268_267.out
      have hnb92 := NB267_272.out
      have hnc92 := NB272_267.out
      have hcz93_0 : wc.cell? ⟨gb267,0,none⟩ = some (.int .i64 a0_0) := (kc_ BK267.out 0).trans rfl
      have hcz93_1 : wc.cell? ⟨gb267,1,none⟩ = some (.int .i64 a0_1) := (kc_ BK267.out 1).trans rfl
      have hfz93_0 := kf_ BK267.out 0
      have hfz93_1 := kf_ BK267.out 1
      go_wp2_with (first|((with_reducible refine gate_callee (f := 23) rfl ?_);refine goesL_ (some 42) rfl rfl Tryd.func23 (by kernel_rfl) rfl #[.int .i64 a0_1,.int .i64 1] rfl (by (try simp only [lm_,lq_,lx_]);first|done|rfl|(simp only [ld_,lt_];rfl)) ?_;(with_reducible refine (rat_Of.calls kj3 a0_1 1 t275 t276 t277 _ A37.out).mono ?_);rintro e w94 ⟨rfl,hb⟩;refine ⟨_,rfl,?_⟩;replace BK267 := kb_ BK267 hb;replace BK268 := kb_ BK268 hb;replace BK272 := kb_ BK272 hb;replace HB := hb_ HB (e_ GE267 (e_ GE268 (e_ GE272 e0_))) hb;(try clear hb);(try clear hb2);(try clear hk);(try clear hi))|((with_reducible refine gate_dst (N := 8) rfl ?_);refine box_event ?hg (N := 8) ?hd (cs := #[.int .i64 0,.int .i64 0]) (t := 25) ?hr ?_;(case hd => rfl);(case hg => rfl);(case hr => first|(go_simp;done)|(go_simp;rfl));intro gb278 hg w95 hbox hb;have BK278 := sd_ hbox;have GW278 := gw_ HB (e_ GE267 (e_ GE268 (e_ GE272 e0_))) hg;have GE278 := GW278;have NB267_278 := nb_ BK267 hg;have NB278_267 := sy_ NB267_278;have NB268_278 := nb_ BK268 hg;have NB278_268 := sy_ NB268_278;have NB272_278 := nb_ BK272 hg;have NB278_272 := sy_ NB272_278;replace BK267 := kb_ BK267 hb;replace BK268 := kb_ BK268 hb;replace BK272 := kb_ BK272 hb;replace HB := hb_ HB (e_ GE267 (e_ GE268 (e_ GE272 e0_))) hb;clear hb hbox hg;have hnb96 := NB278_267.out;have hnc96 := NB267_278.out;have hnb97 := NB278_268.out;have hnc97 := NB268_278.out;have hnb98 := NB278_272.out;have hnc98 := NB272_278.out;have hcz99_0 : w95.cell? ⟨gb278,0,none⟩ = some (.int .i64 0) := (kc_ BK278.out 0).trans rfl;have hcz99_1 : w95.cell? ⟨gb278,1,none⟩ = some (.int .i64 0) := (kc_ BK278.out 1).trans rfl;have hfz99_0 := kf_ BK278.out 0;have hfz99_1 := kf_ BK278.out 1;have hnb100 := NB268_272.out;have hnc100 := NB272_268.out;have hcz101_0 : w95.cell? ⟨gb268,0,none⟩ = some (.int .i64 a1_0) := (kc_ BK268.out 0).trans rfl;have hcz101_1 : w95.cell? ⟨gb268,1,none⟩ = some (.int .i64 a1_1) := (kc_ BK268.out 1).trans rfl;have hfz101_0 := kf_ BK268.out 0;have hfz101_1 := kf_ BK268.out 1)|((with_reducible refine gate_callee (f := 43) rfl ?_);refine goesL_ (some 48) rfl rfl Tryd.func43 (by kernel_rfl) rfl #[.agg #[.int .i64 a1_0,.int .i64 a1_1],.agg #[.int .i64 t275,.int .i64 t276]] rfl (by (try simp only [lm_,lq_,lx_]);first|done|rfl|(simp only [ld_,lt_];rfl)) ?_;(with_reducible refine (rat_Mul.calls kj3 a1_0 a1_1 t275 t276 t279 t280 t281 _ A38.out).mono ?_);rintro e w102 ⟨rfl,hb⟩;refine ⟨_,rfl,?_⟩;replace BK267 := sd_ (blk_below (g := gb267) (o := .cells #[.int .i64 a0_0,.int .i64 a0_1] 42 (0,0)) (by (with_reducible repeat first|apply kn_|apply kd_|apply ka_);refine blk_far ?_ NB267_278.out _;(with_reducible repeat first|apply kn_|apply kd_|apply ka_);refine blk_far ?_ NB267_278.out _;(with_reducible repeat first|apply kn_|apply kd_|apply ka_);exact BK267.out) hb);replace BK268 := sd_ (blk_below (g := gb268) (o := .cells #[.int .i64 a1_0,.int .i64 a1_1] 25 (0,0)) (by (with_reducible repeat first|apply kn_|apply kd_|apply ka_);refine blk_far ?_ NB268_278.out _;(with_reducible repeat first|apply kn_|apply kd_|apply ka_);refine blk_far ?_ NB268_278.out _;(with_reducible repeat first|apply kn_|apply kd_|apply ka_);exact BK268.out) hb);replace BK272 := sd_ (blk_below (g := gb272) (o := .cells #[.int .i64 t269,.int .i64 t270] 25 (0,0)) (by (with_reducible repeat first|apply kn_|apply kd_|apply ka_);refine blk_far ?_ NB272_278.out _;(with_reducible repeat first|apply kn_|apply kd_|apply ka_);refine blk_far ?_ NB272_278.out _;(with_reducible repeat first|apply kn_|apply kd_|apply ka_);exact BK272.out) hb);replace BK278 := sd_ (blk_below (g := gb278) (o := .cells #[.int .i64 t275,.int .i64 t276] 25 (0,0)) (by (with_reducible repeat first|apply kn_|apply kd_|apply ka_);refine blk_put (cs := #[.int .i64 t275,.int .i64 0]) ?_ 1 _ rfl;(with_reducible repeat first|apply kn_|apply kd_|apply ka_);refine blk_put (cs := #[.int .i64 0,.int .i64 0]) ?_ 0 _ rfl;(with_reducible repeat first|apply kn_|apply kd_|apply ka_);exact BK278.out) hb);replace HB := hb_ HB (e_ GE267 (e_ GE268 (e_ GE272 (e_ GE278 e0_)))) hb;(try clear hb);(try clear hb2);(try clear hk);(try clear hi))|((with_reducible refine gate_dst (N := 10) rfl ?_);refine box_event ?hg (N := 10) ?hd (cs := #[.int .i64 0,.int .i64 0]) (t := 25) ?hr ?_;(case hd => rfl);(case hg => rfl);(case hr => first|(go_simp;done)|(go_simp;rfl));intro gb282 hg w103 hbox hb;have BK282 := sd_ hbox;have GW282 := gw_ HB (e_ GE267 (e_ GE268 (e_ GE272 (e_ GE278 e0_)))) hg;have GE282 := GW282;have NB267_282 := nb_ BK267 hg;have NB282_267 := sy_ NB267_282;have NB268_282 := nb_ BK268 hg;have NB282_268 := sy_ NB268_282;have NB272_282 := nb_ BK272 hg;have NB282_272 := sy_ NB272_282;have NB278_282 := nb_ BK278 hg;have NB282_278 := sy_ NB278_282;replace BK267 := kb_ BK267 hb;replace BK268 := kb_ BK268 hb;replace BK272 := kb_ BK272 hb;replace BK278 := kb_ BK278 hb;replace HB := hb_ HB (e_ GE267 (e_ GE268 (e_ GE272 (e_ GE278 e0_)))) hb;clear hb hbox hg;have hnb104 := NB282_267.out;have hnc104 := NB267_282.out;have hnb105 := NB282_268.out;have hnc105 := NB268_282.out;have hnb106 := NB282_272.out;have hnc106 := NB272_282.out;have hnb107 := NB282_278.out;have hnc107 := NB278_282.out;have hcz108_0 : w103.cell? ⟨gb282,0,none⟩ = some (.int .i64 0) := (kc_ BK282.out 0).trans rfl;have hcz108_1 : w103.cell? ⟨gb282,1,none⟩ = some (.int .i64 0) := (kc_ BK282.out 1).trans rfl;have hfz108_0 := kf_ BK282.out 0;have hfz108_1 := kf_ BK282.out 1;have hcz109_0 : w103.cell? ⟨gb267,0,none⟩ = some (.int .i64 a0_0) := (kc_ BK267.out 0).trans rfl;have hcz109_1 : w103.cell? ⟨gb267,1,none⟩ = some (.int .i64 a0_1) := (kc_ BK267.out 1).trans rfl;have hfz109_0 := kf_ BK267.out 0;have hfz109_1 := kf_ BK267.out 1)|((with_reducible refine gate_callee (f := 14) rfl ?_);refine goesL_ (some 55) rfl rfl Tryd.func14 (by kernel_rfl) rfl #[.agg #[.int .i64 a0_0,.int .i64 a0_1]] rfl (by (try simp only [lm_,lq_,lx_]);first|done|rfl|(simp only [ld_,lt_];rfl)) ?_;(with_reducible refine (dur_Beats.calls kj3 a0_0 a0_1 t285 t288 _ A65.out).mono ?_);rintro e w110 ⟨v286,rfl,ho0,hb⟩;refine ⟨_,rfl,?_⟩;have HO287 := sd_ (Kd.R_lower (Kd.R_newB (Kd.R_newB (Kd.R_newB (Kd.R_newB ho0 (g := gb268) (o := .cells #[.int .i64 a1_0,.int .i64 a1_1] 25 (0,0)) (by (with_reducible repeat first|apply kn_|apply kd_|apply ka_);refine blk_far ?_ NB268_282.out _;(with_reducible repeat first|apply kn_|apply kd_|apply ka_);refine blk_far ?_ NB268_282.out _;(with_reducible repeat first|apply kn_|apply kd_|apply ka_);exact BK268.out)) (g := gb272) (o := .cells #[.int .i64 t269,.int .i64 t270] 25 (0,0)) (by (with_reducible repeat first|apply kn_|apply kd_|apply ka_);refine blk_far ?_ NB272_282.out _;(with_reducible repeat first|apply kn_|apply kd_|apply ka_);refine blk_far ?_ NB272_282.out _;(with_reducible repeat first|apply kn_|apply kd_|apply ka_);exact BK272.out)) (g := gb278) (o := .cells #[.int .i64 t275,.int .i64 t276] 25 (0,0)) (by (with_reducible repeat first|apply kn_|apply kd_|apply ka_);refine blk_far ?_ NB278_282.out _;(with_reducible repeat first|apply kn_|apply kd_|apply ka_);refine blk_far ?_ NB278_282.out _;(with_reducible repeat first|apply kn_|apply kd_|apply ka_);exact BK278.out)) (g := gb282) (o := .cells #[.int .i64 t279,.int .i64 t280] 25 (0,0)) (by (with_reducible repeat first|apply kn_|apply kd_|apply ka_);refine blk_put (cs := #[.int .i64 t279,.int .i64 0]) ?_ 1 _ rfl;(with_reducible repeat first|apply kn_|apply kd_|apply ka_);refine blk_put (cs := #[.int .i64 0,.int .i64 0]) ?_ 0 _ rfl;(with_reducible repeat first|apply kn_|apply kd_|apply ka_);exact BK282.out)) (bz_ (bb_ HB.out (e_ GE267 (e_ GE268 (e_ GE272 (e_ GE278 (e_ GE282 e0_))))))));replace BK267 := sd_ (blk_below (g := gb267) (o := .cells #[.int .i64 a0_0,.int .i64 a0_1] 42 (0,0)) (by (with_reducible repeat first|apply kn_|apply kd_|apply ka_);refine blk_far ?_ NB267_282.out _;(with_reducible repeat first|apply kn_|apply kd_|apply ka_);refine blk_far ?_ NB267_282.out _;(with_reducible repeat first|apply kn_|apply kd_|apply ka_);exact BK267.out) hb);replace BK268 := sd_ (blk_below (g := gb268) (o := .cells #[.int .i64 a1_0,.int .i64 a1_1] 25 (0,0)) (by (with_reducible repeat first|apply kn_|apply kd_|apply ka_);refine blk_far ?_ NB268_282.out _;(with_reducible repeat first|apply kn_|apply kd_|apply ka_);refine blk_far ?_ NB268_282.out _;(with_reducible repeat first|apply kn_|apply kd_|apply ka_);exact BK268.out) hb);replace BK272 := sd_ (blk_below (g := gb272) (o := .cells #[.int .i64 t269,.int .i64 t270] 25 (0,0)) (by (with_reducible repeat first|apply kn_|apply kd_|apply ka_);refine blk_far ?_ NB272_282.out _;(with_reducible repeat first|apply kn_|apply kd_|apply ka_);refine blk_far ?_ NB272_282.out _;(with_reducible repeat first|apply kn_|apply kd_|apply ka_);exact BK272.out) hb);replace BK278 := sd_ (blk_below (g := gb278) (o := .cells #[.int .i64 t275,.int .i64 t276] 25 (0,0)) (by (with_reducible repeat first|apply kn_|apply kd_|apply ka_);refine blk_far ?_ NB278_282.out _;(with_reducible repeat first|apply kn_|apply kd_|apply ka_);refine blk_far ?_ NB278_282.out _;(with_reducible repeat first|apply kn_|apply kd_|apply ka_);exact BK278.out) hb);replace BK282 := sd_ (blk_below (g := gb282) (o := .cells #[.int .i64 t279,.int .i64 t280] 25 (0,0)) (by (with_reducible repeat first|apply kn_|apply kd_|apply ka_);refine blk_put (cs := #[.int .i64 t279,.int .i64 0]) ?_ 1 _ rfl;(with_reducible repeat first|apply kn_|apply kd_|apply ka_);refine blk_put (cs := #[.int .i64 0,.int .i64 0]) ?_ 0 _ rfl;(with_reducible repeat first|apply kn_|apply kd_|apply ka_);exact BK282.out) hb);replace HB := hb_ HB (e_ GE267 (e_ GE268 (e_ GE272 (e_ GE278 (e_ GE282 e0_))))) hb;(try clear hb);(try clear hb2);(try clear hk);(try clear hi);(try clear ho0);have hcz111_0 : w110.cell? ⟨gb268,0,none⟩ = some (.int .i64 a1_0) := (kc_ BK268.out 0).trans rfl;have hcz111_1 : w110.cell? ⟨gb268,1,none⟩ = some (.int .i64 a1_1) := (kc_ BK268.out 1).trans rfl;have hfz111_0 := kf_ BK268.out 0;have hfz111_1 := kf_ BK268.out 1;obtain ⟨Ao112,co112,eo112⟩ := Kd.R_slice HO287.out;subst eo112)|((with_reducible refine gate_callee (f := 44) rfl ?_);refine goesL_ (some 61) rfl rfl Tryd.func44 (by kernel_rfl) rfl #[.slice Ao112 t285.length co112,.agg #[.int .i64 a1_0,.int .i64 a1_1],.func (.func 42) #[] #[]] rfl (by (try simp only [lm_,lq_,lx_]);first|done|rfl|(simp only [ld_,lt_];rfl)) ?_;(with_reducible refine (api_Rat.calls kj3 _ _ t285 a1_0 a1_1 () t289 false _ ?side1 ?side2 A66.out).mono ?_);(case side1 => repeat (first|exact (Kd.R_reads' HO287.out).2.2|(with_reducible refine Kd.C_alloc ?_ _)|(with_reducible refine Kd.C_drewN ?_ _)|(with_reducible refine Kd.C_drew ?_)));(case side2 => exact (Kd.R_reads' HO287.out).2.1);rintro e w113 ⟨rfl,hb⟩;refine ⟨_,rfl,?_⟩;replace HO287 := sd_ (Kd.R_below (by (with_reducible repeat (first|apply Kd.R_alloc|apply Kd.R_drewN|apply Kd.R_drew));exact HO287.out) hb);replace BK267 := kb_ BK267 hb;replace BK268 := kb_ BK268 hb;replace BK272 := kb_ BK272 hb;replace BK278 := kb_ BK278 hb;replace BK282 := kb_ BK282 hb;replace HB := hb_ HB (e_ GE267 (e_ GE268 (e_ GE272 (e_ GE278 (e_ GE282 e0_))))) hb;(try clear hb);(try clear hb2);(try clear hk);(try clear hi)))
      go_ret2
      exact ⟨by first|rfl|(simp [errW_none,errW_some] <;> rfl)|(simp [*,errW_none,errW_some] <;> rfl),by repeat (first|(with_reducible first|exact HB.out|apply ba_|apply pd_|apply d1_|refine bs_ ?_ GE267.out|refine bs_ ?_ GE268.out|refine bs_ ?_ GE272.out|refine bs_ ?_ GE278.out|refine bs_ ?_ GE282.out)|exact HB.out)⟩

/-! ### neumeref07_Same: function 29 -/
def neumeref07_Same.l0 : Nat → List (S23) → List (S23) → Int → Option (Bool)
 | 0, _, _, _ => none
 | k + 1, x0, x1, x5 => if x5 < (x0.length : Int) then (if 0 ≤ x5 then (if x5 < (x1.length : Int) then (if (!(((rd_T23 x0 x5).f0) == ((rd_T23 x1 x5).f0)) || (!(((rd_T23 x0 x5).f1) == ((rd_T23 x1 x5).f1)))) = true then (some false) else (neumeref07_Same.l0 k x0 x1 (wrap64 (x5 + 1)))) else (none)) else (none)) else (some true)
def neumeref07_Same.f (k : Nat) (l0 : List (S23)) (l1 : List (S23)) : Option (Bool) := if (l0.length : Int) = (l1.length : Int) then (neumeref07_Same.l0 k l0 l1 0) else (some false)
theorem neumeref07_Same.mono_l : ∀ k, (∀ y0 y1 y2, LeO (neumeref07_Same.l0 k y0 y1 y2) (neumeref07_Same.l0 (k + 1) y0 y1 y2))
 | 0 => fun _ _ _ r h => by simp [neumeref07_Same.l0] at h
 | k + 1 => by
  have ih0 := neumeref07_Same.mono_l k
  ·intro y0 y1 y2
   unfold neumeref07_Same.l0
   repeat' first
   | (with_reducible exact ih0 _ _ _)
   | (with_reducible exact LeO.refl _)
   | (with_reducible exact LeO.none _)
   | (with_reducible refine LeO.ite ?_ ?_)
   | (with_reducible refine LeO.bind ?_ (fun _ => ?_))
   | exact ih0 _ _ _
   | exact LeO.none _
   | refine LeO.ite ?_ ?_
   | refine LeO.bind ?_ (fun _ => ?_)
theorem neumeref07_Same.mono : ∀ a0 a1 k, LeO (neumeref07_Same.f k a0 a1) (neumeref07_Same.f (k + 1) a0 a1) := by
 intro a0 a1 k
 have ih0 := neumeref07_Same.mono_l k
 unfold neumeref07_Same.f
 repeat' first
   | (with_reducible exact ih0 _ _ _)
   | (with_reducible exact LeO.refl _)
   | (with_reducible exact LeO.none _)
   | (with_reducible refine LeO.ite ?_ ?_)
   | (with_reducible refine LeO.bind ?_ (fun _ => ?_))
   | exact ih0 _ _ _
   | exact LeO.none _
   | refine LeO.ite ?_ ?_
   | refine LeO.bind ?_ (fun _ => ?_)
set_option maxHeartbeats 8000000 in
set_option maxRecDepth 100000 in
theorem neumeref07_Same.calls (k : Nat) (A0 : Option Addr) (c0 : Nat) (l0 : List (S23)) (A1 : Option Addr) (c1 : Nat) (l1 : List (S23)) (r : Bool) (w : World) (hr0 : Kd.C k23 w A0 l0.length l0) (hc0 : l0.length ≤ c0) (hr1 : Kd.C k23 w A1 l1.length l1) (hc1 : l1.length ≤ c1) (h : neumeref07_Same.f k l0 l1 = some r) :
  Calls Tryd.prog 29 #[.slice A0 l0.length c0,.slice A1 l1.length c1] w fun e w' => e = .returned (.bool r) ∧ Drawn0 w w' := by
 have hu23 := Tryd.underlying23
 have HR0 := sd_ hr0
 have HC0 := sd_ hc0
 clear hr0 hc0
 have HR1 := sd_ hr1
 have HC1 := sd_ hc1
 clear hr1 hc1
 have H : (if (l0.length : Int) = (l1.length : Int) then (neumeref07_Same.l0 k l0 l1 0) else (some false)) = some r := h
 clear h
 by_cases c3 : (l0.length : Int) = (l1.length : Int)
 ·rw [if_pos c3] at H
  have c3b0 : ((l0.length : Int) == (l1.length : Int)) = true := beq_iff_eq.mpr c3
  have c3b1 : ((l0.length : Int) != (l1.length : Int)) = false := bne_eq_false_iff_eq.mpr c3
  have c3b2 : (l0.length == l1.length) = true := by first|simpa using c3|(simp at c3 ⊢;omega)
  clear c3
  have H' := sd_ H
  clear H
  go_enter Tryd.func29,Tryd.ntmps29
  go_wp2
  repeat (go_quiet (fail);try go_wp2)
  go_loopg [5] k (fun kq v5 w' => ∃ (x5_1 : Int),v5 = .int .i64 x5_1 ∧ Aside0 (neumeref07_Same.l0 kq l0 l1 x5_1 = some r) ∧ Aside0 (kq ≤ k) ∧ Drawn0 w w')
  case atStart => exact ⟨(0),(by first|rfl|(simp;done)|(simp [*];done)|(simp [bne];done)),H',⟨Nat.le_refl _⟩,by repeat (first|exact Drawn0.refl _|apply Drawn0.step)⟩
  case round =>
   clear H'
   try clear c1;try clear c2;try clear p2;try clear c3;try clear c3b0;try clear c3b1;try clear c3b2
   obtain ⟨x5_1,rfl,HA,HK1,⟨m1,rfl⟩⟩ := hrel
   cases gk with
   | zero => exact absurd HA.out (by simp [neumeref07_Same.l0])
   | succ k1 =>
    have H := HA.out
    clear HA
    simp only [neumeref07_Same.l0] at H
    by_cases c4 : x5_1 < (l0.length : Int)
    ·rw [if_pos c4] at H
     have c4b0 : decide (x5_1 < (l0.length : Int)) = true := dt_ c4
     clear c4
     by_cases c5 : 0 ≤ x5_1
     ·rw [if_pos c5] at H
      have c5b0 : decide (0 ≤ x5_1) = true := dt_ c5
      clear c5
      by_cases c6 : x5_1 < (l1.length : Int)
      ·rw [if_pos c6] at H
       have c6b0 : decide (x5_1 < (l1.length : Int)) = true := dt_ c6
       clear c6
       by_cases c7 : (!(((rd_T23 l0 x5_1).f0) == ((rd_T23 l1 x5_1).f0)) || (!(((rd_T23 l0 x5_1).f1) == ((rd_T23 l1 x5_1).f1)))) = true
       ·rw [if_pos c7] at H
        have c7b0 : (!(((rd_T23 l0 x5_1).f0) == ((rd_T23 l1 x5_1).f0)) || (!(((rd_T23 l0 x5_1).f1) == ((rd_T23 l1 x5_1).f1)))) = true := c7
        clear c7
        obtain rfl := Option.some.inj H
        have p291 : 0 ≤ (x5_1 : Int) := od_ (by first|(with_reducible assumption)|assumption)
        have q291 : x5_1 < (l0.length : Int) := od_ (by first|(with_reducible assumption)|assumption)
        obtain ⟨ad291,e291,hx291_0,hx291_1⟩ := at_T23 HR0.out x5_1 p291 q291
        cases e291
        replace p291 := eq_true p291
        replace q291 := eq_true q291
        have p292 : 0 ≤ (x5_1 : Int) := od_ (by first|(with_reducible assumption)|assumption)
        have q292 : x5_1 < (l1.length : Int) := od_ (by first|(with_reducible assumption)|assumption)
        obtain ⟨ad292,e292,hx292_0,hx292_1⟩ := at_T23 HR1.out x5_1 p292 q292
        cases e292
        replace p292 := eq_true p292
        replace q292 := eq_true q292
        go_wp2
        repeat (go_quiet (fail);try go_wp2)
        go_ret
        exact ⟨by first|rfl|(simp;done)|(simp [*];done),by repeat (first|exact Drawn0.refl _|apply Drawn0.step)⟩
       ·rw [if_neg c7] at H
        have c7b0 : (!(((rd_T23 l0 x5_1).f0) == ((rd_T23 l1 x5_1).f0)) || (!(((rd_T23 l0 x5_1).f1) == ((rd_T23 l1 x5_1).f1)))) = false := by simpa using c7
        clear c7
        have H' := sd_ H
        clear H
        have p291 : 0 ≤ (x5_1 : Int) := od_ (by first|(with_reducible assumption)|assumption)
        have q291 : x5_1 < (l0.length : Int) := od_ (by first|(with_reducible assumption)|assumption)
        obtain ⟨ad291,e291,hx291_0,hx291_1⟩ := at_T23 HR0.out x5_1 p291 q291
        cases e291
        replace p291 := eq_true p291
        replace q291 := eq_true q291
        have p292 : 0 ≤ (x5_1 : Int) := od_ (by first|(with_reducible assumption)|assumption)
        have q292 : x5_1 < (l1.length : Int) := od_ (by first|(with_reducible assumption)|assumption)
        obtain ⟨ad292,e292,hx292_0,hx292_1⟩ := at_T23 HR1.out x5_1 p292 q292
        cases e292
        replace p292 := eq_true p292
        replace q292 := eq_true q292
        go_wp2
        repeat (go_quiet (fail);try go_wp2)
        go_roundg k1
        case measure => have := HK1.out;omega
        case rel => exact ⟨(wrap64 (x5_1 + 1)),(by first|rfl|(simp;done)|(simp [*];done)|(simp [bne];done)),H',⟨by have := HK1.out;omega⟩,by repeat (first|exact Drawn0.refl _|apply Drawn0.step)⟩
      ·rw [if_neg c6] at H
       exact absurd H (by simp)
     ·rw [if_neg c5] at H
      exact absurd H (by simp)
    ·rw [if_neg c4] at H
     have c4b0 : decide (x5_1 < (l0.length : Int)) = false := df_ c4
     clear c4
     obtain rfl := Option.some.inj H
     go_wp2
     repeat (go_quiet (fail);try go_wp2)
     go_ret
     exact ⟨by first|rfl|(simp;done)|(simp [*];done),by repeat (first|exact Drawn0.refl _|apply Drawn0.step)⟩
 ·rw [if_neg c3] at H
  have c3b0 : ((l0.length : Int) == (l1.length : Int)) = false := beq_eq_false_iff_ne.mpr c3
  have c3b1 : ((l0.length : Int) != (l1.length : Int)) = true := bne_iff_ne.mpr c3
  have c3b2 : (l0.length == l1.length) = false := by first|simpa using c3|(simp at c3 ⊢;omega)
  obtain rfl := Option.some.inj H
  go_enter Tryd.func29,Tryd.ntmps29
  go_wp2
  repeat (go_quiet (fail);try go_wp2)
  go_ret
  exact ⟨by first|rfl|(simp;done)|(simp [*];done),by repeat (first|exact Drawn0.refl _|apply Drawn0.step)⟩

/-! ### neumeref07_Rats: function 30 -/
def neumeref07_Rats.l0 : Nat → List (S25) → List (S25) → Int → Option (Bool)
 | 0, _, _, _ => none
 | k + 1, x0, x1, x5 => if x5 < (x0.length : Int) then (if 0 ≤ x5 then (if x5 < (x1.length : Int) then (if (!(((rd_T25 x0 x5).f0) == ((rd_T25 x1 x5).f0)) || (!(((rd_T25 x0 x5).f1) == ((rd_T25 x1 x5).f1)))) = true then (some false) else (neumeref07_Rats.l0 k x0 x1 (wrap64 (x5 + 1)))) else (none)) else (none)) else (some true)
def neumeref07_Rats.f (k : Nat) (l0 : List (S25)) (l1 : List (S25)) : Option (Bool) := if (l0.length : Int) = (l1.length : Int) then (neumeref07_Rats.l0 k l0 l1 0) else (some false)
theorem neumeref07_Rats.mono_l : ∀ k, (∀ y0 y1 y2, LeO (neumeref07_Rats.l0 k y0 y1 y2) (neumeref07_Rats.l0 (k + 1) y0 y1 y2))
 | 0 => fun _ _ _ r h => by simp [neumeref07_Rats.l0] at h
 | k + 1 => by
  have ih0 := neumeref07_Rats.mono_l k
  ·intro y0 y1 y2
   unfold neumeref07_Rats.l0
   repeat' first
   | (with_reducible exact ih0 _ _ _)
   | (with_reducible exact LeO.refl _)
   | (with_reducible exact LeO.none _)
   | (with_reducible refine LeO.ite ?_ ?_)
   | (with_reducible refine LeO.bind ?_ (fun _ => ?_))
   | exact ih0 _ _ _
   | exact LeO.none _
   | refine LeO.ite ?_ ?_
   | refine LeO.bind ?_ (fun _ => ?_)
theorem neumeref07_Rats.mono : ∀ a0 a1 k, LeO (neumeref07_Rats.f k a0 a1) (neumeref07_Rats.f (k + 1) a0 a1) := by
 intro a0 a1 k
 have ih0 := neumeref07_Rats.mono_l k
 unfold neumeref07_Rats.f
 repeat' first
   | (with_reducible exact ih0 _ _ _)
   | (with_reducible exact LeO.refl _)
   | (with_reducible exact LeO.none _)
   | (with_reducible refine LeO.ite ?_ ?_)
   | (with_reducible refine LeO.bind ?_ (fun _ => ?_))
   | exact ih0 _ _ _
   | exact LeO.none _
   | refine LeO.ite ?_ ?_
   | refine LeO.bind ?_ (fun _ => ?_)
set_option maxHeartbeats 8000000 in
set_option maxRecDepth 100000 in
theorem neumeref07_Rats.calls (k : Nat) (A0 : Option Addr) (c0 : Nat) (l0 : List (S25)) (A1 : Option Addr) (c1 : Nat) (l1 : List (S25)) (r : Bool) (w : World) (hr0 : Kd.C k25 w A0 l0.length l0) (hc0 : l0.length ≤ c0) (hr1 : Kd.C k25 w A1 l1.length l1) (hc1 : l1.length ≤ c1) (h : neumeref07_Rats.f k l0 l1 = some r) :
  Calls Tryd.prog 30 #[.slice A0 l0.length c0,.slice A1 l1.length c1] w fun e w' => e = .returned (.bool r) ∧ Drawn0 w w' := by
 have hu25 := Tryd.underlying25
 have HR0 := sd_ hr0
 have HC0 := sd_ hc0
 clear hr0 hc0
 have HR1 := sd_ hr1
 have HC1 := sd_ hc1
 clear hr1 hc1
 have H : (if (l0.length : Int) = (l1.length : Int) then (neumeref07_Rats.l0 k l0 l1 0) else (some false)) = some r := h
 clear h
 by_cases c3 : (l0.length : Int) = (l1.length : Int)
 ·rw [if_pos c3] at H
  have c3b0 : ((l0.length : Int) == (l1.length : Int)) = true := beq_iff_eq.mpr c3
  have c3b1 : ((l0.length : Int) != (l1.length : Int)) = false := bne_eq_false_iff_eq.mpr c3
  have c3b2 : (l0.length == l1.length) = true := by first|simpa using c3|(simp at c3 ⊢;omega)
  clear c3
  have H' := sd_ H
  clear H
  go_enter Tryd.func30,Tryd.ntmps30
  go_wp2
  repeat (go_quiet (fail);try go_wp2)
  go_loopg [5] k (fun kq v5 w' => ∃ (x5_1 : Int),v5 = .int .i64 x5_1 ∧ Aside0 (neumeref07_Rats.l0 kq l0 l1 x5_1 = some r) ∧ Aside0 (kq ≤ k) ∧ Drawn0 w w')
  case atStart => exact ⟨(0),(by first|rfl|(simp;done)|(simp [*];done)|(simp [bne];done)),H',⟨Nat.le_refl _⟩,by repeat (first|exact Drawn0.refl _|apply Drawn0.step)⟩
  case round =>
   clear H'
   try clear c1;try clear p2;try clear c3;try clear c3b0;try clear c3b1;try clear c3b2
   obtain ⟨x5_1,rfl,HA,HK1,⟨m1,rfl⟩⟩ := hrel
   cases gk with
   | zero => exact absurd HA.out (by simp [neumeref07_Rats.l0])
   | succ k1 =>
    have H := HA.out
    clear HA
    simp only [neumeref07_Rats.l0] at H
    by_cases c4 : x5_1 < (l0.length : Int)
    ·rw [if_pos c4] at H
     have c4b0 : decide (x5_1 < (l0.length : Int)) = true := dt_ c4
     clear c4
     by_cases c5 : 0 ≤ x5_1
     ·rw [if_pos c5] at H
      have c5b0 : decide (0 ≤ x5_1) = true := dt_ c5
      clear c5
      by_cases c6 : x5_1 < (l1.length : Int)
      ·rw [if_pos c6] at H
       have c6b0 : decide (x5_1 < (l1.length : Int)) = true := dt_ c6
       clear c6
       by_cases c7 : (!(((rd_T25 l0 x5_1).f0) == ((rd_T25 l1 x5_1).f0)) || (!(((rd_T25 l0 x5_1).f1) == ((rd_T25 l1 x5_1).f1)))) = true
       ·rw [if_pos c7] at H
        have c7b0 : (!(((rd_T25 l0 x5_1).f0) == ((rd_T25 l1 x5_1).f0)) || (!(((rd_T25 l0 x5_1).f1) == ((rd_T25 l1 x5_1).f1)))) = true := c7
        clear c7
        obtain rfl := Option.some.inj H
        have p293 : 0 ≤ (x5_1 : Int) := od_ (by first|(with_reducible assumption)|assumption)
        have q293 : x5_1 < (l0.length : Int) := od_ (by first|(with_reducible assumption)|assumption)
        obtain ⟨ad293,e293,hx293_0,hx293_1⟩ := at_T25 HR0.out x5_1 p293 q293
        cases e293
        replace p293 := eq_true p293
        replace q293 := eq_true q293
        have p294 : 0 ≤ (x5_1 : Int) := od_ (by first|(with_reducible assumption)|assumption)
        have q294 : x5_1 < (l1.length : Int) := od_ (by first|(with_reducible assumption)|assumption)
        obtain ⟨ad294,e294,hx294_0,hx294_1⟩ := at_T25 HR1.out x5_1 p294 q294
        cases e294
        replace p294 := eq_true p294
        replace q294 := eq_true q294
        go_wp2
        repeat (go_quiet (fail);try go_wp2)
        go_ret
        exact ⟨by first|rfl|(simp;done)|(simp [*];done),by repeat (first|exact Drawn0.refl _|apply Drawn0.step)⟩
       ·rw [if_neg c7] at H
        have c7b0 : (!(((rd_T25 l0 x5_1).f0) == ((rd_T25 l1 x5_1).f0)) || (!(((rd_T25 l0 x5_1).f1) == ((rd_T25 l1 x5_1).f1)))) = false := by simpa using c7
        clear c7
        have H' := sd_ H
        clear H
        have p293 : 0 ≤ (x5_1 : Int) := od_ (by first|(with_reducible assumption)|assumption)
        have q293 : x5_1 < (l0.length : Int) := od_ (by first|(with_reducible assumption)|assumption)
        obtain ⟨ad293,e293,hx293_0,hx293_1⟩ := at_T25 HR0.out x5_1 p293 q293
        cases e293
        replace p293 := eq_true p293
        replace q293 := eq_true q293
        have p294 : 0 ≤ (x5_1 : Int) := od_ (by first|(with_reducible assumption)|assumption)
        have q294 : x5_1 < (l1.length : Int) := od_ (by first|(with_reducible assumption)|assumption)
        obtain ⟨ad294,e294,hx294_0,hx294_1⟩ := at_T25 HR1.out x5_1 p294 q294
        cases e294
        replace p294 := eq_true p294
        replace q294 := eq_true q294
        go_wp2
        repeat (go_quiet (fail);try go_wp2)
        go_roundg k1
        case measure => have := HK1.out;omega
        case rel => exact ⟨(wrap64 (x5_1 + 1)),(by first|rfl|(simp;done)|(simp [*];done)|(simp [bne];done)),H',⟨by have := HK1.out;omega⟩,by repeat (first|exact Drawn0.refl _|apply Drawn0.step)⟩
      ·rw [if_neg c6] at H
       exact absurd H (by simp)
     ·rw [if_neg c5] at H
      exact absurd H (by simp)
    ·rw [if_neg c4] at H
     have c4b0 : decide (x5_1 < (l0.length : Int)) = false := df_ c4
     clear c4
     obtain rfl := Option.some.inj H
     go_wp2
     repeat (go_quiet (fail);try go_wp2)
     go_ret
     exact ⟨by first|rfl|(simp;done)|(simp [*];done),by repeat (first|exact Drawn0.refl _|apply Drawn0.step)⟩
 ·rw [if_neg c3] at H
  have c3b0 : ((l0.length : Int) == (l1.length : Int)) = false := beq_eq_false_iff_ne.mpr c3
  have c3b1 : ((l0.length : Int) != (l1.length : Int)) = true := bne_iff_ne.mpr c3
  have c3b2 : (l0.length == l1.length) = false := by first|simpa using c3|(simp at c3 ⊢;omega)
  obtain rfl := Option.some.inj H
  go_enter Tryd.func30,Tryd.ntmps30
  go_wp2
  repeat (go_quiet (fail);try go_wp2)
  go_ret
  exact ⟨by first|rfl|(simp;done)|(simp [*];done),by repeat (first|exact Drawn0.refl _|apply Drawn0.step)⟩

/-! ### dur_Head: function 31 -/
def dur_Head.f (a0_0 : Int) (a0_1 : Int) : Option (Int) := (dur_Check.f a0_0 a0_1).bind fun t296 => (if t296 = true then (some (mn 4 (wrap64 (2 + a0_0)))) else (some 0))
set_option maxHeartbeats 8000000 in
set_option maxRecDepth 100000 in
theorem dur_Head.calls (a0_0 : Int) (a0_1 : Int) (r : Int) (w : World) (h : dur_Head.f a0_0 a0_1 = some r) :
  Calls Tryd.prog 31 #[.agg #[.int .i64 a0_0,.int .i64 a0_1]] w fun e w' => e = .returned (.int .i64 r) ∧ Below w.heap.size w w' := by
 have hu23 := Tryd.underlying23
 have HB := sd_ (Below.refl w.heap.size w)
 have H : ((dur_Check.f a0_0 a0_1).bind fun t296 => (if t296 = true then (some (mn 4 (wrap64 (2 + a0_0)))) else (some 0))) = some r := h
 clear h
 replace H := ob_ H
 obtain ⟨t296,A20,H⟩ := H
 replace H : (if t296 = true then (some (mn 4 (wrap64 (2 + a0_0)))) else (some 0)) = some r := H
 have A2 := sd_ A20
 clear A20
 by_cases c3 : t296 = true
 ·subst c3
  have H1 : (some (mn 4 (wrap64 (2 + a0_0)))) = some r := by rw [if_pos rfl] at H;exact H
  clear H;have H := H1;clear H1
  obtain ⟨ji4,hji4⟩ : ∃ j_ : Int,(mn 4 (wrap64 (2 + a0_0))) = j_ := ⟨_,rfl⟩
  replace H : (some ji4) = some r := by first|(rw [hji4] at H;exact H)|(simp only [hji4] at H ⊢;exact H)
  (try rw [hji4] at A2)
  (try (have hji4h : ji4 ≤ 4 := by (rw [← hji4];unfold mn;(repeat' split) <;> omega)))
  (try (have hji4g : ji4 ≤ 64 := by omega))
  have hji4_ : (if (wrap64 (2 + a0_0)) < 4 then (wrap64 (2 + a0_0)) else 4) = ji4 := hji4
  obtain rfl := Option.some.inj H
  go_enter Tryd.func31,Tryd.ntmps31
  go_wp2_with (first|((with_reducible refine gate_dst (N := 1) rfl ?_);refine box_event ?hg (N := 1) ?hd (cs := #[.int .i64 a0_0,.int .i64 a0_1]) (t := 23) ?hr ?_;(case hd => rfl);(case hg => rfl);(case hr => first|(go_simp;done)|(go_simp;rfl));intro gb295 hg w5 hbox hb;have BK295 := sd_ hbox;have GW295 := gw_ HB e0_ hg;have GE295 := GW295;replace HB := hb_ HB e0_ hb;clear hb hbox hg;have hcz6_0 : w5.cell? ⟨gb295,0,none⟩ = some (.int .i64 a0_0) := (kc_ BK295.out 0).trans rfl;have hcz6_1 : w5.cell? ⟨gb295,1,none⟩ = some (.int .i64 a0_1) := (kc_ BK295.out 1).trans rfl;have hfz6_0 := kf_ BK295.out 0;have hfz6_1 := kf_ BK295.out 1)|((with_reducible refine gate_callee (f := 7) rfl ?_);refine goesL_ (some 4) rfl rfl Tryd.func7 (by kernel_rfl) rfl #[.agg #[.int .i64 a0_0,.int .i64 a0_1]] rfl (by (try simp only [lm_,lq_,lx_]);first|done|rfl|(simp only [ld_,lt_];rfl)) ?_;(with_reducible refine (dur_Check.calls a0_0 a0_1 true _ A2.out).mono ?_);rintro e w7 ⟨rfl,hb⟩;refine ⟨_,rfl,?_⟩;replace BK295 := kb_ BK295 hb;replace HB := hb_ HB (e_ GE295 e0_) hb;(try clear hb);(try clear hb2);(try clear hk);(try clear hi);have hcz8_0 : w7.cell? ⟨gb295,0,none⟩ = some (.int .i64 a0_0) := (kc_ BK295.out 0).trans rfl;have hcz8_1 : w7.cell? ⟨gb295,1,none⟩ = some (.int .i64 a0_1) := (kc_ BK295.out 1).trans rfl;have hfz8_0 := kf_ BK295.out 0;have hfz8_1 := kf_ BK295.out 1))
  go_ret
  exact ⟨by first|rfl|(simp [errW_none,errW_some] <;> rfl)|(simp only [← hji4];first|rfl|(simp [errW_none,errW_some] <;> rfl))|(simp [*,errW_none,errW_some] <;> rfl),by repeat (first|(with_reducible first|exact HB.out|apply ba_|apply pd_|apply d1_|refine bs_ ?_ GE295.out)|exact HB.out)⟩
 ·replace c3 := bf_ c3
  subst c3
  have H1 : (some 0) = some r := by rw [if_neg (show ¬ (false = true) by decide)] at H;exact H
  clear H;have H := H1;clear H1
  obtain rfl := Option.some.inj H
  go_enter Tryd.func31,Tryd.ntmps31
  go_wp2_with (first|((with_reducible refine gate_dst (N := 1) rfl ?_);refine box_event ?hg (N := 1) ?hd (cs := #[.int .i64 a0_0,.int .i64 a0_1]) (t := 23) ?hr ?_;(case hd => rfl);(case hg => rfl);(case hr => first|(go_simp;done)|(go_simp;rfl));intro gb295 hg w9 hbox hb;have BK295 := sd_ hbox;have GW295 := gw_ HB e0_ hg;have GE295 := GW295;replace HB := hb_ HB e0_ hb;clear hb hbox hg;have hcz10_0 : w9.cell? ⟨gb295,0,none⟩ = some (.int .i64 a0_0) := (kc_ BK295.out 0).trans rfl;have hcz10_1 : w9.cell? ⟨gb295,1,none⟩ = some (.int .i64 a0_1) := (kc_ BK295.out 1).trans rfl;have hfz10_0 := kf_ BK295.out 0;have hfz10_1 := kf_ BK295.out 1)|((with_reducible refine gate_callee (f := 7) rfl ?_);refine goesL_ (some 4) rfl rfl Tryd.func7 (by kernel_rfl) rfl #[.agg #[.int .i64 a0_0,.int .i64 a0_1]] rfl (by (try simp only [lm_,lq_,lx_]);first|done|rfl|(simp only [ld_,lt_];rfl)) ?_;(with_reducible refine (dur_Check.calls a0_0 a0_1 false _ A2.out).mono ?_);rintro e w11 ⟨rfl,hb⟩;refine ⟨_,rfl,?_⟩;replace BK295 := kb_ BK295 hb;replace HB := hb_ HB (e_ GE295 e0_) hb;(try clear hb);(try clear hb2);(try clear hk);(try clear hi)))
  go_ret
  exact ⟨by first|rfl|(simp [errW_none,errW_some] <;> rfl)|(simp [*,errW_none,errW_some] <;> rfl),by repeat (first|(with_reducible first|exact HB.out|apply ba_|apply pd_|apply d1_|refine bs_ ?_ GE295.out)|exact HB.out)⟩

/-! ### dur_Rest: function 32 -/
def dur_Rest.f (a0_0 : Int) (a0_1 : Int) : Option (Int) := (dur_Check.f a0_0 a0_1).bind fun t298 => (if t298 = true then (some (wrap64 (6 + a0_0))) else (some 0))
set_option maxHeartbeats 8000000 in
set_option maxRecDepth 100000 in
theorem dur_Rest.calls (a0_0 : Int) (a0_1 : Int) (r : Int) (w : World) (h : dur_Rest.f a0_0 a0_1 = some r) :
  Calls Tryd.prog 32 #[.agg #[.int .i64 a0_0,.int .i64 a0_1]] w fun e w' => e = .returned (.int .i64 r) ∧ Below w.heap.size w w' := by
 have hu23 := Tryd.underlying23
 have HB := sd_ (Below.refl w.heap.size w)
 have H : ((dur_Check.f a0_0 a0_1).bind fun t298 => (if t298 = true then (some (wrap64 (6 + a0_0))) else (some 0))) = some r := h
 clear h
 replace H := ob_ H
 obtain ⟨t298,A20,H⟩ := H
 replace H : (if t298 = true then (some (wrap64 (6 + a0_0))) else (some 0)) = some r := H
 have A2 := sd_ A20
 clear A20
 by_cases c3 : t298 = true
 ·subst c3
  have H1 : (some (wrap64 (6 + a0_0))) = some r := by rw [if_pos rfl] at H;exact H
  clear H;have H := H1;clear H1
  obtain rfl := Option.some.inj H
  go_enter Tryd.func32,Tryd.ntmps32
  go_wp2_with (first|((with_reducible refine gate_dst (N := 1) rfl ?_);refine box_event ?hg (N := 1) ?hd (cs := #[.int .i64 a0_0,.int .i64 a0_1]) (t := 23) ?hr ?_;(case hd => rfl);(case hg => rfl);(case hr => first|(go_simp;done)|(go_simp;rfl));intro gb297 hg w4 hbox hb;have BK297 := sd_ hbox;have GW297 := gw_ HB e0_ hg;have GE297 := GW297;replace HB := hb_ HB e0_ hb;clear hb hbox hg;have hcz5_0 : w4.cell? ⟨gb297,0,none⟩ = some (.int .i64 a0_0) := (kc_ BK297.out 0).trans rfl;have hcz5_1 : w4.cell? ⟨gb297,1,none⟩ = some (.int .i64 a0_1) := (kc_ BK297.out 1).trans rfl;have hfz5_0 := kf_ BK297.out 0;have hfz5_1 := kf_ BK297.out 1)|((with_reducible refine gate_callee (f := 7) rfl ?_);refine goesL_ (some 4) rfl rfl Tryd.func7 (by kernel_rfl) rfl #[.agg #[.int .i64 a0_0,.int .i64 a0_1]] rfl (by (try simp only [lm_,lq_,lx_]);first|done|rfl|(simp only [ld_,lt_];rfl)) ?_;(with_reducible refine (dur_Check.calls a0_0 a0_1 true _ A2.out).mono ?_);rintro e w6 ⟨rfl,hb⟩;refine ⟨_,rfl,?_⟩;replace BK297 := kb_ BK297 hb;replace HB := hb_ HB (e_ GE297 e0_) hb;(try clear hb);(try clear hb2);(try clear hk);(try clear hi);have hcz7_0 : w6.cell? ⟨gb297,0,none⟩ = some (.int .i64 a0_0) := (kc_ BK297.out 0).trans rfl;have hcz7_1 : w6.cell? ⟨gb297,1,none⟩ = some (.int .i64 a0_1) := (kc_ BK297.out 1).trans rfl;have hfz7_0 := kf_ BK297.out 0;have hfz7_1 := kf_ BK297.out 1))
  go_ret
  exact ⟨by first|rfl|(simp [errW_none,errW_some] <;> rfl)|(simp [*,errW_none,errW_some] <;> rfl),by repeat (first|(with_reducible first|exact HB.out|apply ba_|apply pd_|apply d1_|refine bs_ ?_ GE297.out)|exact HB.out)⟩
 ·replace c3 := bf_ c3
  subst c3
  have H1 : (some 0) = some r := by rw [if_neg (show ¬ (false = true) by decide)] at H;exact H
  clear H;have H := H1;clear H1
  obtain rfl := Option.some.inj H
  go_enter Tryd.func32,Tryd.ntmps32
  go_wp2_with (first|((with_reducible refine gate_dst (N := 1) rfl ?_);refine box_event ?hg (N := 1) ?hd (cs := #[.int .i64 a0_0,.int .i64 a0_1]) (t := 23) ?hr ?_;(case hd => rfl);(case hg => rfl);(case hr => first|(go_simp;done)|(go_simp;rfl));intro gb297 hg w8 hbox hb;have BK297 := sd_ hbox;have GW297 := gw_ HB e0_ hg;have GE297 := GW297;replace HB := hb_ HB e0_ hb;clear hb hbox hg;have hcz9_0 : w8.cell? ⟨gb297,0,none⟩ = some (.int .i64 a0_0) := (kc_ BK297.out 0).trans rfl;have hcz9_1 : w8.cell? ⟨gb297,1,none⟩ = some (.int .i64 a0_1) := (kc_ BK297.out 1).trans rfl;have hfz9_0 := kf_ BK297.out 0;have hfz9_1 := kf_ BK297.out 1)|((with_reducible refine gate_callee (f := 7) rfl ?_);refine goesL_ (some 4) rfl rfl Tryd.func7 (by kernel_rfl) rfl #[.agg #[.int .i64 a0_0,.int .i64 a0_1]] rfl (by (try simp only [lm_,lq_,lx_]);first|done|rfl|(simp only [ld_,lt_];rfl)) ?_;(with_reducible refine (dur_Check.calls a0_0 a0_1 false _ A2.out).mono ?_);rintro e w10 ⟨rfl,hb⟩;refine ⟨_,rfl,?_⟩;replace BK297 := kb_ BK297 hb;replace HB := hb_ HB (e_ GE297 e0_) hb;(try clear hb);(try clear hb2);(try clear hk);(try clear hi)))
  go_ret
  exact ⟨by first|rfl|(simp [errW_none,errW_some] <;> rfl)|(simp [*,errW_none,errW_some] <;> rfl),by repeat (first|(with_reducible first|exact HB.out|apply ba_|apply pd_|apply d1_|refine bs_ ?_ GE297.out)|exact HB.out)⟩

end Go.Proofs.YtdiccfonlojlfaaDoor.P
