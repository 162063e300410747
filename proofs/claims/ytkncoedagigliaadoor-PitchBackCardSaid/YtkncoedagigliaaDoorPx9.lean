-- Written by a program of this session (wip/tools/xprint.py, over the kit's print): Lean checks it.
import Derived.Test.YtkncoedagigliaaDoorPx0
import Derived.Test.YtkncoedagigliaaDoorPx1
import Derived.Test.YtkncoedagigliaaDoorPx2
import Derived.Test.YtkncoedagigliaaDoorPx3
import Derived.Test.YtkncoedagigliaaDoorPx5
namespace Go.Proofs.YtkncoedagigliaaDoor.P
open Go.RowKit Go.Proofs.YtkncoedagigliaaDoorW.PrintWords Go.Proofs.YtkncoedagigliaaDoorW.PrintLast Go.Proofs.YtkncoedagigliaaDoorW.PrintMore
attribute [local go_sem] max2_int min2_int max_two min_two max_three min_three max_four min_four   -- for this text's walks alone
set_option linter.unusedVariables false
set_option linter.unusedSimpArgs false

attribute [local go_sem high] eqA23
/-! ### neumelaw06_PitchBack: function 4 -/
def neumelaw06_PitchBack.j0 : Nat → Int → Bool → Int → Int → Int → Option (Bool)
 | 0, _, _, _, _, _ => none
 | k + 1, x1, x28, x285000, x285001, x285002 => if x28 = true then (some false) else ((pitch_Place.f x285000 x285001 x285002 x1).bind fun bt292 => (if bt292.2 = 0 then ((pitch_At.f bt292.1 x1).bind fun bt294 => (if bt294.2.2.2 = 0 then (if bt294.1 = x285000 then (if bt294.2.2.1 = x285002 then (if bt294.2.1 = 0 then ((neumelaw06_heads.f k).bind fun t299 => (some t299)) else (some false)) else (some false)) else (some false)) else (some false))) else ((neumelaw06_heads.f k).bind fun t300 => (some t300))))
def neumelaw06_PitchBack.f (k : Nat) (a0_0 : Int) (a0_1 : Int) (a0_2 : Int) (a1 : Int) : Option (Bool) := (pitch_Name.f a0_0 a0_1 a0_2).bind fun t285 => ((pitch_Parse.f t285).bind fun bt286 => ((pitch_Check.f a0_0 a0_1 a0_2).bind fun t291 => (if (bt286.2.2.2 != t291) = true then (neumelaw06_PitchBack.j0 k a1 true a0_0 a0_1 a0_2) else (if bt286.2.2.2 = true then (neumelaw06_PitchBack.j0 k a1 (!(bt286.1 == a0_0) || (!(bt286.2.1 == a0_1) || (!(bt286.2.2.1 == a0_2)))) a0_0 a0_1 a0_2) else (neumelaw06_PitchBack.j0 k a1 false a0_0 a0_1 a0_2)))))
theorem neumelaw06_PitchBack.mono_l : ∀ k, (∀ y0 y1 y2 y3 y4, LeO (neumelaw06_PitchBack.j0 k y0 y1 y2 y3 y4) (neumelaw06_PitchBack.j0 (k + 1) y0 y1 y2 y3 y4))
 | 0 => fun _ _ _ _ _ r h => by simp [neumelaw06_PitchBack.j0] at h
 | k + 1 => by
  have ih0 := neumelaw06_PitchBack.mono_l k
  ·intro y0 y1 y2 y3 y4
   unfold neumelaw06_PitchBack.j0
   repeat' first
   | (with_reducible exact ih0 _ _ _ _ _)
   | (with_reducible exact neumelaw06_heads.mono _)
   | (with_reducible exact LeO.refl _)
   | (with_reducible exact LeO.none _)
   | (with_reducible refine LeO.ite ?_ ?_)
   | (with_reducible refine LeO.bind ?_ (fun _ => ?_))
   | exact ih0 _ _ _ _ _
   | exact neumelaw06_heads.mono _
   | exact LeO.none _
   | refine LeO.ite ?_ ?_
   | refine LeO.bind ?_ (fun _ => ?_)
theorem neumelaw06_PitchBack.mono : ∀ a0 a1 a2 a3 k, LeO (neumelaw06_PitchBack.f k a0 a1 a2 a3) (neumelaw06_PitchBack.f (k + 1) a0 a1 a2 a3) := by
 intro a0 a1 a2 a3 k
 have ih0 := neumelaw06_PitchBack.mono_l k
 unfold neumelaw06_PitchBack.f
 repeat' first
   | (with_reducible exact ih0 _ _ _ _ _)
   | (with_reducible exact neumelaw06_heads.mono _)
   | (with_reducible exact LeO.refl _)
   | (with_reducible exact LeO.none _)
   | (with_reducible refine LeO.ite ?_ ?_)
   | (with_reducible refine LeO.bind ?_ (fun _ => ?_))
   | exact ih0 _ _ _ _ _
   | exact neumelaw06_heads.mono _
   | exact LeO.none _
   | refine LeO.ite ?_ ?_
   | refine LeO.bind ?_ (fun _ => ?_)
set_option maxHeartbeats 8000000 in
set_option maxRecDepth 100000 in
theorem neumelaw06_PitchBack.calls (k : Nat) (a0_0 : Int) (a0_1 : Int) (a0_2 : Int) (a1 : Int) (r : Bool) (w : World) (hE : Aside0 (LaidE w)) (hxt : Aside0 (r = true)) (h : neumelaw06_PitchBack.f k a0_0 a0_1 a0_2 a1 = some r) :
  Calls Tryd.prog 4 #[.agg #[.int .i64 a0_0, .int .i64 a0_1, .int .i64 a0_2], .int .i64 a1] w fun e w' => e = .returned (.bool r) ∧ Below w.heap.size w w' := by
 have hu23 := Tryd.underlying23
 have HB := sd_ (Below.refl w.heap.size w)
 have H : ((pitch_Name.f a0_0 a0_1 a0_2).bind fun t285 => ((pitch_Parse.f t285).bind fun bt286 => ((pitch_Check.f a0_0 a0_1 a0_2).bind fun t291 => (if (bt286.2.2.2 != t291) = true then (neumelaw06_PitchBack.j0 k a1 true a0_0 a0_1 a0_2) else (if bt286.2.2.2 = true then (neumelaw06_PitchBack.j0 k a1 (!(bt286.1 == a0_0) || (!(bt286.2.1 == a0_1) || (!(bt286.2.2.1 == a0_2)))) a0_0 a0_1 a0_2) else (neumelaw06_PitchBack.j0 k a1 false a0_0 a0_1 a0_2)))))) = some r := h
 clear h
 replace H := ob_ H
 obtain ⟨t285, A30, H⟩ := H
 replace H : ((pitch_Parse.f t285).bind fun bt286 => ((pitch_Check.f a0_0 a0_1 a0_2).bind fun t291 => (if (bt286.2.2.2 != t291) = true then (neumelaw06_PitchBack.j0 k a1 true a0_0 a0_1 a0_2) else (if bt286.2.2.2 = true then (neumelaw06_PitchBack.j0 k a1 (!(bt286.1 == a0_0) || (!(bt286.2.1 == a0_1) || (!(bt286.2.2.1 == a0_2)))) a0_0 a0_1 a0_2) else (neumelaw06_PitchBack.j0 k a1 false a0_0 a0_1 a0_2))))) = some r := H
 have A3 := sd_ A30
 clear A30
 replace H := ob_ H
 obtain ⟨⟨t286, t287, t288, t289⟩, A40, H⟩ := H
 replace H : ((pitch_Check.f a0_0 a0_1 a0_2).bind fun t291 => (if (t289 != t291) = true then (neumelaw06_PitchBack.j0 k a1 true a0_0 a0_1 a0_2) else (if t289 = true then (neumelaw06_PitchBack.j0 k a1 (!(t286 == a0_0) || (!(t287 == a0_1) || (!(t288 == a0_2)))) a0_0 a0_1 a0_2) else (neumelaw06_PitchBack.j0 k a1 false a0_0 a0_1 a0_2)))) = some r := H
 have A4 := sd_ A40
 clear A40
 have HC5 := sd_ H
 clear H
 go_enter Tryd.func4, Tryd.ntmps4
 go_upto_region 2 with (first | ((with_reducible refine gate_dst (N := 2) rfl ?_); refine box_event ?hg (N := 2) ?hd (cs := #[.int .i64 a0_0, .int .i64 a0_1, .int .i64 a0_2]) (t := 23) ?hr ?_; (case hd => rfl); (case hg => rfl); (case hr => first | (go_simp; done) | (go_simp; rfl)); intro gb284 hg w6 hbox hb; have BK284 := sd_ hbox; have GW284 := gw_ HB e0_ hg; have GE284 := GW284; replace HB := hb_ HB e0_ hb; clear hb hbox hg; have hcz7_0 : w6.cell? ⟨gb284, 0, none⟩ = some (.int .i64 a0_0) := (kc_ BK284.out 0).trans rfl; have hcz7_1 : w6.cell? ⟨gb284, 1, none⟩ = some (.int .i64 a0_1) := (kc_ BK284.out 1).trans rfl; have hcz7_2 : w6.cell? ⟨gb284, 2, none⟩ = some (.int .i64 a0_2) := (kc_ BK284.out 2).trans rfl; have hfz7_0 := kf_ BK284.out 0; have hfz7_1 := kf_ BK284.out 1; have hfz7_2 := kf_ BK284.out 2) | ((with_reducible refine gate_callee (f := 20) rfl ?_); refine goesL_ (some 13) rfl rfl Tryd.func20 (by kernel_rfl) rfl #[.agg #[.int .i64 a0_0, .int .i64 a0_1, .int .i64 a0_2]] rfl (by (try simp only [lm_, lq_, lx_]); first | done | rfl | (simp only [ld_, lt_]; rfl)) ?_; (with_reducible refine (pitch_Name.calls a0_0 a0_1 a0_2 t285 _ A3.out).mono ?_); rintro e w8 ⟨rfl, hb⟩; refine ⟨_, rfl, ?_⟩; replace BK284 := kb_ BK284 hb; replace HB := hb_ HB (e_ GE284 e0_) hb; (try clear hb); (try clear hb2); (try clear hk); (try clear hi)) | ((with_reducible refine gate_callee (f := 12) rfl ?_); refine goesL_ (some 14) rfl rfl Tryd.func12 (by kernel_rfl) rfl #[.string t285] rfl (by (try simp only [lm_, lq_, lx_]); first | done | rfl | (simp only [ld_, lt_]; rfl)) ?_; (with_reducible refine (pitch_Parse.calls t285 t286 t287 t288 t289 _ ?side1 A4.out).mono ?_); (case side1 => first | (with_reducible exact hE) | exact sd_ (LaidE.below hE.out (bb_ HB.out (e_ GE284 e0_)))); rintro e w9 ⟨rfl, hb⟩; refine ⟨_, rfl, ?_⟩; replace BK284 := kb_ BK284 hb; replace HB := hb_ HB (e_ GE284 e0_) hb; (try clear hb); (try clear hb2); (try clear hk); (try clear hi)) | ((with_reducible refine gate_dst (N := 5) rfl ?_); refine box_event ?hg (N := 5) ?hd (cs := #[.int .i64 0, .int .i64 0, .int .i64 0]) (t := 23) ?hr ?_; (case hd => rfl); (case hg => rfl); (case hr => first | (go_simp; done) | (go_simp; rfl)); intro gb290 hg w10 hbox hb; have BK290 := sd_ hbox; have GW290 := gw_ HB (e_ GE284 e0_) hg; have GE290 := GW290; have NB284_290 := nb_ BK284 hg; have NB290_284 := sy_ NB284_290; replace BK284 := kb_ BK284 hb; replace HB := hb_ HB (e_ GE284 e0_) hb; clear hb hbox hg; have hnb11 := NB290_284.out; have hnc11 := NB284_290.out; have hcz12_0 : w10.cell? ⟨gb290, 0, none⟩ = some (.int .i64 0) := (kc_ BK290.out 0).trans rfl; have hcz12_1 : w10.cell? ⟨gb290, 1, none⟩ = some (.int .i64 0) := (kc_ BK290.out 1).trans rfl; have hcz12_2 : w10.cell? ⟨gb290, 2, none⟩ = some (.int .i64 0) := (kc_ BK290.out 2).trans rfl; have hfz12_0 := kf_ BK290.out 0; have hfz12_1 := kf_ BK290.out 1; have hfz12_2 := kf_ BK290.out 2))
 (try simp only [Act.put, ls_, lz_, lc_])
 go_cut [28] (fun v28 wc => ∃ (kq : Nat) (x28_4 : Bool), v28 = .bool x28_4 ∧ Aside0 (neumelaw06_PitchBack.j0 kq a1 x28_4 a0_0 a0_1 a0_2 = some r) ∧ Aside0 (kq ≤ k) ∧ Aside0 (wc.heap[gb284]? = some (.cells #[.int .i64 a0_0, .int .i64 a0_1, .int .i64 a0_2] 23 (0, 0))) ∧ Aside0 (wc.heap[gb290]? = some (.cells #[.int .i64 t286, .int .i64 t287, .int .i64 t288] 23 (0, 0))) ∧ Aside0 (Below w.heap.size w wc))
 case first =>
  have H := HC5.out
  clear HC5
  replace H := ob_ H
  obtain ⟨t291, A130, H⟩ := H
  replace H : (if (t289 != t291) = true then (neumelaw06_PitchBack.j0 k a1 true a0_0 a0_1 a0_2) else (if t289 = true then (neumelaw06_PitchBack.j0 k a1 (!(t286 == a0_0) || (!(t287 == a0_1) || (!(t288 == a0_2)))) a0_0 a0_1 a0_2) else (neumelaw06_PitchBack.j0 k a1 false a0_0 a0_1 a0_2))) = some r := H
  have A13 := sd_ A130
  clear A130
  by_cases c14 : (t289 != t291) = true
  ·rw [if_pos c14] at H
   have c14b0 : (t289 != t291) = true := c14
   (try (have c14b1 : decide (t289 = t291) = false := by simpa using c14))
   (try (have c14b2 : (t289 == t291) = false := by simpa using c14))
   (try (have c14b3 : ¬ (t289 = t291) := by simpa using c14))
   clear c14
   (first | rw [c14b0] | (simp only [i64_w, i32_w]; rw [c14b0]) | skip)
   have H' := sd_ H
   clear H
   have hnb15 := NB284_290.out
   have hnc15 := NB290_284.out
   have hcz16_0 : w10.cell? ⟨gb284, 0, none⟩ = some (.int .i64 a0_0) := (kc_ BK284.out 0).trans rfl
   have hcz16_1 : w10.cell? ⟨gb284, 1, none⟩ = some (.int .i64 a0_1) := (kc_ BK284.out 1).trans rfl
   have hcz16_2 : w10.cell? ⟨gb284, 2, none⟩ = some (.int .i64 a0_2) := (kc_ BK284.out 2).trans rfl
   have hfz16_0 := kf_ BK284.out 0
   have hfz16_1 := kf_ BK284.out 1
   have hfz16_2 := kf_ BK284.out 2
   go_wp2_with (first | ((with_reducible refine gate_callee (f := 14) rfl ?_); refine goesL_ (some 19) rfl rfl Tryd.func14 (by kernel_rfl) rfl #[.agg #[.int .i64 a0_0, .int .i64 a0_1, .int .i64 a0_2]] rfl (by (try simp only [lm_, lq_, lx_]); first | done | rfl | (simp only [ld_, lt_]; rfl)) ?_; (with_reducible refine (pitch_Check.calls a0_0 a0_1 a0_2 t291 _ A13.out).mono ?_); rintro e w17 ⟨rfl, hb⟩; refine ⟨_, rfl, ?_⟩; replace BK284 := sd_ (blk_below (g := gb284) (o := .cells #[.int .i64 a0_0, .int .i64 a0_1, .int .i64 a0_2] 23 (0, 0)) (by (with_reducible repeat first | apply kn_ | apply kd_ | apply ka_); refine blk_far ?_ NB284_290.out _; (with_reducible repeat first | apply kn_ | apply kd_ | apply ka_); refine blk_far ?_ NB284_290.out _; (with_reducible repeat first | apply kn_ | apply kd_ | apply ka_); refine blk_far ?_ NB284_290.out _; (with_reducible repeat first | apply kn_ | apply kd_ | apply ka_); exact BK284.out) hb); replace BK290 := sd_ (blk_below (g := gb290) (o := .cells #[.int .i64 t286, .int .i64 t287, .int .i64 t288] 23 (0, 0)) (by (with_reducible repeat first | apply kn_ | apply kd_ | apply ka_); refine blk_put (cs := #[.int .i64 t286, .int .i64 t287, .int .i64 0]) ?_ 2 _ rfl; (with_reducible repeat first | apply kn_ | apply kd_ | apply ka_); refine blk_put (cs := #[.int .i64 t286, .int .i64 0, .int .i64 0]) ?_ 1 _ rfl; (with_reducible repeat first | apply kn_ | apply kd_ | apply ka_); refine blk_put (cs := #[.int .i64 0, .int .i64 0, .int .i64 0]) ?_ 0 _ rfl; (with_reducible repeat first | apply kn_ | apply kd_ | apply ka_); exact BK290.out) hb); replace HB := hb_ HB (e_ GE284 (e_ GE290 e0_)) hb; (try clear hb); (try clear hb2); (try clear hk); (try clear hi)))
   go_meet
   case rel => exact ⟨_, (true), (by first | rfl | (simp; done) | (simp [*]; done) | (simp [bne]; done)), H', ⟨by first | omega | exact Nat.le_refl _⟩, ⟨by (with_reducible repeat first | apply kn_ | apply kd_ | apply ka_); exact BK284.out⟩, ⟨by (with_reducible repeat first | apply kn_ | apply kd_ | apply ka_); exact BK290.out⟩, ⟨by repeat (first | (with_reducible first | exact HB.out | apply ba_ | apply pd_ | apply d1_ | refine bs_ ?_ GE284.out | refine bs_ ?_ GE290.out) | exact HB.out)⟩⟩
  ·rw [if_neg c14] at H
   have c14b0 : (t289 != t291) = false := by simpa using c14
   (try (have c14b1 : decide (t289 = t291) = true := by simpa using c14))
   (try (have c14b2 : (t289 == t291) = true := by simpa using c14))
   clear c14
   (first | rw [c14b0] | (simp only [i64_w, i32_w]; rw [c14b0]) | skip)
   by_cases c18 : t289 = true
   ·subst c18
    have H1 : (neumelaw06_PitchBack.j0 k a1 (!(t286 == a0_0) || (!(t287 == a0_1) || (!(t288 == a0_2)))) a0_0 a0_1 a0_2) = some r := by rw [if_pos rfl] at H; exact H
    clear H; have H := H1; clear H1
    have H' := sd_ H
    clear H
    have hnb19 := NB284_290.out
    have hnc19 := NB290_284.out
    have hcz20_0 : w10.cell? ⟨gb284, 0, none⟩ = some (.int .i64 a0_0) := (kc_ BK284.out 0).trans rfl
    have hcz20_1 : w10.cell? ⟨gb284, 1, none⟩ = some (.int .i64 a0_1) := (kc_ BK284.out 1).trans rfl
    have hcz20_2 : w10.cell? ⟨gb284, 2, none⟩ = some (.int .i64 a0_2) := (kc_ BK284.out 2).trans rfl
    have hfz20_0 := kf_ BK284.out 0
    have hfz20_1 := kf_ BK284.out 1
    have hfz20_2 := kf_ BK284.out 2
    go_wp2_with (first | ((with_reducible refine gate_callee (f := 14) rfl ?_); refine goesL_ (some 19) rfl rfl Tryd.func14 (by kernel_rfl) rfl #[.agg #[.int .i64 a0_0, .int .i64 a0_1, .int .i64 a0_2]] rfl (by (try simp only [lm_, lq_, lx_]); first | done | rfl | (simp only [ld_, lt_]; rfl)) ?_; (with_reducible refine (pitch_Check.calls a0_0 a0_1 a0_2 t291 _ A13.out).mono ?_); rintro e w21 ⟨rfl, hb⟩; refine ⟨_, rfl, ?_⟩; replace BK284 := sd_ (blk_below (g := gb284) (o := .cells #[.int .i64 a0_0, .int .i64 a0_1, .int .i64 a0_2] 23 (0, 0)) (by (with_reducible repeat first | apply kn_ | apply kd_ | apply ka_); refine blk_far ?_ NB284_290.out _; (with_reducible repeat first | apply kn_ | apply kd_ | apply ka_); refine blk_far ?_ NB284_290.out _; (with_reducible repeat first | apply kn_ | apply kd_ | apply ka_); refine blk_far ?_ NB284_290.out _; (with_reducible repeat first | apply kn_ | apply kd_ | apply ka_); exact BK284.out) hb); replace BK290 := sd_ (blk_below (g := gb290) (o := .cells #[.int .i64 t286, .int .i64 t287, .int .i64 t288] 23 (0, 0)) (by (with_reducible repeat first | apply kn_ | apply kd_ | apply ka_); refine blk_put (cs := #[.int .i64 t286, .int .i64 t287, .int .i64 0]) ?_ 2 _ rfl; (with_reducible repeat first | apply kn_ | apply kd_ | apply ka_); refine blk_put (cs := #[.int .i64 t286, .int .i64 0, .int .i64 0]) ?_ 1 _ rfl; (with_reducible repeat first | apply kn_ | apply kd_ | apply ka_); refine blk_put (cs := #[.int .i64 0, .int .i64 0, .int .i64 0]) ?_ 0 _ rfl; (with_reducible repeat first | apply kn_ | apply kd_ | apply ka_); exact BK290.out) hb); replace HB := hb_ HB (e_ GE284 (e_ GE290 e0_)) hb; (try clear hb); (try clear hb2); (try clear hk); (try clear hi); have hcz22_0 : w21.cell? ⟨gb290, 0, none⟩ = some (.int .i64 t286) := (kc_ BK290.out 0).trans rfl; have hcz22_1 : w21.cell? ⟨gb290, 1, none⟩ = some (.int .i64 t287) := (kc_ BK290.out 1).trans rfl; have hcz22_2 : w21.cell? ⟨gb290, 2, none⟩ = some (.int .i64 t288) := (kc_ BK290.out 2).trans rfl; have hfz22_0 := kf_ BK290.out 0; have hfz22_1 := kf_ BK290.out 1; have hfz22_2 := kf_ BK290.out 2; have hcz23_0 : w21.cell? ⟨gb284, 0, none⟩ = some (.int .i64 a0_0) := (kc_ BK284.out 0).trans rfl; have hcz23_1 : w21.cell? ⟨gb284, 1, none⟩ = some (.int .i64 a0_1) := (kc_ BK284.out 1).trans rfl; have hcz23_2 : w21.cell? ⟨gb284, 2, none⟩ = some (.int .i64 a0_2) := (kc_ BK284.out 2).trans rfl; have hfz23_0 := kf_ BK284.out 0; have hfz23_1 := kf_ BK284.out 1; have hfz23_2 := kf_ BK284.out 2))
    go_meet
    case rel => exact ⟨_, ((!(t286 == a0_0) || (!(t287 == a0_1) || (!(t288 == a0_2))))), (by first | rfl | (simp; done) | (simp [*]; done) | (simp [bne]; done)), H', ⟨by first | omega | exact Nat.le_refl _⟩, ⟨by (with_reducible repeat first | apply kn_ | apply kd_ | apply ka_); exact BK284.out⟩, ⟨by (with_reducible repeat first | apply kn_ | apply kd_ | apply ka_); exact BK290.out⟩, ⟨by repeat (first | (with_reducible first | exact HB.out | apply ba_ | apply pd_ | apply d1_ | refine bs_ ?_ GE284.out | refine bs_ ?_ GE290.out) | exact HB.out)⟩⟩
   ·replace c18 := bf_ c18
    subst c18
    have H1 : (neumelaw06_PitchBack.j0 k a1 false a0_0 a0_1 a0_2) = some r := by rw [if_neg (show ¬ (false = true) by decide)] at H; exact H
    clear H; have H := H1; clear H1
    have H' := sd_ H
    clear H
    have hnb24 := NB284_290.out
    have hnc24 := NB290_284.out
    have hcz25_0 : w10.cell? ⟨gb284, 0, none⟩ = some (.int .i64 a0_0) := (kc_ BK284.out 0).trans rfl
    have hcz25_1 : w10.cell? ⟨gb284, 1, none⟩ = some (.int .i64 a0_1) := (kc_ BK284.out 1).trans rfl
    have hcz25_2 : w10.cell? ⟨gb284, 2, none⟩ = some (.int .i64 a0_2) := (kc_ BK284.out 2).trans rfl
    have hfz25_0 := kf_ BK284.out 0
    have hfz25_1 := kf_ BK284.out 1
    have hfz25_2 := kf_ BK284.out 2
    go_wp2_with (first | ((with_reducible refine gate_callee (f := 14) rfl ?_); refine goesL_ (some 19) rfl rfl Tryd.func14 (by kernel_rfl) rfl #[.agg #[.int .i64 a0_0, .int .i64 a0_1, .int .i64 a0_2]] rfl (by (try simp only [lm_, lq_, lx_]); first | done | rfl | (simp only [ld_, lt_]; rfl)) ?_; (with_reducible refine (pitch_Check.calls a0_0 a0_1 a0_2 t291 _ A13.out).mono ?_); rintro e w26 ⟨rfl, hb⟩; refine ⟨_, rfl, ?_⟩; replace BK284 := sd_ (blk_below (g := gb284) (o := .cells #[.int .i64 a0_0, .int .i64 a0_1, .int .i64 a0_2] 23 (0, 0)) (by (with_reducible repeat first | apply kn_ | apply kd_ | apply ka_); refine blk_far ?_ NB284_290.out _; (with_reducible repeat first | apply kn_ | apply kd_ | apply ka_); refine blk_far ?_ NB284_290.out _; (with_reducible repeat first | apply kn_ | apply kd_ | apply ka_); refine blk_far ?_ NB284_290.out _; (with_reducible repeat first | apply kn_ | apply kd_ | apply ka_); exact BK284.out) hb); replace BK290 := sd_ (blk_below (g := gb290) (o := .cells #[.int .i64 t286, .int .i64 t287, .int .i64 t288] 23 (0, 0)) (by (with_reducible repeat first | apply kn_ | apply kd_ | apply ka_); refine blk_put (cs := #[.int .i64 t286, .int .i64 t287, .int .i64 0]) ?_ 2 _ rfl; (with_reducible repeat first | apply kn_ | apply kd_ | apply ka_); refine blk_put (cs := #[.int .i64 t286, .int .i64 0, .int .i64 0]) ?_ 1 _ rfl; (with_reducible repeat first | apply kn_ | apply kd_ | apply ka_); refine blk_put (cs := #[.int .i64 0, .int .i64 0, .int .i64 0]) ?_ 0 _ rfl; (with_reducible repeat first | apply kn_ | apply kd_ | apply ka_); exact BK290.out) hb); replace HB := hb_ HB (e_ GE284 (e_ GE290 e0_)) hb; (try clear hb); (try clear hb2); (try clear hk); (try clear hi)))
    go_meet
    case rel => exact ⟨_, (false), (by first | rfl | (simp; done) | (simp [*]; done) | (simp [bne]; done)), H', ⟨by first | omega | exact Nat.le_refl _⟩, ⟨by (with_reducible repeat first | apply kn_ | apply kd_ | apply ka_); exact BK284.out⟩, ⟨by (with_reducible repeat first | apply kn_ | apply kd_ | apply ka_); exact BK290.out⟩, ⟨by repeat (first | (with_reducible first | exact HB.out | apply ba_ | apply pd_ | apply d1_ | refine bs_ ?_ GE284.out | refine bs_ ?_ GE290.out) | exact HB.out)⟩⟩
 case rest =>
  clear HC5
  try clear c1; try clear c2; try clear p2; try clear c4; try clear c11; try clear c12; try clear c14; try clear c14b0; try clear c14b1; try clear c14b2; try clear c15; try clear c18; try clear c19; try clear c20; try clear c24; try clear hcz12_0; try clear hcz12_1; try clear hcz12_2; try clear hcz16_0; try clear hcz16_1; try clear hcz16_2; try clear hcz20_0; try clear hcz20_1; try clear hcz20_2; try clear hcz22_0; try clear hcz22_1; try clear hcz22_2; try clear hcz23_0; try clear hcz23_1; try clear hcz23_2; try clear hcz25_0; try clear hcz25_1; try clear hcz25_2; try clear hcz7_0; try clear hcz7_1; try clear hcz7_2; try clear hfz12_0; try clear hfz12_1; try clear hfz12_2; try clear hfz16_0; try clear hfz16_1; try clear hfz16_2; try clear hfz20_0; try clear hfz20_1; try clear hfz20_2; try clear hfz22_0; try clear hfz22_1; try clear hfz22_2; try clear hfz23_0; try clear hfz23_1; try clear hfz23_2; try clear hfz25_0; try clear hfz25_1; try clear hfz25_2; try clear hfz7_0; try clear hfz7_1; try clear hfz7_2
  obtain ⟨kq, x28_4, rfl, HA, HJ4, BK284, BK290, HB⟩ := hcut
  cases kq with
  | zero => exact absurd HA.out (by simp [neumelaw06_PitchBack.j0])
  | succ kj4 =>
   have H := HA.out
   clear HA
   simp only [neumelaw06_PitchBack.j0] at H
   by_cases c27 : x28_4 = true
   ·subst c27
    have H1 : (some false) = some r := by rw [if_pos rfl] at H; exact H
    clear H; have H := H1; clear H1
    exact absurd ((Option.some.inj H).trans hxt.out) (by decide)
   ·replace c27 := bf_ c27
    subst c27
    have H1 : ((pitch_Place.f a0_0 a0_1 a0_2 a1).bind fun bt292 => (if bt292.2 = 0 then ((pitch_At.f bt292.1 a1).bind fun bt294 => (if bt294.2.2.2 = 0 then (if bt294.1 = a0_0 then (if bt294.2.2.1 = a0_2 then (if bt294.2.1 = 0 then ((neumelaw06_heads.f kj4).bind fun t299 => (some t299)) else (some false)) else (some false)) else (some false)) else (some false))) else ((neumelaw06_heads.f kj4).bind fun t300 => (some t300)))) = some r := by rw [if_neg (show ¬ (false = true) by decide)] at H; exact H
    clear H; have H := H1; clear H1
    replace H := ob_ H
    obtain ⟨⟨t292, t293⟩, A280, H⟩ := H
    replace H : (if t293 = 0 then ((pitch_At.f t292 a1).bind fun bt294 => (if bt294.2.2.2 = 0 then (if bt294.1 = a0_0 then (if bt294.2.2.1 = a0_2 then (if bt294.2.1 = 0 then ((neumelaw06_heads.f kj4).bind fun t299 => (some t299)) else (some false)) else (some false)) else (some false)) else (some false))) else ((neumelaw06_heads.f kj4).bind fun t300 => (some t300))) = some r := H
    have A28 := sd_ A280
    clear A280
    by_cases c29 : t293 = 0
    ·rw [if_pos c29] at H
     have c29b0 : (t293 == 0) = true := beq_iff_eq.mpr c29
     have c29b1 : (t293 != 0) = false := bne_eq_false_iff_eq.mpr c29
     clear c29
     replace H := ob_ H
     obtain ⟨⟨t294, t295, t296, t297⟩, A300, H⟩ := H
     replace H : (if t297 = 0 then (if t294 = a0_0 then (if t296 = a0_2 then (if t295 = 0 then ((neumelaw06_heads.f kj4).bind fun t299 => (some t299)) else (some false)) else (some false)) else (some false)) else (some false)) = some r := H
     have A30 := sd_ A300
     clear A300
     by_cases c31 : t297 = 0
     ·rw [if_pos c31] at H
      have c31b0 : (t297 == 0) = true := beq_iff_eq.mpr c31
      have c31b1 : (t297 != 0) = false := bne_eq_false_iff_eq.mpr c31
      clear c31
      by_cases c32 : t294 = a0_0
      ·rw [if_pos c32] at H
       have c32b0 : (t294 == a0_0) = true := beq_iff_eq.mpr c32
       have c32b1 : (t294 != a0_0) = false := bne_eq_false_iff_eq.mpr c32
       clear c32
       by_cases c33 : t296 = a0_2
       ·rw [if_pos c33] at H
        have c33b0 : (t296 == a0_2) = true := beq_iff_eq.mpr c33
        have c33b1 : (t296 != a0_2) = false := bne_eq_false_iff_eq.mpr c33
        clear c33
        by_cases c34 : t295 = 0
        ·rw [if_pos c34] at H
         have c34b0 : (t295 == 0) = true := beq_iff_eq.mpr c34
         have c34b1 : (t295 != 0) = false := bne_eq_false_iff_eq.mpr c34
         clear c34
         replace H := ob_ H
         obtain ⟨t299, A350, H⟩ := H
         replace H : (some t299) = some r := H
         have A35 := sd_ A350
         clear A350
         obtain rfl := Option.some.inj H
         have hnb36 := NB284_290.out
         have hnc36 := NB290_284.out
         have hcz37_0 : wc.cell? ⟨gb284, 0, none⟩ = some (.int .i64 a0_0) := (kc_ BK284.out 0).trans rfl
         have hcz37_1 : wc.cell? ⟨gb284, 1, none⟩ = some (.int .i64 a0_1) := (kc_ BK284.out 1).trans rfl
         have hcz37_2 : wc.cell? ⟨gb284, 2, none⟩ = some (.int .i64 a0_2) := (kc_ BK284.out 2).trans rfl
         have hfz37_0 := kf_ BK284.out 0
         have hfz37_1 := kf_ BK284.out 1
         have hfz37_2 := kf_ BK284.out 2
         go_wp2_with (first | ((with_reducible refine gate_callee (f := 8) rfl ?_); refine goesL_ (some 32) rfl rfl Tryd.func8 (by kernel_rfl) rfl #[.agg #[.int .i64 a0_0, .int .i64 a0_1, .int .i64 a0_2], .int .i64 a1] rfl (by (try simp only [lm_, lq_, lx_]); first | done | rfl | (simp only [ld_, lt_]; rfl)) ?_; (with_reducible refine (pitch_Place.calls a0_0 a0_1 a0_2 a1 t292 t293 _ A28.out).mono ?_); rintro e w38 ⟨rfl, hb⟩; refine ⟨_, rfl, ?_⟩; replace BK284 := kb_ BK284 hb; replace BK290 := kb_ BK290 hb; replace HB := hb_ HB (e_ GE284 (e_ GE290 e0_)) hb; (try clear hb); (try clear hb2); (try clear hk); (try clear hi)) | ((with_reducible refine gate_callee (f := 10) rfl ?_); refine goesL_ (some 41) rfl rfl Tryd.func10 (by kernel_rfl) rfl #[.int .i64 t292, .int .i64 a1] rfl (by (try simp only [lm_, lq_, lx_]); first | done | rfl | (simp only [ld_, lt_]; rfl)) ?_; (with_reducible refine (pitch_At.calls t292 a1 t294 t295 t296 t297 _ A30.out).mono ?_); rintro e w39 ⟨rfl, hb⟩; refine ⟨_, rfl, ?_⟩; replace BK284 := kb_ BK284 hb; replace BK290 := kb_ BK290 hb; replace HB := hb_ HB (e_ GE284 (e_ GE290 e0_)) hb; (try clear hb); (try clear hb2); (try clear hk); (try clear hi)) | ((with_reducible refine gate_dst (N := 9) rfl ?_); refine box_event ?hg (N := 9) ?hd (cs := #[.int .i64 0, .int .i64 0, .int .i64 0]) (t := 23) ?hr ?_; (case hd => rfl); (case hg => rfl); (case hr => first | (go_simp; done) | (go_simp; rfl)); intro gb298 hg w40 hbox hb; have BK298 := sd_ hbox; have GW298 := gw_ HB (e_ GE284 (e_ GE290 e0_)) hg; have GE298 := GW298; have NB284_298 := nb_ BK284 hg; have NB298_284 := sy_ NB284_298; have NB290_298 := nb_ BK290 hg; have NB298_290 := sy_ NB290_298; replace BK284 := kb_ BK284 hb; replace BK290 := kb_ BK290 hb; replace HB := hb_ HB (e_ GE284 (e_ GE290 e0_)) hb; clear hb hbox hg; have hnb41 := NB298_284.out; have hnc41 := NB284_298.out; have hnb42 := NB298_290.out; have hnc42 := NB290_298.out; have hcz43_0 : w40.cell? ⟨gb298, 0, none⟩ = some (.int .i64 0) := (kc_ BK298.out 0).trans rfl; have hcz43_1 : w40.cell? ⟨gb298, 1, none⟩ = some (.int .i64 0) := (kc_ BK298.out 1).trans rfl; have hcz43_2 : w40.cell? ⟨gb298, 2, none⟩ = some (.int .i64 0) := (kc_ BK298.out 2).trans rfl; have hfz43_0 := kf_ BK298.out 0; have hfz43_1 := kf_ BK298.out 1; have hfz43_2 := kf_ BK298.out 2; have hcz44_0 : w40.cell? ⟨gb284, 0, none⟩ = some (.int .i64 a0_0) := (kc_ BK284.out 0).trans rfl; have hcz44_1 : w40.cell? ⟨gb284, 1, none⟩ = some (.int .i64 a0_1) := (kc_ BK284.out 1).trans rfl; have hcz44_2 : w40.cell? ⟨gb284, 2, none⟩ = some (.int .i64 a0_2) := (kc_ BK284.out 2).trans rfl; have hfz44_0 := kf_ BK284.out 0; have hfz44_1 := kf_ BK284.out 1; have hfz44_2 := kf_ BK284.out 2) | (go_at_call 7; (with_reducible refine (neumelaw06_heads.calls kj4  t299 _ ?side1 A35.out).mono ?_); (case side1 => first | (with_reducible exact hE) | exact sd_ (LaidE.below hE.out (bb_ HB.out (e_ GE284 (e_ GE290 (e_ GE298 e0_)))))); rintro e w45 ⟨rfl, hb⟩; replace BK284 := sd_ (blk_below (g := gb284) (o := .cells #[.int .i64 a0_0, .int .i64 a0_1, .int .i64 a0_2] 23 (0, 0)) (by (with_reducible repeat first | apply kn_ | apply kd_ | apply ka_); refine blk_far ?_ NB284_298.out _; (with_reducible repeat first | apply kn_ | apply kd_ | apply ka_); refine blk_far ?_ NB284_298.out _; (with_reducible repeat first | apply kn_ | apply kd_ | apply ka_); refine blk_far ?_ NB284_298.out _; (with_reducible repeat first | apply kn_ | apply kd_ | apply ka_); exact BK284.out) hb); replace BK290 := sd_ (blk_below (g := gb290) (o := .cells #[.int .i64 t286, .int .i64 t287, .int .i64 t288] 23 (0, 0)) (by (with_reducible repeat first | apply kn_ | apply kd_ | apply ka_); refine blk_far ?_ NB290_298.out _; (with_reducible repeat first | apply kn_ | apply kd_ | apply ka_); refine blk_far ?_ NB290_298.out _; (with_reducible repeat first | apply kn_ | apply kd_ | apply ka_); refine blk_far ?_ NB290_298.out _; (with_reducible repeat first | apply kn_ | apply kd_ | apply ka_); exact BK290.out) hb); replace BK298 := sd_ (blk_below (g := gb298) (o := .cells #[.int .i64 t294, .int .i64 t295, .int .i64 t296] 23 (0, 0)) (by (with_reducible repeat first | apply kn_ | apply kd_ | apply ka_); refine blk_put (cs := #[.int .i64 t294, .int .i64 t295, .int .i64 0]) ?_ 2 _ rfl; (with_reducible repeat first | apply kn_ | apply kd_ | apply ka_); refine blk_put (cs := #[.int .i64 t294, .int .i64 0, .int .i64 0]) ?_ 1 _ rfl; (with_reducible repeat first | apply kn_ | apply kd_ | apply ka_); refine blk_put (cs := #[.int .i64 0, .int .i64 0, .int .i64 0]) ?_ 0 _ rfl; (with_reducible repeat first | apply kn_ | apply kd_ | apply ka_); exact BK298.out) hb); replace HB := hb_ HB (e_ GE284 (e_ GE290 (e_ GE298 e0_))) hb; (try clear hb); (try clear hb2); (try clear hk); (try clear hi)))
         go_ret
         exact ⟨by first | rfl | (simp [errW_none, errW_some] <;> rfl) | (simp [*, errW_none, errW_some] <;> rfl), by repeat (first | (with_reducible first | exact HB.out | apply ba_ | apply pd_ | apply d1_ | refine bs_ ?_ GE284.out | refine bs_ ?_ GE290.out | refine bs_ ?_ GE298.out) | exact HB.out)⟩
        ·rw [if_neg c34] at H
         have c34b0 : (t295 == 0) = false := beq_eq_false_iff_ne.mpr c34
         have c34b1 : (t295 != 0) = true := bne_iff_ne.mpr c34
         exact absurd ((Option.some.inj H).trans hxt.out) (by decide)
       ·rw [if_neg c33] at H
        have c33b0 : (t296 == a0_2) = false := beq_eq_false_iff_ne.mpr c33
        have c33b1 : (t296 != a0_2) = true := bne_iff_ne.mpr c33
        exact absurd ((Option.some.inj H).trans hxt.out) (by decide)
      ·rw [if_neg c32] at H
       have c32b0 : (t294 == a0_0) = false := beq_eq_false_iff_ne.mpr c32
       have c32b1 : (t294 != a0_0) = true := bne_iff_ne.mpr c32
       exact absurd ((Option.some.inj H).trans hxt.out) (by decide)
     ·rw [if_neg c31] at H
      have c31b0 : (t297 == 0) = false := beq_eq_false_iff_ne.mpr c31
      have c31b1 : (t297 != 0) = true := bne_iff_ne.mpr c31
      exact absurd ((Option.some.inj H).trans hxt.out) (by decide)
    ·rw [if_neg c29] at H
     have c29b0 : (t293 == 0) = false := beq_eq_false_iff_ne.mpr c29
     have c29b1 : (t293 != 0) = true := bne_iff_ne.mpr c29
     replace H := ob_ H
     obtain ⟨t300, A460, H⟩ := H
     replace H : (some t300) = some r := H
     have A46 := sd_ A460
     clear A460
     obtain rfl := Option.some.inj H
     have hnb47 := NB284_290.out
     have hnc47 := NB290_284.out
     have hcz48_0 : wc.cell? ⟨gb284, 0, none⟩ = some (.int .i64 a0_0) := (kc_ BK284.out 0).trans rfl
     have hcz48_1 : wc.cell? ⟨gb284, 1, none⟩ = some (.int .i64 a0_1) := (kc_ BK284.out 1).trans rfl
     have hcz48_2 : wc.cell? ⟨gb284, 2, none⟩ = some (.int .i64 a0_2) := (kc_ BK284.out 2).trans rfl
     have hfz48_0 := kf_ BK284.out 0
     have hfz48_1 := kf_ BK284.out 1
     have hfz48_2 := kf_ BK284.out 2
     go_wp2_with (first | ((with_reducible refine gate_callee (f := 8) rfl ?_); refine goesL_ (some 32) rfl rfl Tryd.func8 (by kernel_rfl) rfl #[.agg #[.int .i64 a0_0, .int .i64 a0_1, .int .i64 a0_2], .int .i64 a1] rfl (by (try simp only [lm_, lq_, lx_]); first | done | rfl | (simp only [ld_, lt_]; rfl)) ?_; (with_reducible refine (pitch_Place.calls a0_0 a0_1 a0_2 a1 t292 t293 _ A28.out).mono ?_); rintro e w49 ⟨rfl, hb⟩; refine ⟨_, rfl, ?_⟩; replace BK284 := kb_ BK284 hb; replace BK290 := kb_ BK290 hb; replace HB := hb_ HB (e_ GE284 (e_ GE290 e0_)) hb; (try clear hb); (try clear hb2); (try clear hk); (try clear hi)) | ((with_reducible refine gate_callee (f := 7) rfl ?_); refine goesL_ (some 37) rfl rfl Tryd.func7 (by kernel_rfl) rfl #[] rfl (by (try simp only [lm_, lq_, lx_]); first | done | rfl | (simp only [ld_, lt_]; rfl)) ?_; (with_reducible refine (neumelaw06_heads.calls kj4  t300 _ ?side1 A46.out).mono ?_); (case side1 => first | (with_reducible exact hE) | exact sd_ (LaidE.below hE.out (bb_ HB.out (e_ GE284 (e_ GE290 e0_))))); rintro e w50 ⟨rfl, hb⟩; refine ⟨_, rfl, ?_⟩; replace BK284 := kb_ BK284 hb; replace BK290 := kb_ BK290 hb; replace HB := hb_ HB (e_ GE284 (e_ GE290 e0_)) hb; (try clear hb); (try clear hb2); (try clear hk); (try clear hi)))
     go_ret
     exact ⟨by first | rfl | (simp [errW_none, errW_some] <;> rfl) | (simp [*, errW_none, errW_some] <;> rfl), by repeat (first | (with_reducible first | exact HB.out | apply ba_ | apply pd_ | apply d1_ | refine bs_ ?_ GE284.out | refine bs_ ?_ GE290.out) | exact HB.out)⟩

end Go.Proofs.YtkncoedagigliaaDoor.P
