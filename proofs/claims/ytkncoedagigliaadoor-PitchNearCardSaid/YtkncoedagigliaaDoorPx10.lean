-- Written by a program of this session (wip/tools/xprint.py, over the kit's print): Lean checks it.
import Derived.Test.YtkncoedagigliaaDoorPx0
import Derived.Test.YtkncoedagigliaaDoorPx1
import Derived.Test.YtkncoedagigliaaDoorPx2
import Derived.Test.YtkncoedagigliaaDoorPx3
import Derived.Test.YtkncoedagigliaaDoorPx5
namespace Go.Proofs.YtkncoedagigliaaDoor.P
open Go.RowKit Go.Proofs.YtkncoedagigliaaDoorW.PrintWords Go.Proofs.YtkncoedagigliaaDoorW.PrintLast Go.Proofs.YtkncoedagigliaaDoorW.PrintMore
attribute [local go_sem] max2_int min2_int max_two min_two max_three min_three max_four min_four   -- for this text's walks alone
set_option linter.unusedVariables false
set_option linter.unusedSimpArgs false

attribute [local go_sem high] eqA23
/-! ### neumelaw06_PitchNear: function 5 -/
def neumelaw06_PitchNear.f (k : Nat) (a0_0 : Int) (a0_1 : Int) (a0_2 : Int) (a1 : Int) (a2 : Int) (a3 : Int) : Option (Bool) := (pitch_Near.f a0_0 a0_1 a0_2 a1 a2 a3).bind fun bt302 => (if bt302.2.2.2 = 0 then ((pitch_Count.f bt302.1 bt302.2.1 bt302.2.2.1).bind fun t308 => ((pitch_Count.f a0_0 a0_1 a0_2).bind fun t309 => ((pitch_Check.f bt302.1 bt302.2.1 bt302.2.2.1).bind fun t310 => (if t310 = true then (if bt302.1 = a1 then (if bt302.2.1 = a2 then (if (wrap64 ((wrap64 (t308 - (wrap64 (7 * a3)))) - t309)) ≥ (-3) then (if (wrap64 ((wrap64 (t308 - (wrap64 (7 * a3)))) - t309)) ≤ 3 then ((neumelaw06_heads.f k).bind fun t311 => (some t311)) else (some false)) else (some false)) else (some false)) else (some false)) else (some false))))) else (if (bt302.1 == 0 && (bt302.2.1 == 0 && (bt302.2.2.1 == 0))) = true then ((neumelaw06_heads.f k).bind fun t307 => (some t307)) else (some false)))
theorem neumelaw06_PitchNear.mono : ∀ a0 a1 a2 a3 a4 a5 k, LeO (neumelaw06_PitchNear.f k a0 a1 a2 a3 a4 a5) (neumelaw06_PitchNear.f (k + 1) a0 a1 a2 a3 a4 a5) := by
 intro a0 a1 a2 a3 a4 a5 k
 unfold neumelaw06_PitchNear.f
 repeat' first
   | (with_reducible exact neumelaw06_heads.mono _)
   | (with_reducible exact LeO.refl _)
   | (with_reducible exact LeO.none _)
   | (with_reducible refine LeO.ite ?_ ?_)
   | (with_reducible refine LeO.bind ?_ (fun _ => ?_))
   | exact neumelaw06_heads.mono _
   | exact LeO.none _
   | refine LeO.ite ?_ ?_
   | refine LeO.bind ?_ (fun _ => ?_)
def neumelaw06_PitchNear.T4 : Bool × List (List Nat × List Nat) := (true, [([], []), ([0], [0]), ([], []), ([2], [2]), ([1, 3], [1, 3]), ([], []), ([5, 1], [5]), ([4, 6], [4, 6]), ([7, 6, 0, 1, 2, 3, 4, 5, 6, 7], [7])])
def neumelaw06_PitchNear.B4 : List Nat := [0, 1, 0, 4, 15, 0, 35, 127, 255]
theorem neumelaw06_PitchNear.tab4 : rtab .any (opsOf Tryd.f5 4) = neumelaw06_PitchNear.T4 := by kernel_rfl
theorem neumelaw06_PitchNear.bits4 : waitsOk neumelaw06_PitchNear.T4.2 neumelaw06_PitchNear.B4 = true := by kernel_rfl
set_option maxHeartbeats 8000000 in
set_option maxRecDepth 100000 in
theorem neumelaw06_PitchNear.calls (k : Nat) (a0_0 : Int) (a0_1 : Int) (a0_2 : Int) (a1 : Int) (a2 : Int) (a3 : Int) (r : Bool) (w : World) (hE : Aside0 (LaidE w)) (hxt : Aside0 (r = true)) (h : neumelaw06_PitchNear.f k a0_0 a0_1 a0_2 a1 a2 a3 = some r) :
  Calls Tryd.prog 5 #[.agg #[.int .i64 a0_0, .int .i64 a0_1, .int .i64 a0_2], .int .i64 a1, .int .i64 a2, .int .i64 a3] w fun e w' => e = .returned (.bool r) ∧ Below w.heap.size w w' := by
 have hu23 := Tryd.underlying23
 have HB := sd_ (Below.refl w.heap.size w)
 have H : ((pitch_Near.f a0_0 a0_1 a0_2 a1 a2 a3).bind fun bt302 => (if bt302.2.2.2 = 0 then ((pitch_Count.f bt302.1 bt302.2.1 bt302.2.2.1).bind fun t308 => ((pitch_Count.f a0_0 a0_1 a0_2).bind fun t309 => ((pitch_Check.f bt302.1 bt302.2.1 bt302.2.2.1).bind fun t310 => (if t310 = true then (if bt302.1 = a1 then (if bt302.2.1 = a2 then (if (wrap64 ((wrap64 (t308 - (wrap64 (7 * a3)))) - t309)) ≥ (-3) then (if (wrap64 ((wrap64 (t308 - (wrap64 (7 * a3)))) - t309)) ≤ 3 then ((neumelaw06_heads.f k).bind fun t311 => (some t311)) else (some false)) else (some false)) else (some false)) else (some false)) else (some false))))) else (if (bt302.1 == 0 && (bt302.2.1 == 0 && (bt302.2.2.1 == 0))) = true then ((neumelaw06_heads.f k).bind fun t307 => (some t307)) else (some false)))) = some r := h
 clear h
 replace H := ob_ H
 obtain ⟨⟨t302, t303, t304, t305⟩, A50, H⟩ := H
 replace H : (if t305 = 0 then ((pitch_Count.f t302 t303 t304).bind fun t308 => ((pitch_Count.f a0_0 a0_1 a0_2).bind fun t309 => ((pitch_Check.f t302 t303 t304).bind fun t310 => (if t310 = true then (if t302 = a1 then (if t303 = a2 then (if (wrap64 ((wrap64 (t308 - (wrap64 (7 * a3)))) - t309)) ≥ (-3) then (if (wrap64 ((wrap64 (t308 - (wrap64 (7 * a3)))) - t309)) ≤ 3 then ((neumelaw06_heads.f k).bind fun t311 => (some t311)) else (some false)) else (some false)) else (some false)) else (some false)) else (some false))))) else (if (t302 == 0 && (t303 == 0 && (t304 == 0))) = true then ((neumelaw06_heads.f k).bind fun t307 => (some t307)) else (some false))) = some r := H
 have A5 := sd_ A50
 clear A50
 by_cases c6 : t305 = 0
 ·rw [if_pos c6] at H
  have c6b0 : (t305 == 0) = true := beq_iff_eq.mpr c6
  have c6b1 : (t305 != 0) = false := bne_eq_false_iff_eq.mpr c6
  clear c6
  replace H := ob_ H
  obtain ⟨t308, A70, H⟩ := H
  replace H : ((pitch_Count.f a0_0 a0_1 a0_2).bind fun t309 => ((pitch_Check.f t302 t303 t304).bind fun t310 => (if t310 = true then (if t302 = a1 then (if t303 = a2 then (if (wrap64 ((wrap64 (t308 - (wrap64 (7 * a3)))) - t309)) ≥ (-3) then (if (wrap64 ((wrap64 (t308 - (wrap64 (7 * a3)))) - t309)) ≤ 3 then ((neumelaw06_heads.f k).bind fun t311 => (some t311)) else (some false)) else (some false)) else (some false)) else (some false)) else (some false)))) = some r := H
  have A7 := sd_ A70
  clear A70
  replace H := ob_ H
  obtain ⟨t309, A80, H⟩ := H
  replace H : ((pitch_Check.f t302 t303 t304).bind fun t310 => (if t310 = true then (if t302 = a1 then (if t303 = a2 then (if (wrap64 ((wrap64 (t308 - (wrap64 (7 * a3)))) - t309)) ≥ (-3) then (if (wrap64 ((wrap64 (t308 - (wrap64 (7 * a3)))) - t309)) ≤ 3 then ((neumelaw06_heads.f k).bind fun t311 => (some t311)) else (some false)) else (some false)) else (some false)) else (some false)) else (some false))) = some r := H
  have A8 := sd_ A80
  clear A80
  replace H := ob_ H
  obtain ⟨t310, A90, H⟩ := H
  replace H : (if t310 = true then (if t302 = a1 then (if t303 = a2 then (if (wrap64 ((wrap64 (t308 - (wrap64 (7 * a3)))) - t309)) ≥ (-3) then (if (wrap64 ((wrap64 (t308 - (wrap64 (7 * a3)))) - t309)) ≤ 3 then ((neumelaw06_heads.f k).bind fun t311 => (some t311)) else (some false)) else (some false)) else (some false)) else (some false)) else (some false)) = some r := H
  have A9 := sd_ A90
  clear A90
  by_cases c10 : t310 = true
  ·subst c10
   have H1 : (if t302 = a1 then (if t303 = a2 then (if (wrap64 ((wrap64 (t308 - (wrap64 (7 * a3)))) - t309)) ≥ (-3) then (if (wrap64 ((wrap64 (t308 - (wrap64 (7 * a3)))) - t309)) ≤ 3 then ((neumelaw06_heads.f k).bind fun t311 => (some t311)) else (some false)) else (some false)) else (some false)) else (some false)) = some r := by rw [if_pos rfl] at H; exact H
   clear H; have H := H1; clear H1
   by_cases c11 : t302 = a1
   ·rw [if_pos c11] at H
    have c11b0 : (t302 == a1) = true := beq_iff_eq.mpr c11
    have c11b1 : (t302 != a1) = false := bne_eq_false_iff_eq.mpr c11
    clear c11
    by_cases c12 : t303 = a2
    ·rw [if_pos c12] at H
     have c12b0 : (t303 == a2) = true := beq_iff_eq.mpr c12
     have c12b1 : (t303 != a2) = false := bne_eq_false_iff_eq.mpr c12
     clear c12
     by_cases c13 : (wrap64 ((wrap64 (t308 - (wrap64 (7 * a3)))) - t309)) ≥ (-3)
     ·rw [if_pos c13] at H
      have c13b0 : decide ((-3) ≤ (wrap64 ((wrap64 (t308 - (wrap64 (7 * a3)))) - t309))) = true := dt_ c13
      clear c13
      by_cases c14 : (wrap64 ((wrap64 (t308 - (wrap64 (7 * a3)))) - t309)) ≤ 3
      ·rw [if_pos c14] at H
       have c14b0 : decide ((wrap64 ((wrap64 (t308 - (wrap64 (7 * a3)))) - t309)) ≤ 3) = true := dt_ c14
       clear c14
       replace H := ob_ H
       obtain ⟨t311, A150, H⟩ := H
       replace H : (some t311) = some r := H
       have A15 := sd_ A150
       clear A150
       obtain rfl := Option.some.inj H
       go_enter Tryd.func5, Tryd.ntmps5
       try go_wp2_with (first | ((with_reducible refine gate_dst (N := 4) rfl ?_); refine box_event ?hg (N := 4) ?hd (cs := #[.int .i64 a0_0, .int .i64 a0_1, .int .i64 a0_2]) (t := 23) ?hr ?_; (case hd => rfl); (case hg => rfl); (case hr => first | (go_simp; done) | (go_simp; rfl)); intro gb301 hg w16 hbox hb; have BK301 := sd_ hbox; have GW301 := gw_ HB e0_ hg; have GE301 := GW301; replace HB := hb_ HB e0_ hb; clear hb hbox hg; have hcz17_0 : w16.cell? ⟨gb301, 0, none⟩ = some (.int .i64 a0_0) := (kc_ BK301.out 0).trans rfl; have hcz17_1 : w16.cell? ⟨gb301, 1, none⟩ = some (.int .i64 a0_1) := (kc_ BK301.out 1).trans rfl; have hcz17_2 : w16.cell? ⟨gb301, 2, none⟩ = some (.int .i64 a0_2) := (kc_ BK301.out 2).trans rfl; have hfz17_0 := kf_ BK301.out 0; have hfz17_1 := kf_ BK301.out 1; have hfz17_2 := kf_ BK301.out 2) | ((with_reducible refine gate_callee (f := 22) rfl ?_); refine goesL_ (some 17) rfl rfl Tryd.func22 (by kernel_rfl) rfl #[.agg #[.int .i64 a0_0, .int .i64 a0_1, .int .i64 a0_2], .int .i64 a1, .int .i64 a2, .int .i64 a3] rfl (by (try simp only [lm_, lq_, lx_]); first | done | rfl | (simp only [ld_, lt_]; rfl)) ?_; (with_reducible refine (pitch_Near.calls a0_0 a0_1 a0_2 a1 a2 a3 t302 t303 t304 t305 _ A5.out).mono ?_); rintro e w18 ⟨rfl, hb⟩; refine ⟨_, rfl, ?_⟩; replace BK301 := kb_ BK301 hb; replace HB := hb_ HB (e_ GE301 e0_) hb; (try clear hb); (try clear hb2); (try clear hk); (try clear hi)) | ((with_reducible refine gate_dst (N := 9) rfl ?_); refine box_event ?hg (N := 9) ?hd (cs := #[.int .i64 0, .int .i64 0, .int .i64 0]) (t := 23) ?hr ?_; (case hd => rfl); (case hg => rfl); (case hr => first | (go_simp; done) | (go_simp; rfl)); intro gb306 hg w19 hbox hb; have BK306 := sd_ hbox; have GW306 := gw_ HB (e_ GE301 e0_) hg; have GE306 := GW306; have NB301_306 := nb_ BK301 hg; have NB306_301 := sy_ NB301_306; replace BK301 := kb_ BK301 hb; replace HB := hb_ HB (e_ GE301 e0_) hb; clear hb hbox hg; have hnb20 := NB306_301.out; have hnc20 := NB301_306.out; have hcz21_0 : w19.cell? ⟨gb306, 0, none⟩ = some (.int .i64 0) := (kc_ BK306.out 0).trans rfl; have hcz21_1 : w19.cell? ⟨gb306, 1, none⟩ = some (.int .i64 0) := (kc_ BK306.out 1).trans rfl; have hcz21_2 : w19.cell? ⟨gb306, 2, none⟩ = some (.int .i64 0) := (kc_ BK306.out 2).trans rfl; have hfz21_0 := kf_ BK306.out 0; have hfz21_1 := kf_ BK306.out 1; have hfz21_2 := kf_ BK306.out 2))
       have n0_ : Aside0 ((((w19.setCell ⟨gb306, 0, none⟩ (.int .i64 t302)).setCell ⟨gb306, 1, none⟩ (.int .i64 t303)).setCell ⟨gb306, 2, none⟩ (.int .i64 t304)).heap[gb301]? = some (.cells #[.int .i64 a0_0, .int .i64 a0_1, .int .i64 a0_2] 23 (0, 0))) := ⟨by (with_reducible repeat first | apply kn_ | apply kd_ | apply ka_); refine blk_far ?_ NB301_306.out _; (with_reducible repeat first | apply kn_ | apply kd_ | apply ka_); refine blk_far ?_ NB301_306.out _; (with_reducible repeat first | apply kn_ | apply kd_ | apply ka_); refine blk_far ?_ NB301_306.out _; (with_reducible repeat first | apply kn_ | apply kd_ | apply ka_); exact BK301.out⟩
       have n1_ : Aside0 ((((w19.setCell ⟨gb306, 0, none⟩ (.int .i64 t302)).setCell ⟨gb306, 1, none⟩ (.int .i64 t303)).setCell ⟨gb306, 2, none⟩ (.int .i64 t304)).heap[gb306]? = some (.cells #[.int .i64 t302, .int .i64 t303, .int .i64 t304] 23 (0, 0))) := ⟨by (with_reducible repeat first | apply kn_ | apply kd_ | apply ka_); refine blk_put (cs := #[.int .i64 t302, .int .i64 t303, .int .i64 0]) ?_ 2 _ rfl; (with_reducible repeat first | apply kn_ | apply kd_ | apply ka_); refine blk_put (cs := #[.int .i64 t302, .int .i64 0, .int .i64 0]) ?_ 1 _ rfl; (with_reducible repeat first | apply kn_ | apply kd_ | apply ka_); refine blk_put (cs := #[.int .i64 0, .int .i64 0, .int .i64 0]) ?_ 0 _ rfl; (with_reducible repeat first | apply kn_ | apply kd_ | apply ka_); exact BK306.out⟩
       have n2_ : Aside0 (Below w.heap.size w (((w19.setCell ⟨gb306, 0, none⟩ (.int .i64 t302)).setCell ⟨gb306, 1, none⟩ (.int .i64 t303)).setCell ⟨gb306, 2, none⟩ (.int .i64 t304))) := ⟨by repeat (first | (with_reducible first | exact HB.out | apply ba_ | apply pd_ | apply d1_ | refine bs_ ?_ GE301.out | refine bs_ ?_ GE306.out) | exact HB.out)⟩
       (try clear BK301)
       (try clear BK306)
       (try clear HB)
       generalize (((w19.setCell ⟨gb306, 0, none⟩ (.int .i64 t302)).setCell ⟨gb306, 1, none⟩ (.int .i64 t303)).setCell ⟨gb306, 2, none⟩ (.int .i64 t304)) = w22 at n0_ n1_ n2_ ⊢
       have BK301 := n0_
       have BK306 := n1_
       have HB := n2_
       clear n0_ n1_ n2_
       replace BK301 := sd_ (kd_ BK301.out)
       replace BK306 := sd_ (kd_ BK306.out)
       replace HB := sd_ (d1_ HB.out)
       refine start_ (n := 9) (S := fun w' => w'.cell? ⟨gb306, 0, none⟩ = some (.int .i64 t302) ∧ w'.cell? ⟨gb306, 1, none⟩ = some (.int .i64 t303) ∧ w'.cell? ⟨gb306, 2, none⟩ = some (.int .i64 t304) ∧ w'.cell? ⟨gb301, 0, none⟩ = some (.int .i64 a0_0) ∧ w'.cell? ⟨gb301, 1, none⟩ = some (.int .i64 a0_1) ∧ w'.cell? ⟨gb301, 2, none⟩ = some (.int .i64 a0_2)) (ds := []) (Array.replicate 9 false) (by kernel_rfl) rfl rfl ⟨(kc_ BK306.out 0).trans rfl, (kc_ BK306.out 1).trans rfl, (kc_ BK306.out 2).trans rfl, (kc_ BK301.out 0).trans rfl, (kc_ BK301.out 1).trans rfl, (kc_ BK301.out 2).trans rfl⟩ (fun hHeld => ?_); refine with_tabW neumelaw06_PitchNear.tab4 neumelaw06_PitchNear.bits4 (fun HT_ HW_ => ?_)
       generalize w22.drew = w23 at BK301 BK306 HB hHeld ⊢
       refine pu_ (v := ?_) (a' := ?_) 2 30 (bz 9 4) rfl rfl HT_ (by kernel_rfl) (fun _ _ _ h => h) (by rfl) ?_ ?_ ?_
       rotate_left; (intro w'; go_simp; with_reducible rfl); rotate_left; (simp only [Act.put, ls_, lz_, lc_, i64_w, i32_w]; rfl)
       refine pu_ (v := ?_) (a' := ?_) 3 31 (bz 9 12) rfl rfl HT_ (by kernel_rfl) (fun _ _ _ h => h) (by rfl) ?_ ?_ ?_
       rotate_left; (intro w'; go_simp; with_reducible rfl); rotate_left; (simp only [Act.put, ls_, lz_, lc_, i64_w, i32_w]; rfl)
       refine ta_ (v := ?_) (a' := ?_) 0 28 (bz 9 13) rfl rfl HT_ HW_ (by kernel_rfl) (fun _ _ _ h => h) (by rfl) ?_ hHeld ?_ ?_
       rotate_left
       ·rintro w' ⟨s0, s1, s2, s3, s4, s5⟩
        go_simp
        with_reducible rfl
       rotate_left
       ·simp only [Act.put, ls_, lz_, lc_, i64_w, i32_w]
        rfl
       refine ta_ (v := ?_) (a' := ?_) 5 33 (bz 9 45) rfl rfl HT_ HW_ (by kernel_rfl) (fun _ _ _ h => h) (by rfl) ?_ hHeld ?_ ?_
       rotate_left
       ·rintro w' ⟨s0, s1, s2, s3, s4, s5⟩
        go_simp
        with_reducible rfl
       rotate_left
       ·simp only [Act.put, ls_, lz_, lc_, i64_w, i32_w]
        rfl
       refine on_ (N := some 29) 1 (bz 9 47) rfl rfl HT_ (by kernel_rfl) (by decide) (fun K hK => ?_)
       refine goes_ Tryd.func18 (by kernel_rfl) rfl #[.agg #[.int .i64 t302, .int .i64 t303, .int .i64 t304]] (by rfl) rfl rfl (by (try simp only [lm_, lq_, lx_]); first | done | rfl | (simp only [ld_, lt_]; rfl)) ?_
       with_reducible refine (pitch_Count.calls t302 t303 t304 t308 _ A7.out).mono ?_
       rintro e w24 ⟨rfl, hb⟩
       refine ⟨_, rfl, ?_⟩
       replace BK301 := kb_ BK301 hb
       replace BK306 := kb_ BK306 hb
       replace HB := hb_ HB (e_ GE301 (e_ GE306 e0_)) hb
       (try clear hb)
       (try clear hb2)
       (try clear hk)
       (try clear hi)
       refine hK.out _ _ ⟨(kc_ BK306.out 0).trans rfl, (kc_ BK306.out 1).trans rfl, (kc_ BK306.out 2).trans rfl, (kc_ BK301.out 0).trans rfl, (kc_ BK301.out 1).trans rfl, (kc_ BK301.out 2).trans rfl⟩ (fun hHeld => ?_)
       clear hK K
       refine norm_ (a' := ?_) ?_ ?_
       rotate_left
       ·show Act.put _ (some 29) _ = _
        simp only [Act.put, ls_, lz_, lc_, i64_w, i32_w]
        rfl
       refine pu_ (v := ?_) (a' := ?_) 4 32 (bz 9 63) rfl rfl HT_ (by kernel_rfl) (fun _ _ _ h => h) (by rfl) ?_ ?_ ?_
       rotate_left; (intro w'; go_simp; with_reducible rfl); rotate_left; (simp only [Act.put, ls_, lz_, lc_, i64_w, i32_w]; rfl)
       refine on_ (N := some 34) 6 (bz 9 127) rfl rfl HT_ (by kernel_rfl) (by decide) (fun K hK => ?_)
       refine goes_ Tryd.func18 (by kernel_rfl) rfl #[.agg #[.int .i64 a0_0, .int .i64 a0_1, .int .i64 a0_2]] (by rfl) rfl rfl (by (try simp only [lm_, lq_, lx_]); first | done | rfl | (simp only [ld_, lt_]; rfl)) ?_
       with_reducible refine (pitch_Count.calls a0_0 a0_1 a0_2 t309 _ A8.out).mono ?_
       rintro e w25 ⟨rfl, hb⟩
       refine ⟨_, rfl, ?_⟩
       replace BK301 := kb_ BK301 hb
       replace BK306 := kb_ BK306 hb
       replace HB := hb_ HB (e_ GE301 (e_ GE306 e0_)) hb
       (try clear hb)
       (try clear hb2)
       (try clear hk)
       (try clear hi)
       refine hK.out _ _ ⟨(kc_ BK306.out 0).trans rfl, (kc_ BK306.out 1).trans rfl, (kc_ BK306.out 2).trans rfl, (kc_ BK301.out 0).trans rfl, (kc_ BK301.out 1).trans rfl, (kc_ BK301.out 2).trans rfl⟩ (fun hHeld => ?_)
       clear hK K
       refine norm_ (a' := ?_) ?_ ?_
       rotate_left
       ·show Act.put _ (some 34) _ = _
        simp only [Act.put, ls_, lz_, lc_, i64_w, i32_w]
        rfl
       refine pu_ (v := ?_) (a' := ?_) 7 35 (bz 9 255) rfl rfl HT_ (by kernel_rfl) (fun _ _ _ h => h) (by rfl) ?_ ?_ ?_
       rotate_left; (intro w'; go_simp; with_reducible rfl); rotate_left; (simp only [Act.put, ls_, lz_, lc_, i64_w, i32_w]; rfl)
       refine pu_ (v := ?_) (a' := ?_) 8 11 (bz 9 511) rfl rfl HT_ (by kernel_rfl) (fun _ _ _ h => h) (by rfl) ?_ ?_ ?_
       rotate_left; (intro w'; go_simp; with_reducible rfl); rotate_left; (simp only [Act.put, ls_, lz_, lc_, i64_w, i32_w]; rfl)
       refine done_ (done_of HT_.out (by kernel_rfl)) ?_
       have hcz26_0 : w25.cell? ⟨gb306, 0, none⟩ = some (.int .i64 t302) := (kc_ BK306.out 0).trans rfl
       have hcz26_1 : w25.cell? ⟨gb306, 1, none⟩ = some (.int .i64 t303) := (kc_ BK306.out 1).trans rfl
       have hcz26_2 : w25.cell? ⟨gb306, 2, none⟩ = some (.int .i64 t304) := (kc_ BK306.out 2).trans rfl
       have hfz26_0 := kf_ BK306.out 0
       have hfz26_1 := kf_ BK306.out 1
       have hfz26_2 := kf_ BK306.out 2
       try go_wp2_with (first | ((with_reducible refine gate_callee (f := 14) rfl ?_); refine goesL_ (some 37) rfl rfl Tryd.func14 (by kernel_rfl) rfl #[.agg #[.int .i64 t302, .int .i64 t303, .int .i64 t304]] rfl (by (try simp only [lm_, lq_, lx_]); first | done | rfl | (simp only [ld_, lt_]; rfl)) ?_; (with_reducible refine (pitch_Check.calls t302 t303 t304 true _ A9.out).mono ?_); rintro e w27 ⟨rfl, hb⟩; refine ⟨_, rfl, ?_⟩; replace BK301 := kb_ BK301 hb; replace BK306 := kb_ BK306 hb; replace HB := hb_ HB (e_ GE301 (e_ GE306 e0_)) hb; (try clear hb); (try clear hb2); (try clear hk); (try clear hi); have hcz28_0 : w27.cell? ⟨gb306, 0, none⟩ = some (.int .i64 t302) := (kc_ BK306.out 0).trans rfl; have hcz28_1 : w27.cell? ⟨gb306, 1, none⟩ = some (.int .i64 t303) := (kc_ BK306.out 1).trans rfl; have hcz28_2 : w27.cell? ⟨gb306, 2, none⟩ = some (.int .i64 t304) := (kc_ BK306.out 2).trans rfl; have hfz28_0 := kf_ BK306.out 0; have hfz28_1 := kf_ BK306.out 1; have hfz28_2 := kf_ BK306.out 2) | (go_at_call 7; (with_reducible refine (neumelaw06_heads.calls k  t311 _ ?side1 A15.out).mono ?_); (case side1 => first | (with_reducible exact hE) | exact sd_ (LaidE.below hE.out (bb_ HB.out (e_ GE301 (e_ GE306 e0_))))); rintro e w29 ⟨rfl, hb⟩; replace BK301 := kb_ BK301 hb; replace BK306 := kb_ BK306 hb; replace HB := hb_ HB (e_ GE301 (e_ GE306 e0_)) hb; (try clear hb); (try clear hb2); (try clear hk); (try clear hi)))
       go_ret
       exact ⟨by first | rfl | (simp [errW_none, errW_some] <;> rfl) | (simp [*, errW_none, errW_some] <;> rfl), by repeat (first | (with_reducible first | exact HB.out | apply ba_ | apply pd_ | apply d1_ | refine bs_ ?_ GE301.out | refine bs_ ?_ GE306.out) | exact HB.out)⟩
      ·rw [if_neg c14] at H
       have c14b0 : decide ((wrap64 ((wrap64 (t308 - (wrap64 (7 * a3)))) - t309)) ≤ 3) = false := df_ c14
       clear c14
       exact absurd ((Option.some.inj H).trans hxt.out) (by decide)
     ·rw [if_neg c13] at H
      have c13b0 : decide ((-3) ≤ (wrap64 ((wrap64 (t308 - (wrap64 (7 * a3)))) - t309))) = false := df_ c13
      clear c13
      exact absurd ((Option.some.inj H).trans hxt.out) (by decide)
    ·rw [if_neg c12] at H
     have c12b0 : (t303 == a2) = false := beq_eq_false_iff_ne.mpr c12
     have c12b1 : (t303 != a2) = true := bne_iff_ne.mpr c12
     exact absurd ((Option.some.inj H).trans hxt.out) (by decide)
   ·rw [if_neg c11] at H
    have c11b0 : (t302 == a1) = false := beq_eq_false_iff_ne.mpr c11
    have c11b1 : (t302 != a1) = true := bne_iff_ne.mpr c11
    exact absurd ((Option.some.inj H).trans hxt.out) (by decide)
  ·replace c10 := bf_ c10
   subst c10
   have H1 : (some false) = some r := by rw [if_neg (show ¬ (false = true) by decide)] at H; exact H
   clear H; have H := H1; clear H1
   exact absurd ((Option.some.inj H).trans hxt.out) (by decide)
 ·rw [if_neg c6] at H
  have c6b0 : (t305 == 0) = false := beq_eq_false_iff_ne.mpr c6
  have c6b1 : (t305 != 0) = true := bne_iff_ne.mpr c6
  by_cases c30 : (t302 == 0 && (t303 == 0 && (t304 == 0))) = true
  ·rw [if_pos c30] at H
   have c30b0 : (t302 == 0 && (t303 == 0 && (t304 == 0))) = true := c30
   (try (have c30b1 : decide (t302 = 0 && (t303 == 0 && (t304 == 0))) = true := by simpa using c30))
   (try (have c30b2 : (t302 == 0 && (t303 == 0 && (t304 == 0))) = true := by simpa using c30))
   clear c30
   replace H := ob_ H
   obtain ⟨t307, A310, H⟩ := H
   replace H : (some t307) = some r := H
   have A31 := sd_ A310
   clear A310
   obtain rfl := Option.some.inj H
   go_enter Tryd.func5, Tryd.ntmps5
   go_wp2_with (first | ((with_reducible refine gate_dst (N := 4) rfl ?_); refine box_event ?hg (N := 4) ?hd (cs := #[.int .i64 a0_0, .int .i64 a0_1, .int .i64 a0_2]) (t := 23) ?hr ?_; (case hd => rfl); (case hg => rfl); (case hr => first | (go_simp; done) | (go_simp; rfl)); intro gb301 hg w32 hbox hb; have BK301 := sd_ hbox; have GW301 := gw_ HB e0_ hg; have GE301 := GW301; replace HB := hb_ HB e0_ hb; clear hb hbox hg; have hcz33_0 : w32.cell? ⟨gb301, 0, none⟩ = some (.int .i64 a0_0) := (kc_ BK301.out 0).trans rfl; have hcz33_1 : w32.cell? ⟨gb301, 1, none⟩ = some (.int .i64 a0_1) := (kc_ BK301.out 1).trans rfl; have hcz33_2 : w32.cell? ⟨gb301, 2, none⟩ = some (.int .i64 a0_2) := (kc_ BK301.out 2).trans rfl; have hfz33_0 := kf_ BK301.out 0; have hfz33_1 := kf_ BK301.out 1; have hfz33_2 := kf_ BK301.out 2) | ((with_reducible refine gate_callee (f := 22) rfl ?_); refine goesL_ (some 17) rfl rfl Tryd.func22 (by kernel_rfl) rfl #[.agg #[.int .i64 a0_0, .int .i64 a0_1, .int .i64 a0_2], .int .i64 a1, .int .i64 a2, .int .i64 a3] rfl (by (try simp only [lm_, lq_, lx_]); first | done | rfl | (simp only [ld_, lt_]; rfl)) ?_; (with_reducible refine (pitch_Near.calls a0_0 a0_1 a0_2 a1 a2 a3 t302 t303 t304 t305 _ A5.out).mono ?_); rintro e w34 ⟨rfl, hb⟩; refine ⟨_, rfl, ?_⟩; replace BK301 := kb_ BK301 hb; replace HB := hb_ HB (e_ GE301 e0_) hb; (try clear hb); (try clear hb2); (try clear hk); (try clear hi)) | ((with_reducible refine gate_dst (N := 9) rfl ?_); refine box_event ?hg (N := 9) ?hd (cs := #[.int .i64 0, .int .i64 0, .int .i64 0]) (t := 23) ?hr ?_; (case hd => rfl); (case hg => rfl); (case hr => first | (go_simp; done) | (go_simp; rfl)); intro gb306 hg w35 hbox hb; have BK306 := sd_ hbox; have GW306 := gw_ HB (e_ GE301 e0_) hg; have GE306 := GW306; have NB301_306 := nb_ BK301 hg; have NB306_301 := sy_ NB301_306; replace BK301 := kb_ BK301 hb; replace HB := hb_ HB (e_ GE301 e0_) hb; clear hb hbox hg; have hnb36 := NB306_301.out; have hnc36 := NB301_306.out; have hcz37_0 : w35.cell? ⟨gb306, 0, none⟩ = some (.int .i64 0) := (kc_ BK306.out 0).trans rfl; have hcz37_1 : w35.cell? ⟨gb306, 1, none⟩ = some (.int .i64 0) := (kc_ BK306.out 1).trans rfl; have hcz37_2 : w35.cell? ⟨gb306, 2, none⟩ = some (.int .i64 0) := (kc_ BK306.out 2).trans rfl; have hfz37_0 := kf_ BK306.out 0; have hfz37_1 := kf_ BK306.out 1; have hfz37_2 := kf_ BK306.out 2) | (go_at_call 7; (with_reducible refine (neumelaw06_heads.calls k  t307 _ ?side1 A31.out).mono ?_); (case side1 => first | (with_reducible exact hE) | exact sd_ (LaidE.below hE.out (bb_ HB.out (e_ GE301 (e_ GE306 e0_))))); rintro e w38 ⟨rfl, hb⟩; replace BK301 := sd_ (blk_below (g := gb301) (o := .cells #[.int .i64 a0_0, .int .i64 a0_1, .int .i64 a0_2] 23 (0, 0)) (by (with_reducible repeat first | apply kn_ | apply kd_ | apply ka_); refine blk_far ?_ NB301_306.out _; (with_reducible repeat first | apply kn_ | apply kd_ | apply ka_); refine blk_far ?_ NB301_306.out _; (with_reducible repeat first | apply kn_ | apply kd_ | apply ka_); refine blk_far ?_ NB301_306.out _; (with_reducible repeat first | apply kn_ | apply kd_ | apply ka_); exact BK301.out) hb); replace BK306 := sd_ (blk_below (g := gb306) (o := .cells #[.int .i64 t302, .int .i64 t303, .int .i64 t304] 23 (0, 0)) (by (with_reducible repeat first | apply kn_ | apply kd_ | apply ka_); refine blk_put (cs := #[.int .i64 t302, .int .i64 t303, .int .i64 0]) ?_ 2 _ rfl; (with_reducible repeat first | apply kn_ | apply kd_ | apply ka_); refine blk_put (cs := #[.int .i64 t302, .int .i64 0, .int .i64 0]) ?_ 1 _ rfl; (with_reducible repeat first | apply kn_ | apply kd_ | apply ka_); refine blk_put (cs := #[.int .i64 0, .int .i64 0, .int .i64 0]) ?_ 0 _ rfl; (with_reducible repeat first | apply kn_ | apply kd_ | apply ka_); exact BK306.out) hb); replace HB := hb_ HB (e_ GE301 (e_ GE306 e0_)) hb; (try clear hb); (try clear hb2); (try clear hk); (try clear hi)))
   go_ret
   exact ⟨by first | rfl | (simp [errW_none, errW_some] <;> rfl) | (simp [*, errW_none, errW_some] <;> rfl), by repeat (first | (with_reducible first | exact HB.out | apply ba_ | apply pd_ | apply d1_ | refine bs_ ?_ GE301.out | refine bs_ ?_ GE306.out) | exact HB.out)⟩
  ·rw [if_neg c30] at H
   have c30b0 : (t302 == 0 && (t303 == 0 && (t304 == 0))) = false := by simpa using c30
   (try (have c30b1 : decide (t302 = 0 && (t303 == 0 && (t304 == 0))) = false := by simpa using c30))
   (try (have c30b2 : (t302 == 0 && (t303 == 0 && (t304 == 0))) = false := by simpa using c30))
   (try (have c30b3 : ¬ (t302 = 0 && (t303 == 0 && (t304 == 0))) := by simpa using c30))
   clear c30
   exact absurd ((Option.some.inj H).trans hxt.out) (by decide)

end Go.Proofs.YtkncoedagigliaaDoor.P
