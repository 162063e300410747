-- Written by a program of this session (wip/tools/xprint.py, over the kit's print): Lean checks it.
import Derived.Test.YtkncoedagigliaaDoorPx0
import Derived.Test.YtkncoedagigliaaDoorPx1
import Derived.Test.YtkncoedagigliaaDoorPx2
import Derived.Test.YtkncoedagigliaaDoorPx3
import Derived.Test.YtkncoedagigliaaDoorPx5
import Derived.Test.YtkncoedagigliaaDoorPx6
import Derived.Test.YtkncoedagigliaaDoorPx7
namespace Go.Proofs.YtkncoedagigliaaDoor.P
open Go.RowKit Go.Proofs.YtkncoedagigliaaDoorW.PrintWords Go.Proofs.YtkncoedagigliaaDoorW.PrintLast Go.Proofs.YtkncoedagigliaaDoorW.PrintMore
attribute [local go_sem] max2_int min2_int max_two min_two max_three min_three max_four min_four   -- for this text's walks alone
set_option linter.unusedVariables false
set_option linter.unusedSimpArgs false

attribute [local go_sem high] eqA23
/-! ### neumelaw06_PitchTells: function 3 -/
def neumelaw06_PitchTells.j0 : Nat → Bool → Int → Int → Int → Option (Bool)
 | 0, _, _, _, _ => none
 | k + 1, x86, x250000, x250001, x250002 => if x86 = true then (some false) else ((pitch_Check.f x250000 x250001 x250002).bind fun t275 => ((neumeref06_Check.f x250000 x250001 x250002).bind fun t276 => (if (t275 == t276) = true then ((pitch_Tone.f x250000 x250001 x250002).bind fun t277 => ((neumeref06_Tone.f x250000 x250001 x250002).bind fun t278 => (if t277 = t278 then ((pitch_Count.f x250000 x250001 x250002).bind fun t279 => ((neumeref06_Count.f x250000 x250001 x250002).bind fun t280 => (if t279 = t280 then ((pitch_Name.f x250000 x250001 x250002).bind fun t281 => ((neumeref06_Name.f k x250000 x250001 x250002).bind fun t282 => (if t281.toList = t282.toList then ((neumelaw06_heads.f k).bind fun t283 => (some t283)) else (some false)))) else (some false)))) else (some false)))) else (some false))))
def neumelaw06_PitchTells.f (k : Nat) (a0_0 : Int) (a0_1 : Int) (a0_2 : Int) (a1 : Int) (a2 : Int) (a3 : ByteArray) : Option (Bool) := if (a3.size : Int) > 100 then ((neumelaw06_heads.f k).bind fun t250 => (some t250)) else ((pitch_Place.f a0_0 a0_1 a0_2 a1).bind fun bt251 => ((neumeref06_Place.f k a0_0 a0_1 a0_2 a1).bind fun bt253 => ((pitch_At.f a2 a1).bind fun bt255 => ((neumeref06_At.f k a2 a1).bind fun bt260 => ((pitch_Parse.f a3).bind fun bt265 => ((neumeref06_Parse.f k a3).bind fun bt270 => (if bt251.1 = bt253.1 then (if bt251.2 = bt253.2 then (if (!(bt255.1 == bt260.1) || (!(bt255.2.1 == bt260.2.1) || (!(bt255.2.2.1 == bt260.2.2.1)))) = true then (neumelaw06_PitchTells.j0 k true a0_0 a0_1 a0_2) else (if bt255.2.2.2 = bt260.2.2.2 then (if (!(bt265.1 == bt270.1) || (!(bt265.2.1 == bt270.2.1) || (!(bt265.2.2.1 == bt270.2.2.1)))) = true then (neumelaw06_PitchTells.j0 k true a0_0 a0_1 a0_2) else (neumelaw06_PitchTells.j0 k (bt265.2.2.2 != bt270.2.2.2) a0_0 a0_1 a0_2)) else (neumelaw06_PitchTells.j0 k true a0_0 a0_1 a0_2))) else (neumelaw06_PitchTells.j0 k true a0_0 a0_1 a0_2)) else (neumelaw06_PitchTells.j0 k true a0_0 a0_1 a0_2))))))))
theorem neumelaw06_PitchTells.mono_l : ∀ k, (∀ y0 y1 y2 y3, LeO (neumelaw06_PitchTells.j0 k y0 y1 y2 y3) (neumelaw06_PitchTells.j0 (k + 1) y0 y1 y2 y3))
 | 0 => fun _ _ _ _ r h => by simp [neumelaw06_PitchTells.j0] at h
 | k + 1 => by
  have ih0 := neumelaw06_PitchTells.mono_l k
  ·intro y0 y1 y2 y3
   unfold neumelaw06_PitchTells.j0
   repeat' first
   | (with_reducible exact ih0 _ _ _ _)
   | (with_reducible exact neumelaw06_heads.mono _)
   | (with_reducible exact neumeref06_At.mono _ _ _)
   | (with_reducible exact neumeref06_Name.mono _ _ _ _)
   | (with_reducible exact neumeref06_Parse.mono _ _)
   | (with_reducible exact neumeref06_Place.mono _ _ _ _ _)
   | (with_reducible exact LeO.refl _)
   | (with_reducible exact LeO.none _)
   | (with_reducible refine LeO.ite ?_ ?_)
   | (with_reducible refine LeO.bind ?_ (fun _ => ?_))
   | exact ih0 _ _ _ _
   | exact neumelaw06_heads.mono _
   | exact neumeref06_At.mono _ _ _
   | exact neumeref06_Name.mono _ _ _ _
   | exact neumeref06_Parse.mono _ _
   | exact neumeref06_Place.mono _ _ _ _ _
   | exact LeO.none _
   | refine LeO.ite ?_ ?_
   | refine LeO.bind ?_ (fun _ => ?_)
theorem neumelaw06_PitchTells.mono : ∀ a0 a1 a2 a3 a4 a5 k, LeO (neumelaw06_PitchTells.f k a0 a1 a2 a3 a4 a5) (neumelaw06_PitchTells.f (k + 1) a0 a1 a2 a3 a4 a5) := by
 intro a0 a1 a2 a3 a4 a5 k
 have ih0 := neumelaw06_PitchTells.mono_l k
 unfold neumelaw06_PitchTells.f
 repeat' first
   | (with_reducible exact ih0 _ _ _ _)
   | (with_reducible exact neumelaw06_heads.mono _)
   | (with_reducible exact neumeref06_At.mono _ _ _)
   | (with_reducible exact neumeref06_Name.mono _ _ _ _)
   | (with_reducible exact neumeref06_Parse.mono _ _)
   | (with_reducible exact neumeref06_Place.mono _ _ _ _ _)
   | (with_reducible exact LeO.refl _)
   | (with_reducible exact LeO.none _)
   | (with_reducible refine LeO.ite ?_ ?_)
   | (with_reducible refine LeO.bind ?_ (fun _ => ?_))
   | exact ih0 _ _ _ _
   | exact neumelaw06_heads.mono _
   | exact neumeref06_At.mono _ _ _
   | exact neumeref06_Name.mono _ _ _ _
   | exact neumeref06_Parse.mono _ _
   | exact neumeref06_Place.mono _ _ _ _ _
   | exact LeO.none _
   | refine LeO.ite ?_ ?_
   | refine LeO.bind ?_ (fun _ => ?_)
def neumelaw06_PitchTells.T11 : Bool × List (List Nat × List Nat) := (true, [([], []), ([0], [0]), ([], []), ([2, 1], [2]), ([1, 3], [1, 3]), ([4, 3], [4]), ([5], [5]), ([6, 5, 5], [5, 6]), ([5], [5]), ([8, 7, 5], [5, 8]), ([7, 9, 5], [5, 7, 9]), ([5, 10], [5, 10]), ([11, 9], [11]), ([12], [12]), ([13, 12, 12], [12, 13]), ([12], [12]), ([15, 14, 12], [12, 15]), ([14, 16, 12], [12, 14, 16]), ([12, 17], [12, 17]), ([18, 16], [18]), ([19], [19]), ([20, 19, 19], [19, 20]), ([19], [19]), ([22, 21, 19], [19, 22]), ([21, 23, 19], [19, 21, 23]), ([19, 24], [19, 24]), ([25, 23], [25]), ([26, 26], [26]), ([26, 27], [26, 27]), ([28, 27, 0, 1, 2, 3, 4, 5, 6, 7, 8, 9, 10, 11, 12, 13, 14, 15, 16, 17, 18, 19, 20, 21, 22, 23, 24, 25, 26, 27, 28], [28])])
def neumelaw06_PitchTells.B11 : List Nat := [0, 1, 0, 7, 15, 31, 63, 127, 63, 511, 1023, 2047, 4095, 8191, 16383, 8191, 65535, 131071, 262143, 524287, 1048575, 2097151, 1048575, 8388607, 16777215, 33554431, 67108863, 134217727, 268435455, 536870911]
theorem neumelaw06_PitchTells.tab11 : rtab .any (opsOf Tryd.f3 11) = neumelaw06_PitchTells.T11 := by kernel_rfl
theorem neumelaw06_PitchTells.bits11 : waitsOk neumelaw06_PitchTells.T11.2 neumelaw06_PitchTells.B11 = true := by kernel_rfl
set_option maxHeartbeats 8000000 in
set_option maxRecDepth 100000 in
theorem neumelaw06_PitchTells.calls (k : Nat) (a0_0 : Int) (a0_1 : Int) (a0_2 : Int) (a1 : Int) (a2 : Int) (a3 : ByteArray) (r : Bool) (w : World) (hE : Aside0 (LaidE w)) (hxt : Aside0 (r = true)) (h : neumelaw06_PitchTells.f k a0_0 a0_1 a0_2 a1 a2 a3 = some r) :
  Calls Tryd.prog 3 #[.agg #[.int .i64 a0_0, .int .i64 a0_1, .int .i64 a0_2], .int .i64 a1, .int .i64 a2, .string a3] w fun e w' => e = .returned (.bool r) ∧ Below w.heap.size w w' := by
 have hu23 := Tryd.underlying23
 have HB := sd_ (Below.refl w.heap.size w)
 have H : (if (a3.size : Int) > 100 then ((neumelaw06_heads.f k).bind fun t250 => (some t250)) else ((pitch_Place.f a0_0 a0_1 a0_2 a1).bind fun bt251 => ((neumeref06_Place.f k a0_0 a0_1 a0_2 a1).bind fun bt253 => ((pitch_At.f a2 a1).bind fun bt255 => ((neumeref06_At.f k a2 a1).bind fun bt260 => ((pitch_Parse.f a3).bind fun bt265 => ((neumeref06_Parse.f k a3).bind fun bt270 => (if bt251.1 = bt253.1 then (if bt251.2 = bt253.2 then (if (!(bt255.1 == bt260.1) || (!(bt255.2.1 == bt260.2.1) || (!(bt255.2.2.1 == bt260.2.2.1)))) = true then (neumelaw06_PitchTells.j0 k true a0_0 a0_1 a0_2) else (if bt255.2.2.2 = bt260.2.2.2 then (if (!(bt265.1 == bt270.1) || (!(bt265.2.1 == bt270.2.1) || (!(bt265.2.2.1 == bt270.2.2.1)))) = true then (neumelaw06_PitchTells.j0 k true a0_0 a0_1 a0_2) else (neumelaw06_PitchTells.j0 k (bt265.2.2.2 != bt270.2.2.2) a0_0 a0_1 a0_2)) else (neumelaw06_PitchTells.j0 k true a0_0 a0_1 a0_2))) else (neumelaw06_PitchTells.j0 k true a0_0 a0_1 a0_2)) else (neumelaw06_PitchTells.j0 k true a0_0 a0_1 a0_2))))))))) = some r := h
 clear h
 by_cases c5 : (a3.size : Int) > 100
 ·rw [if_pos c5] at H
  have c5b0 : decide (100 < (a3.size : Int)) = true := dt_ c5
  have c5b1 : decide (100 < a3.size) = true := dt_ (by omega)
  clear c5
  replace H := ob_ H
  obtain ⟨t250, A60, H⟩ := H
  replace H : (some t250) = some r := H
  have A6 := sd_ A60
  clear A60
  obtain rfl := Option.some.inj H
  go_enter Tryd.func3, Tryd.ntmps3
  go_wp2_with (first | ((with_reducible refine gate_dst (N := 4) rfl ?_); refine box_event ?hg (N := 4) ?hd (cs := #[.int .i64 a0_0, .int .i64 a0_1, .int .i64 a0_2]) (t := 23) ?hr ?_; (case hd => rfl); (case hg => rfl); (case hr => first | (go_simp; done) | (go_simp; rfl)); intro gb249 hg w7 hbox hb; have BK249 := sd_ hbox; have GW249 := gw_ HB e0_ hg; have GE249 := GW249; replace HB := hb_ HB e0_ hb; clear hb hbox hg) | ((with_reducible refine gate_callee (f := 7) rfl ?_); refine goesL_ (some 24) rfl rfl Tryd.func7 (by kernel_rfl) rfl #[] rfl (by (try simp only [lm_, lq_, lx_]); first | done | rfl | (simp only [ld_, lt_]; rfl)) ?_; (with_reducible refine (neumelaw06_heads.calls k  t250 _ ?side1 A6.out).mono ?_); (case side1 => first | (with_reducible exact hE) | exact sd_ (LaidE.below hE.out (bb_ HB.out (e_ GE249 e0_)))); rintro e w8 ⟨rfl, hb⟩; refine ⟨_, rfl, ?_⟩; replace BK249 := kb_ BK249 hb; replace HB := hb_ HB (e_ GE249 e0_) hb; (try clear hb); (try clear hb2); (try clear hk); (try clear hi)))
  go_ret
  exact ⟨by first | rfl | (simp [errW_none, errW_some] <;> rfl) | (simp [*, errW_none, errW_some] <;> rfl), by repeat (first | (with_reducible first | exact HB.out | apply ba_ | apply pd_ | apply d1_ | refine bs_ ?_ GE249.out) | exact HB.out)⟩
 ·rw [if_neg c5] at H
  have c5b0 : decide (100 < (a3.size : Int)) = false := df_ c5
  have c5b1 : decide (100 < a3.size) = false := df_ (by omega)
  clear c5
  replace H := ob_ H
  obtain ⟨⟨t251, t252⟩, A90, H⟩ := H
  replace H : ((neumeref06_Place.f k a0_0 a0_1 a0_2 a1).bind fun bt253 => ((pitch_At.f a2 a1).bind fun bt255 => ((neumeref06_At.f k a2 a1).bind fun bt260 => ((pitch_Parse.f a3).bind fun bt265 => ((neumeref06_Parse.f k a3).bind fun bt270 => (if t251 = bt253.1 then (if t252 = bt253.2 then (if (!(bt255.1 == bt260.1) || (!(bt255.2.1 == bt260.2.1) || (!(bt255.2.2.1 == bt260.2.2.1)))) = true then (neumelaw06_PitchTells.j0 k true a0_0 a0_1 a0_2) else (if bt255.2.2.2 = bt260.2.2.2 then (if (!(bt265.1 == bt270.1) || (!(bt265.2.1 == bt270.2.1) || (!(bt265.2.2.1 == bt270.2.2.1)))) = true then (neumelaw06_PitchTells.j0 k true a0_0 a0_1 a0_2) else (neumelaw06_PitchTells.j0 k (bt265.2.2.2 != bt270.2.2.2) a0_0 a0_1 a0_2)) else (neumelaw06_PitchTells.j0 k true a0_0 a0_1 a0_2))) else (neumelaw06_PitchTells.j0 k true a0_0 a0_1 a0_2)) else (neumelaw06_PitchTells.j0 k true a0_0 a0_1 a0_2))))))) = some r := H
  have A9 := sd_ A90
  clear A90
  replace H := ob_ H
  obtain ⟨⟨t253, t254⟩, A100, H⟩ := H
  replace H : ((pitch_At.f a2 a1).bind fun bt255 => ((neumeref06_At.f k a2 a1).bind fun bt260 => ((pitch_Parse.f a3).bind fun bt265 => ((neumeref06_Parse.f k a3).bind fun bt270 => (if t251 = t253 then (if t252 = t254 then (if (!(bt255.1 == bt260.1) || (!(bt255.2.1 == bt260.2.1) || (!(bt255.2.2.1 == bt260.2.2.1)))) = true then (neumelaw06_PitchTells.j0 k true a0_0 a0_1 a0_2) else (if bt255.2.2.2 = bt260.2.2.2 then (if (!(bt265.1 == bt270.1) || (!(bt265.2.1 == bt270.2.1) || (!(bt265.2.2.1 == bt270.2.2.1)))) = true then (neumelaw06_PitchTells.j0 k true a0_0 a0_1 a0_2) else (neumelaw06_PitchTells.j0 k (bt265.2.2.2 != bt270.2.2.2) a0_0 a0_1 a0_2)) else (neumelaw06_PitchTells.j0 k true a0_0 a0_1 a0_2))) else (neumelaw06_PitchTells.j0 k true a0_0 a0_1 a0_2)) else (neumelaw06_PitchTells.j0 k true a0_0 a0_1 a0_2)))))) = some r := H
  have A10 := sd_ A100
  clear A100
  replace H := ob_ H
  obtain ⟨⟨t255, t256, t257, t258⟩, A110, H⟩ := H
  replace H : ((neumeref06_At.f k a2 a1).bind fun bt260 => ((pitch_Parse.f a3).bind fun bt265 => ((neumeref06_Parse.f k a3).bind fun bt270 => (if t251 = t253 then (if t252 = t254 then (if (!(t255 == bt260.1) || (!(t256 == bt260.2.1) || (!(t257 == bt260.2.2.1)))) = true then (neumelaw06_PitchTells.j0 k true a0_0 a0_1 a0_2) else (if t258 = bt260.2.2.2 then (if (!(bt265.1 == bt270.1) || (!(bt265.2.1 == bt270.2.1) || (!(bt265.2.2.1 == bt270.2.2.1)))) = true then (neumelaw06_PitchTells.j0 k true a0_0 a0_1 a0_2) else (neumelaw06_PitchTells.j0 k (bt265.2.2.2 != bt270.2.2.2) a0_0 a0_1 a0_2)) else (neumelaw06_PitchTells.j0 k true a0_0 a0_1 a0_2))) else (neumelaw06_PitchTells.j0 k true a0_0 a0_1 a0_2)) else (neumelaw06_PitchTells.j0 k true a0_0 a0_1 a0_2))))) = some r := H
  have A11 := sd_ A110
  clear A110
  replace H := ob_ H
  obtain ⟨⟨t260, t261, t262, t263⟩, A120, H⟩ := H
  replace H : ((pitch_Parse.f a3).bind fun bt265 => ((neumeref06_Parse.f k a3).bind fun bt270 => (if t251 = t253 then (if t252 = t254 then (if (!(t255 == t260) || (!(t256 == t261) || (!(t257 == t262)))) = true then (neumelaw06_PitchTells.j0 k true a0_0 a0_1 a0_2) else (if t258 = t263 then (if (!(bt265.1 == bt270.1) || (!(bt265.2.1 == bt270.2.1) || (!(bt265.2.2.1 == bt270.2.2.1)))) = true then (neumelaw06_PitchTells.j0 k true a0_0 a0_1 a0_2) else (neumelaw06_PitchTells.j0 k (bt265.2.2.2 != bt270.2.2.2) a0_0 a0_1 a0_2)) else (neumelaw06_PitchTells.j0 k true a0_0 a0_1 a0_2))) else (neumelaw06_PitchTells.j0 k true a0_0 a0_1 a0_2)) else (neumelaw06_PitchTells.j0 k true a0_0 a0_1 a0_2)))) = some r := H
  have A12 := sd_ A120
  clear A120
  replace H := ob_ H
  obtain ⟨⟨t265, t266, t267, t268⟩, A130, H⟩ := H
  replace H : ((neumeref06_Parse.f k a3).bind fun bt270 => (if t251 = t253 then (if t252 = t254 then (if (!(t255 == t260) || (!(t256 == t261) || (!(t257 == t262)))) = true then (neumelaw06_PitchTells.j0 k true a0_0 a0_1 a0_2) else (if t258 = t263 then (if (!(t265 == bt270.1) || (!(t266 == bt270.2.1) || (!(t267 == bt270.2.2.1)))) = true then (neumelaw06_PitchTells.j0 k true a0_0 a0_1 a0_2) else (neumelaw06_PitchTells.j0 k (t268 != bt270.2.2.2) a0_0 a0_1 a0_2)) else (neumelaw06_PitchTells.j0 k true a0_0 a0_1 a0_2))) else (neumelaw06_PitchTells.j0 k true a0_0 a0_1 a0_2)) else (neumelaw06_PitchTells.j0 k true a0_0 a0_1 a0_2))) = some r := H
  have A13 := sd_ A130
  clear A130
  replace H := ob_ H
  obtain ⟨⟨t270, t271, t272, t273⟩, A140, H⟩ := H
  replace H : (if t251 = t253 then (if t252 = t254 then (if (!(t255 == t260) || (!(t256 == t261) || (!(t257 == t262)))) = true then (neumelaw06_PitchTells.j0 k true a0_0 a0_1 a0_2) else (if t258 = t263 then (if (!(t265 == t270) || (!(t266 == t271) || (!(t267 == t272)))) = true then (neumelaw06_PitchTells.j0 k true a0_0 a0_1 a0_2) else (neumelaw06_PitchTells.j0 k (t268 != t273) a0_0 a0_1 a0_2)) else (neumelaw06_PitchTells.j0 k true a0_0 a0_1 a0_2))) else (neumelaw06_PitchTells.j0 k true a0_0 a0_1 a0_2)) else (neumelaw06_PitchTells.j0 k true a0_0 a0_1 a0_2)) = some r := H
  have A14 := sd_ A140
  clear A140
  have HC15 := sd_ H
  clear H
  go_enter Tryd.func3, Tryd.ntmps3
  go_upto_region 9 with (first | ((with_reducible refine gate_dst (N := 4) rfl ?_); refine box_event ?hg (N := 4) ?hd (cs := #[.int .i64 a0_0, .int .i64 a0_1, .int .i64 a0_2]) (t := 23) ?hr ?_; (case hd => rfl); (case hg => rfl); (case hr => first | (go_simp; done) | (go_simp; rfl)); intro gb249 hg w16 hbox hb; have BK249 := sd_ hbox; have GW249 := gw_ HB e0_ hg; have GE249 := GW249; replace HB := hb_ HB e0_ hb; clear hb hbox hg; have hcz17_0 : w16.cell? ⟨gb249, 0, none⟩ = some (.int .i64 a0_0) := (kc_ BK249.out 0).trans rfl; have hcz17_1 : w16.cell? ⟨gb249, 1, none⟩ = some (.int .i64 a0_1) := (kc_ BK249.out 1).trans rfl; have hcz17_2 : w16.cell? ⟨gb249, 2, none⟩ = some (.int .i64 a0_2) := (kc_ BK249.out 2).trans rfl; have hfz17_0 := kf_ BK249.out 0; have hfz17_1 := kf_ BK249.out 1; have hfz17_2 := kf_ BK249.out 2) | ((with_reducible refine gate_callee (f := 8) rfl ?_); refine goesL_ (some 28) rfl rfl Tryd.func8 (by kernel_rfl) rfl #[.agg #[.int .i64 a0_0, .int .i64 a0_1, .int .i64 a0_2], .int .i64 a1] rfl (by (try simp only [lm_, lq_, lx_]); first | done | rfl | (simp only [ld_, lt_]; rfl)) ?_; (with_reducible refine (pitch_Place.calls a0_0 a0_1 a0_2 a1 t251 t252 _ A9.out).mono ?_); rintro e w18 ⟨rfl, hb⟩; refine ⟨_, rfl, ?_⟩; replace BK249 := kb_ BK249 hb; replace HB := hb_ HB (e_ GE249 e0_) hb; (try clear hb); (try clear hb2); (try clear hk); (try clear hi); have hcz19_0 : w18.cell? ⟨gb249, 0, none⟩ = some (.int .i64 a0_0) := (kc_ BK249.out 0).trans rfl; have hcz19_1 : w18.cell? ⟨gb249, 1, none⟩ = some (.int .i64 a0_1) := (kc_ BK249.out 1).trans rfl; have hcz19_2 : w18.cell? ⟨gb249, 2, none⟩ = some (.int .i64 a0_2) := (kc_ BK249.out 2).trans rfl; have hfz19_0 := kf_ BK249.out 0; have hfz19_1 := kf_ BK249.out 1; have hfz19_2 := kf_ BK249.out 2) | ((with_reducible refine gate_callee (f := 9) rfl ?_); refine goesL_ (some 34) rfl rfl Tryd.func9 (by kernel_rfl) rfl #[.agg #[.int .i64 a0_0, .int .i64 a0_1, .int .i64 a0_2], .int .i64 a1] rfl (by (try simp only [lm_, lq_, lx_]); first | done | rfl | (simp only [ld_, lt_]; rfl)) ?_; (with_reducible refine (neumeref06_Place.calls k a0_0 a0_1 a0_2 a1 t253 t254 _ A10.out).mono ?_); rintro e w20 ⟨rfl, hb⟩; refine ⟨_, rfl, ?_⟩; replace BK249 := kb_ BK249 hb; replace HB := hb_ HB (e_ GE249 e0_) hb; (try clear hb); (try clear hb2); (try clear hk); (try clear hi)) | ((with_reducible refine gate_callee (f := 10) rfl ?_); refine goesL_ (some 40) rfl rfl Tryd.func10 (by kernel_rfl) rfl #[.int .i64 a2, .int .i64 a1] rfl (by (try simp only [lm_, lq_, lx_]); first | done | rfl | (simp only [ld_, lt_]; rfl)) ?_; (with_reducible refine (pitch_At.calls a2 a1 t255 t256 t257 t258 _ A11.out).mono ?_); rintro e w21 ⟨rfl, hb⟩; refine ⟨_, rfl, ?_⟩; replace BK249 := kb_ BK249 hb; replace HB := hb_ HB (e_ GE249 e0_) hb; (try clear hb); (try clear hb2); (try clear hk); (try clear hi)) | ((with_reducible refine gate_dst (N := 13) rfl ?_); refine box_event ?hg (N := 13) ?hd (cs := #[.int .i64 0, .int .i64 0, .int .i64 0]) (t := 23) ?hr ?_; (case hd => rfl); (case hg => rfl); (case hr => first | (go_simp; done) | (go_simp; rfl)); intro gb259 hg w22 hbox hb; have BK259 := sd_ hbox; have GW259 := gw_ HB (e_ GE249 e0_) hg; have GE259 := GW259; have NB249_259 := nb_ BK249 hg; have NB259_249 := sy_ NB249_259; replace BK249 := kb_ BK249 hb; replace HB := hb_ HB (e_ GE249 e0_) hb; clear hb hbox hg; have hnb23 := NB259_249.out; have hnc23 := NB249_259.out; have hcz24_0 : w22.cell? ⟨gb259, 0, none⟩ = some (.int .i64 0) := (kc_ BK259.out 0).trans rfl; have hcz24_1 : w22.cell? ⟨gb259, 1, none⟩ = some (.int .i64 0) := (kc_ BK259.out 1).trans rfl; have hcz24_2 : w22.cell? ⟨gb259, 2, none⟩ = some (.int .i64 0) := (kc_ BK259.out 2).trans rfl; have hfz24_0 := kf_ BK259.out 0; have hfz24_1 := kf_ BK259.out 1; have hfz24_2 := kf_ BK259.out 2) | ((with_reducible refine gate_callee (f := 11) rfl ?_); refine goesL_ (some 46) rfl rfl Tryd.func11 (by kernel_rfl) rfl #[.int .i64 a2, .int .i64 a1] rfl (by (try simp only [lm_, lq_, lx_]); first | done | rfl | (simp only [ld_, lt_]; rfl)) ?_; (with_reducible refine (neumeref06_At.calls k a2 a1 t260 t261 t262 t263 _ A12.out).mono ?_); rintro e w25 ⟨rfl, hb⟩; refine ⟨_, rfl, ?_⟩; replace BK249 := sd_ (blk_below (g := gb249) (o := .cells #[.int .i64 a0_0, .int .i64 a0_1, .int .i64 a0_2] 23 (0, 0)) (by (with_reducible repeat first | apply kn_ | apply kd_ | apply ka_); refine blk_far ?_ NB249_259.out _; (with_reducible repeat first | apply kn_ | apply kd_ | apply ka_); refine blk_far ?_ NB249_259.out _; (with_reducible repeat first | apply kn_ | apply kd_ | apply ka_); refine blk_far ?_ NB249_259.out _; (with_reducible repeat first | apply kn_ | apply kd_ | apply ka_); exact BK249.out) hb); replace BK259 := sd_ (blk_below (g := gb259) (o := .cells #[.int .i64 t255, .int .i64 t256, .int .i64 t257] 23 (0, 0)) (by (with_reducible repeat first | apply kn_ | apply kd_ | apply ka_); refine blk_put (cs := #[.int .i64 t255, .int .i64 t256, .int .i64 0]) ?_ 2 _ rfl; (with_reducible repeat first | apply kn_ | apply kd_ | apply ka_); refine blk_put (cs := #[.int .i64 t255, .int .i64 0, .int .i64 0]) ?_ 1 _ rfl; (with_reducible repeat first | apply kn_ | apply kd_ | apply ka_); refine blk_put (cs := #[.int .i64 0, .int .i64 0, .int .i64 0]) ?_ 0 _ rfl; (with_reducible repeat first | apply kn_ | apply kd_ | apply ka_); exact BK259.out) hb); replace HB := hb_ HB (e_ GE249 (e_ GE259 e0_)) hb; (try clear hb); (try clear hb2); (try clear hk); (try clear hi)) | ((with_reducible refine gate_dst (N := 15) rfl ?_); refine box_event ?hg (N := 15) ?hd (cs := #[.int .i64 0, .int .i64 0, .int .i64 0]) (t := 23) ?hr ?_; (case hd => rfl); (case hg => rfl); (case hr => first | (go_simp; done) | (go_simp; rfl)); intro gb264 hg w26 hbox hb; have BK264 := sd_ hbox; have GW264 := gw_ HB (e_ GE249 (e_ GE259 e0_)) hg; have GE264 := GW264; have NB249_264 := nb_ BK249 hg; have NB264_249 := sy_ NB249_264; have NB259_264 := nb_ BK259 hg; have NB264_259 := sy_ NB259_264; replace BK249 := kb_ BK249 hb; replace BK259 := kb_ BK259 hb; replace HB := hb_ HB (e_ GE249 (e_ GE259 e0_)) hb; clear hb hbox hg; have hnb27 := NB264_249.out; have hnc27 := NB249_264.out; have hnb28 := NB264_259.out; have hnc28 := NB259_264.out; have hcz29_0 : w26.cell? ⟨gb264, 0, none⟩ = some (.int .i64 0) := (kc_ BK264.out 0).trans rfl; have hcz29_1 : w26.cell? ⟨gb264, 1, none⟩ = some (.int .i64 0) := (kc_ BK264.out 1).trans rfl; have hcz29_2 : w26.cell? ⟨gb264, 2, none⟩ = some (.int .i64 0) := (kc_ BK264.out 2).trans rfl; have hfz29_0 := kf_ BK264.out 0; have hfz29_1 := kf_ BK264.out 1; have hfz29_2 := kf_ BK264.out 2) | ((with_reducible refine gate_callee (f := 12) rfl ?_); refine goesL_ (some 51) rfl rfl Tryd.func12 (by kernel_rfl) rfl #[.string a3] rfl (by (try simp only [lm_, lq_, lx_]); first | done | rfl | (simp only [ld_, lt_]; rfl)) ?_; (with_reducible refine (pitch_Parse.calls a3 t265 t266 t267 t268 _ ?side1 A13.out).mono ?_); (case side1 => first | (with_reducible exact hE) | exact sd_ (LaidE.below hE.out (bb_ HB.out (e_ GE249 (e_ GE259 (e_ GE264 e0_)))))); rintro e w30 ⟨rfl, hb⟩; refine ⟨_, rfl, ?_⟩; replace BK249 := sd_ (blk_below (g := gb249) (o := .cells #[.int .i64 a0_0, .int .i64 a0_1, .int .i64 a0_2] 23 (0, 0)) (by (with_reducible repeat first | apply kn_ | apply kd_ | apply ka_); refine blk_far ?_ NB249_264.out _; (with_reducible repeat first | apply kn_ | apply kd_ | apply ka_); refine blk_far ?_ NB249_264.out _; (with_reducible repeat first | apply kn_ | apply kd_ | apply ka_); refine blk_far ?_ NB249_264.out _; (with_reducible repeat first | apply kn_ | apply kd_ | apply ka_); exact BK249.out) hb); replace BK259 := sd_ (blk_below (g := gb259) (o := .cells #[.int .i64 t255, .int .i64 t256, .int .i64 t257] 23 (0, 0)) (by (with_reducible repeat first | apply kn_ | apply kd_ | apply ka_); refine blk_far ?_ NB259_264.out _; (with_reducible repeat first | apply kn_ | apply kd_ | apply ka_); refine blk_far ?_ NB259_264.out _; (with_reducible repeat first | apply kn_ | apply kd_ | apply ka_); refine blk_far ?_ NB259_264.out _; (with_reducible repeat first | apply kn_ | apply kd_ | apply ka_); exact BK259.out) hb); replace BK264 := sd_ (blk_below (g := gb264) (o := .cells #[.int .i64 t260, .int .i64 t261, .int .i64 t262] 23 (0, 0)) (by (with_reducible repeat first | apply kn_ | apply kd_ | apply ka_); refine blk_put (cs := #[.int .i64 t260, .int .i64 t261, .int .i64 0]) ?_ 2 _ rfl; (with_reducible repeat first | apply kn_ | apply kd_ | apply ka_); refine blk_put (cs := #[.int .i64 t260, .int .i64 0, .int .i64 0]) ?_ 1 _ rfl; (with_reducible repeat first | apply kn_ | apply kd_ | apply ka_); refine blk_put (cs := #[.int .i64 0, .int .i64 0, .int .i64 0]) ?_ 0 _ rfl; (with_reducible repeat first | apply kn_ | apply kd_ | apply ka_); exact BK264.out) hb); replace HB := hb_ HB (e_ GE249 (e_ GE259 (e_ GE264 e0_))) hb; (try clear hb); (try clear hb2); (try clear hk); (try clear hi)) | ((with_reducible refine gate_dst (N := 17) rfl ?_); refine box_event ?hg (N := 17) ?hd (cs := #[.int .i64 0, .int .i64 0, .int .i64 0]) (t := 23) ?hr ?_; (case hd => rfl); (case hg => rfl); (case hr => first | (go_simp; done) | (go_simp; rfl)); intro gb269 hg w31 hbox hb; have BK269 := sd_ hbox; have GW269 := gw_ HB (e_ GE249 (e_ GE259 (e_ GE264 e0_))) hg; have GE269 := GW269; have NB249_269 := nb_ BK249 hg; have NB269_249 := sy_ NB249_269; have NB259_269 := nb_ BK259 hg; have NB269_259 := sy_ NB259_269; have NB264_269 := nb_ BK264 hg; have NB269_264 := sy_ NB264_269; replace BK249 := kb_ BK249 hb; replace BK259 := kb_ BK259 hb; replace BK264 := kb_ BK264 hb; replace HB := hb_ HB (e_ GE249 (e_ GE259 (e_ GE264 e0_))) hb; clear hb hbox hg; have hnb32 := NB269_249.out; have hnc32 := NB249_269.out; have hnb33 := NB269_259.out; have hnc33 := NB259_269.out; have hnb34 := NB269_264.out; have hnc34 := NB264_269.out; have hcz35_0 : w31.cell? ⟨gb269, 0, none⟩ = some (.int .i64 0) := (kc_ BK269.out 0).trans rfl; have hcz35_1 : w31.cell? ⟨gb269, 1, none⟩ = some (.int .i64 0) := (kc_ BK269.out 1).trans rfl; have hcz35_2 : w31.cell? ⟨gb269, 2, none⟩ = some (.int .i64 0) := (kc_ BK269.out 2).trans rfl; have hfz35_0 := kf_ BK269.out 0; have hfz35_1 := kf_ BK269.out 1; have hfz35_2 := kf_ BK269.out 2) | ((with_reducible refine gate_callee (f := 13) rfl ?_); refine goesL_ (some 56) rfl rfl Tryd.func13 (by kernel_rfl) rfl #[.string a3] rfl (by (try simp only [lm_, lq_, lx_]); first | done | rfl | (simp only [ld_, lt_]; rfl)) ?_; (with_reducible refine (neumeref06_Parse.calls k a3 t270 t271 t272 t273 _ A14.out).mono ?_); rintro e w36 ⟨rfl, hb⟩; refine ⟨_, rfl, ?_⟩; replace BK249 := sd_ (blk_below (g := gb249) (o := .cells #[.int .i64 a0_0, .int .i64 a0_1, .int .i64 a0_2] 23 (0, 0)) (by (with_reducible repeat first | apply kn_ | apply kd_ | apply ka_); refine blk_far ?_ NB249_269.out _; (with_reducible repeat first | apply kn_ | apply kd_ | apply ka_); refine blk_far ?_ NB249_269.out _; (with_reducible repeat first | apply kn_ | apply kd_ | apply ka_); refine blk_far ?_ NB249_269.out _; (with_reducible repeat first | apply kn_ | apply kd_ | apply ka_); exact BK249.out) hb); replace BK259 := sd_ (blk_below (g := gb259) (o := .cells #[.int .i64 t255, .int .i64 t256, .int .i64 t257] 23 (0, 0)) (by (with_reducible repeat first | apply kn_ | apply kd_ | apply ka_); refine blk_far ?_ NB259_269.out _; (with_reducible repeat first | apply kn_ | apply kd_ | apply ka_); refine blk_far ?_ NB259_269.out _; (with_reducible repeat first | apply kn_ | apply kd_ | apply ka_); refine blk_far ?_ NB259_269.out _; (with_reducible repeat first | apply kn_ | apply kd_ | apply ka_); exact BK259.out) hb); replace BK264 := sd_ (blk_below (g := gb264) (o := .cells #[.int .i64 t260, .int .i64 t261, .int .i64 t262] 23 (0, 0)) (by (with_reducible repeat first | apply kn_ | apply kd_ | apply ka_); refine blk_far ?_ NB264_269.out _; (with_reducible repeat first | apply kn_ | apply kd_ | apply ka_); refine blk_far ?_ NB264_269.out _; (with_reducible repeat first | apply kn_ | apply kd_ | apply ka_); refine blk_far ?_ NB264_269.out _; (with_reducible repeat first | apply kn_ | apply kd_ | apply ka_); exact BK264.out) hb); replace BK269 := sd_ (blk_below (g := gb269) (o := .cells #[.int .i64 t265, .int .i64 t266, .int .i64 t267] 23 (0, 0)) (by (with_reducible repeat first | apply kn_ | apply kd_ | apply ka_); refine blk_put (cs := #[.int .i64 t265, .int .i64 t266, .int .i64 0]) ?_ 2 _ rfl; (with_reducible repeat first | apply kn_ | apply kd_ | apply ka_); refine blk_put (cs := #[.int .i64 t265, .int .i64 0, .int .i64 0]) ?_ 1 _ rfl; (with_reducible repeat first | apply kn_ | apply kd_ | apply ka_); refine blk_put (cs := #[.int .i64 0, .int .i64 0, .int .i64 0]) ?_ 0 _ rfl; (with_reducible repeat first | apply kn_ | apply kd_ | apply ka_); exact BK269.out) hb); replace HB := hb_ HB (e_ GE249 (e_ GE259 (e_ GE264 (e_ GE269 e0_)))) hb; (try clear hb); (try clear hb2); (try clear hk); (try clear hi)) | ((with_reducible refine gate_dst (N := 19) rfl ?_); refine box_event ?hg (N := 19) ?hd (cs := #[.int .i64 0, .int .i64 0, .int .i64 0]) (t := 23) ?hr ?_; (case hd => rfl); (case hg => rfl); (case hr => first | (go_simp; done) | (go_simp; rfl)); intro gb274 hg w37 hbox hb; have BK274 := sd_ hbox; have GW274 := gw_ HB (e_ GE249 (e_ GE259 (e_ GE264 (e_ GE269 e0_)))) hg; have GE274 := GW274; have NB249_274 := nb_ BK249 hg; have NB274_249 := sy_ NB249_274; have NB259_274 := nb_ BK259 hg; have NB274_259 := sy_ NB259_274; have NB264_274 := nb_ BK264 hg; have NB274_264 := sy_ NB264_274; have NB269_274 := nb_ BK269 hg; have NB274_269 := sy_ NB269_274; replace BK249 := kb_ BK249 hb; replace BK259 := kb_ BK259 hb; replace BK264 := kb_ BK264 hb; replace BK269 := kb_ BK269 hb; replace HB := hb_ HB (e_ GE249 (e_ GE259 (e_ GE264 (e_ GE269 e0_)))) hb; clear hb hbox hg; have hnb38 := NB274_249.out; have hnc38 := NB249_274.out; have hnb39 := NB274_259.out; have hnc39 := NB259_274.out; have hnb40 := NB274_264.out; have hnc40 := NB264_274.out; have hnb41 := NB274_269.out; have hnc41 := NB269_274.out; have hcz42_0 : w37.cell? ⟨gb274, 0, none⟩ = some (.int .i64 0) := (kc_ BK274.out 0).trans rfl; have hcz42_1 : w37.cell? ⟨gb274, 1, none⟩ = some (.int .i64 0) := (kc_ BK274.out 1).trans rfl; have hcz42_2 : w37.cell? ⟨gb274, 2, none⟩ = some (.int .i64 0) := (kc_ BK274.out 2).trans rfl; have hfz42_0 := kf_ BK274.out 0; have hfz42_1 := kf_ BK274.out 1; have hfz42_2 := kf_ BK274.out 2))
  (try simp only [Act.put, ls_, lz_, lc_])
  go_cut [86] (fun v86 wc => ∃ (kq : Nat) (x86_14 : Bool), v86 = .bool x86_14 ∧ Aside0 (neumelaw06_PitchTells.j0 kq x86_14 a0_0 a0_1 a0_2 = some r) ∧ Aside0 (kq ≤ k) ∧ Aside0 (wc.heap[gb249]? = some (.cells #[.int .i64 a0_0, .int .i64 a0_1, .int .i64 a0_2] 23 (0, 0))) ∧ Aside0 (wc.heap[gb259]? = some (.cells #[.int .i64 t255, .int .i64 t256, .int .i64 t257] 23 (0, 0))) ∧ Aside0 (wc.heap[gb264]? = some (.cells #[.int .i64 t260, .int .i64 t261, .int .i64 t262] 23 (0, 0))) ∧ Aside0 (wc.heap[gb269]? = some (.cells #[.int .i64 t265, .int .i64 t266, .int .i64 t267] 23 (0, 0))) ∧ Aside0 (wc.heap[gb274]? = some (.cells #[.int .i64 t270, .int .i64 t271, .int .i64 t272] 23 (0, 0))) ∧ Aside0 (Below w.heap.size w wc))
  case first =>
   have H := HC15.out
   clear HC15
   by_cases c43 : t251 = t253
   ·rw [if_pos c43] at H
    have c43b0 : (t251 == t253) = true := beq_iff_eq.mpr c43
    have c43b1 : (t251 != t253) = false := bne_eq_false_iff_eq.mpr c43
    clear c43
    (first | rw [c43b0] | (simp only [i64_w, i32_w]; rw [c43b0]) | skip)
    by_cases c44 : t252 = t254
    ·rw [if_pos c44] at H
     have c44b0 : (t252 == t254) = true := beq_iff_eq.mpr c44
     have c44b1 : (t252 != t254) = false := bne_eq_false_iff_eq.mpr c44
     clear c44
     by_cases c45 : (!(t255 == t260) || (!(t256 == t261) || (!(t257 == t262)))) = true
     ·rw [if_pos c45] at H
      have c45b0 : (!(t255 == t260) || (!(t256 == t261) || (!(t257 == t262)))) = true := c45
      clear c45
      have H' := sd_ H
      clear H
      have hnb46 := NB259_249.out
      have hnc46 := NB249_259.out
      have hnb47 := NB259_264.out
      have hnc47 := NB264_259.out
      have hnb48 := NB259_269.out
      have hnc48 := NB269_259.out
      have hnb49 := NB259_274.out
      have hnc49 := NB274_259.out
      have hcz50_0 : w37.cell? ⟨gb259, 0, none⟩ = some (.int .i64 t255) := (kc_ BK259.out 0).trans rfl
      have hcz50_1 : w37.cell? ⟨gb259, 1, none⟩ = some (.int .i64 t256) := (kc_ BK259.out 1).trans rfl
      have hcz50_2 : w37.cell? ⟨gb259, 2, none⟩ = some (.int .i64 t257) := (kc_ BK259.out 2).trans rfl
      have hfz50_0 := kf_ BK259.out 0
      have hfz50_1 := kf_ BK259.out 1
      have hfz50_2 := kf_ BK259.out 2
      have hnb51 := NB264_249.out
      have hnc51 := NB249_264.out
      have hnb52 := NB264_269.out
      have hnc52 := NB269_264.out
      have hnb53 := NB264_274.out
      have hnc53 := NB274_264.out
      have hcz54_0 : w37.cell? ⟨gb264, 0, none⟩ = some (.int .i64 t260) := (kc_ BK264.out 0).trans rfl
      have hcz54_1 : w37.cell? ⟨gb264, 1, none⟩ = some (.int .i64 t261) := (kc_ BK264.out 1).trans rfl
      have hcz54_2 : w37.cell? ⟨gb264, 2, none⟩ = some (.int .i64 t262) := (kc_ BK264.out 2).trans rfl
      have hfz54_0 := kf_ BK264.out 0
      have hfz54_1 := kf_ BK264.out 1
      have hfz54_2 := kf_ BK264.out 2
      go_wp2
      go_meet
      case rel => exact ⟨_, (true), (by first | rfl | (simp; done) | (simp [*]; done) | (simp [bne]; done)), H', ⟨by first | omega | exact Nat.le_refl _⟩, ⟨by (with_reducible repeat first | apply kn_ | apply kd_ | apply ka_); refine blk_far ?_ NB249_274.out _; (with_reducible repeat first | apply kn_ | apply kd_ | apply ka_); refine blk_far ?_ NB249_274.out _; (with_reducible repeat first | apply kn_ | apply kd_ | apply ka_); refine blk_far ?_ NB249_274.out _; (with_reducible repeat first | apply kn_ | apply kd_ | apply ka_); exact BK249.out⟩, ⟨by (with_reducible repeat first | apply kn_ | apply kd_ | apply ka_); refine blk_far ?_ NB259_274.out _; (with_reducible repeat first | apply kn_ | apply kd_ | apply ka_); refine blk_far ?_ NB259_274.out _; (with_reducible repeat first | apply kn_ | apply kd_ | apply ka_); refine blk_far ?_ NB259_274.out _; (with_reducible repeat first | apply kn_ | apply kd_ | apply ka_); exact BK259.out⟩, ⟨by (with_reducible repeat first | apply kn_ | apply kd_ | apply ka_); refine blk_far ?_ NB264_274.out _; (with_reducible repeat first | apply kn_ | apply kd_ | apply ka_); refine blk_far ?_ NB264_274.out _; (with_reducible repeat first | apply kn_ | apply kd_ | apply ka_); refine blk_far ?_ NB264_274.out _; (with_reducible repeat first | apply kn_ | apply kd_ | apply ka_); exact BK264.out⟩, ⟨by (with_reducible repeat first | apply kn_ | apply kd_ | apply ka_); refine blk_far ?_ NB269_274.out _; (with_reducible repeat first | apply kn_ | apply kd_ | apply ka_); refine blk_far ?_ NB269_274.out _; (with_reducible repeat first | apply kn_ | apply kd_ | apply ka_); refine blk_far ?_ NB269_274.out _; (with_reducible repeat first | apply kn_ | apply kd_ | apply ka_); exact BK269.out⟩, ⟨by (with_reducible repeat first | apply kn_ | apply kd_ | apply ka_); refine blk_put (cs := #[.int .i64 t270, .int .i64 t271, .int .i64 0]) ?_ 2 _ rfl; (with_reducible repeat first | apply kn_ | apply kd_ | apply ka_); refine blk_put (cs := #[.int .i64 t270, .int .i64 0, .int .i64 0]) ?_ 1 _ rfl; (with_reducible repeat first | apply kn_ | apply kd_ | apply ka_); refine blk_put (cs := #[.int .i64 0, .int .i64 0, .int .i64 0]) ?_ 0 _ rfl; (with_reducible repeat first | apply kn_ | apply kd_ | apply ka_); exact BK274.out⟩, ⟨by repeat (first | (with_reducible first | exact HB.out | apply ba_ | apply pd_ | apply d1_ | refine bs_ ?_ GE249.out | refine bs_ ?_ GE259.out | refine bs_ ?_ GE264.out | refine bs_ ?_ GE269.out | refine bs_ ?_ GE274.out) | exact HB.out)⟩⟩
     ·rw [if_neg c45] at H
      have c45b0 : (!(t255 == t260) || (!(t256 == t261) || (!(t257 == t262)))) = false := by simpa using c45
      clear c45
      by_cases c55 : t258 = t263
      ·rw [if_pos c55] at H
       have c55b0 : (t258 == t263) = true := beq_iff_eq.mpr c55
       have c55b1 : (t258 != t263) = false := bne_eq_false_iff_eq.mpr c55
       clear c55
       by_cases c56 : (!(t265 == t270) || (!(t266 == t271) || (!(t267 == t272)))) = true
       ·rw [if_pos c56] at H
        have c56b0 : (!(t265 == t270) || (!(t266 == t271) || (!(t267 == t272)))) = true := c56
        clear c56
        have H' := sd_ H
        clear H
        have hnb57 := NB259_249.out
        have hnc57 := NB249_259.out
        have hnb58 := NB259_264.out
        have hnc58 := NB264_259.out
        have hnb59 := NB259_269.out
        have hnc59 := NB269_259.out
        have hnb60 := NB259_274.out
        have hnc60 := NB274_259.out
        have hcz61_0 : w37.cell? ⟨gb259, 0, none⟩ = some (.int .i64 t255) := (kc_ BK259.out 0).trans rfl
        have hcz61_1 : w37.cell? ⟨gb259, 1, none⟩ = some (.int .i64 t256) := (kc_ BK259.out 1).trans rfl
        have hcz61_2 : w37.cell? ⟨gb259, 2, none⟩ = some (.int .i64 t257) := (kc_ BK259.out 2).trans rfl
        have hfz61_0 := kf_ BK259.out 0
        have hfz61_1 := kf_ BK259.out 1
        have hfz61_2 := kf_ BK259.out 2
        have hnb62 := NB264_249.out
        have hnc62 := NB249_264.out
        have hnb63 := NB264_269.out
        have hnc63 := NB269_264.out
        have hnb64 := NB264_274.out
        have hnc64 := NB274_264.out
        have hcz65_0 : w37.cell? ⟨gb264, 0, none⟩ = some (.int .i64 t260) := (kc_ BK264.out 0).trans rfl
        have hcz65_1 : w37.cell? ⟨gb264, 1, none⟩ = some (.int .i64 t261) := (kc_ BK264.out 1).trans rfl
        have hcz65_2 : w37.cell? ⟨gb264, 2, none⟩ = some (.int .i64 t262) := (kc_ BK264.out 2).trans rfl
        have hfz65_0 := kf_ BK264.out 0
        have hfz65_1 := kf_ BK264.out 1
        have hfz65_2 := kf_ BK264.out 2
        have hnb66 := NB269_249.out
        have hnc66 := NB249_269.out
        have hnb67 := NB269_274.out
        have hnc67 := NB274_269.out
        have hcz68_0 : w37.cell? ⟨gb269, 0, none⟩ = some (.int .i64 t265) := (kc_ BK269.out 0).trans rfl
        have hcz68_1 : w37.cell? ⟨gb269, 1, none⟩ = some (.int .i64 t266) := (kc_ BK269.out 1).trans rfl
        have hcz68_2 : w37.cell? ⟨gb269, 2, none⟩ = some (.int .i64 t267) := (kc_ BK269.out 2).trans rfl
        have hfz68_0 := kf_ BK269.out 0
        have hfz68_1 := kf_ BK269.out 1
        have hfz68_2 := kf_ BK269.out 2
        have hnb69 := NB274_249.out
        have hnc69 := NB249_274.out
        have hcz70_0 : w37.cell? ⟨gb274, 0, none⟩ = some (.int .i64 0) := (kc_ BK274.out 0).trans rfl
        have hcz70_1 : w37.cell? ⟨gb274, 1, none⟩ = some (.int .i64 0) := (kc_ BK274.out 1).trans rfl
        have hcz70_2 : w37.cell? ⟨gb274, 2, none⟩ = some (.int .i64 0) := (kc_ BK274.out 2).trans rfl
        have hfz70_0 := kf_ BK274.out 0
        have hfz70_1 := kf_ BK274.out 1
        have hfz70_2 := kf_ BK274.out 2
        go_wp2
        go_meet
        case rel => exact ⟨_, (true), (by first | rfl | (simp; done) | (simp [*]; done) | (simp [bne]; done)), H', ⟨by first | omega | exact Nat.le_refl _⟩, ⟨by (with_reducible repeat first | apply kn_ | apply kd_ | apply ka_); refine blk_far ?_ NB249_274.out _; (with_reducible repeat first | apply kn_ | apply kd_ | apply ka_); refine blk_far ?_ NB249_274.out _; (with_reducible repeat first | apply kn_ | apply kd_ | apply ka_); refine blk_far ?_ NB249_274.out _; (with_reducible repeat first | apply kn_ | apply kd_ | apply ka_); exact BK249.out⟩, ⟨by (with_reducible repeat first | apply kn_ | apply kd_ | apply ka_); refine blk_far ?_ NB259_274.out _; (with_reducible repeat first | apply kn_ | apply kd_ | apply ka_); refine blk_far ?_ NB259_274.out _; (with_reducible repeat first | apply kn_ | apply kd_ | apply ka_); refine blk_far ?_ NB259_274.out _; (with_reducible repeat first | apply kn_ | apply kd_ | apply ka_); exact BK259.out⟩, ⟨by (with_reducible repeat first | apply kn_ | apply kd_ | apply ka_); refine blk_far ?_ NB264_274.out _; (with_reducible repeat first | apply kn_ | apply kd_ | apply ka_); refine blk_far ?_ NB264_274.out _; (with_reducible repeat first | apply kn_ | apply kd_ | apply ka_); refine blk_far ?_ NB264_274.out _; (with_reducible repeat first | apply kn_ | apply kd_ | apply ka_); exact BK264.out⟩, ⟨by (with_reducible repeat first | apply kn_ | apply kd_ | apply ka_); refine blk_far ?_ NB269_274.out _; (with_reducible repeat first | apply kn_ | apply kd_ | apply ka_); refine blk_far ?_ NB269_274.out _; (with_reducible repeat first | apply kn_ | apply kd_ | apply ka_); refine blk_far ?_ NB269_274.out _; (with_reducible repeat first | apply kn_ | apply kd_ | apply ka_); exact BK269.out⟩, ⟨by (with_reducible repeat first | apply kn_ | apply kd_ | apply ka_); refine blk_put (cs := #[.int .i64 t270, .int .i64 t271, .int .i64 0]) ?_ 2 _ rfl; (with_reducible repeat first | apply kn_ | apply kd_ | apply ka_); refine blk_put (cs := #[.int .i64 t270, .int .i64 0, .int .i64 0]) ?_ 1 _ rfl; (with_reducible repeat first | apply kn_ | apply kd_ | apply ka_); refine blk_put (cs := #[.int .i64 0, .int .i64 0, .int .i64 0]) ?_ 0 _ rfl; (with_reducible repeat first | apply kn_ | apply kd_ | apply ka_); exact BK274.out⟩, ⟨by repeat (first | (with_reducible first | exact HB.out | apply ba_ | apply pd_ | apply d1_ | refine bs_ ?_ GE249.out | refine bs_ ?_ GE259.out | refine bs_ ?_ GE264.out | refine bs_ ?_ GE269.out | refine bs_ ?_ GE274.out) | exact HB.out)⟩⟩
       ·rw [if_neg c56] at H
        have c56b0 : (!(t265 == t270) || (!(t266 == t271) || (!(t267 == t272)))) = false := by simpa using c56
        clear c56
        have H' := sd_ H
        clear H
        have hnb71 := NB259_249.out
        have hnc71 := NB249_259.out
        have hnb72 := NB259_264.out
        have hnc72 := NB264_259.out
        have hnb73 := NB259_269.out
        have hnc73 := NB269_259.out
        have hnb74 := NB259_274.out
        have hnc74 := NB274_259.out
        have hcz75_0 : w37.cell? ⟨gb259, 0, none⟩ = some (.int .i64 t255) := (kc_ BK259.out 0).trans rfl
        have hcz75_1 : w37.cell? ⟨gb259, 1, none⟩ = some (.int .i64 t256) := (kc_ BK259.out 1).trans rfl
        have hcz75_2 : w37.cell? ⟨gb259, 2, none⟩ = some (.int .i64 t257) := (kc_ BK259.out 2).trans rfl
        have hfz75_0 := kf_ BK259.out 0
        have hfz75_1 := kf_ BK259.out 1
        have hfz75_2 := kf_ BK259.out 2
        have hnb76 := NB264_249.out
        have hnc76 := NB249_264.out
        have hnb77 := NB264_269.out
        have hnc77 := NB269_264.out
        have hnb78 := NB264_274.out
        have hnc78 := NB274_264.out
        have hcz79_0 : w37.cell? ⟨gb264, 0, none⟩ = some (.int .i64 t260) := (kc_ BK264.out 0).trans rfl
        have hcz79_1 : w37.cell? ⟨gb264, 1, none⟩ = some (.int .i64 t261) := (kc_ BK264.out 1).trans rfl
        have hcz79_2 : w37.cell? ⟨gb264, 2, none⟩ = some (.int .i64 t262) := (kc_ BK264.out 2).trans rfl
        have hfz79_0 := kf_ BK264.out 0
        have hfz79_1 := kf_ BK264.out 1
        have hfz79_2 := kf_ BK264.out 2
        have hnb80 := NB269_249.out
        have hnc80 := NB249_269.out
        have hnb81 := NB269_274.out
        have hnc81 := NB274_269.out
        have hcz82_0 : w37.cell? ⟨gb269, 0, none⟩ = some (.int .i64 t265) := (kc_ BK269.out 0).trans rfl
        have hcz82_1 : w37.cell? ⟨gb269, 1, none⟩ = some (.int .i64 t266) := (kc_ BK269.out 1).trans rfl
        have hcz82_2 : w37.cell? ⟨gb269, 2, none⟩ = some (.int .i64 t267) := (kc_ BK269.out 2).trans rfl
        have hfz82_0 := kf_ BK269.out 0
        have hfz82_1 := kf_ BK269.out 1
        have hfz82_2 := kf_ BK269.out 2
        have hnb83 := NB274_249.out
        have hnc83 := NB249_274.out
        have hcz84_0 : w37.cell? ⟨gb274, 0, none⟩ = some (.int .i64 0) := (kc_ BK274.out 0).trans rfl
        have hcz84_1 : w37.cell? ⟨gb274, 1, none⟩ = some (.int .i64 0) := (kc_ BK274.out 1).trans rfl
        have hcz84_2 : w37.cell? ⟨gb274, 2, none⟩ = some (.int .i64 0) := (kc_ BK274.out 2).trans rfl
        have hfz84_0 := kf_ BK274.out 0
        have hfz84_1 := kf_ BK274.out 1
        have hfz84_2 := kf_ BK274.out 2
        go_wp2
        go_meet
        case rel => exact ⟨_, ((t268 != t273)), (by first | rfl | (simp; done) | (simp [*]; done) | (simp [bne]; done)), H', ⟨by first | omega | exact Nat.le_refl _⟩, ⟨by (with_reducible repeat first | apply kn_ | apply kd_ | apply ka_); refine blk_far ?_ NB249_274.out _; (with_reducible repeat first | apply kn_ | apply kd_ | apply ka_); refine blk_far ?_ NB249_274.out _; (with_reducible repeat first | apply kn_ | apply kd_ | apply ka_); refine blk_far ?_ NB249_274.out _; (with_reducible repeat first | apply kn_ | apply kd_ | apply ka_); exact BK249.out⟩, ⟨by (with_reducible repeat first | apply kn_ | apply kd_ | apply ka_); refine blk_far ?_ NB259_274.out _; (with_reducible repeat first | apply kn_ | apply kd_ | apply ka_); refine blk_far ?_ NB259_274.out _; (with_reducible repeat first | apply kn_ | apply kd_ | apply ka_); refine blk_far ?_ NB259_274.out _; (with_reducible repeat first | apply kn_ | apply kd_ | apply ka_); exact BK259.out⟩, ⟨by (with_reducible repeat first | apply kn_ | apply kd_ | apply ka_); refine blk_far ?_ NB264_274.out _; (with_reducible repeat first | apply kn_ | apply kd_ | apply ka_); refine blk_far ?_ NB264_274.out _; (with_reducible repeat first | apply kn_ | apply kd_ | apply ka_); refine blk_far ?_ NB264_274.out _; (with_reducible repeat first | apply kn_ | apply kd_ | apply ka_); exact BK264.out⟩, ⟨by (with_reducible repeat first | apply kn_ | apply kd_ | apply ka_); refine blk_far ?_ NB269_274.out _; (with_reducible repeat first | apply kn_ | apply kd_ | apply ka_); refine blk_far ?_ NB269_274.out _; (with_reducible repeat first | apply kn_ | apply kd_ | apply ka_); refine blk_far ?_ NB269_274.out _; (with_reducible repeat first | apply kn_ | apply kd_ | apply ka_); exact BK269.out⟩, ⟨by (with_reducible repeat first | apply kn_ | apply kd_ | apply ka_); refine blk_put (cs := #[.int .i64 t270, .int .i64 t271, .int .i64 0]) ?_ 2 _ rfl; (with_reducible repeat first | apply kn_ | apply kd_ | apply ka_); refine blk_put (cs := #[.int .i64 t270, .int .i64 0, .int .i64 0]) ?_ 1 _ rfl; (with_reducible repeat first | apply kn_ | apply kd_ | apply ka_); refine blk_put (cs := #[.int .i64 0, .int .i64 0, .int .i64 0]) ?_ 0 _ rfl; (with_reducible repeat first | apply kn_ | apply kd_ | apply ka_); exact BK274.out⟩, ⟨by repeat (first | (with_reducible first | exact HB.out | apply ba_ | apply pd_ | apply d1_ | refine bs_ ?_ GE249.out | refine bs_ ?_ GE259.out | refine bs_ ?_ GE264.out | refine bs_ ?_ GE269.out | refine bs_ ?_ GE274.out) | exact HB.out)⟩⟩
      ·rw [if_neg c55] at H
       have c55b0 : (t258 == t263) = false := beq_eq_false_iff_ne.mpr c55
       have c55b1 : (t258 != t263) = true := bne_iff_ne.mpr c55
       have H' := sd_ H
       clear H
       have hnb85 := NB259_249.out
       have hnc85 := NB249_259.out
       have hnb86 := NB259_264.out
       have hnc86 := NB264_259.out
       have hnb87 := NB259_269.out
       have hnc87 := NB269_259.out
       have hnb88 := NB259_274.out
       have hnc88 := NB274_259.out
       have hcz89_0 : w37.cell? ⟨gb259, 0, none⟩ = some (.int .i64 t255) := (kc_ BK259.out 0).trans rfl
       have hcz89_1 : w37.cell? ⟨gb259, 1, none⟩ = some (.int .i64 t256) := (kc_ BK259.out 1).trans rfl
       have hcz89_2 : w37.cell? ⟨gb259, 2, none⟩ = some (.int .i64 t257) := (kc_ BK259.out 2).trans rfl
       have hfz89_0 := kf_ BK259.out 0
       have hfz89_1 := kf_ BK259.out 1
       have hfz89_2 := kf_ BK259.out 2
       have hnb90 := NB264_249.out
       have hnc90 := NB249_264.out
       have hnb91 := NB264_269.out
       have hnc91 := NB269_264.out
       have hnb92 := NB264_274.out
       have hnc92 := NB274_264.out
       have hcz93_0 : w37.cell? ⟨gb264, 0, none⟩ = some (.int .i64 t260) := (kc_ BK264.out 0).trans rfl
       have hcz93_1 : w37.cell? ⟨gb264, 1, none⟩ = some (.int .i64 t261) := (kc_ BK264.out 1).trans rfl
       have hcz93_2 : w37.cell? ⟨gb264, 2, none⟩ = some (.int .i64 t262) := (kc_ BK264.out 2).trans rfl
       have hfz93_0 := kf_ BK264.out 0
       have hfz93_1 := kf_ BK264.out 1
       have hfz93_2 := kf_ BK264.out 2
       go_wp2
       go_meet
       case rel => exact ⟨_, (true), (by first | rfl | (simp; done) | (simp [*]; done) | (simp [bne]; done)), H', ⟨by first | omega | exact Nat.le_refl _⟩, ⟨by (with_reducible repeat first | apply kn_ | apply kd_ | apply ka_); refine blk_far ?_ NB249_274.out _; (with_reducible repeat first | apply kn_ | apply kd_ | apply ka_); refine blk_far ?_ NB249_274.out _; (with_reducible repeat first | apply kn_ | apply kd_ | apply ka_); refine blk_far ?_ NB249_274.out _; (with_reducible repeat first | apply kn_ | apply kd_ | apply ka_); exact BK249.out⟩, ⟨by (with_reducible repeat first | apply kn_ | apply kd_ | apply ka_); refine blk_far ?_ NB259_274.out _; (with_reducible repeat first | apply kn_ | apply kd_ | apply ka_); refine blk_far ?_ NB259_274.out _; (with_reducible repeat first | apply kn_ | apply kd_ | apply ka_); refine blk_far ?_ NB259_274.out _; (with_reducible repeat first | apply kn_ | apply kd_ | apply ka_); exact BK259.out⟩, ⟨by (with_reducible repeat first | apply kn_ | apply kd_ | apply ka_); refine blk_far ?_ NB264_274.out _; (with_reducible repeat first | apply kn_ | apply kd_ | apply ka_); refine blk_far ?_ NB264_274.out _; (with_reducible repeat first | apply kn_ | apply kd_ | apply ka_); refine blk_far ?_ NB264_274.out _; (with_reducible repeat first | apply kn_ | apply kd_ | apply ka_); exact BK264.out⟩, ⟨by (with_reducible repeat first | apply kn_ | apply kd_ | apply ka_); refine blk_far ?_ NB269_274.out _; (with_reducible repeat first | apply kn_ | apply kd_ | apply ka_); refine blk_far ?_ NB269_274.out _; (with_reducible repeat first | apply kn_ | apply kd_ | apply ka_); refine blk_far ?_ NB269_274.out _; (with_reducible repeat first | apply kn_ | apply kd_ | apply ka_); exact BK269.out⟩, ⟨by (with_reducible repeat first | apply kn_ | apply kd_ | apply ka_); refine blk_put (cs := #[.int .i64 t270, .int .i64 t271, .int .i64 0]) ?_ 2 _ rfl; (with_reducible repeat first | apply kn_ | apply kd_ | apply ka_); refine blk_put (cs := #[.int .i64 t270, .int .i64 0, .int .i64 0]) ?_ 1 _ rfl; (with_reducible repeat first | apply kn_ | apply kd_ | apply ka_); refine blk_put (cs := #[.int .i64 0, .int .i64 0, .int .i64 0]) ?_ 0 _ rfl; (with_reducible repeat first | apply kn_ | apply kd_ | apply ka_); exact BK274.out⟩, ⟨by repeat (first | (with_reducible first | exact HB.out | apply ba_ | apply pd_ | apply d1_ | refine bs_ ?_ GE249.out | refine bs_ ?_ GE259.out | refine bs_ ?_ GE264.out | refine bs_ ?_ GE269.out | refine bs_ ?_ GE274.out) | exact HB.out)⟩⟩
    ·rw [if_neg c44] at H
     have c44b0 : (t252 == t254) = false := beq_eq_false_iff_ne.mpr c44
     have c44b1 : (t252 != t254) = true := bne_iff_ne.mpr c44
     have H' := sd_ H
     clear H
     go_wp2
     go_meet
     case rel => exact ⟨_, (true), (by first | rfl | (simp; done) | (simp [*]; done) | (simp [bne]; done)), H', ⟨by first | omega | exact Nat.le_refl _⟩, ⟨by (with_reducible repeat first | apply kn_ | apply kd_ | apply ka_); refine blk_far ?_ NB249_274.out _; (with_reducible repeat first | apply kn_ | apply kd_ | apply ka_); refine blk_far ?_ NB249_274.out _; (with_reducible repeat first | apply kn_ | apply kd_ | apply ka_); refine blk_far ?_ NB249_274.out _; (with_reducible repeat first | apply kn_ | apply kd_ | apply ka_); exact BK249.out⟩, ⟨by (with_reducible repeat first | apply kn_ | apply kd_ | apply ka_); refine blk_far ?_ NB259_274.out _; (with_reducible repeat first | apply kn_ | apply kd_ | apply ka_); refine blk_far ?_ NB259_274.out _; (with_reducible repeat first | apply kn_ | apply kd_ | apply ka_); refine blk_far ?_ NB259_274.out _; (with_reducible repeat first | apply kn_ | apply kd_ | apply ka_); exact BK259.out⟩, ⟨by (with_reducible repeat first | apply kn_ | apply kd_ | apply ka_); refine blk_far ?_ NB264_274.out _; (with_reducible repeat first | apply kn_ | apply kd_ | apply ka_); refine blk_far ?_ NB264_274.out _; (with_reducible repeat first | apply kn_ | apply kd_ | apply ka_); refine blk_far ?_ NB264_274.out _; (with_reducible repeat first | apply kn_ | apply kd_ | apply ka_); exact BK264.out⟩, ⟨by (with_reducible repeat first | apply kn_ | apply kd_ | apply ka_); refine blk_far ?_ NB269_274.out _; (with_reducible repeat first | apply kn_ | apply kd_ | apply ka_); refine blk_far ?_ NB269_274.out _; (with_reducible repeat first | apply kn_ | apply kd_ | apply ka_); refine blk_far ?_ NB269_274.out _; (with_reducible repeat first | apply kn_ | apply kd_ | apply ka_); exact BK269.out⟩, ⟨by (with_reducible repeat first | apply kn_ | apply kd_ | apply ka_); refine blk_put (cs := #[.int .i64 t270, .int .i64 t271, .int .i64 0]) ?_ 2 _ rfl; (with_reducible repeat first | apply kn_ | apply kd_ | apply ka_); refine blk_put (cs := #[.int .i64 t270, .int .i64 0, .int .i64 0]) ?_ 1 _ rfl; (with_reducible repeat first | apply kn_ | apply kd_ | apply ka_); refine blk_put (cs := #[.int .i64 0, .int .i64 0, .int .i64 0]) ?_ 0 _ rfl; (with_reducible repeat first | apply kn_ | apply kd_ | apply ka_); exact BK274.out⟩, ⟨by repeat (first | (with_reducible first | exact HB.out | apply ba_ | apply pd_ | apply d1_ | refine bs_ ?_ GE249.out | refine bs_ ?_ GE259.out | refine bs_ ?_ GE264.out | refine bs_ ?_ GE269.out | refine bs_ ?_ GE274.out) | exact HB.out)⟩⟩
   ·rw [if_neg c43] at H
    have c43b0 : (t251 == t253) = false := beq_eq_false_iff_ne.mpr c43
    have c43b1 : (t251 != t253) = true := bne_iff_ne.mpr c43
    (first | rw [c43b0] | (simp only [i64_w, i32_w]; rw [c43b0]) | skip)
    have H' := sd_ H
    clear H
    go_wp2
    go_meet
    case rel => exact ⟨_, (true), (by first | rfl | (simp; done) | (simp [*]; done) | (simp [bne]; done)), H', ⟨by first | omega | exact Nat.le_refl _⟩, ⟨by (with_reducible repeat first | apply kn_ | apply kd_ | apply ka_); refine blk_far ?_ NB249_274.out _; (with_reducible repeat first | apply kn_ | apply kd_ | apply ka_); refine blk_far ?_ NB249_274.out _; (with_reducible repeat first | apply kn_ | apply kd_ | apply ka_); refine blk_far ?_ NB249_274.out _; (with_reducible repeat first | apply kn_ | apply kd_ | apply ka_); exact BK249.out⟩, ⟨by (with_reducible repeat first | apply kn_ | apply kd_ | apply ka_); refine blk_far ?_ NB259_274.out _; (with_reducible repeat first | apply kn_ | apply kd_ | apply ka_); refine blk_far ?_ NB259_274.out _; (with_reducible repeat first | apply kn_ | apply kd_ | apply ka_); refine blk_far ?_ NB259_274.out _; (with_reducible repeat first | apply kn_ | apply kd_ | apply ka_); exact BK259.out⟩, ⟨by (with_reducible repeat first | apply kn_ | apply kd_ | apply ka_); refine blk_far ?_ NB264_274.out _; (with_reducible repeat first | apply kn_ | apply kd_ | apply ka_); refine blk_far ?_ NB264_274.out _; (with_reducible repeat first | apply kn_ | apply kd_ | apply ka_); refine blk_far ?_ NB264_274.out _; (with_reducible repeat first | apply kn_ | apply kd_ | apply ka_); exact BK264.out⟩, ⟨by (with_reducible repeat first | apply kn_ | apply kd_ | apply ka_); refine blk_far ?_ NB269_274.out _; (with_reducible repeat first | apply kn_ | apply kd_ | apply ka_); refine blk_far ?_ NB269_274.out _; (with_reducible repeat first | apply kn_ | apply kd_ | apply ka_); refine blk_far ?_ NB269_274.out _; (with_reducible repeat first | apply kn_ | apply kd_ | apply ka_); exact BK269.out⟩, ⟨by (with_reducible repeat first | apply kn_ | apply kd_ | apply ka_); refine blk_put (cs := #[.int .i64 t270, .int .i64 t271, .int .i64 0]) ?_ 2 _ rfl; (with_reducible repeat first | apply kn_ | apply kd_ | apply ka_); refine blk_put (cs := #[.int .i64 t270, .int .i64 0, .int .i64 0]) ?_ 1 _ rfl; (with_reducible repeat first | apply kn_ | apply kd_ | apply ka_); refine blk_put (cs := #[.int .i64 0, .int .i64 0, .int .i64 0]) ?_ 0 _ rfl; (with_reducible repeat first | apply kn_ | apply kd_ | apply ka_); exact BK274.out⟩, ⟨by repeat (first | (with_reducible first | exact HB.out | apply ba_ | apply pd_ | apply d1_ | refine bs_ ?_ GE249.out | refine bs_ ?_ GE259.out | refine bs_ ?_ GE264.out | refine bs_ ?_ GE269.out | refine bs_ ?_ GE274.out) | exact HB.out)⟩⟩
  case rest =>
   clear HC15
   try clear c1; try clear c2; try clear p2; try clear c3; try clear c4; try clear c5; try clear c5b0; try clear c5b1; try clear c6; try clear c7; try clear c8; try clear c9; try clear c10; try clear c11; try clear c12; try clear c13; try clear c23; try clear c27; try clear c28; try clear c32; try clear c33; try clear c34; try clear c38; try clear c39; try clear c40; try clear c41; try clear c43; try clear c43b0; try clear c43b1; try clear c44; try clear c44b0; try clear c44b1; try clear c45; try clear c45b0; try clear c46; try clear c47; try clear c48; try clear c49; try clear c51; try clear c52; try clear c53; try clear c55; try clear c55b0; try clear c55b1; try clear c56; try clear c56b0; try clear c57; try clear c58; try clear c59; try clear c60; try clear c62; try clear c63; try clear c64; try clear c66; try clear c67; try clear c69; try clear c71; try clear c72; try clear c73; try clear c74; try clear c76; try clear c77; try clear c78; try clear c80; try clear c81; try clear c83; try clear c85; try clear c86; try clear c87; try clear c88; try clear c90; try clear c91; try clear c92; try clear hcz17_0; try clear hcz17_1; try clear hcz17_2; try clear hcz19_0; try clear hcz19_1; try clear hcz19_2; try clear hcz24_0; try clear hcz24_1; try clear hcz24_2; try clear hcz29_0; try clear hcz29_1; try clear hcz29_2; try clear hcz35_0; try clear hcz35_1; try clear hcz35_2; try clear hcz42_0; try clear hcz42_1; try clear hcz42_2; try clear hcz50_0; try clear hcz50_1; try clear hcz50_2; try clear hcz54_0; try clear hcz54_1; try clear hcz54_2; try clear hcz61_0; try clear hcz61_1; try clear hcz61_2; try clear hcz65_0; try clear hcz65_1; try clear hcz65_2; try clear hcz68_0; try clear hcz68_1; try clear hcz68_2; try clear hcz70_0; try clear hcz70_1; try clear hcz70_2; try clear hcz75_0; try clear hcz75_1; try clear hcz75_2; try clear hcz79_0; try clear hcz79_1; try clear hcz79_2; try clear hcz82_0; try clear hcz82_1; try clear hcz82_2; try clear hcz84_0; try clear hcz84_1; try clear hcz84_2; try clear hcz89_0; try clear hcz89_1; try clear hcz89_2; try clear hcz93_0; try clear hcz93_1; try clear hcz93_2; try clear hfz17_0; try clear hfz17_1; try clear hfz17_2; try clear hfz19_0; try clear hfz19_1; try clear hfz19_2; try clear hfz24_0; try clear hfz24_1; try clear hfz24_2; try clear hfz29_0; try clear hfz29_1; try clear hfz29_2; try clear hfz35_0; try clear hfz35_1; try clear hfz35_2; try clear hfz42_0; try clear hfz42_1; try clear hfz42_2; try clear hfz50_0; try clear hfz50_1; try clear hfz50_2; try clear hfz54_0; try clear hfz54_1; try clear hfz54_2; try clear hfz61_0; try clear hfz61_1; try clear hfz61_2; try clear hfz65_0; try clear hfz65_1; try clear hfz65_2; try clear hfz68_0; try clear hfz68_1; try clear hfz68_2; try clear hfz70_0; try clear hfz70_1; try clear hfz70_2; try clear hfz75_0; try clear hfz75_1; try clear hfz75_2; try clear hfz79_0; try clear hfz79_1; try clear hfz79_2; try clear hfz82_0; try clear hfz82_1; try clear hfz82_2; try clear hfz84_0; try clear hfz84_1; try clear hfz84_2; try clear hfz89_0; try clear hfz89_1; try clear hfz89_2; try clear hfz93_0; try clear hfz93_1; try clear hfz93_2
   obtain ⟨kq, x86_14, rfl, HA, HJ14, BK249, BK259, BK264, BK269, BK274, HB⟩ := hcut
   cases kq with
   | zero => exact absurd HA.out (by simp [neumelaw06_PitchTells.j0])
   | succ kj14 =>
    have H := HA.out
    clear HA
    simp only [neumelaw06_PitchTells.j0] at H
    by_cases c94 : x86_14 = true
    ·subst c94
     have H1 : (some false) = some r := by rw [if_pos rfl] at H; exact H
     clear H; have H := H1; clear H1
     exact absurd ((Option.some.inj H).trans hxt.out) (by decide)
    ·replace c94 := bf_ c94
     subst c94
     have H1 : ((pitch_Check.f a0_0 a0_1 a0_2).bind fun t275 => ((neumeref06_Check.f a0_0 a0_1 a0_2).bind fun t276 => (if (t275 == t276) = true then ((pitch_Tone.f a0_0 a0_1 a0_2).bind fun t277 => ((neumeref06_Tone.f a0_0 a0_1 a0_2).bind fun t278 => (if t277 = t278 then ((pitch_Count.f a0_0 a0_1 a0_2).bind fun t279 => ((neumeref06_Count.f a0_0 a0_1 a0_2).bind fun t280 => (if t279 = t280 then ((pitch_Name.f a0_0 a0_1 a0_2).bind fun t281 => ((neumeref06_Name.f kj14 a0_0 a0_1 a0_2).bind fun t282 => (if t281.toList = t282.toList then ((neumelaw06_heads.f kj14).bind fun t283 => (some t283)) else (some false)))) else (some false)))) else (some false)))) else (some false)))) = some r := by rw [if_neg (show ¬ (false = true) by decide)] at H; exact H
     clear H; have H := H1; clear H1
     replace H := ob_ H
     obtain ⟨t275, A950, H⟩ := H
     replace H : ((neumeref06_Check.f a0_0 a0_1 a0_2).bind fun t276 => (if (t275 == t276) = true then ((pitch_Tone.f a0_0 a0_1 a0_2).bind fun t277 => ((neumeref06_Tone.f a0_0 a0_1 a0_2).bind fun t278 => (if t277 = t278 then ((pitch_Count.f a0_0 a0_1 a0_2).bind fun t279 => ((neumeref06_Count.f a0_0 a0_1 a0_2).bind fun t280 => (if t279 = t280 then ((pitch_Name.f a0_0 a0_1 a0_2).bind fun t281 => ((neumeref06_Name.f kj14 a0_0 a0_1 a0_2).bind fun t282 => (if t281.toList = t282.toList then ((neumelaw06_heads.f kj14).bind fun t283 => (some t283)) else (some false)))) else (some false)))) else (some false)))) else (some false))) = some r := H
     have A95 := sd_ A950
     clear A950
     replace H := ob_ H
     obtain ⟨t276, A960, H⟩ := H
     replace H : (if (t275 == t276) = true then ((pitch_Tone.f a0_0 a0_1 a0_2).bind fun t277 => ((neumeref06_Tone.f a0_0 a0_1 a0_2).bind fun t278 => (if t277 = t278 then ((pitch_Count.f a0_0 a0_1 a0_2).bind fun t279 => ((neumeref06_Count.f a0_0 a0_1 a0_2).bind fun t280 => (if t279 = t280 then ((pitch_Name.f a0_0 a0_1 a0_2).bind fun t281 => ((neumeref06_Name.f kj14 a0_0 a0_1 a0_2).bind fun t282 => (if t281.toList = t282.toList then ((neumelaw06_heads.f kj14).bind fun t283 => (some t283)) else (some false)))) else (some false)))) else (some false)))) else (some false)) = some r := H
     have A96 := sd_ A960
     clear A960
     by_cases c97 : (t275 == t276) = true
     ·rw [if_pos c97] at H
      have c97b0 : (t275 == t276) = true := c97
      (try (have c97b1 : decide (t275 = t276) = true := by simpa using c97))
      (try (have c97b2 : (t275 == t276) = true := by simpa using c97))
      clear c97
      replace H := ob_ H
      obtain ⟨t277, A980, H⟩ := H
      replace H : ((neumeref06_Tone.f a0_0 a0_1 a0_2).bind fun t278 => (if t277 = t278 then ((pitch_Count.f a0_0 a0_1 a0_2).bind fun t279 => ((neumeref06_Count.f a0_0 a0_1 a0_2).bind fun t280 => (if t279 = t280 then ((pitch_Name.f a0_0 a0_1 a0_2).bind fun t281 => ((neumeref06_Name.f kj14 a0_0 a0_1 a0_2).bind fun t282 => (if t281.toList = t282.toList then ((neumelaw06_heads.f kj14).bind fun t283 => (some t283)) else (some false)))) else (some false)))) else (some false))) = some r := H
      have A98 := sd_ A980
      clear A980
      replace H := ob_ H
      obtain ⟨t278, A990, H⟩ := H
      replace H : (if t277 = t278 then ((pitch_Count.f a0_0 a0_1 a0_2).bind fun t279 => ((neumeref06_Count.f a0_0 a0_1 a0_2).bind fun t280 => (if t279 = t280 then ((pitch_Name.f a0_0 a0_1 a0_2).bind fun t281 => ((neumeref06_Name.f kj14 a0_0 a0_1 a0_2).bind fun t282 => (if t281.toList = t282.toList then ((neumelaw06_heads.f kj14).bind fun t283 => (some t283)) else (some false)))) else (some false)))) else (some false)) = some r := H
      have A99 := sd_ A990
      clear A990
      by_cases c100 : t277 = t278
      ·rw [if_pos c100] at H
       have c100b0 : (t277 == t278) = true := beq_iff_eq.mpr c100
       have c100b1 : (t277 != t278) = false := bne_eq_false_iff_eq.mpr c100
       clear c100
       replace H := ob_ H
       obtain ⟨t279, A1010, H⟩ := H
       replace H : ((neumeref06_Count.f a0_0 a0_1 a0_2).bind fun t280 => (if t279 = t280 then ((pitch_Name.f a0_0 a0_1 a0_2).bind fun t281 => ((neumeref06_Name.f kj14 a0_0 a0_1 a0_2).bind fun t282 => (if t281.toList = t282.toList then ((neumelaw06_heads.f kj14).bind fun t283 => (some t283)) else (some false)))) else (some false))) = some r := H
       have A101 := sd_ A1010
       clear A1010
       replace H := ob_ H
       obtain ⟨t280, A1020, H⟩ := H
       replace H : (if t279 = t280 then ((pitch_Name.f a0_0 a0_1 a0_2).bind fun t281 => ((neumeref06_Name.f kj14 a0_0 a0_1 a0_2).bind fun t282 => (if t281.toList = t282.toList then ((neumelaw06_heads.f kj14).bind fun t283 => (some t283)) else (some false)))) else (some false)) = some r := H
       have A102 := sd_ A1020
       clear A1020
       by_cases c103 : t279 = t280
       ·rw [if_pos c103] at H
        have c103b0 : (t279 == t280) = true := beq_iff_eq.mpr c103
        have c103b1 : (t279 != t280) = false := bne_eq_false_iff_eq.mpr c103
        clear c103
        replace H := ob_ H
        obtain ⟨t281, A1040, H⟩ := H
        replace H : ((neumeref06_Name.f kj14 a0_0 a0_1 a0_2).bind fun t282 => (if t281.toList = t282.toList then ((neumelaw06_heads.f kj14).bind fun t283 => (some t283)) else (some false))) = some r := H
        have A104 := sd_ A1040
        clear A1040
        replace H := ob_ H
        obtain ⟨t282, A1050, H⟩ := H
        replace H : (if t281.toList = t282.toList then ((neumelaw06_heads.f kj14).bind fun t283 => (some t283)) else (some false)) = some r := H
        have A105 := sd_ A1050
        clear A1050
        by_cases c106 : t281.toList = t282.toList
        ·rw [if_pos c106] at H
         have c106b0 : (t281.toList == t282.toList) = true := beq_iff_eq.mpr c106
         have c106b1 : (t281.toList != t282.toList) = false := bne_eq_false_iff_eq.mpr c106
         clear c106
         replace H := ob_ H
         obtain ⟨t283, A1070, H⟩ := H
         replace H : (some t283) = some r := H
         have A107 := sd_ A1070
         clear A1070
         obtain rfl := Option.some.inj H
         try go_wp2
         replace BK249 := sd_ (kd_ BK249.out)
         replace BK259 := sd_ (kd_ BK259.out)
         replace BK264 := sd_ (kd_ BK264.out)
         replace BK269 := sd_ (kd_ BK269.out)
         replace BK274 := sd_ (kd_ BK274.out)
         replace HB := sd_ (d1_ HB.out)
         refine start_ (n := 30) (S := fun w' => w'.cell? ⟨gb249, 0, none⟩ = some (.int .i64 a0_0) ∧ w'.cell? ⟨gb249, 1, none⟩ = some (.int .i64 a0_1) ∧ w'.cell? ⟨gb249, 2, none⟩ = some (.int .i64 a0_2)) (ds := []) (Array.replicate 30 false) (by kernel_rfl) rfl rfl ⟨(kc_ BK249.out 0).trans rfl, (kc_ BK249.out 1).trans rfl, (kc_ BK249.out 2).trans rfl⟩ (fun hHeld => ?_); refine with_tabW neumelaw06_PitchTells.tab11 neumelaw06_PitchTells.bits11 (fun HT_ HW_ => ?_)
         generalize wc.drew = w108 at BK249 BK259 BK264 BK269 BK274 HB hHeld ⊢
         refine ta_ (v := ?_) (a' := ?_) 0 87 (bz 30 1) rfl rfl HT_ HW_ (by kernel_rfl) (fun _ _ _ h => h) (by rfl) ?_ hHeld ?_ ?_
         rotate_left
         ·rintro w' ⟨s0, s1, s2⟩
          go_simp
          with_reducible rfl
         rotate_left
         ·simp only [Act.put, ls_, lz_, lc_, i64_w, i32_w]
          rfl
         refine ta_ (v := ?_) (a' := ?_) 2 89 (bz 30 5) rfl rfl HT_ HW_ (by kernel_rfl) (fun _ _ _ h => h) (by rfl) ?_ hHeld ?_ ?_
         rotate_left
         ·rintro w' ⟨s0, s1, s2⟩
          go_simp
          with_reducible rfl
         rotate_left
         ·simp only [Act.put, ls_, lz_, lc_, i64_w, i32_w]
          rfl
         refine on_ (N := some 88) 1 (bz 30 7) rfl rfl HT_ (by kernel_rfl) (by decide) (fun K hK => ?_)
         refine goes_ Tryd.func14 (by kernel_rfl) rfl #[.agg #[.int .i64 a0_0, .int .i64 a0_1, .int .i64 a0_2]] (by rfl) rfl rfl (by (try simp only [lm_, lq_, lx_]); first | done | rfl | (simp only [ld_, lt_]; rfl)) ?_
         with_reducible refine (pitch_Check.calls a0_0 a0_1 a0_2 t275 _ A95.out).mono ?_
         rintro e w109 ⟨rfl, hb⟩
         refine ⟨_, rfl, ?_⟩
         replace BK249 := kb_ BK249 hb
         replace BK259 := kb_ BK259 hb
         replace BK264 := kb_ BK264 hb
         replace BK269 := kb_ BK269 hb
         replace BK274 := kb_ BK274 hb
         replace HB := hb_ HB (e_ GE249 (e_ GE259 (e_ GE264 (e_ GE269 (e_ GE274 e0_))))) hb
         (try clear hb)
         (try clear hb2)
         (try clear hk)
         (try clear hi)
         refine hK.out _ _ ⟨(kc_ BK249.out 0).trans rfl, (kc_ BK249.out 1).trans rfl, (kc_ BK249.out 2).trans rfl⟩ (fun hHeld => ?_)
         clear hK K
         refine norm_ (a' := ?_) ?_ ?_
         rotate_left
         ·show Act.put _ (some 88) _ = _
          simp only [Act.put, ls_, lz_, lc_, i64_w, i32_w]
          rfl
         refine on_ (N := some 90) 3 (bz 30 15) rfl rfl HT_ (by kernel_rfl) (by decide) (fun K hK => ?_)
         refine goes_ Tryd.func15 (by kernel_rfl) rfl #[.agg #[.int .i64 a0_0, .int .i64 a0_1, .int .i64 a0_2]] (by rfl) rfl rfl (by (try simp only [lm_, lq_, lx_]); first | done | rfl | (simp only [ld_, lt_]; rfl)) ?_
         with_reducible refine (neumeref06_Check.calls a0_0 a0_1 a0_2 t276 _ A96.out).mono ?_
         rintro e w110 ⟨rfl, hb⟩
         refine ⟨_, rfl, ?_⟩
         replace BK249 := kb_ BK249 hb
         replace BK259 := kb_ BK259 hb
         replace BK264 := kb_ BK264 hb
         replace BK269 := kb_ BK269 hb
         replace BK274 := kb_ BK274 hb
         replace HB := hb_ HB (e_ GE249 (e_ GE259 (e_ GE264 (e_ GE269 (e_ GE274 e0_))))) hb
         (try clear hb)
         (try clear hb2)
         (try clear hk)
         (try clear hi)
         refine hK.out _ _ ⟨(kc_ BK249.out 0).trans rfl, (kc_ BK249.out 1).trans rfl, (kc_ BK249.out 2).trans rfl⟩ (fun hHeld => ?_)
         clear hK K
         refine norm_ (a' := ?_) ?_ ?_
         rotate_left
         ·show Act.put _ (some 90) _ = _
          simp only [Act.put, ls_, lz_, lc_, i64_w, i32_w]
          rfl
         refine pu_ (v := ?_) (a' := ?_) 4 91 (bz 30 31) rfl rfl HT_ (by kernel_rfl) (fun _ _ _ h => h) (by rfl) ?_ ?_ ?_
         rotate_left; (intro w'; go_simp; with_reducible rfl); rotate_left; (simp only [Act.put, ls_, lz_, lc_, i64_w, i32_w]; rfl)
         refine pu_ (v := ?_) (a' := ?_) 5 92 (bz 30 63) rfl rfl HT_ (by kernel_rfl) (fun _ _ _ h => h) (by rfl) ?_ ?_ ?_
         rotate_left; (intro w'; go_simp; with_reducible rfl); rotate_left; (simp only [Act.put, ls_, lz_, lc_, i64_w, i32_w]; rfl)
         refine ta_ (v := ?_) (a' := ?_) 6 93 (bz 30 127) rfl rfl HT_ HW_ (by kernel_rfl) (fun _ _ _ h => h) (by rfl) ?_ hHeld ?_ ?_
         rotate_left
         ·rintro w' ⟨s0, s1, s2⟩
          go_simp
          with_reducible rfl
         rotate_left
         ·simp only [Act.put, ls_, lz_, lc_, i64_w, i32_w]
          rfl
         refine ta_ (v := ?_) (a' := ?_) 8 95 (bz 30 383) rfl rfl HT_ HW_ (by kernel_rfl) (fun _ _ _ h => h) (by rfl) ?_ hHeld ?_ ?_
         rotate_left
         ·rintro w' ⟨s0, s1, s2⟩
          go_simp
          with_reducible rfl
         rotate_left
         ·simp only [Act.put, ls_, lz_, lc_, i64_w, i32_w]
          rfl
         refine on_ (N := some 94) 7 (bz 30 511) rfl rfl HT_ (by kernel_rfl) (by decide) (fun K hK => ?_)
         refine goes_ Tryd.func16 (by kernel_rfl) rfl #[.agg #[.int .i64 a0_0, .int .i64 a0_1, .int .i64 a0_2]] (by rfl) rfl rfl (by (try simp only [lm_, lq_, lx_]); first | done | rfl | (simp only [ld_, lt_]; rfl)) ?_
         with_reducible refine (pitch_Tone.calls a0_0 a0_1 a0_2 t277 _ A98.out).mono ?_
         rintro e w111 ⟨rfl, hb⟩
         refine ⟨_, rfl, ?_⟩
         replace BK249 := kb_ BK249 hb
         replace BK259 := kb_ BK259 hb
         replace BK264 := kb_ BK264 hb
         replace BK269 := kb_ BK269 hb
         replace BK274 := kb_ BK274 hb
         replace HB := hb_ HB (e_ GE249 (e_ GE259 (e_ GE264 (e_ GE269 (e_ GE274 e0_))))) hb
         (try clear hb)
         (try clear hb2)
         (try clear hk)
         (try clear hi)
         refine hK.out _ _ ⟨(kc_ BK249.out 0).trans rfl, (kc_ BK249.out 1).trans rfl, (kc_ BK249.out 2).trans rfl⟩ (fun hHeld => ?_)
         clear hK K
         refine norm_ (a' := ?_) ?_ ?_
         rotate_left
         ·show Act.put _ (some 94) _ = _
          simp only [Act.put, ls_, lz_, lc_, i64_w, i32_w]
          rfl
         refine on_ (N := some 96) 9 (bz 30 1023) rfl rfl HT_ (by kernel_rfl) (by decide) (fun K hK => ?_)
         refine goes_ Tryd.func17 (by kernel_rfl) rfl #[.agg #[.int .i64 a0_0, .int .i64 a0_1, .int .i64 a0_2]] (by rfl) rfl rfl (by (try simp only [lm_, lq_, lx_]); first | done | rfl | (simp only [ld_, lt_]; rfl)) ?_
         with_reducible refine (neumeref06_Tone.calls a0_0 a0_1 a0_2 t278 _ A99.out).mono ?_
         rintro e w112 ⟨rfl, hb⟩
         refine ⟨_, rfl, ?_⟩
         replace BK249 := kb_ BK249 hb
         replace BK259 := kb_ BK259 hb
         replace BK264 := kb_ BK264 hb
         replace BK269 := kb_ BK269 hb
         replace BK274 := kb_ BK274 hb
         replace HB := hb_ HB (e_ GE249 (e_ GE259 (e_ GE264 (e_ GE269 (e_ GE274 e0_))))) hb
         (try clear hb)
         (try clear hb2)
         (try clear hk)
         (try clear hi)
         refine hK.out _ _ ⟨(kc_ BK249.out 0).trans rfl, (kc_ BK249.out 1).trans rfl, (kc_ BK249.out 2).trans rfl⟩ (fun hHeld => ?_)
         clear hK K
         refine norm_ (a' := ?_) ?_ ?_
         rotate_left
         ·show Act.put _ (some 96) _ = _
          simp only [Act.put, ls_, lz_, lc_, i64_w, i32_w]
          rfl
         refine pu_ (v := ?_) (a' := ?_) 10 97 (bz 30 2047) rfl rfl HT_ (by kernel_rfl) (fun _ _ _ h => h) (by rfl) ?_ ?_ ?_
         rotate_left; (intro w'; go_simp; with_reducible rfl); rotate_left; (simp only [Act.put, ls_, lz_, lc_, i64_w, i32_w]; rfl)
         refine pu_ (v := ?_) (a' := ?_) 11 98 (bz 30 4095) rfl rfl HT_ (by kernel_rfl) (fun _ _ _ h => h) (by rfl) ?_ ?_ ?_
         rotate_left; (intro w'; go_simp; with_reducible rfl); rotate_left; (simp only [Act.put, ls_, lz_, lc_, i64_w, i32_w]; rfl)
         refine pu_ (v := ?_) (a' := ?_) 12 99 (bz 30 8191) rfl rfl HT_ (by kernel_rfl) (fun _ _ _ h => h) (by rfl) ?_ ?_ ?_
         rotate_left; (intro w'; go_simp; with_reducible rfl); rotate_left; (simp only [Act.put, ls_, lz_, lc_, i64_w, i32_w]; rfl)
         refine ta_ (v := ?_) (a' := ?_) 13 100 (bz 30 16383) rfl rfl HT_ HW_ (by kernel_rfl) (fun _ _ _ h => h) (by rfl) ?_ hHeld ?_ ?_
         rotate_left
         ·rintro w' ⟨s0, s1, s2⟩
          go_simp
          with_reducible rfl
         rotate_left
         ·simp only [Act.put, ls_, lz_, lc_, i64_w, i32_w]
          rfl
         refine ta_ (v := ?_) (a' := ?_) 15 102 (bz 30 49151) rfl rfl HT_ HW_ (by kernel_rfl) (fun _ _ _ h => h) (by rfl) ?_ hHeld ?_ ?_
         rotate_left
         ·rintro w' ⟨s0, s1, s2⟩
          go_simp
          with_reducible rfl
         rotate_left
         ·simp only [Act.put, ls_, lz_, lc_, i64_w, i32_w]
          rfl
         refine on_ (N := some 101) 14 (bz 30 65535) rfl rfl HT_ (by kernel_rfl) (by decide) (fun K hK => ?_)
         refine goes_ Tryd.func18 (by kernel_rfl) rfl #[.agg #[.int .i64 a0_0, .int .i64 a0_1, .int .i64 a0_2]] (by rfl) rfl rfl (by (try simp only [lm_, lq_, lx_]); first | done | rfl | (simp only [ld_, lt_]; rfl)) ?_
         with_reducible refine (pitch_Count.calls a0_0 a0_1 a0_2 t279 _ A101.out).mono ?_
         rintro e w113 ⟨rfl, hb⟩
         refine ⟨_, rfl, ?_⟩
         replace BK249 := kb_ BK249 hb
         replace BK259 := kb_ BK259 hb
         replace BK264 := kb_ BK264 hb
         replace BK269 := kb_ BK269 hb
         replace BK274 := kb_ BK274 hb
         replace HB := hb_ HB (e_ GE249 (e_ GE259 (e_ GE264 (e_ GE269 (e_ GE274 e0_))))) hb
         (try clear hb)
         (try clear hb2)
         (try clear hk)
         (try clear hi)
         refine hK.out _ _ ⟨(kc_ BK249.out 0).trans rfl, (kc_ BK249.out 1).trans rfl, (kc_ BK249.out 2).trans rfl⟩ (fun hHeld => ?_)
         clear hK K
         refine norm_ (a' := ?_) ?_ ?_
         rotate_left
         ·show Act.put _ (some 101) _ = _
          simp only [Act.put, ls_, lz_, lc_, i64_w, i32_w]
          rfl
         refine on_ (N := some 103) 16 (bz 30 131071) rfl rfl HT_ (by kernel_rfl) (by decide) (fun K hK => ?_)
         refine goes_ Tryd.func19 (by kernel_rfl) rfl #[.agg #[.int .i64 a0_0, .int .i64 a0_1, .int .i64 a0_2]] (by rfl) rfl rfl (by (try simp only [lm_, lq_, lx_]); first | done | rfl | (simp only [ld_, lt_]; rfl)) ?_
         with_reducible refine (neumeref06_Count.calls a0_0 a0_1 a0_2 t280 _ A102.out).mono ?_
         rintro e w114 ⟨rfl, hb⟩
         refine ⟨_, rfl, ?_⟩
         replace BK249 := kb_ BK249 hb
         replace BK259 := kb_ BK259 hb
         replace BK264 := kb_ BK264 hb
         replace BK269 := kb_ BK269 hb
         replace BK274 := kb_ BK274 hb
         replace HB := hb_ HB (e_ GE249 (e_ GE259 (e_ GE264 (e_ GE269 (e_ GE274 e0_))))) hb
         (try clear hb)
         (try clear hb2)
         (try clear hk)
         (try clear hi)
         refine hK.out _ _ ⟨(kc_ BK249.out 0).trans rfl, (kc_ BK249.out 1).trans rfl, (kc_ BK249.out 2).trans rfl⟩ (fun hHeld => ?_)
         clear hK K
         refine norm_ (a' := ?_) ?_ ?_
         rotate_left
         ·show Act.put _ (some 103) _ = _
          simp only [Act.put, ls_, lz_, lc_, i64_w, i32_w]
          rfl
         refine pu_ (v := ?_) (a' := ?_) 17 104 (bz 30 262143) rfl rfl HT_ (by kernel_rfl) (fun _ _ _ h => h) (by rfl) ?_ ?_ ?_
         rotate_left; (intro w'; go_simp; with_reducible rfl); rotate_left; (simp only [Act.put, ls_, lz_, lc_, i64_w, i32_w]; rfl)
         refine pu_ (v := ?_) (a' := ?_) 18 105 (bz 30 524287) rfl rfl HT_ (by kernel_rfl) (fun _ _ _ h => h) (by rfl) ?_ ?_ ?_
         rotate_left; (intro w'; go_simp; with_reducible rfl); rotate_left; (simp only [Act.put, ls_, lz_, lc_, i64_w, i32_w]; rfl)
         refine pu_ (v := ?_) (a' := ?_) 19 106 (bz 30 1048575) rfl rfl HT_ (by kernel_rfl) (fun _ _ _ h => h) (by rfl) ?_ ?_ ?_
         rotate_left; (intro w'; go_simp; with_reducible rfl); rotate_left; (simp only [Act.put, ls_, lz_, lc_, i64_w, i32_w]; rfl)
         refine ta_ (v := ?_) (a' := ?_) 20 107 (bz 30 2097151) rfl rfl HT_ HW_ (by kernel_rfl) (fun _ _ _ h => h) (by rfl) ?_ hHeld ?_ ?_
         rotate_left
         ·rintro w' ⟨s0, s1, s2⟩
          go_simp
          with_reducible rfl
         rotate_left
         ·simp only [Act.put, ls_, lz_, lc_, i64_w, i32_w]
          rfl
         refine ta_ (v := ?_) (a' := ?_) 22 109 (bz 30 6291455) rfl rfl HT_ HW_ (by kernel_rfl) (fun _ _ _ h => h) (by rfl) ?_ hHeld ?_ ?_
         rotate_left
         ·rintro w' ⟨s0, s1, s2⟩
          go_simp
          with_reducible rfl
         rotate_left
         ·simp only [Act.put, ls_, lz_, lc_, i64_w, i32_w]
          rfl
         refine on_ (N := some 108) 21 (bz 30 8388607) rfl rfl HT_ (by kernel_rfl) (by decide) (fun K hK => ?_)
         refine goes_ Tryd.func20 (by kernel_rfl) rfl #[.agg #[.int .i64 a0_0, .int .i64 a0_1, .int .i64 a0_2]] (by rfl) rfl rfl (by (try simp only [lm_, lq_, lx_]); first | done | rfl | (simp only [ld_, lt_]; rfl)) ?_
         with_reducible refine (pitch_Name.calls a0_0 a0_1 a0_2 t281 _ A104.out).mono ?_
         rintro e w115 ⟨rfl, hb⟩
         refine ⟨_, rfl, ?_⟩
         replace BK249 := kb_ BK249 hb
         replace BK259 := kb_ BK259 hb
         replace BK264 := kb_ BK264 hb
         replace BK269 := kb_ BK269 hb
         replace BK274 := kb_ BK274 hb
         replace HB := hb_ HB (e_ GE249 (e_ GE259 (e_ GE264 (e_ GE269 (e_ GE274 e0_))))) hb
         (try clear hb)
         (try clear hb2)
         (try clear hk)
         (try clear hi)
         refine hK.out _ _ ⟨(kc_ BK249.out 0).trans rfl, (kc_ BK249.out 1).trans rfl, (kc_ BK249.out 2).trans rfl⟩ (fun hHeld => ?_)
         clear hK K
         refine norm_ (a' := ?_) ?_ ?_
         rotate_left
         ·show Act.put _ (some 108) _ = _
          simp only [Act.put, ls_, lz_, lc_, i64_w, i32_w]
          rfl
         refine on_ (N := some 110) 23 (bz 30 16777215) rfl rfl HT_ (by kernel_rfl) (by decide) (fun K hK => ?_)
         refine goes_ Tryd.func21 (by kernel_rfl) rfl #[.agg #[.int .i64 a0_0, .int .i64 a0_1, .int .i64 a0_2]] (by rfl) rfl rfl (by (try simp only [lm_, lq_, lx_]); first | done | rfl | (simp only [ld_, lt_]; rfl)) ?_
         with_reducible refine (neumeref06_Name.calls kj14 a0_0 a0_1 a0_2 t282 _ A105.out).mono ?_
         rintro e w116 ⟨rfl, hb⟩
         refine ⟨_, rfl, ?_⟩
         replace BK249 := kb_ BK249 hb
         replace BK259 := kb_ BK259 hb
         replace BK264 := kb_ BK264 hb
         replace BK269 := kb_ BK269 hb
         replace BK274 := kb_ BK274 hb
         replace HB := hb_ HB (e_ GE249 (e_ GE259 (e_ GE264 (e_ GE269 (e_ GE274 e0_))))) hb
         (try clear hb)
         (try clear hb2)
         (try clear hk)
         (try clear hi)
         refine hK.out _ _ ⟨(kc_ BK249.out 0).trans rfl, (kc_ BK249.out 1).trans rfl, (kc_ BK249.out 2).trans rfl⟩ (fun hHeld => ?_)
         clear hK K
         refine norm_ (a' := ?_) ?_ ?_
         rotate_left
         ·show Act.put _ (some 110) _ = _
          simp only [Act.put, ls_, lz_, lc_, i64_w, i32_w]
          rfl
         refine pu_ (v := ?_) (a' := ?_) 24 111 (bz 30 33554431) rfl rfl HT_ (by kernel_rfl) (fun _ _ _ h => h) (by rfl) ?_ ?_ ?_
         rotate_left; (intro w'; go_simp; with_reducible rfl); rotate_left; (simp only [Act.put, ls_, lz_, lc_, i64_w, i32_w]; rfl)
         refine pu_ (v := ?_) (a' := ?_) 25 112 (bz 30 67108863) rfl rfl HT_ (by kernel_rfl) (fun _ _ _ h => h) (by rfl) ?_ ?_ ?_
         rotate_left; (intro w'; go_simp; with_reducible rfl); rotate_left; (simp only [Act.put, ls_, lz_, lc_, i64_w, i32_w]; rfl)
         refine pu_ (v := ?_) (a' := ?_) 26 113 (bz 30 134217727) rfl rfl HT_ (by kernel_rfl) (fun _ _ _ h => h) (by rfl) ?_ ?_ ?_
         rotate_left; (intro w'; go_simp; with_reducible rfl); rotate_left; (simp only [Act.put, ls_, lz_, lc_, i64_w, i32_w]; rfl)
         refine on_ (N := some 114) 27 (bz 30 268435455) rfl rfl HT_ (by kernel_rfl) (by decide) (fun K hK => ?_)
         refine goes_ Tryd.func7 (by kernel_rfl) rfl #[] (by rfl) rfl rfl (by (try simp only [lm_, lq_, lx_]); first | done | rfl | (simp only [ld_, lt_]; rfl)) ?_
         with_reducible refine (neumelaw06_heads.calls kj14  t283 _ ?side1 A107.out).mono ?_
         (case side1 => first | (with_reducible exact hE) | exact sd_ (LaidE.below hE.out (bb_ HB.out (e_ GE249 (e_ GE259 (e_ GE264 (e_ GE269 (e_ GE274 e0_))))))))
         rintro e w117 ⟨rfl, hb⟩
         refine ⟨_, rfl, ?_⟩
         replace BK249 := kb_ BK249 hb
         replace BK259 := kb_ BK259 hb
         replace BK264 := kb_ BK264 hb
         replace BK269 := kb_ BK269 hb
         replace BK274 := kb_ BK274 hb
         replace HB := hb_ HB (e_ GE249 (e_ GE259 (e_ GE264 (e_ GE269 (e_ GE274 e0_))))) hb
         (try clear hb)
         (try clear hb2)
         (try clear hk)
         (try clear hi)
         refine hK.out _ _ ⟨(kc_ BK249.out 0).trans rfl, (kc_ BK249.out 1).trans rfl, (kc_ BK249.out 2).trans rfl⟩ (fun hHeld => ?_)
         clear hK K
         refine norm_ (a' := ?_) ?_ ?_
         rotate_left
         ·show Act.put _ (some 114) _ = _
          simp only [Act.put, ls_, lz_, lc_, i64_w, i32_w]
          rfl
         refine pu_ (v := ?_) (a' := ?_) 28 115 (bz 30 536870911) rfl rfl HT_ (by kernel_rfl) (fun _ _ _ h => h) (by rfl) ?_ ?_ ?_
         rotate_left; (intro w'; go_simp; with_reducible rfl); rotate_left; (simp only [Act.put, ls_, lz_, lc_, i64_w, i32_w]; rfl)
         refine pu_ (v := ?_) (a' := ?_) 29 8 (bz 30 1073741823) rfl rfl HT_ (by kernel_rfl) (fun _ _ _ h => h) (by rfl) ?_ ?_ ?_
         rotate_left; (intro w'; go_simp; with_reducible rfl); rotate_left; (simp only [Act.put, ls_, lz_, lc_, i64_w, i32_w]; rfl)
         refine done_ (done_of HT_.out (by kernel_rfl)) ?_
         try go_wp2
         go_ret
         exact ⟨by first | rfl | (simp [errW_none, errW_some] <;> rfl) | (simp [*, errW_none, errW_some] <;> rfl), by repeat (first | (with_reducible first | exact HB.out | apply ba_ | apply pd_ | apply d1_ | refine bs_ ?_ GE249.out | refine bs_ ?_ GE259.out | refine bs_ ?_ GE264.out | refine bs_ ?_ GE269.out | refine bs_ ?_ GE274.out) | exact HB.out)⟩
        ·rw [if_neg c106] at H
         have c106b0 : (t281.toList == t282.toList) = false := beq_eq_false_iff_ne.mpr c106
         have c106b1 : (t281.toList != t282.toList) = true := bne_iff_ne.mpr c106
         exact absurd ((Option.some.inj H).trans hxt.out) (by decide)
       ·rw [if_neg c103] at H
        have c103b0 : (t279 == t280) = false := beq_eq_false_iff_ne.mpr c103
        have c103b1 : (t279 != t280) = true := bne_iff_ne.mpr c103
        exact absurd ((Option.some.inj H).trans hxt.out) (by decide)
      ·rw [if_neg c100] at H
       have c100b0 : (t277 == t278) = false := beq_eq_false_iff_ne.mpr c100
       have c100b1 : (t277 != t278) = true := bne_iff_ne.mpr c100
       exact absurd ((Option.some.inj H).trans hxt.out) (by decide)
     ·rw [if_neg c97] at H
      have c97b0 : (t275 == t276) = false := by simpa using c97
      (try (have c97b1 : decide (t275 = t276) = false := by simpa using c97))
      (try (have c97b2 : (t275 == t276) = false := by simpa using c97))
      (try (have c97b3 : ¬ (t275 = t276) := by simpa using c97))
      clear c97
      exact absurd ((Option.some.inj H).trans hxt.out) (by decide)

end Go.Proofs.YtkncoedagigliaaDoor.P
