-- Written by a program of this session (wip/tools/xprint.py, over the kit's print): Lean checks it.
import Derived.Test.YteecpeggnejeaaaDoorPx0
import Derived.Test.YteecpeggnejeaaaDoorPx1
import Derived.Test.YteecpeggnejeaaaDoorPx2
import Derived.Test.YteecpeggnejeaaaDoorPx3
import Derived.Test.YteecpeggnejeaaaDoorPx4
import Derived.Test.YteecpeggnejeaaaDoorPx5
import Derived.Test.YteecpeggnejeaaaDoorPx6
import Derived.Test.YteecpeggnejeaaaDoorPx7
namespace Go.Proofs.YteecpeggnejeaaaDoor.P
open Go.RowKit Go.Proofs.YteecpeggnejeaaaDoorW.PrintWords Go.Proofs.YteecpeggnejeaaaDoorW.PrintLast Go.Proofs.YteecpeggnejeaaaDoorW.PrintMore
attribute [local go_sem] max2_int min2_int max_two min_two max_three min_three max_four min_four   -- for this text's walks alone
set_option linter.unusedVariables false
set_option linter.unusedSimpArgs false

attribute [local go_sem high] eqA23
/-! ### neumelaw03_BoxTells: function 3 -/
def neumelaw03_BoxTells.j0 : Nat → Bool → Int → Int → Int → Int → Int → Int → Int → Int → Option (Bool)
 | 0, _, _, _, _, _, _, _, _, _ => none
 | k + 1, x67, x264000, x264001, x264002, x264003, x265000, x265001, x265002, x265003 => if x67 = true then (some false) else ((box_Join.f k x264000 x264001 x264002 x264003 x265000 x265001 x265002 x265003).bind fun bt291 => ((neumeref03_Join.f k x264000 x264001 x264002 x264003 x265000 x265001 x265002 x265003).bind fun bt295 => (if (bt291.1 == bt295.1 && (bt291.2.1 == bt295.2.1 && (bt291.2.2.1 == bt295.2.2.1 && (bt291.2.2.2 == bt295.2.2.2)))) = true then ((box_Meet.f x264000 x264001 x264002 x264003 x265000 x265001 x265002 x265003).bind fun t299 => ((neumeref03_Meet.f x264000 x264001 x264002 x264003 x265000 x265001 x265002 x265003).bind fun t300 => (if (t299 == t300) = true then ((box_Inside.f k x264000 x264001 x264002 x264003 x265000 x265001 x265002 x265003).bind fun t301 => ((neumeref03_Inside.f x264000 x264001 x264002 x264003 x265000 x265001 x265002 x265003).bind fun t302 => (if (t301 == t302) = true then ((neumelaw03_heads.f k).bind fun t303 => (some t303)) else (some false)))) else (some false)))) else (some false))))
def neumelaw03_BoxTells.f (k : Nat) (a0_0 : Int) (a0_1 : Int) (a0_2 : Int) (a0_3 : Int) (a1_0 : Int) (a1_1 : Int) (a1_2 : Int) (a1_3 : Int) (a2 : Int) (a3 : Int) : Option (Bool) := (box_Move.f a0_0 a0_1 a0_2 a0_3 a2 a3).bind fun bt265 => ((neumeref03_Move.f a0_0 a0_1 a0_2 a0_3 a2 a3).bind fun bt271 => ((box_Grow.f a0_0 a0_1 a0_2 a0_3 a2).bind fun bt277 => ((neumeref03_Grow.f a0_0 a0_1 a0_2 a0_3 a2).bind fun bt283 => (if (!(bt265.1 == bt271.1) || (!(bt265.2.1 == bt271.2.1) || (!(bt265.2.2.1 == bt271.2.2.1) || (!(bt265.2.2.2.1 == bt271.2.2.2.1))))) = true then (neumelaw03_BoxTells.j0 k true a0_0 a0_1 a0_2 a0_3 a1_0 a1_1 a1_2 a1_3) else (if bt265.2.2.2.2 = bt271.2.2.2.2 then (if (!(bt277.1 == bt283.1) || (!(bt277.2.1 == bt283.2.1) || (!(bt277.2.2.1 == bt283.2.2.1) || (!(bt277.2.2.2.1 == bt283.2.2.2.1))))) = true then (neumelaw03_BoxTells.j0 k true a0_0 a0_1 a0_2 a0_3 a1_0 a1_1 a1_2 a1_3) else (if bt277.2.2.2.2 = bt283.2.2.2.2 then ((box_Check.f a0_0 a0_1 a0_2 a0_3).bind fun t289 => ((neumeref03_Check.f a0_0 a0_1 a0_2 a0_3).bind fun t290 => (neumelaw03_BoxTells.j0 k (t289 != t290) a0_0 a0_1 a0_2 a0_3 a1_0 a1_1 a1_2 a1_3))) else (neumelaw03_BoxTells.j0 k true a0_0 a0_1 a0_2 a0_3 a1_0 a1_1 a1_2 a1_3))) else (neumelaw03_BoxTells.j0 k true a0_0 a0_1 a0_2 a0_3 a1_0 a1_1 a1_2 a1_3))))))
theorem neumelaw03_BoxTells.mono_l : ∀ k, (∀ y0 y1 y2 y3 y4 y5 y6 y7 y8, LeO (neumelaw03_BoxTells.j0 k y0 y1 y2 y3 y4 y5 y6 y7 y8) (neumelaw03_BoxTells.j0 (k + 1) y0 y1 y2 y3 y4 y5 y6 y7 y8))
 | 0 => fun _ _ _ _ _ _ _ _ _ r h => by simp [neumelaw03_BoxTells.j0] at h
 | k + 1 => by
  have ih0 := neumelaw03_BoxTells.mono_l k
  ·intro y0 y1 y2 y3 y4 y5 y6 y7 y8
   unfold neumelaw03_BoxTells.j0
   repeat' first
   | (with_reducible exact ih0 _ _ _ _ _ _ _ _ _)
   | (with_reducible exact box_Inside.mono _ _ _ _ _ _ _ _ _)
   | (with_reducible exact box_Join.mono _ _ _ _ _ _ _ _ _)
   | (with_reducible exact neumelaw03_heads.mono _)
   | (with_reducible exact neumeref03_Join.mono _ _ _ _ _ _ _ _ _)
   | (with_reducible exact LeO.refl _)
   | (with_reducible exact LeO.none _)
   | (with_reducible refine LeO.ite ?_ ?_)
   | (with_reducible refine LeO.bind ?_ (fun _ => ?_))
   | exact ih0 _ _ _ _ _ _ _ _ _
   | exact box_Inside.mono _ _ _ _ _ _ _ _ _
   | exact box_Join.mono _ _ _ _ _ _ _ _ _
   | exact neumelaw03_heads.mono _
   | exact neumeref03_Join.mono _ _ _ _ _ _ _ _ _
   | exact LeO.none _
   | refine LeO.ite ?_ ?_
   | refine LeO.bind ?_ (fun _ => ?_)
theorem neumelaw03_BoxTells.mono : ∀ a0 a1 a2 a3 a4 a5 a6 a7 a8 a9 k, LeO (neumelaw03_BoxTells.f k a0 a1 a2 a3 a4 a5 a6 a7 a8 a9) (neumelaw03_BoxTells.f (k + 1) a0 a1 a2 a3 a4 a5 a6 a7 a8 a9) := by
 intro a0 a1 a2 a3 a4 a5 a6 a7 a8 a9 k
 have ih0 := neumelaw03_BoxTells.mono_l k
 unfold neumelaw03_BoxTells.f
 repeat' first
   | (with_reducible exact ih0 _ _ _ _ _ _ _ _ _)
   | (with_reducible exact box_Inside.mono _ _ _ _ _ _ _ _ _)
   | (with_reducible exact box_Join.mono _ _ _ _ _ _ _ _ _)
   | (with_reducible exact neumelaw03_heads.mono _)
   | (with_reducible exact neumeref03_Join.mono _ _ _ _ _ _ _ _ _)
   | (with_reducible exact LeO.refl _)
   | (with_reducible exact LeO.none _)
   | (with_reducible refine LeO.ite ?_ ?_)
   | (with_reducible refine LeO.bind ?_ (fun _ => ?_))
   | exact ih0 _ _ _ _ _ _ _ _ _
   | exact box_Inside.mono _ _ _ _ _ _ _ _ _
   | exact box_Join.mono _ _ _ _ _ _ _ _ _
   | exact neumelaw03_heads.mono _
   | exact neumeref03_Join.mono _ _ _ _ _ _ _ _ _
   | exact LeO.none _
   | refine LeO.ite ?_ ?_
   | refine LeO.bind ?_ (fun _ => ?_)
def neumelaw03_BoxTells.T5 : Bool × List (List Nat × List Nat) := (true, [([], []), ([], []), ([0, 1], [0, 1]), ([2], [2]), ([3], [3]), ([3], [3]), ([4, 5, 3], [3, 4, 5]), ([3, 6], [3, 6]), ([7, 3], [7]), ([8], [8]), ([8], [8]), ([9, 10, 8], [8, 9, 10]), ([8, 11], [8, 11]), ([12, 8], [12]), ([13], [13]), ([13], [13]), ([14, 15, 13], [13, 14, 15]), ([13, 16], [13, 16]), ([17, 13], [17]), ([18], [18]), ([19, 18, 18], [18, 19]), ([18], [18]), ([21, 20, 18], [18, 21]), ([20, 22, 18], [18, 20, 22]), ([18, 23], [18, 23])])
def neumelaw03_BoxTells.B5 : List Nat := [0, 0, 3, 7, 15, 15, 63, 127, 255, 511, 511, 2047, 4095, 8191, 16383, 16383, 65535, 131071, 262143, 524287, 1048575, 524287, 4194303, 8388607, 16777215]
theorem neumelaw03_BoxTells.tab5 : rtab .any (opsOf Tryd.f3 5) = neumelaw03_BoxTells.T5 := by kernel_rfl
theorem neumelaw03_BoxTells.bits5 : waitsOk neumelaw03_BoxTells.T5.2 neumelaw03_BoxTells.B5 = true := by kernel_rfl
def neumelaw03_BoxTells.T7 : Bool × List (List Nat × List Nat) := (true, [([], []), ([], []), ([0, 1], [0, 1]), ([], []), ([], []), ([3, 4, 2], [3, 4]), ([2, 5], [2, 5]), ([6, 5], [6]), ([7], [7]), ([7], [7]), ([8, 9, 7, 7], [7, 8, 9]), ([7], [7]), ([7], [7]), ([11, 12, 10, 7], [7, 11, 12]), ([10, 13, 7], [7, 10, 13]), ([7, 14], [7, 14]), ([15, 13], [15]), ([16], [16]), ([16], [16]), ([17, 18, 16, 16], [16, 17, 18]), ([16], [16]), ([16], [16]), ([20, 21, 19, 16], [16, 20, 21]), ([19, 22, 16], [16, 19, 22]), ([16, 23], [16, 23]), ([24, 22], [24]), ([25, 25], [25]), ([25, 26], [25, 26]), ([27, 26, 0, 1, 2, 3, 4, 5, 6, 7, 8, 9, 10, 11, 12, 13, 14, 15, 16, 17, 18, 19, 20, 21, 22, 23, 24, 25, 26, 27], [27])])
def neumelaw03_BoxTells.B7 : List Nat := [0, 0, 3, 0, 0, 31, 63, 127, 255, 255, 1023, 255, 255, 8191, 16383, 32767, 65535, 131071, 131071, 524287, 131071, 131071, 4194303, 8388607, 16777215, 33554431, 67108863, 134217727, 268435455]
theorem neumelaw03_BoxTells.tab7 : rtab .any (opsOf Tryd.f3 7) = neumelaw03_BoxTells.T7 := by kernel_rfl
theorem neumelaw03_BoxTells.bits7 : waitsOk neumelaw03_BoxTells.T7.2 neumelaw03_BoxTells.B7 = true := by kernel_rfl
set_option maxHeartbeats 8000000 in
set_option maxRecDepth 100000 in
theorem neumelaw03_BoxTells.calls (k : Nat) (a0_0 : Int) (a0_1 : Int) (a0_2 : Int) (a0_3 : Int) (a1_0 : Int) (a1_1 : Int) (a1_2 : Int) (a1_3 : Int) (a2 : Int) (a3 : Int) (r : Bool) (w : World) (hE : Aside0 (LaidE w)) (hxt : Aside0 (r = true)) (h : neumelaw03_BoxTells.f k a0_0 a0_1 a0_2 a0_3 a1_0 a1_1 a1_2 a1_3 a2 a3 = some r) :
  Calls Tryd.prog 3 #[.agg #[.int .i64 a0_0,.int .i64 a0_1,.int .i64 a0_2,.int .i64 a0_3],.agg #[.int .i64 a1_0,.int .i64 a1_1,.int .i64 a1_2,.int .i64 a1_3],.int .i64 a2,.int .i64 a3] w fun e w' => e = .returned (.bool r) ∧ Below w.heap.size w w' := by
 have hu23 := Tryd.underlying23
 have HB := sd_ (Below.refl w.heap.size w)
 have H : ((box_Move.f a0_0 a0_1 a0_2 a0_3 a2 a3).bind fun bt265 => ((neumeref03_Move.f a0_0 a0_1 a0_2 a0_3 a2 a3).bind fun bt271 => ((box_Grow.f a0_0 a0_1 a0_2 a0_3 a2).bind fun bt277 => ((neumeref03_Grow.f a0_0 a0_1 a0_2 a0_3 a2).bind fun bt283 => (if (!(bt265.1 == bt271.1) || (!(bt265.2.1 == bt271.2.1) || (!(bt265.2.2.1 == bt271.2.2.1) || (!(bt265.2.2.2.1 == bt271.2.2.2.1))))) = true then (neumelaw03_BoxTells.j0 k true a0_0 a0_1 a0_2 a0_3 a1_0 a1_1 a1_2 a1_3) else (if bt265.2.2.2.2 = bt271.2.2.2.2 then (if (!(bt277.1 == bt283.1) || (!(bt277.2.1 == bt283.2.1) || (!(bt277.2.2.1 == bt283.2.2.1) || (!(bt277.2.2.2.1 == bt283.2.2.2.1))))) = true then (neumelaw03_BoxTells.j0 k true a0_0 a0_1 a0_2 a0_3 a1_0 a1_1 a1_2 a1_3) else (if bt277.2.2.2.2 = bt283.2.2.2.2 then ((box_Check.f a0_0 a0_1 a0_2 a0_3).bind fun t289 => ((neumeref03_Check.f a0_0 a0_1 a0_2 a0_3).bind fun t290 => (neumelaw03_BoxTells.j0 k (t289 != t290) a0_0 a0_1 a0_2 a0_3 a1_0 a1_1 a1_2 a1_3))) else (neumelaw03_BoxTells.j0 k true a0_0 a0_1 a0_2 a0_3 a1_0 a1_1 a1_2 a1_3))) else (neumelaw03_BoxTells.j0 k true a0_0 a0_1 a0_2 a0_3 a1_0 a1_1 a1_2 a1_3))))))) = some r := h
 clear h
 replace H := ob_ H
 obtain ⟨⟨t265,t266,t267,t268,t269⟩,A50,H⟩ := H
 replace H : ((neumeref03_Move.f a0_0 a0_1 a0_2 a0_3 a2 a3).bind fun bt271 => ((box_Grow.f a0_0 a0_1 a0_2 a0_3 a2).bind fun bt277 => ((neumeref03_Grow.f a0_0 a0_1 a0_2 a0_3 a2).bind fun bt283 => (if (!(t265 == bt271.1) || (!(t266 == bt271.2.1) || (!(t267 == bt271.2.2.1) || (!(t268 == bt271.2.2.2.1))))) = true then (neumelaw03_BoxTells.j0 k true a0_0 a0_1 a0_2 a0_3 a1_0 a1_1 a1_2 a1_3) else (if t269 = bt271.2.2.2.2 then (if (!(bt277.1 == bt283.1) || (!(bt277.2.1 == bt283.2.1) || (!(bt277.2.2.1 == bt283.2.2.1) || (!(bt277.2.2.2.1 == bt283.2.2.2.1))))) = true then (neumelaw03_BoxTells.j0 k true a0_0 a0_1 a0_2 a0_3 a1_0 a1_1 a1_2 a1_3) else (if bt277.2.2.2.2 = bt283.2.2.2.2 then ((box_Check.f a0_0 a0_1 a0_2 a0_3).bind fun t289 => ((neumeref03_Check.f a0_0 a0_1 a0_2 a0_3).bind fun t290 => (neumelaw03_BoxTells.j0 k (t289 != t290) a0_0 a0_1 a0_2 a0_3 a1_0 a1_1 a1_2 a1_3))) else (neumelaw03_BoxTells.j0 k true a0_0 a0_1 a0_2 a0_3 a1_0 a1_1 a1_2 a1_3))) else (neumelaw03_BoxTells.j0 k true a0_0 a0_1 a0_2 a0_3 a1_0 a1_1 a1_2 a1_3)))))) = some r := H
 have A5 := sd_ A50
 clear A50
 replace H := ob_ H
 obtain ⟨⟨t271,t272,t273,t274,t275⟩,A60,H⟩ := H
 replace H : ((box_Grow.f a0_0 a0_1 a0_2 a0_3 a2).bind fun bt277 => ((neumeref03_Grow.f a0_0 a0_1 a0_2 a0_3 a2).bind fun bt283 => (if (!(t265 == t271) || (!(t266 == t272) || (!(t267 == t273) || (!(t268 == t274))))) = true then (neumelaw03_BoxTells.j0 k true a0_0 a0_1 a0_2 a0_3 a1_0 a1_1 a1_2 a1_3) else (if t269 = t275 then (if (!(bt277.1 == bt283.1) || (!(bt277.2.1 == bt283.2.1) || (!(bt277.2.2.1 == bt283.2.2.1) || (!(bt277.2.2.2.1 == bt283.2.2.2.1))))) = true then (neumelaw03_BoxTells.j0 k true a0_0 a0_1 a0_2 a0_3 a1_0 a1_1 a1_2 a1_3) else (if bt277.2.2.2.2 = bt283.2.2.2.2 then ((box_Check.f a0_0 a0_1 a0_2 a0_3).bind fun t289 => ((neumeref03_Check.f a0_0 a0_1 a0_2 a0_3).bind fun t290 => (neumelaw03_BoxTells.j0 k (t289 != t290) a0_0 a0_1 a0_2 a0_3 a1_0 a1_1 a1_2 a1_3))) else (neumelaw03_BoxTells.j0 k true a0_0 a0_1 a0_2 a0_3 a1_0 a1_1 a1_2 a1_3))) else (neumelaw03_BoxTells.j0 k true a0_0 a0_1 a0_2 a0_3 a1_0 a1_1 a1_2 a1_3))))) = some r := H
 have A6 := sd_ A60
 clear A60
 replace H := ob_ H
 obtain ⟨⟨t277,t278,t279,t280,t281⟩,A70,H⟩ := H
 replace H : ((neumeref03_Grow.f a0_0 a0_1 a0_2 a0_3 a2).bind fun bt283 => (if (!(t265 == t271) || (!(t266 == t272) || (!(t267 == t273) || (!(t268 == t274))))) = true then (neumelaw03_BoxTells.j0 k true a0_0 a0_1 a0_2 a0_3 a1_0 a1_1 a1_2 a1_3) else (if t269 = t275 then (if (!(t277 == bt283.1) || (!(t278 == bt283.2.1) || (!(t279 == bt283.2.2.1) || (!(t280 == bt283.2.2.2.1))))) = true then (neumelaw03_BoxTells.j0 k true a0_0 a0_1 a0_2 a0_3 a1_0 a1_1 a1_2 a1_3) else (if t281 = bt283.2.2.2.2 then ((box_Check.f a0_0 a0_1 a0_2 a0_3).bind fun t289 => ((neumeref03_Check.f a0_0 a0_1 a0_2 a0_3).bind fun t290 => (neumelaw03_BoxTells.j0 k (t289 != t290) a0_0 a0_1 a0_2 a0_3 a1_0 a1_1 a1_2 a1_3))) else (neumelaw03_BoxTells.j0 k true a0_0 a0_1 a0_2 a0_3 a1_0 a1_1 a1_2 a1_3))) else (neumelaw03_BoxTells.j0 k true a0_0 a0_1 a0_2 a0_3 a1_0 a1_1 a1_2 a1_3)))) = some r := H
 have A7 := sd_ A70
 clear A70
 replace H := ob_ H
 obtain ⟨⟨t283,t284,t285,t286,t287⟩,A80,H⟩ := H
 replace H : (if (!(t265 == t271) || (!(t266 == t272) || (!(t267 == t273) || (!(t268 == t274))))) = true then (neumelaw03_BoxTells.j0 k true a0_0 a0_1 a0_2 a0_3 a1_0 a1_1 a1_2 a1_3) else (if t269 = t275 then (if (!(t277 == t283) || (!(t278 == t284) || (!(t279 == t285) || (!(t280 == t286))))) = true then (neumelaw03_BoxTells.j0 k true a0_0 a0_1 a0_2 a0_3 a1_0 a1_1 a1_2 a1_3) else (if t281 = t287 then ((box_Check.f a0_0 a0_1 a0_2 a0_3).bind fun t289 => ((neumeref03_Check.f a0_0 a0_1 a0_2 a0_3).bind fun t290 => (neumelaw03_BoxTells.j0 k (t289 != t290) a0_0 a0_1 a0_2 a0_3 a1_0 a1_1 a1_2 a1_3))) else (neumelaw03_BoxTells.j0 k true a0_0 a0_1 a0_2 a0_3 a1_0 a1_1 a1_2 a1_3))) else (neumelaw03_BoxTells.j0 k true a0_0 a0_1 a0_2 a0_3 a1_0 a1_1 a1_2 a1_3))) = some r := H
 have A8 := sd_ A80
 clear A80
 have HC9 := sd_ H
 clear H
 go_enter Tryd.func3,Tryd.ntmps3
 go_upto_region 5 with (first|((with_reducible refine gate_dst (N := 4) rfl ?_);refine box_event ?hg (N := 4) ?hd (cs := #[.int .i64 a0_0,.int .i64 a0_1,.int .i64 a0_2,.int .i64 a0_3]) (t := 23) ?hr ?_;(case hd => rfl);(case hg => rfl);(case hr => first|(go_simp;done)|(go_simp;rfl));intro gb263 hg w10 hbox hb;have n0_ := sd_ (bt_ (by repeat (first|(with_reducible first|exact HB.out|apply ba_|apply pd_|apply d1_)|exact HB.out)) hb);have n1_ := sd_ (hbox);have n2_ := sd_ ((by rw [hg];exact (bz_ (by repeat (first|(with_reducible first|exact HB.out|apply ba_|apply pd_|apply d1_)|exact HB.out))) : w.heap.size ≤ gb263));have n3_ := sd_ ((by rw [hg];exact (bz_ (by repeat (first|(with_reducible first|exact HB.out|apply ba_|apply pd_|apply d1_)|exact HB.out))) : w.heap.size ≤ gb263));clear HB;have HB := n0_;have BK263 := n1_;have GW263 := n2_;have GE263 := n3_;clear n0_ n1_ n2_ n3_;clear hb hbox hg)|((with_reducible refine gate_dst (N := 5) rfl ?_);refine box_event ?hg (N := 5) ?hd (cs := #[.int .i64 a1_0,.int .i64 a1_1,.int .i64 a1_2,.int .i64 a1_3]) (t := 23) ?hr ?_;(case hd => rfl);(case hg => rfl);(case hr => first|(go_simp;done)|(go_simp;rfl));intro gb264 hg w11 hbox hb;have n0_ := sd_ (blk_below (g := gb263) (o := .cells #[.int .i64 a0_0,.int .i64 a0_1,.int .i64 a0_2,.int .i64 a0_3] 23 (0,0)) (by (with_reducible repeat first|apply kn_|apply kd_|apply ka_);exact BK263.out) hb);have n1_ := sd_ (bt_ (by repeat (first|(with_reducible first|exact HB.out|apply ba_|apply pd_|apply d1_|refine bs_ ?_ GE263.out)|exact HB.out)) hb);have n2_ := sd_ (hbox);have n3_ := sd_ ((by rw [hg];exact (bz_ (by repeat (first|(with_reducible first|exact HB.out|apply ba_|apply pd_|apply d1_|refine bs_ ?_ GE263.out)|exact HB.out))) : w.heap.size ≤ gb264));have n4_ := sd_ ((by rw [hg];exact (bz_ (by repeat (first|(with_reducible first|exact HB.out|apply ba_|apply pd_|apply d1_|refine bs_ ?_ GE263.out)|exact HB.out))) : w.heap.size ≤ gb264));have n5_ := sd_ ((by rw [hg];exact nn_ (blk_lt (g := gb263) (o := .cells #[.int .i64 a0_0,.int .i64 a0_1,.int .i64 a0_2,.int .i64 a0_3] 23 (0,0)) (by (with_reducible repeat first|apply kn_|apply kd_|apply ka_);exact BK263.out)) : gb263 ≠ gb264));have n6_ := sd_ ((by rw [hg];exact Nat.ne_of_gt (blk_lt (g := gb263) (o := .cells #[.int .i64 a0_0,.int .i64 a0_1,.int .i64 a0_2,.int .i64 a0_3] 23 (0,0)) (by (with_reducible repeat first|apply kn_|apply kd_|apply ka_);exact BK263.out)) : gb264 ≠ gb263));clear BK263;clear HB;have BK263 := n0_;have HB := n1_;have BK264 := n2_;have GW264 := n3_;have GE264 := n4_;have NB263_264 := n5_;have NB264_263 := n6_;clear n0_ n1_ n2_ n3_ n4_ n5_ n6_;clear hb hbox hg;have hnb12 := NB263_264.out;have hnc12 := NB264_263.out;have hcz13_0 : w11.cell? ⟨gb263,0,none⟩ = some (.int .i64 a0_0) := (kc_ BK263.out 0).trans rfl;have hcz13_1 : w11.cell? ⟨gb263,1,none⟩ = some (.int .i64 a0_1) := (kc_ BK263.out 1).trans rfl;have hcz13_2 : w11.cell? ⟨gb263,2,none⟩ = some (.int .i64 a0_2) := (kc_ BK263.out 2).trans rfl;have hcz13_3 : w11.cell? ⟨gb263,3,none⟩ = some (.int .i64 a0_3) := (kc_ BK263.out 3).trans rfl;have hfz13_0 := kf_ BK263.out 0;have hfz13_1 := kf_ BK263.out 1;have hfz13_2 := kf_ BK263.out 2;have hfz13_3 := kf_ BK263.out 3)|((with_reducible refine gate_callee (f := 8) rfl ?_);refine goesL_ (some 21) rfl rfl Tryd.func8 (by kernel_rfl) rfl #[.agg #[.int .i64 a0_0,.int .i64 a0_1,.int .i64 a0_2,.int .i64 a0_3],.int .i64 a2,.int .i64 a3] rfl (by (try simp only [lm_,lq_,lx_]);first|done|rfl|(simp only [ld_,lt_];rfl)) ?_;(with_reducible refine (box_Move.calls a0_0 a0_1 a0_2 a0_3 a2 a3 t265 t266 t267 t268 t269 _ ?side1 A5.out).mono ?_);(case side1 => first|(with_reducible exact hE)|exact sd_ (LaidE.below hE.out (by repeat (first|(with_reducible first|exact HB.out|apply ba_|apply pd_|apply d1_|refine bs_ ?_ GE263.out|refine bs_ ?_ GE264.out)|exact HB.out))));rintro e w14 ⟨rfl,hb⟩;refine ⟨_,rfl,?_⟩;have n0_ := sd_ (blk_below (g := gb263) (o := .cells #[.int .i64 a0_0,.int .i64 a0_1,.int .i64 a0_2,.int .i64 a0_3] 23 (0,0)) (by (with_reducible repeat first|apply kn_|apply kd_|apply ka_);exact BK263.out) hb);have n1_ := sd_ (blk_below (g := gb264) (o := .cells #[.int .i64 a1_0,.int .i64 a1_1,.int .i64 a1_2,.int .i64 a1_3] 23 (0,0)) (by (with_reducible repeat first|apply kn_|apply kd_|apply ka_);exact BK264.out) hb);have n2_ := sd_ (bt_ (by repeat (first|(with_reducible first|exact HB.out|apply ba_|apply pd_|apply d1_|refine bs_ ?_ GE263.out|refine bs_ ?_ GE264.out)|exact HB.out)) hb);clear BK263;clear BK264;clear HB;have BK263 := n0_;have BK264 := n1_;have HB := n2_;clear n0_ n1_ n2_;(try clear hb);(try clear hb2);(try clear hk);(try clear hi))|((with_reducible refine gate_dst (N := 9) rfl ?_);refine box_event ?hg (N := 9) ?hd (cs := #[.int .i64 0,.int .i64 0,.int .i64 0,.int .i64 0]) (t := 23) ?hr ?_;(case hd => rfl);(case hg => rfl);(case hr => first|(go_simp;done)|(go_simp;rfl));intro gb270 hg w15 hbox hb;have n0_ := sd_ (blk_below (g := gb263) (o := .cells #[.int .i64 a0_0,.int .i64 a0_1,.int .i64 a0_2,.int .i64 a0_3] 23 (0,0)) (by (with_reducible repeat first|apply kn_|apply kd_|apply ka_);exact BK263.out) hb);have n1_ := sd_ (blk_below (g := gb264) (o := .cells #[.int .i64 a1_0,.int .i64 a1_1,.int .i64 a1_2,.int .i64 a1_3] 23 (0,0)) (by (with_reducible repeat first|apply kn_|apply kd_|apply ka_);exact BK264.out) hb);have n2_ := sd_ (bt_ (by repeat (first|(with_reducible first|exact HB.out|apply ba_|apply pd_|apply d1_|refine bs_ ?_ GE263.out|refine bs_ ?_ GE264.out)|exact HB.out)) hb);have n3_ := sd_ (hbox);have n4_ := sd_ ((by rw [hg];exact (bz_ (by repeat (first|(with_reducible first|exact HB.out|apply ba_|apply pd_|apply d1_|refine bs_ ?_ GE263.out|refine bs_ ?_ GE264.out)|exact HB.out))) : w.heap.size ≤ gb270));have n5_ := sd_ ((by rw [hg];exact (bz_ (by repeat (first|(with_reducible first|exact HB.out|apply ba_|apply pd_|apply d1_|refine bs_ ?_ GE263.out|refine bs_ ?_ GE264.out)|exact HB.out))) : w.heap.size ≤ gb270));have n6_ := sd_ ((by rw [hg];exact nn_ (blk_lt (g := gb263) (o := .cells #[.int .i64 a0_0,.int .i64 a0_1,.int .i64 a0_2,.int .i64 a0_3] 23 (0,0)) (by (with_reducible repeat first|apply kn_|apply kd_|apply ka_);exact BK263.out)) : gb263 ≠ gb270));have n7_ := sd_ ((by rw [hg];exact Nat.ne_of_gt (blk_lt (g := gb263) (o := .cells #[.int .i64 a0_0,.int .i64 a0_1,.int .i64 a0_2,.int .i64 a0_3] 23 (0,0)) (by (with_reducible repeat first|apply kn_|apply kd_|apply ka_);exact BK263.out)) : gb270 ≠ gb263));have n8_ := sd_ ((by rw [hg];exact nn_ (blk_lt (g := gb264) (o := .cells #[.int .i64 a1_0,.int .i64 a1_1,.int .i64 a1_2,.int .i64 a1_3] 23 (0,0)) (by (with_reducible repeat first|apply kn_|apply kd_|apply ka_);exact BK264.out)) : gb264 ≠ gb270));have n9_ := sd_ ((by rw [hg];exact Nat.ne_of_gt (blk_lt (g := gb264) (o := .cells #[.int .i64 a1_0,.int .i64 a1_1,.int .i64 a1_2,.int .i64 a1_3] 23 (0,0)) (by (with_reducible repeat first|apply kn_|apply kd_|apply ka_);exact BK264.out)) : gb270 ≠ gb264));clear BK263;clear BK264;clear HB;have BK263 := n0_;have BK264 := n1_;have HB := n2_;have BK270 := n3_;have GW270 := n4_;have GE270 := n5_;have NB263_270 := n6_;have NB270_263 := n7_;have NB264_270 := n8_;have NB270_264 := n9_;clear n0_ n1_ n2_ n3_ n4_ n5_ n6_ n7_ n8_ n9_;clear hb hbox hg;have hnb16 := NB270_263.out;have hnc16 := NB263_270.out;have hnb17 := NB270_264.out;have hnc17 := NB264_270.out;have hcz18_0 : w15.cell? ⟨gb270,0,none⟩ = some (.int .i64 0) := (kc_ BK270.out 0).trans rfl;have hcz18_1 : w15.cell? ⟨gb270,1,none⟩ = some (.int .i64 0) := (kc_ BK270.out 1).trans rfl;have hcz18_2 : w15.cell? ⟨gb270,2,none⟩ = some (.int .i64 0) := (kc_ BK270.out 2).trans rfl;have hcz18_3 : w15.cell? ⟨gb270,3,none⟩ = some (.int .i64 0) := (kc_ BK270.out 3).trans rfl;have hfz18_0 := kf_ BK270.out 0;have hfz18_1 := kf_ BK270.out 1;have hfz18_2 := kf_ BK270.out 2;have hfz18_3 := kf_ BK270.out 3;have hcz19_0 : w15.cell? ⟨gb263,0,none⟩ = some (.int .i64 a0_0) := (kc_ BK263.out 0).trans rfl;have hcz19_1 : w15.cell? ⟨gb263,1,none⟩ = some (.int .i64 a0_1) := (kc_ BK263.out 1).trans rfl;have hcz19_2 : w15.cell? ⟨gb263,2,none⟩ = some (.int .i64 a0_2) := (kc_ BK263.out 2).trans rfl;have hcz19_3 : w15.cell? ⟨gb263,3,none⟩ = some (.int .i64 a0_3) := (kc_ BK263.out 3).trans rfl;have hfz19_0 := kf_ BK263.out 0;have hfz19_1 := kf_ BK263.out 1;have hfz19_2 := kf_ BK263.out 2;have hfz19_3 := kf_ BK263.out 3)|((with_reducible refine gate_callee (f := 9) rfl ?_);refine goesL_ (some 28) rfl rfl Tryd.func9 (by kernel_rfl) rfl #[.agg #[.int .i64 a0_0,.int .i64 a0_1,.int .i64 a0_2,.int .i64 a0_3],.int .i64 a2,.int .i64 a3] rfl (by (try simp only [lm_,lq_,lx_]);first|done|rfl|(simp only [ld_,lt_];rfl)) ?_;(with_reducible refine (neumeref03_Move.calls a0_0 a0_1 a0_2 a0_3 a2 a3 t271 t272 t273 t274 t275 _ A6.out).mono ?_);rintro e w20 ⟨rfl,hb⟩;refine ⟨_,rfl,?_⟩;have n0_ := sd_ (blk_below (g := gb263) (o := .cells #[.int .i64 a0_0,.int .i64 a0_1,.int .i64 a0_2,.int .i64 a0_3] 23 (0,0)) (by (with_reducible repeat first|apply kn_|apply kd_|apply ka_);refine blk_far ?_ NB263_270.out _;(with_reducible repeat first|apply kn_|apply kd_|apply ka_);refine blk_far ?_ NB263_270.out _;(with_reducible repeat first|apply kn_|apply kd_|apply ka_);refine blk_far ?_ NB263_270.out _;(with_reducible repeat first|apply kn_|apply kd_|apply ka_);refine blk_far ?_ NB263_270.out _;(with_reducible repeat first|apply kn_|apply kd_|apply ka_);exact BK263.out) hb);have n1_ := sd_ (blk_below (g := gb264) (o := .cells #[.int .i64 a1_0,.int .i64 a1_1,.int .i64 a1_2,.int .i64 a1_3] 23 (0,0)) (by (with_reducible repeat first|apply kn_|apply kd_|apply ka_);refine blk_far ?_ NB264_270.out _;(with_reducible repeat first|apply kn_|apply kd_|apply ka_);refine blk_far ?_ NB264_270.out _;(with_reducible repeat first|apply kn_|apply kd_|apply ka_);refine blk_far ?_ NB264_270.out _;(with_reducible repeat first|apply kn_|apply kd_|apply ka_);refine blk_far ?_ NB264_270.out _;(with_reducible repeat first|apply kn_|apply kd_|apply ka_);exact BK264.out) hb);have n2_ := sd_ (blk_below (g := gb270) (o := .cells #[.int .i64 t265,.int .i64 t266,.int .i64 t267,.int .i64 t268] 23 (0,0)) (by (with_reducible repeat first|apply kn_|apply kd_|apply ka_);refine blk_put (cs := #[.int .i64 t265,.int .i64 t266,.int .i64 t267,.int .i64 0]) ?_ 3 _ rfl;(with_reducible repeat first|apply kn_|apply kd_|apply ka_);refine blk_put (cs := #[.int .i64 t265,.int .i64 t266,.int .i64 0,.int .i64 0]) ?_ 2 _ rfl;(with_reducible repeat first|apply kn_|apply kd_|apply ka_);refine blk_put (cs := #[.int .i64 t265,.int .i64 0,.int .i64 0,.int .i64 0]) ?_ 1 _ rfl;(with_reducible repeat first|apply kn_|apply kd_|apply ka_);refine blk_put (cs := #[.int .i64 0,.int .i64 0,.int .i64 0,.int .i64 0]) ?_ 0 _ rfl;(with_reducible repeat first|apply kn_|apply kd_|apply ka_);exact BK270.out) hb);have n3_ := sd_ (bt_ (by repeat (first|(with_reducible first|exact HB.out|apply ba_|apply pd_|apply d1_|refine bs_ ?_ GE263.out|refine bs_ ?_ GE264.out|refine bs_ ?_ GE270.out)|exact HB.out)) hb);clear BK263;clear BK264;clear BK270;clear HB;have BK263 := n0_;have BK264 := n1_;have BK270 := n2_;have HB := n3_;clear n0_ n1_ n2_ n3_;(try clear hb);(try clear hb2);(try clear hk);(try clear hi))|((with_reducible refine gate_dst (N := 11) rfl ?_);refine box_event ?hg (N := 11) ?hd (cs := #[.int .i64 0,.int .i64 0,.int .i64 0,.int .i64 0]) (t := 23) ?hr ?_;(case hd => rfl);(case hg => rfl);(case hr => first|(go_simp;done)|(go_simp;rfl));intro gb276 hg w21 hbox hb;have n0_ := sd_ (blk_below (g := gb263) (o := .cells #[.int .i64 a0_0,.int .i64 a0_1,.int .i64 a0_2,.int .i64 a0_3] 23 (0,0)) (by (with_reducible repeat first|apply kn_|apply kd_|apply ka_);exact BK263.out) hb);have n1_ := sd_ (blk_below (g := gb264) (o := .cells #[.int .i64 a1_0,.int .i64 a1_1,.int .i64 a1_2,.int .i64 a1_3] 23 (0,0)) (by (with_reducible repeat first|apply kn_|apply kd_|apply ka_);exact BK264.out) hb);have n2_ := sd_ (blk_below (g := gb270) (o := .cells #[.int .i64 t265,.int .i64 t266,.int .i64 t267,.int .i64 t268] 23 (0,0)) (by (with_reducible repeat first|apply kn_|apply kd_|apply ka_);exact BK270.out) hb);have n3_ := sd_ (bt_ (by repeat (first|(with_reducible first|exact HB.out|apply ba_|apply pd_|apply d1_|refine bs_ ?_ GE263.out|refine bs_ ?_ GE264.out|refine bs_ ?_ GE270.out)|exact HB.out)) hb);have n4_ := sd_ (hbox);have n5_ := sd_ ((by rw [hg];exact (bz_ (by repeat (first|(with_reducible first|exact HB.out|apply ba_|apply pd_|apply d1_|refine bs_ ?_ GE263.out|refine bs_ ?_ GE264.out|refine bs_ ?_ GE270.out)|exact HB.out))) : w.heap.size ≤ gb276));have n6_ := sd_ ((by rw [hg];exact (bz_ (by repeat (first|(with_reducible first|exact HB.out|apply ba_|apply pd_|apply d1_|refine bs_ ?_ GE263.out|refine bs_ ?_ GE264.out|refine bs_ ?_ GE270.out)|exact HB.out))) : w.heap.size ≤ gb276));have n7_ := sd_ ((by rw [hg];exact nn_ (blk_lt (g := gb263) (o := .cells #[.int .i64 a0_0,.int .i64 a0_1,.int .i64 a0_2,.int .i64 a0_3] 23 (0,0)) (by (with_reducible repeat first|apply kn_|apply kd_|apply ka_);exact BK263.out)) : gb263 ≠ gb276));have n8_ := sd_ ((by rw [hg];exact Nat.ne_of_gt (blk_lt (g := gb263) (o := .cells #[.int .i64 a0_0,.int .i64 a0_1,.int .i64 a0_2,.int .i64 a0_3] 23 (0,0)) (by (with_reducible repeat first|apply kn_|apply kd_|apply ka_);exact BK263.out)) : gb276 ≠ gb263));have n9_ := sd_ ((by rw [hg];exact nn_ (blk_lt (g := gb264) (o := .cells #[.int .i64 a1_0,.int .i64 a1_1,.int .i64 a1_2,.int .i64 a1_3] 23 (0,0)) (by (with_reducible repeat first|apply kn_|apply kd_|apply ka_);exact BK264.out)) : gb264 ≠ gb276));have n10_ := sd_ ((by rw [hg];exact Nat.ne_of_gt (blk_lt (g := gb264) (o := .cells #[.int .i64 a1_0,.int .i64 a1_1,.int .i64 a1_2,.int .i64 a1_3] 23 (0,0)) (by (with_reducible repeat first|apply kn_|apply kd_|apply ka_);exact BK264.out)) : gb276 ≠ gb264));have n11_ := sd_ ((by rw [hg];exact nn_ (blk_lt (g := gb270) (o := .cells #[.int .i64 t265,.int .i64 t266,.int .i64 t267,.int .i64 t268] 23 (0,0)) (by (with_reducible repeat first|apply kn_|apply kd_|apply ka_);exact BK270.out)) : gb270 ≠ gb276));have n12_ := sd_ ((by rw [hg];exact Nat.ne_of_gt (blk_lt (g := gb270) (o := .cells #[.int .i64 t265,.int .i64 t266,.int .i64 t267,.int .i64 t268] 23 (0,0)) (by (with_reducible repeat first|apply kn_|apply kd_|apply ka_);exact BK270.out)) : gb276 ≠ gb270));clear BK263;clear BK264;clear BK270;clear HB;have BK263 := n0_;have BK264 := n1_;have BK270 := n2_;have HB := n3_;have BK276 := n4_;have GW276 := n5_;have GE276 := n6_;have NB263_276 := n7_;have NB276_263 := n8_;have NB264_276 := n9_;have NB276_264 := n10_;have NB270_276 := n11_;have NB276_270 := n12_;clear n0_ n1_ n2_ n3_ n4_ n5_ n6_ n7_ n8_ n9_ n10_ n11_ n12_;clear hb hbox hg;have hnb22 := NB276_263.out;have hnc22 := NB263_276.out;have hnb23 := NB276_264.out;have hnc23 := NB264_276.out;have hnb24 := NB276_270.out;have hnc24 := NB270_276.out;have hcz25_0 : w21.cell? ⟨gb276,0,none⟩ = some (.int .i64 0) := (kc_ BK276.out 0).trans rfl;have hcz25_1 : w21.cell? ⟨gb276,1,none⟩ = some (.int .i64 0) := (kc_ BK276.out 1).trans rfl;have hcz25_2 : w21.cell? ⟨gb276,2,none⟩ = some (.int .i64 0) := (kc_ BK276.out 2).trans rfl;have hcz25_3 : w21.cell? ⟨gb276,3,none⟩ = some (.int .i64 0) := (kc_ BK276.out 3).trans rfl;have hfz25_0 := kf_ BK276.out 0;have hfz25_1 := kf_ BK276.out 1;have hfz25_2 := kf_ BK276.out 2;have hfz25_3 := kf_ BK276.out 3;have hcz26_0 : w21.cell? ⟨gb263,0,none⟩ = some (.int .i64 a0_0) := (kc_ BK263.out 0).trans rfl;have hcz26_1 : w21.cell? ⟨gb263,1,none⟩ = some (.int .i64 a0_1) := (kc_ BK263.out 1).trans rfl;have hcz26_2 : w21.cell? ⟨gb263,2,none⟩ = some (.int .i64 a0_2) := (kc_ BK263.out 2).trans rfl;have hcz26_3 : w21.cell? ⟨gb263,3,none⟩ = some (.int .i64 a0_3) := (kc_ BK263.out 3).trans rfl;have hfz26_0 := kf_ BK263.out 0;have hfz26_1 := kf_ BK263.out 1;have hfz26_2 := kf_ BK263.out 2;have hfz26_3 := kf_ BK263.out 3)|((with_reducible refine gate_callee (f := 10) rfl ?_);refine goesL_ (some 34) rfl rfl Tryd.func10 (by kernel_rfl) rfl #[.agg #[.int .i64 a0_0,.int .i64 a0_1,.int .i64 a0_2,.int .i64 a0_3],.int .i64 a2] rfl (by (try simp only [lm_,lq_,lx_]);first|done|rfl|(simp only [ld_,lt_];rfl)) ?_;(with_reducible refine (box_Grow.calls a0_0 a0_1 a0_2 a0_3 a2 t277 t278 t279 t280 t281 _ ?side1 A7.out).mono ?_);(case side1 => first|(with_reducible exact hE)|exact sd_ (LaidE.below hE.out (by repeat (first|(with_reducible first|exact HB.out|apply ba_|apply pd_|apply d1_|refine bs_ ?_ GE263.out|refine bs_ ?_ GE264.out|refine bs_ ?_ GE270.out|refine bs_ ?_ GE276.out)|exact HB.out))));rintro e w27 ⟨rfl,hb⟩;refine ⟨_,rfl,?_⟩;have n0_ := sd_ (blk_below (g := gb263) (o := .cells #[.int .i64 a0_0,.int .i64 a0_1,.int .i64 a0_2,.int .i64 a0_3] 23 (0,0)) (by (with_reducible repeat first|apply kn_|apply kd_|apply ka_);refine blk_far ?_ NB263_276.out _;(with_reducible repeat first|apply kn_|apply kd_|apply ka_);refine blk_far ?_ NB263_276.out _;(with_reducible repeat first|apply kn_|apply kd_|apply ka_);refine blk_far ?_ NB263_276.out _;(with_reducible repeat first|apply kn_|apply kd_|apply ka_);refine blk_far ?_ NB263_276.out _;(with_reducible repeat first|apply kn_|apply kd_|apply ka_);exact BK263.out) hb);have n1_ := sd_ (blk_below (g := gb264) (o := .cells #[.int .i64 a1_0,.int .i64 a1_1,.int .i64 a1_2,.int .i64 a1_3] 23 (0,0)) (by (with_reducible repeat first|apply kn_|apply kd_|apply ka_);refine blk_far ?_ NB264_276.out _;(with_reducible repeat first|apply kn_|apply kd_|apply ka_);refine blk_far ?_ NB264_276.out _;(with_reducible repeat first|apply kn_|apply kd_|apply ka_);refine blk_far ?_ NB264_276.out _;(with_reducible repeat first|apply kn_|apply kd_|apply ka_);refine blk_far ?_ NB264_276.out _;(with_reducible repeat first|apply kn_|apply kd_|apply ka_);exact BK264.out) hb);have n2_ := sd_ (blk_below (g := gb270) (o := .cells #[.int .i64 t265,.int .i64 t266,.int .i64 t267,.int .i64 t268] 23 (0,0)) (by (with_reducible repeat first|apply kn_|apply kd_|apply ka_);refine blk_far ?_ NB270_276.out _;(with_reducible repeat first|apply kn_|apply kd_|apply ka_);refine blk_far ?_ NB270_276.out _;(with_reducible repeat first|apply kn_|apply kd_|apply ka_);refine blk_far ?_ NB270_276.out _;(with_reducible repeat first|apply kn_|apply kd_|apply ka_);refine blk_far ?_ NB270_276.out _;(with_reducible repeat first|apply kn_|apply kd_|apply ka_);exact BK270.out) hb);have n3_ := sd_ (blk_below (g := gb276) (o := .cells #[.int .i64 t271,.int .i64 t272,.int .i64 t273,.int .i64 t274] 23 (0,0)) (by (with_reducible repeat first|apply kn_|apply kd_|apply ka_);refine blk_put (cs := #[.int .i64 t271,.int .i64 t272,.int .i64 t273,.int .i64 0]) ?_ 3 _ rfl;(with_reducible repeat first|apply kn_|apply kd_|apply ka_);refine blk_put (cs := #[.int .i64 t271,.int .i64 t272,.int .i64 0,.int .i64 0]) ?_ 2 _ rfl;(with_reducible repeat first|apply kn_|apply kd_|apply ka_);refine blk_put (cs := #[.int .i64 t271,.int .i64 0,.int .i64 0,.int .i64 0]) ?_ 1 _ rfl;(with_reducible repeat first|apply kn_|apply kd_|apply ka_);refine blk_put (cs := #[.int .i64 0,.int .i64 0,.int .i64 0,.int .i64 0]) ?_ 0 _ rfl;(with_reducible repeat first|apply kn_|apply kd_|apply ka_);exact BK276.out) hb);have n4_ := sd_ (bt_ (by repeat (first|(with_reducible first|exact HB.out|apply ba_|apply pd_|apply d1_|refine bs_ ?_ GE263.out|refine bs_ ?_ GE264.out|refine bs_ ?_ GE270.out|refine bs_ ?_ GE276.out)|exact HB.out)) hb);clear BK263;clear BK264;clear BK270;clear BK276;clear HB;have BK263 := n0_;have BK264 := n1_;have BK270 := n2_;have BK276 := n3_;have HB := n4_;clear n0_ n1_ n2_ n3_ n4_;(try clear hb);(try clear hb2);(try clear hk);(try clear hi))|((with_reducible refine gate_dst (N := 13) rfl ?_);refine box_event ?hg (N := 13) ?hd (cs := #[.int .i64 0,.int .i64 0,.int .i64 0,.int .i64 0]) (t := 23) ?hr ?_;(case hd => rfl);(case hg => rfl);(case hr => first|(go_simp;done)|(go_simp;rfl));intro gb282 hg w28 hbox hb;have n0_ := sd_ (blk_below (g := gb263) (o := .cells #[.int .i64 a0_0,.int .i64 a0_1,.int .i64 a0_2,.int .i64 a0_3] 23 (0,0)) (by (with_reducible repeat first|apply kn_|apply kd_|apply ka_);exact BK263.out) hb);have n1_ := sd_ (blk_below (g := gb264) (o := .cells #[.int .i64 a1_0,.int .i64 a1_1,.int .i64 a1_2,.int .i64 a1_3] 23 (0,0)) (by (with_reducible repeat first|apply kn_|apply kd_|apply ka_);exact BK264.out) hb);have n2_ := sd_ (blk_below (g := gb270) (o := .cells #[.int .i64 t265,.int .i64 t266,.int .i64 t267,.int .i64 t268] 23 (0,0)) (by (with_reducible repeat first|apply kn_|apply kd_|apply ka_);exact BK270.out) hb);have n3_ := sd_ (blk_below (g := gb276) (o := .cells #[.int .i64 t271,.int .i64 t272,.int .i64 t273,.int .i64 t274] 23 (0,0)) (by (with_reducible repeat first|apply kn_|apply kd_|apply ka_);exact BK276.out) hb);have n4_ := sd_ (bt_ (by repeat (first|(with_reducible first|exact HB.out|apply ba_|apply pd_|apply d1_|refine bs_ ?_ GE263.out|refine bs_ ?_ GE264.out|refine bs_ ?_ GE270.out|refine bs_ ?_ GE276.out)|exact HB.out)) hb);have n5_ := sd_ (hbox);have n6_ := sd_ ((by rw [hg];exact (bz_ (by repeat (first|(with_reducible first|exact HB.out|apply ba_|apply pd_|apply d1_|refine bs_ ?_ GE263.out|refine bs_ ?_ GE264.out|refine bs_ ?_ GE270.out|refine bs_ ?_ GE276.out)|exact HB.out))) : w.heap.size ≤ gb282));have n7_ := sd_ ((by rw [hg];exact (bz_ (by repeat (first|(with_reducible first|exact HB.out|apply ba_|apply pd_|apply d1_|refine bs_ ?_ GE263.out|refine bs_ ?_ GE264.out|refine bs_ ?_ GE270.out|refine bs_ ?_ GE276.out)|exact HB.out))) : w.heap.size ≤ gb282));have n8_ := sd_ ((by rw [hg];exact nn_ (blk_lt (g := gb263) (o := .cells #[.int .i64 a0_0,.int .i64 a0_1,.int .i64 a0_2,.int .i64 a0_3] 23 (0,0)) (by (with_reducible repeat first|apply kn_|apply kd_|apply ka_);exact BK263.out)) : gb263 ≠ gb282));have n9_ := sd_ ((by rw [hg];exact Nat.ne_of_gt (blk_lt (g := gb263) (o := .cells #[.int .i64 a0_0,.int .i64 a0_1,.int .i64 a0_2,.int .i64 a0_3] 23 (0,0)) (by (with_reducible repeat first|apply kn_|apply kd_|apply ka_);exact BK263.out)) : gb282 ≠ gb263));have n10_ := sd_ ((by rw [hg];exact nn_ (blk_lt (g := gb264) (o := .cells #[.int .i64 a1_0,.int .i64 a1_1,.int .i64 a1_2,.int .i64 a1_3] 23 (0,0)) (by (with_reducible repeat first|apply kn_|apply kd_|apply ka_);exact BK264.out)) : gb264 ≠ gb282));have n11_ := sd_ ((by rw [hg];exact Nat.ne_of_gt (blk_lt (g := gb264) (o := .cells #[.int .i64 a1_0,.int .i64 a1_1,.int .i64 a1_2,.int .i64 a1_3] 23 (0,0)) (by (with_reducible repeat first|apply kn_|apply kd_|apply ka_);exact BK264.out)) : gb282 ≠ gb264));have n12_ := sd_ ((by rw [hg];exact nn_ (blk_lt (g := gb270) (o := .cells #[.int .i64 t265,.int .i64 t266,.int .i64 t267,.int .i64 t268] 23 (0,0)) (by (with_reducible repeat first|apply kn_|apply kd_|apply ka_);exact BK270.out)) : gb270 ≠ gb282));have n13_ := sd_ ((by rw [hg];exact Nat.ne_of_gt (blk_lt (g := gb270) (o := .cells #[.int .i64 t265,.int .i64 t266,.int .i64 t267,.int .i64 t268] 23 (0,0)) (by (with_reducible repeat first|apply kn_|apply kd_|apply ka_);exact BK270.out)) : gb282 ≠ gb270));have n14_ := sd_ ((by rw [hg];exact nn_ (blk_lt (g := gb276) (o := .cells #[.int .i64 t271,.int .i64 t272,.int .i64 t273,.int .i64 t274] 23 (0,0)) (by (with_reducible repeat first|apply kn_|apply kd_|apply ka_);exact BK276.out)) : gb276 ≠ gb282));have n15_ := sd_ ((by rw [hg];exact Nat.ne_of_gt (blk_lt (g := gb276) (o := .cells #[.int .i64 t271,.int .i64 t272,.int .i64 t273,.int .i64 t274] 23 (0,0)) (by (with_reducible repeat first|apply kn_|apply kd_|apply ka_);exact BK276.out)) : gb282 ≠ gb276));clear BK263;clear BK264;clear BK270;clear BK276;clear HB;have BK263 := n0_;have BK264 := n1_;have BK270 := n2_;have BK276 := n3_;have HB := n4_;have BK282 := n5_;have GW282 := n6_;have GE282 := n7_;have NB263_282 := n8_;have NB282_263 := n9_;have NB264_282 := n10_;have NB282_264 := n11_;have NB270_282 := n12_;have NB282_270 := n13_;have NB276_282 := n14_;have NB282_276 := n15_;clear n0_ n1_ n2_ n3_ n4_ n5_ n6_ n7_ n8_ n9_ n10_ n11_ n12_ n13_ n14_ n15_;clear hb hbox hg;have hnb29 := NB282_263.out;have hnc29 := NB263_282.out;have hnb30 := NB282_264.out;have hnc30 := NB264_282.out;have hnb31 := NB282_270.out;have hnc31 := NB270_282.out;have hnb32 := NB282_276.out;have hnc32 := NB276_282.out;have hcz33_0 : w28.cell? ⟨gb282,0,none⟩ = some (.int .i64 0) := (kc_ BK282.out 0).trans rfl;have hcz33_1 : w28.cell? ⟨gb282,1,none⟩ = some (.int .i64 0) := (kc_ BK282.out 1).trans rfl;have hcz33_2 : w28.cell? ⟨gb282,2,none⟩ = some (.int .i64 0) := (kc_ BK282.out 2).trans rfl;have hcz33_3 : w28.cell? ⟨gb282,3,none⟩ = some (.int .i64 0) := (kc_ BK282.out 3).trans rfl;have hfz33_0 := kf_ BK282.out 0;have hfz33_1 := kf_ BK282.out 1;have hfz33_2 := kf_ BK282.out 2;have hfz33_3 := kf_ BK282.out 3;have hcz34_0 : w28.cell? ⟨gb263,0,none⟩ = some (.int .i64 a0_0) := (kc_ BK263.out 0).trans rfl;have hcz34_1 : w28.cell? ⟨gb263,1,none⟩ = some (.int .i64 a0_1) := (kc_ BK263.out 1).trans rfl;have hcz34_2 : w28.cell? ⟨gb263,2,none⟩ = some (.int .i64 a0_2) := (kc_ BK263.out 2).trans rfl;have hcz34_3 : w28.cell? ⟨gb263,3,none⟩ = some (.int .i64 a0_3) := (kc_ BK263.out 3).trans rfl;have hfz34_0 := kf_ BK263.out 0;have hfz34_1 := kf_ BK263.out 1;have hfz34_2 := kf_ BK263.out 2;have hfz34_3 := kf_ BK263.out 3)|((with_reducible refine gate_callee (f := 11) rfl ?_);refine goesL_ (some 40) rfl rfl Tryd.func11 (by kernel_rfl) rfl #[.agg #[.int .i64 a0_0,.int .i64 a0_1,.int .i64 a0_2,.int .i64 a0_3],.int .i64 a2] rfl (by (try simp only [lm_,lq_,lx_]);first|done|rfl|(simp only [ld_,lt_];rfl)) ?_;(with_reducible refine (neumeref03_Grow.calls a0_0 a0_1 a0_2 a0_3 a2 t283 t284 t285 t286 t287 _ A8.out).mono ?_);rintro e w35 ⟨rfl,hb⟩;refine ⟨_,rfl,?_⟩;have n0_ := sd_ (blk_below (g := gb263) (o := .cells #[.int .i64 a0_0,.int .i64 a0_1,.int .i64 a0_2,.int .i64 a0_3] 23 (0,0)) (by (with_reducible repeat first|apply kn_|apply kd_|apply ka_);refine blk_far ?_ NB263_282.out _;(with_reducible repeat first|apply kn_|apply kd_|apply ka_);refine blk_far ?_ NB263_282.out _;(with_reducible repeat first|apply kn_|apply kd_|apply ka_);refine blk_far ?_ NB263_282.out _;(with_reducible repeat first|apply kn_|apply kd_|apply ka_);refine blk_far ?_ NB263_282.out _;(with_reducible repeat first|apply kn_|apply kd_|apply ka_);exact BK263.out) hb);have n1_ := sd_ (blk_below (g := gb264) (o := .cells #[.int .i64 a1_0,.int .i64 a1_1,.int .i64 a1_2,.int .i64 a1_3] 23 (0,0)) (by (with_reducible repeat first|apply kn_|apply kd_|apply ka_);refine blk_far ?_ NB264_282.out _;(with_reducible repeat first|apply kn_|apply kd_|apply ka_);refine blk_far ?_ NB264_282.out _;(with_reducible repeat first|apply kn_|apply kd_|apply ka_);refine blk_far ?_ NB264_282.out _;(with_reducible repeat first|apply kn_|apply kd_|apply ka_);refine blk_far ?_ NB264_282.out _;(with_reducible repeat first|apply kn_|apply kd_|apply ka_);exact BK264.out) hb);have n2_ := sd_ (blk_below (g := gb270) (o := .cells #[.int .i64 t265,.int .i64 t266,.int .i64 t267,.int .i64 t268] 23 (0,0)) (by (with_reducible repeat first|apply kn_|apply kd_|apply ka_);refine blk_far ?_ NB270_282.out _;(with_reducible repeat first|apply kn_|apply kd_|apply ka_);refine blk_far ?_ NB270_282.out _;(with_reducible repeat first|apply kn_|apply kd_|apply ka_);refine blk_far ?_ NB270_282.out _;(with_reducible repeat first|apply kn_|apply kd_|apply ka_);refine blk_far ?_ NB270_282.out _;(with_reducible repeat first|apply kn_|apply kd_|apply ka_);exact BK270.out) hb);have n3_ := sd_ (blk_below (g := gb276) (o := .cells #[.int .i64 t271,.int .i64 t272,.int .i64 t273,.int .i64 t274] 23 (0,0)) (by (with_reducible repeat first|apply kn_|apply kd_|apply ka_);refine blk_far ?_ NB276_282.out _;(with_reducible repeat first|apply kn_|apply kd_|apply ka_);refine blk_far ?_ NB276_282.out _;(with_reducible repeat first|apply kn_|apply kd_|apply ka_);refine blk_far ?_ NB276_282.out _;(with_reducible repeat first|apply kn_|apply kd_|apply ka_);refine blk_far ?_ NB276_282.out _;(with_reducible repeat first|apply kn_|apply kd_|apply ka_);exact BK276.out) hb);have n4_ := sd_ (blk_below (g := gb282) (o := .cells #[.int .i64 t277,.int .i64 t278,.int .i64 t279,.int .i64 t280] 23 (0,0)) (by (with_reducible repeat first|apply kn_|apply kd_|apply ka_);refine blk_put (cs := #[.int .i64 t277,.int .i64 t278,.int .i64 t279,.int .i64 0]) ?_ 3 _ rfl;(with_reducible repeat first|apply kn_|apply kd_|apply ka_);refine blk_put (cs := #[.int .i64 t277,.int .i64 t278,.int .i64 0,.int .i64 0]) ?_ 2 _ rfl;(with_reducible repeat first|apply kn_|apply kd_|apply ka_);refine blk_put (cs := #[.int .i64 t277,.int .i64 0,.int .i64 0,.int .i64 0]) ?_ 1 _ rfl;(with_reducible repeat first|apply kn_|apply kd_|apply ka_);refine blk_put (cs := #[.int .i64 0,.int .i64 0,.int .i64 0,.int .i64 0]) ?_ 0 _ rfl;(with_reducible repeat first|apply kn_|apply kd_|apply ka_);exact BK282.out) hb);have n5_ := sd_ (bt_ (by repeat (first|(with_reducible first|exact HB.out|apply ba_|apply pd_|apply d1_|refine bs_ ?_ GE263.out|refine bs_ ?_ GE264.out|refine bs_ ?_ GE270.out|refine bs_ ?_ GE276.out|refine bs_ ?_ GE282.out)|exact HB.out)) hb);clear BK263;clear BK264;clear BK270;clear BK276;clear BK282;clear HB;have BK263 := n0_;have BK264 := n1_;have BK270 := n2_;have BK276 := n3_;have BK282 := n4_;have HB := n5_;clear n0_ n1_ n2_ n3_ n4_ n5_;(try clear hb);(try clear hb2);(try clear hk);(try clear hi))|((with_reducible refine gate_dst (N := 15) rfl ?_);refine box_event ?hg (N := 15) ?hd (cs := #[.int .i64 0,.int .i64 0,.int .i64 0,.int .i64 0]) (t := 23) ?hr ?_;(case hd => rfl);(case hg => rfl);(case hr => first|(go_simp;done)|(go_simp;rfl));intro gb288 hg w36 hbox hb;have n0_ := sd_ (blk_below (g := gb263) (o := .cells #[.int .i64 a0_0,.int .i64 a0_1,.int .i64 a0_2,.int .i64 a0_3] 23 (0,0)) (by (with_reducible repeat first|apply kn_|apply kd_|apply ka_);exact BK263.out) hb);have n1_ := sd_ (blk_below (g := gb264) (o := .cells #[.int .i64 a1_0,.int .i64 a1_1,.int .i64 a1_2,.int .i64 a1_3] 23 (0,0)) (by (with_reducible repeat first|apply kn_|apply kd_|apply ka_);exact BK264.out) hb);have n2_ := sd_ (blk_below (g := gb270) (o := .cells #[.int .i64 t265,.int .i64 t266,.int .i64 t267,.int .i64 t268] 23 (0,0)) (by (with_reducible repeat first|apply kn_|apply kd_|apply ka_);exact BK270.out) hb);have n3_ := sd_ (blk_below (g := gb276) (o := .cells #[.int .i64 t271,.int .i64 t272,.int .i64 t273,.int .i64 t274] 23 (0,0)) (by (with_reducible repeat first|apply kn_|apply kd_|apply ka_);exact BK276.out) hb);have n4_ := sd_ (blk_below (g := gb282) (o := .cells #[.int .i64 t277,.int .i64 t278,.int .i64 t279,.int .i64 t280] 23 (0,0)) (by (with_reducible repeat first|apply kn_|apply kd_|apply ka_);exact BK282.out) hb);have n5_ := sd_ (bt_ (by repeat (first|(with_reducible first|exact HB.out|apply ba_|apply pd_|apply d1_|refine bs_ ?_ GE263.out|refine bs_ ?_ GE264.out|refine bs_ ?_ GE270.out|refine bs_ ?_ GE276.out|refine bs_ ?_ GE282.out)|exact HB.out)) hb);have n6_ := sd_ (hbox);have n7_ := sd_ ((by rw [hg];exact (bz_ (by repeat (first|(with_reducible first|exact HB.out|apply ba_|apply pd_|apply d1_|refine bs_ ?_ GE263.out|refine bs_ ?_ GE264.out|refine bs_ ?_ GE270.out|refine bs_ ?_ GE276.out|refine bs_ ?_ GE282.out)|exact HB.out))) : w.heap.size ≤ gb288));have n8_ := sd_ ((by rw [hg];exact (bz_ (by repeat (first|(with_reducible first|exact HB.out|apply ba_|apply pd_|apply d1_|refine bs_ ?_ GE263.out|refine bs_ ?_ GE264.out|refine bs_ ?_ GE270.out|refine bs_ ?_ GE276.out|refine bs_ ?_ GE282.out)|exact HB.out))) : w.heap.size ≤ gb288));have n9_ := sd_ ((by rw [hg];exact nn_ (blk_lt (g := gb263) (o := .cells #[.int .i64 a0_0,.int .i64 a0_1,.int .i64 a0_2,.int .i64 a0_3] 23 (0,0)) (by (with_reducible repeat first|apply kn_|apply kd_|apply ka_);exact BK263.out)) : gb263 ≠ gb288));have n10_ := sd_ ((by rw [hg];exact Nat.ne_of_gt (blk_lt (g := gb263) (o := .cells #[.int .i64 a0_0,.int .i64 a0_1,.int .i64 a0_2,.int .i64 a0_3] 23 (0,0)) (by (with_reducible repeat first|apply kn_|apply kd_|apply ka_);exact BK263.out)) : gb288 ≠ gb263));have n11_ := sd_ ((by rw [hg];exact nn_ (blk_lt (g := gb264) (o := .cells #[.int .i64 a1_0,.int .i64 a1_1,.int .i64 a1_2,.int .i64 a1_3] 23 (0,0)) (by (with_reducible repeat first|apply kn_|apply kd_|apply ka_);exact BK264.out)) : gb264 ≠ gb288));have n12_ := sd_ ((by rw [hg];exact Nat.ne_of_gt (blk_lt (g := gb264) (o := .cells #[.int .i64 a1_0,.int .i64 a1_1,.int .i64 a1_2,.int .i64 a1_3] 23 (0,0)) (by (with_reducible repeat first|apply kn_|apply kd_|apply ka_);exact BK264.out)) : gb288 ≠ gb264));have n13_ := sd_ ((by rw [hg];exact nn_ (blk_lt (g := gb270) (o := .cells #[.int .i64 t265,.int .i64 t266,.int .i64 t267,.int .i64 t268] 23 (0,0)) (by (with_reducible repeat first|apply kn_|apply kd_|apply ka_);exact BK270.out)) : gb270 ≠ gb288));have n14_ := sd_ ((by rw [hg];exact Nat.ne_of_gt (blk_lt (g := gb270) (o := .cells #[.int .i64 t265,.int .i64 t266,.int .i64 t267,.int .i64 t268] 23 (0,0)) (by (with_reducible repeat first|apply kn_|apply kd_|apply ka_);exact BK270.out)) : gb288 ≠ gb270));have n15_ := sd_ ((by rw [hg];exact nn_ (blk_lt (g := gb276) (o := .cells #[.int .i64 t271,.int .i64 t272,.int .i64 t273,.int .i64 t274] 23 (0,0)) (by (with_reducible repeat first|apply kn_|apply kd_|apply ka_);exact BK276.out)) : gb276 ≠ gb288));have n16_ := sd_ ((by rw [hg];exact Nat.ne_of_gt (blk_lt (g := gb276) (o := .cells #[.int .i64 t271,.int .i64 t272,.int .i64 t273,.int .i64 t274] 23 (0,0)) (by (with_reducible repeat first|apply kn_|apply kd_|apply ka_);exact BK276.out)) : gb288 ≠ gb276));have n17_ := sd_ ((by rw [hg];exact nn_ (blk_lt (g := gb282) (o := .cells #[.int .i64 t277,.int .i64 t278,.int .i64 t279,.int .i64 t280] 23 (0,0)) (by (with_reducible repeat first|apply kn_|apply kd_|apply ka_);exact BK282.out)) : gb282 ≠ gb288));have n18_ := sd_ ((by rw [hg];exact Nat.ne_of_gt (blk_lt (g := gb282) (o := .cells #[.int .i64 t277,.int .i64 t278,.int .i64 t279,.int .i64 t280] 23 (0,0)) (by (with_reducible repeat first|apply kn_|apply kd_|apply ka_);exact BK282.out)) : gb288 ≠ gb282));clear BK263;clear BK264;clear BK270;clear BK276;clear BK282;clear HB;have BK263 := n0_;have BK264 := n1_;have BK270 := n2_;have BK276 := n3_;have BK282 := n4_;have HB := n5_;have BK288 := n6_;have GW288 := n7_;have GE288 := n8_;have NB263_288 := n9_;have NB288_263 := n10_;have NB264_288 := n11_;have NB288_264 := n12_;have NB270_288 := n13_;have NB288_270 := n14_;have NB276_288 := n15_;have NB288_276 := n16_;have NB282_288 := n17_;have NB288_282 := n18_;clear n0_ n1_ n2_ n3_ n4_ n5_ n6_ n7_ n8_ n9_ n10_ n11_ n12_ n13_ n14_ n15_ n16_ n17_ n18_;clear hb hbox hg;have hnb37 := NB288_263.out;have hnc37 := NB263_288.out;have hnb38 := NB288_264.out;have hnc38 := NB264_288.out;have hnb39 := NB288_270.out;have hnc39 := NB270_288.out;have hnb40 := NB288_276.out;have hnc40 := NB276_288.out;have hnb41 := NB288_282.out;have hnc41 := NB282_288.out;have hcz42_0 : w36.cell? ⟨gb288,0,none⟩ = some (.int .i64 0) := (kc_ BK288.out 0).trans rfl;have hcz42_1 : w36.cell? ⟨gb288,1,none⟩ = some (.int .i64 0) := (kc_ BK288.out 1).trans rfl;have hcz42_2 : w36.cell? ⟨gb288,2,none⟩ = some (.int .i64 0) := (kc_ BK288.out 2).trans rfl;have hcz42_3 : w36.cell? ⟨gb288,3,none⟩ = some (.int .i64 0) := (kc_ BK288.out 3).trans rfl;have hfz42_0 := kf_ BK288.out 0;have hfz42_1 := kf_ BK288.out 1;have hfz42_2 := kf_ BK288.out 2;have hfz42_3 := kf_ BK288.out 3))
 (try simp only [Act.put,ls_,lz_,lc_])
 go_cut [67] (fun v67 wc => ∃ (kq : Nat) (x67_8 : Bool),v67 = .bool x67_8 ∧ Aside0 (neumelaw03_BoxTells.j0 kq x67_8 a0_0 a0_1 a0_2 a0_3 a1_0 a1_1 a1_2 a1_3 = some r) ∧ Aside0 (kq ≤ k) ∧ Aside0 (wc.heap[gb263]? = some (.cells #[.int .i64 a0_0,.int .i64 a0_1,.int .i64 a0_2,.int .i64 a0_3] 23 (0,0))) ∧ Aside0 (wc.heap[gb264]? = some (.cells #[.int .i64 a1_0,.int .i64 a1_1,.int .i64 a1_2,.int .i64 a1_3] 23 (0,0))) ∧ Aside0 (wc.heap[gb270]? = some (.cells #[.int .i64 t265,.int .i64 t266,.int .i64 t267,.int .i64 t268] 23 (0,0))) ∧ Aside0 (wc.heap[gb276]? = some (.cells #[.int .i64 t271,.int .i64 t272,.int .i64 t273,.int .i64 t274] 23 (0,0))) ∧ Aside0 (wc.heap[gb282]? = some (.cells #[.int .i64 t277,.int .i64 t278,.int .i64 t279,.int .i64 t280] 23 (0,0))) ∧ Aside0 (wc.heap[gb288]? = some (.cells #[.int .i64 t283,.int .i64 t284,.int .i64 t285,.int .i64 t286] 23 (0,0))) ∧ Aside0 (Below w.heap.size w wc))
 case first =>
  have H := HC9.out
  clear HC9
  by_cases c43 : (!(t265 == t271) || (!(t266 == t272) || (!(t267 == t273) || (!(t268 == t274))))) = true
  ·rw [if_pos c43] at H
   have c43b0 : (!(t265 == t271) || (!(t266 == t272) || (!(t267 == t273) || (!(t268 == t274))))) = true := c43
   clear c43
   (first|rw [c43b0]|(simp only [i64_w,i32_w];rw [c43b0])|skip)
   have H' := sd_ H
   clear H
   try go_wp2
   have n0_ : Aside0 (((((w36.setCell ⟨gb288,0,none⟩ (.int .i64 t283)).setCell ⟨gb288,1,none⟩ (.int .i64 t284)).setCell ⟨gb288,2,none⟩ (.int .i64 t285)).setCell ⟨gb288,3,none⟩ (.int .i64 t286)).heap[gb263]? = some (.cells #[.int .i64 a0_0,.int .i64 a0_1,.int .i64 a0_2,.int .i64 a0_3] 23 (0,0))) := ⟨by (with_reducible repeat first|apply kn_|apply kd_|apply ka_);refine blk_far ?_ NB263_288.out _;(with_reducible repeat first|apply kn_|apply kd_|apply ka_);refine blk_far ?_ NB263_288.out _;(with_reducible repeat first|apply kn_|apply kd_|apply ka_);refine blk_far ?_ NB263_288.out _;(with_reducible repeat first|apply kn_|apply kd_|apply ka_);refine blk_far ?_ NB263_288.out _;(with_reducible repeat first|apply kn_|apply kd_|apply ka_);exact BK263.out⟩
   have n1_ : Aside0 (((((w36.setCell ⟨gb288,0,none⟩ (.int .i64 t283)).setCell ⟨gb288,1,none⟩ (.int .i64 t284)).setCell ⟨gb288,2,none⟩ (.int .i64 t285)).setCell ⟨gb288,3,none⟩ (.int .i64 t286)).heap[gb264]? = some (.cells #[.int .i64 a1_0,.int .i64 a1_1,.int .i64 a1_2,.int .i64 a1_3] 23 (0,0))) := ⟨by (with_reducible repeat first|apply kn_|apply kd_|apply ka_);refine blk_far ?_ NB264_288.out _;(with_reducible repeat first|apply kn_|apply kd_|apply ka_);refine blk_far ?_ NB264_288.out _;(with_reducible repeat first|apply kn_|apply kd_|apply ka_);refine blk_far ?_ NB264_288.out _;(with_reducible repeat first|apply kn_|apply kd_|apply ka_);refine blk_far ?_ NB264_288.out _;(with_reducible repeat first|apply kn_|apply kd_|apply ka_);exact BK264.out⟩
   have n2_ : Aside0 (((((w36.setCell ⟨gb288,0,none⟩ (.int .i64 t283)).setCell ⟨gb288,1,none⟩ (.int .i64 t284)).setCell ⟨gb288,2,none⟩ (.int .i64 t285)).setCell ⟨gb288,3,none⟩ (.int .i64 t286)).heap[gb270]? = some (.cells #[.int .i64 t265,.int .i64 t266,.int .i64 t267,.int .i64 t268] 23 (0,0))) := ⟨by (with_reducible repeat first|apply kn_|apply kd_|apply ka_);refine blk_far ?_ NB270_288.out _;(with_reducible repeat first|apply kn_|apply kd_|apply ka_);refine blk_far ?_ NB270_288.out _;(with_reducible repeat first|apply kn_|apply kd_|apply ka_);refine blk_far ?_ NB270_288.out _;(with_reducible repeat first|apply kn_|apply kd_|apply ka_);refine blk_far ?_ NB270_288.out _;(with_reducible repeat first|apply kn_|apply kd_|apply ka_);exact BK270.out⟩
   have n3_ : Aside0 (((((w36.setCell ⟨gb288,0,none⟩ (.int .i64 t283)).setCell ⟨gb288,1,none⟩ (.int .i64 t284)).setCell ⟨gb288,2,none⟩ (.int .i64 t285)).setCell ⟨gb288,3,none⟩ (.int .i64 t286)).heap[gb276]? = some (.cells #[.int .i64 t271,.int .i64 t272,.int .i64 t273,.int .i64 t274] 23 (0,0))) := ⟨by (with_reducible repeat first|apply kn_|apply kd_|apply ka_);refine blk_far ?_ NB276_288.out _;(with_reducible repeat first|apply kn_|apply kd_|apply ka_);refine blk_far ?_ NB276_288.out _;(with_reducible repeat first|apply kn_|apply kd_|apply ka_);refine blk_far ?_ NB276_288.out _;(with_reducible repeat first|apply kn_|apply kd_|apply ka_);refine blk_far ?_ NB276_288.out _;(with_reducible repeat first|apply kn_|apply kd_|apply ka_);exact BK276.out⟩
   have n4_ : Aside0 (((((w36.setCell ⟨gb288,0,none⟩ (.int .i64 t283)).setCell ⟨gb288,1,none⟩ (.int .i64 t284)).setCell ⟨gb288,2,none⟩ (.int .i64 t285)).setCell ⟨gb288,3,none⟩ (.int .i64 t286)).heap[gb282]? = some (.cells #[.int .i64 t277,.int .i64 t278,.int .i64 t279,.int .i64 t280] 23 (0,0))) := ⟨by (with_reducible repeat first|apply kn_|apply kd_|apply ka_);refine blk_far ?_ NB282_288.out _;(with_reducible repeat first|apply kn_|apply kd_|apply ka_);refine blk_far ?_ NB282_288.out _;(with_reducible repeat first|apply kn_|apply kd_|apply ka_);refine blk_far ?_ NB282_288.out _;(with_reducible repeat first|apply kn_|apply kd_|apply ka_);refine blk_far ?_ NB282_288.out _;(with_reducible repeat first|apply kn_|apply kd_|apply ka_);exact BK282.out⟩
   have n5_ : Aside0 (((((w36.setCell ⟨gb288,0,none⟩ (.int .i64 t283)).setCell ⟨gb288,1,none⟩ (.int .i64 t284)).setCell ⟨gb288,2,none⟩ (.int .i64 t285)).setCell ⟨gb288,3,none⟩ (.int .i64 t286)).heap[gb288]? = some (.cells #[.int .i64 t283,.int .i64 t284,.int .i64 t285,.int .i64 t286] 23 (0,0))) := ⟨by (with_reducible repeat first|apply kn_|apply kd_|apply ka_);refine blk_put (cs := #[.int .i64 t283,.int .i64 t284,.int .i64 t285,.int .i64 0]) ?_ 3 _ rfl;(with_reducible repeat first|apply kn_|apply kd_|apply ka_);refine blk_put (cs := #[.int .i64 t283,.int .i64 t284,.int .i64 0,.int .i64 0]) ?_ 2 _ rfl;(with_reducible repeat first|apply kn_|apply kd_|apply ka_);refine blk_put (cs := #[.int .i64 t283,.int .i64 0,.int .i64 0,.int .i64 0]) ?_ 1 _ rfl;(with_reducible repeat first|apply kn_|apply kd_|apply ka_);refine blk_put (cs := #[.int .i64 0,.int .i64 0,.int .i64 0,.int .i64 0]) ?_ 0 _ rfl;(with_reducible repeat first|apply kn_|apply kd_|apply ka_);exact BK288.out⟩
   have n6_ : Aside0 (Below w.heap.size w ((((w36.setCell ⟨gb288,0,none⟩ (.int .i64 t283)).setCell ⟨gb288,1,none⟩ (.int .i64 t284)).setCell ⟨gb288,2,none⟩ (.int .i64 t285)).setCell ⟨gb288,3,none⟩ (.int .i64 t286))) := ⟨by repeat (first|(with_reducible first|exact HB.out|apply ba_|apply pd_|apply d1_|refine bs_ ?_ GE263.out|refine bs_ ?_ GE264.out|refine bs_ ?_ GE270.out|refine bs_ ?_ GE276.out|refine bs_ ?_ GE282.out|refine bs_ ?_ GE288.out)|exact HB.out)⟩
   (try clear BK263)
   (try clear BK264)
   (try clear BK270)
   (try clear BK276)
   (try clear BK282)
   (try clear BK288)
   (try clear HB)
   generalize ((((w36.setCell ⟨gb288,0,none⟩ (.int .i64 t283)).setCell ⟨gb288,1,none⟩ (.int .i64 t284)).setCell ⟨gb288,2,none⟩ (.int .i64 t285)).setCell ⟨gb288,3,none⟩ (.int .i64 t286)) = w44 at n0_ n1_ n2_ n3_ n4_ n5_ n6_ ⊢
   have BK263 := n0_
   have BK264 := n1_
   have BK270 := n2_
   have BK276 := n3_
   have BK282 := n4_
   have BK288 := n5_
   have HB := n6_
   clear n0_ n1_ n2_ n3_ n4_ n5_ n6_
   have n0_ := sd_ (kd_ BK263.out)
   have n1_ := sd_ (kd_ BK264.out)
   have n2_ := sd_ (kd_ BK270.out)
   have n3_ := sd_ (kd_ BK276.out)
   have n4_ := sd_ (kd_ BK282.out)
   have n5_ := sd_ (kd_ BK288.out)
   have n6_ := sd_ (d1_ HB.out)
   clear BK263
   clear BK264
   clear BK270
   clear BK276
   clear BK282
   clear BK288
   clear HB
   have BK263 := n0_
   have BK264 := n1_
   have BK270 := n2_
   have BK276 := n3_
   have BK282 := n4_
   have BK288 := n5_
   have HB := n6_
   clear n0_ n1_ n2_ n3_ n4_ n5_ n6_
   refine start_ (n := 25) (S := fun w' => w'.cell? ⟨gb270,0,none⟩ = some (.int .i64 t265) ∧ w'.cell? ⟨gb270,1,none⟩ = some (.int .i64 t266) ∧ w'.cell? ⟨gb270,2,none⟩ = some (.int .i64 t267) ∧ w'.cell? ⟨gb270,3,none⟩ = some (.int .i64 t268) ∧ w'.cell? ⟨gb276,0,none⟩ = some (.int .i64 t271) ∧ w'.cell? ⟨gb276,1,none⟩ = some (.int .i64 t272) ∧ w'.cell? ⟨gb276,2,none⟩ = some (.int .i64 t273) ∧ w'.cell? ⟨gb276,3,none⟩ = some (.int .i64 t274)) (ds := []) #[false,false,false,false,false,false,false,false,false,false,false,false,false,false,false,false,false,false,false,false,false,false,false,false,false] (by kernel_rfl) rfl rfl ⟨(kc_ BK270.out 0).trans rfl,(kc_ BK270.out 1).trans rfl,(kc_ BK270.out 2).trans rfl,(kc_ BK270.out 3).trans rfl,(kc_ BK276.out 0).trans rfl,(kc_ BK276.out 1).trans rfl,(kc_ BK276.out 2).trans rfl,(kc_ BK276.out 3).trans rfl⟩ (fun hHeld => ?_);refine with_tabW neumelaw03_BoxTells.tab5 neumelaw03_BoxTells.bits5 (fun HT_ HW_ => ?_)
   generalize w44.drew = w45 at BK263 BK264 BK270 BK276 BK282 BK288 HB hHeld ⊢
   refine take_ (i := 0) (N := some 43) (v := ?_) (a' := ?_) #[true,false,false,false,false,false,false,false,false,false,false,false,false,false,false,false,false,false,false,false,false,false,false,false,false] rfl rfl (take_ofW HT_.out HW_.out (by kernel_rfl)) (fun _ _ _ h => h) (Or.inl ⟨by rfl,?_⟩) hHeld ?_ ?_
   rotate_left
   ·rintro w' ⟨s0,s1,s2,s3,s4,s5,s6,s7⟩
    go_simp
    with_reducible rfl
   rotate_left
   ·simp only [Act.put,ls_,lz_,lc_,i64_w,i32_w]
    rfl
   refine take_ (i := 1) (N := some 44) (v := ?_) (a' := ?_) #[true,true,false,false,false,false,false,false,false,false,false,false,false,false,false,false,false,false,false,false,false,false,false,false,false] rfl rfl (take_ofW HT_.out HW_.out (by kernel_rfl)) (fun _ _ _ h => h) (Or.inl ⟨by rfl,?_⟩) hHeld ?_ ?_
   rotate_left
   ·rintro w' ⟨s0,s1,s2,s3,s4,s5,s6,s7⟩
    go_simp
    with_reducible rfl
   rotate_left
   ·simp only [Act.put,ls_,lz_,lc_,i64_w,i32_w]
    rfl
   refine pure_ (i := 2) (N := some 45) (v := ?_) (a' := ?_) #[true,true,true,false,false,false,false,false,false,false,false,false,false,false,false,false,false,false,false,false,false,false,false,false,false] rfl rfl (any_of HT_.out (by kernel_rfl)) (fun _ _ _ h => h) (Or.inl ⟨by rfl,?_⟩) ?_ ?_
   rotate_left;(intro w';go_simp;with_reducible rfl);rotate_left;(simp only [Act.put,ls_,lz_,lc_,i64_w,i32_w];rfl)
   refine pure_ (i := 3) (N := some 46) (v := ?_) (a' := ?_) #[true,true,true,true,false,false,false,false,false,false,false,false,false,false,false,false,false,false,false,false,false,false,false,false,false] rfl rfl (any_of HT_.out (by kernel_rfl)) (fun _ _ _ h => h) (Or.inl ⟨by rfl,?_⟩) ?_ ?_
   rotate_left;(intro w';go_simp;with_reducible rfl);rotate_left;(simp only [Act.put,ls_,lz_,lc_,i64_w,i32_w];rfl)
   refine pure_ (i := 4) (N := some 47) (v := undef) (a' := ?_) #[true,true,true,true,true,false,false,false,false,false,false,false,false,false,false,false,false,false,false,false,false,false,false,false,false] rfl rfl (any_of HT_.out (by kernel_rfl)) (fun _ _ _ h => h) (Or.inr ⟨by rfl,rfl⟩) ?_ ?_
   rotate_left
   ·simp only [Act.put,ls_,lz_,lc_,i64_w,i32_w]
    rfl
   refine pure_ (i := 5) (N := some 48) (v := undef) (a' := ?_) #[true,true,true,true,true,true,false,false,false,false,false,false,false,false,false,false,false,false,false,false,false,false,false,false,false] rfl rfl (any_of HT_.out (by kernel_rfl)) (fun _ _ _ h => h) (Or.inr ⟨by rfl,rfl⟩) ?_ ?_
   rotate_left
   ·simp only [Act.put,ls_,lz_,lc_,i64_w,i32_w]
    rfl
   refine pure_ (i := 6) (N := some 49) (v := undef) (a' := ?_) #[true,true,true,true,true,true,true,false,false,false,false,false,false,false,false,false,false,false,false,false,false,false,false,false,false] rfl rfl (any_of HT_.out (by kernel_rfl)) (fun _ _ _ h => h) (Or.inr ⟨by rfl,rfl⟩) ?_ ?_
   rotate_left
   ·simp only [Act.put,ls_,lz_,lc_,i64_w,i32_w]
    rfl
   refine pure_ (i := 7) (N := some 50) (v := ?_) (a' := ?_) #[true,true,true,true,true,true,true,true,false,false,false,false,false,false,false,false,false,false,false,false,false,false,false,false,false] rfl rfl (any_of HT_.out (by kernel_rfl)) (fun _ _ _ h => h) (Or.inl ⟨by rfl,?_⟩) ?_ ?_
   rotate_left;(intro w';go_simp;with_reducible rfl);rotate_left;(simp only [Act.put,ls_,lz_,lc_,i64_w,i32_w];rfl)
   refine pure_ (i := 8) (N := some 51) (v := ?_) (a' := ?_) #[true,true,true,true,true,true,true,true,true,false,false,false,false,false,false,false,false,false,false,false,false,false,false,false,false] rfl rfl (any_of HT_.out (by kernel_rfl)) (fun _ _ _ h => h) (Or.inl ⟨by rfl,?_⟩) ?_ ?_
   rotate_left;(intro w';go_simp;with_reducible rfl);rotate_left;(simp only [Act.put,ls_,lz_,lc_,i64_w,i32_w];rfl)
   refine pure_ (i := 9) (N := some 52) (v := undef) (a' := ?_) #[true,true,true,true,true,true,true,true,true,true,false,false,false,false,false,false,false,false,false,false,false,false,false,false,false] rfl rfl (any_of HT_.out (by kernel_rfl)) (fun _ _ _ h => h) (Or.inr ⟨by rfl,rfl⟩) ?_ ?_
   rotate_left
   ·simp only [Act.put,ls_,lz_,lc_,i64_w,i32_w]
    rfl
   refine pure_ (i := 10) (N := some 53) (v := undef) (a' := ?_) #[true,true,true,true,true,true,true,true,true,true,true,false,false,false,false,false,false,false,false,false,false,false,false,false,false] rfl rfl (any_of HT_.out (by kernel_rfl)) (fun _ _ _ h => h) (Or.inr ⟨by rfl,rfl⟩) ?_ ?_
   rotate_left
   ·simp only [Act.put,ls_,lz_,lc_,i64_w,i32_w]
    rfl
   refine pure_ (i := 11) (N := some 54) (v := undef) (a' := ?_) #[true,true,true,true,true,true,true,true,true,true,true,true,false,false,false,false,false,false,false,false,false,false,false,false,false] rfl rfl (any_of HT_.out (by kernel_rfl)) (fun _ _ _ h => h) (Or.inr ⟨by rfl,rfl⟩) ?_ ?_
   rotate_left
   ·simp only [Act.put,ls_,lz_,lc_,i64_w,i32_w]
    rfl
   refine pure_ (i := 12) (N := some 55) (v := ?_) (a' := ?_) #[true,true,true,true,true,true,true,true,true,true,true,true,true,false,false,false,false,false,false,false,false,false,false,false,false] rfl rfl (any_of HT_.out (by kernel_rfl)) (fun _ _ _ h => h) (Or.inl ⟨by rfl,?_⟩) ?_ ?_
   rotate_left;(intro w';go_simp;with_reducible rfl);rotate_left;(simp only [Act.put,ls_,lz_,lc_,i64_w,i32_w];rfl)
   refine pure_ (i := 13) (N := some 56) (v := ?_) (a' := ?_) #[true,true,true,true,true,true,true,true,true,true,true,true,true,true,false,false,false,false,false,false,false,false,false,false,false] rfl rfl (any_of HT_.out (by kernel_rfl)) (fun _ _ _ h => h) (Or.inl ⟨by rfl,?_⟩) ?_ ?_
   rotate_left;(intro w';go_simp;with_reducible rfl);rotate_left;(simp only [Act.put,ls_,lz_,lc_,i64_w,i32_w];rfl)
   refine pure_ (i := 14) (N := some 57) (v := undef) (a' := ?_) #[true,true,true,true,true,true,true,true,true,true,true,true,true,true,true,false,false,false,false,false,false,false,false,false,false] rfl rfl (any_of HT_.out (by kernel_rfl)) (fun _ _ _ h => h) (Or.inr ⟨by rfl,rfl⟩) ?_ ?_
   rotate_left
   ·simp only [Act.put,ls_,lz_,lc_,i64_w,i32_w]
    rfl
   refine pure_ (i := 15) (N := some 58) (v := undef) (a' := ?_) #[true,true,true,true,true,true,true,true,true,true,true,true,true,true,true,true,false,false,false,false,false,false,false,false,false] rfl rfl (any_of HT_.out (by kernel_rfl)) (fun _ _ _ h => h) (Or.inr ⟨by rfl,rfl⟩) ?_ ?_
   rotate_left
   ·simp only [Act.put,ls_,lz_,lc_,i64_w,i32_w]
    rfl
   refine pure_ (i := 16) (N := some 59) (v := undef) (a' := ?_) #[true,true,true,true,true,true,true,true,true,true,true,true,true,true,true,true,true,false,false,false,false,false,false,false,false] rfl rfl (any_of HT_.out (by kernel_rfl)) (fun _ _ _ h => h) (Or.inr ⟨by rfl,rfl⟩) ?_ ?_
   rotate_left
   ·simp only [Act.put,ls_,lz_,lc_,i64_w,i32_w]
    rfl
   refine pure_ (i := 17) (N := some 60) (v := ?_) (a' := ?_) #[true,true,true,true,true,true,true,true,true,true,true,true,true,true,true,true,true,true,false,false,false,false,false,false,false] rfl rfl (any_of HT_.out (by kernel_rfl)) (fun _ _ _ h => h) (Or.inl ⟨by rfl,?_⟩) ?_ ?_
   rotate_left;(intro w';go_simp;with_reducible rfl);rotate_left;(simp only [Act.put,ls_,lz_,lc_,i64_w,i32_w];rfl)
   refine pure_ (i := 18) (N := some 61) (v := ?_) (a' := ?_) #[true,true,true,true,true,true,true,true,true,true,true,true,true,true,true,true,true,true,true,false,false,false,false,false,false] rfl rfl (any_of HT_.out (by kernel_rfl)) (fun _ _ _ h => h) (Or.inl ⟨by rfl,?_⟩) ?_ ?_
   rotate_left;(intro w';go_simp;with_reducible rfl);rotate_left;(simp only [Act.put,ls_,lz_,lc_,i64_w,i32_w];rfl)
   refine pure_ (i := 19) (N := some 62) (v := undef) (a' := ?_) #[true,true,true,true,true,true,true,true,true,true,true,true,true,true,true,true,true,true,true,true,false,false,false,false,false] rfl rfl (any_of HT_.out (by kernel_rfl)) (fun _ _ _ h => h) (Or.inr ⟨by rfl,rfl⟩) ?_ ?_
   rotate_left
   ·simp only [Act.put,ls_,lz_,lc_,i64_w,i32_w]
    rfl
   refine pure_ (i := 20) (N := some 63) (v := undef) (a' := ?_) #[true,true,true,true,true,true,true,true,true,true,true,true,true,true,true,true,true,true,true,true,true,false,false,false,false] rfl rfl (any_of HT_.out (by kernel_rfl)) (fun _ _ _ h => h) (Or.inr ⟨by rfl,rfl⟩) ?_ ?_
   rotate_left
   ·simp only [Act.put,ls_,lz_,lc_,i64_w,i32_w]
    rfl
   refine pure_ (i := 21) (N := some 64) (v := undef) (a' := ?_) #[true,true,true,true,true,true,true,true,true,true,true,true,true,true,true,true,true,true,true,true,true,true,false,false,false] rfl rfl (any_of HT_.out (by kernel_rfl)) (fun _ _ _ h => h) (Or.inr ⟨by rfl,rfl⟩) ?_ ?_
   rotate_left
   ·simp only [Act.put,ls_,lz_,lc_,i64_w,i32_w]
    rfl
   refine pure_ (i := 22) (N := some 65) (v := undef) (a' := ?_) #[true,true,true,true,true,true,true,true,true,true,true,true,true,true,true,true,true,true,true,true,true,true,true,false,false] rfl rfl (any_of HT_.out (by kernel_rfl)) (fun _ _ _ h => h) (Or.inr ⟨by rfl,rfl⟩) ?_ ?_
   rotate_left
   ·simp only [Act.put,ls_,lz_,lc_,i64_w,i32_w]
    rfl
   refine pure_ (i := 23) (N := some 66) (v := undef) (a' := ?_) #[true,true,true,true,true,true,true,true,true,true,true,true,true,true,true,true,true,true,true,true,true,true,true,true,false] rfl rfl (any_of HT_.out (by kernel_rfl)) (fun _ _ _ h => h) (Or.inr ⟨by rfl,rfl⟩) ?_ ?_
   rotate_left
   ·simp only [Act.put,ls_,lz_,lc_,i64_w,i32_w]
    rfl
   refine pure_ (i := 24) (N := some 67) (v := ?_) (a' := ?_) #[true,true,true,true,true,true,true,true,true,true,true,true,true,true,true,true,true,true,true,true,true,true,true,true,true] rfl rfl (any_of HT_.out (by kernel_rfl)) (fun _ _ _ h => h) (Or.inl ⟨by rfl,?_⟩) ?_ ?_
   rotate_left;(intro w';go_simp;with_reducible rfl);rotate_left;(simp only [Act.put,ls_,lz_,lc_,i64_w,i32_w];rfl)
   refine done_ (done_of HT_.out (by kernel_rfl)) ?_
   try go_wp2
   go_meet
   case rel => exact ⟨_,(true),(by first|rfl|(simp;done)|(simp [*];done)|(simp [bne];done)),H',⟨by first|omega|exact Nat.le_refl _⟩,⟨by (with_reducible repeat first|apply kn_|apply kd_|apply ka_);exact BK263.out⟩,⟨by (with_reducible repeat first|apply kn_|apply kd_|apply ka_);exact BK264.out⟩,⟨by (with_reducible repeat first|apply kn_|apply kd_|apply ka_);exact BK270.out⟩,⟨by (with_reducible repeat first|apply kn_|apply kd_|apply ka_);exact BK276.out⟩,⟨by (with_reducible repeat first|apply kn_|apply kd_|apply ka_);exact BK282.out⟩,⟨by (with_reducible repeat first|apply kn_|apply kd_|apply ka_);exact BK288.out⟩,⟨by repeat (first|(with_reducible first|exact HB.out|apply ba_|apply pd_|apply d1_|refine bs_ ?_ GE263.out|refine bs_ ?_ GE264.out|refine bs_ ?_ GE270.out|refine bs_ ?_ GE276.out|refine bs_ ?_ GE282.out|refine bs_ ?_ GE288.out)|exact HB.out)⟩⟩
  ·rw [if_neg c43] at H
   have c43b0 : (!(t265 == t271) || (!(t266 == t272) || (!(t267 == t273) || (!(t268 == t274))))) = false := by simpa using c43
   clear c43
   (first|rw [c43b0]|(simp only [i64_w,i32_w];rw [c43b0])|skip)
   by_cases c46 : t269 = t275
   ·rw [if_pos c46] at H
    have c46b0 : (t269 == t275) = true := beq_iff_eq.mpr c46
    have c46b1 : (t269 != t275) = false := bne_eq_false_iff_eq.mpr c46
    clear c46
    by_cases c47 : (!(t277 == t283) || (!(t278 == t284) || (!(t279 == t285) || (!(t280 == t286))))) = true
    ·rw [if_pos c47] at H
     have c47b0 : (!(t277 == t283) || (!(t278 == t284) || (!(t279 == t285) || (!(t280 == t286))))) = true := c47
     clear c47
     have H' := sd_ H
     clear H
     try go_wp2
     have n0_ : Aside0 (((((w36.setCell ⟨gb288,0,none⟩ (.int .i64 t283)).setCell ⟨gb288,1,none⟩ (.int .i64 t284)).setCell ⟨gb288,2,none⟩ (.int .i64 t285)).setCell ⟨gb288,3,none⟩ (.int .i64 t286)).heap[gb263]? = some (.cells #[.int .i64 a0_0,.int .i64 a0_1,.int .i64 a0_2,.int .i64 a0_3] 23 (0,0))) := ⟨by (with_reducible repeat first|apply kn_|apply kd_|apply ka_);refine blk_far ?_ NB263_288.out _;(with_reducible repeat first|apply kn_|apply kd_|apply ka_);refine blk_far ?_ NB263_288.out _;(with_reducible repeat first|apply kn_|apply kd_|apply ka_);refine blk_far ?_ NB263_288.out _;(with_reducible repeat first|apply kn_|apply kd_|apply ka_);refine blk_far ?_ NB263_288.out _;(with_reducible repeat first|apply kn_|apply kd_|apply ka_);exact BK263.out⟩
     have n1_ : Aside0 (((((w36.setCell ⟨gb288,0,none⟩ (.int .i64 t283)).setCell ⟨gb288,1,none⟩ (.int .i64 t284)).setCell ⟨gb288,2,none⟩ (.int .i64 t285)).setCell ⟨gb288,3,none⟩ (.int .i64 t286)).heap[gb264]? = some (.cells #[.int .i64 a1_0,.int .i64 a1_1,.int .i64 a1_2,.int .i64 a1_3] 23 (0,0))) := ⟨by (with_reducible repeat first|apply kn_|apply kd_|apply ka_);refine blk_far ?_ NB264_288.out _;(with_reducible repeat first|apply kn_|apply kd_|apply ka_);refine blk_far ?_ NB264_288.out _;(with_reducible repeat first|apply kn_|apply kd_|apply ka_);refine blk_far ?_ NB264_288.out _;(with_reducible repeat first|apply kn_|apply kd_|apply ka_);refine blk_far ?_ NB264_288.out _;(with_reducible repeat first|apply kn_|apply kd_|apply ka_);exact BK264.out⟩
     have n2_ : Aside0 (((((w36.setCell ⟨gb288,0,none⟩ (.int .i64 t283)).setCell ⟨gb288,1,none⟩ (.int .i64 t284)).setCell ⟨gb288,2,none⟩ (.int .i64 t285)).setCell ⟨gb288,3,none⟩ (.int .i64 t286)).heap[gb270]? = some (.cells #[.int .i64 t265,.int .i64 t266,.int .i64 t267,.int .i64 t268] 23 (0,0))) := ⟨by (with_reducible repeat first|apply kn_|apply kd_|apply ka_);refine blk_far ?_ NB270_288.out _;(with_reducible repeat first|apply kn_|apply kd_|apply ka_);refine blk_far ?_ NB270_288.out _;(with_reducible repeat first|apply kn_|apply kd_|apply ka_);refine blk_far ?_ NB270_288.out _;(with_reducible repeat first|apply kn_|apply kd_|apply ka_);refine blk_far ?_ NB270_288.out _;(with_reducible repeat first|apply kn_|apply kd_|apply ka_);exact BK270.out⟩
     have n3_ : Aside0 (((((w36.setCell ⟨gb288,0,none⟩ (.int .i64 t283)).setCell ⟨gb288,1,none⟩ (.int .i64 t284)).setCell ⟨gb288,2,none⟩ (.int .i64 t285)).setCell ⟨gb288,3,none⟩ (.int .i64 t286)).heap[gb276]? = some (.cells #[.int .i64 t271,.int .i64 t272,.int .i64 t273,.int .i64 t274] 23 (0,0))) := ⟨by (with_reducible repeat first|apply kn_|apply kd_|apply ka_);refine blk_far ?_ NB276_288.out _;(with_reducible repeat first|apply kn_|apply kd_|apply ka_);refine blk_far ?_ NB276_288.out _;(with_reducible repeat first|apply kn_|apply kd_|apply ka_);refine blk_far ?_ NB276_288.out _;(with_reducible repeat first|apply kn_|apply kd_|apply ka_);refine blk_far ?_ NB276_288.out _;(with_reducible repeat first|apply kn_|apply kd_|apply ka_);exact BK276.out⟩
     have n4_ : Aside0 (((((w36.setCell ⟨gb288,0,none⟩ (.int .i64 t283)).setCell ⟨gb288,1,none⟩ (.int .i64 t284)).setCell ⟨gb288,2,none⟩ (.int .i64 t285)).setCell ⟨gb288,3,none⟩ (.int .i64 t286)).heap[gb282]? = some (.cells #[.int .i64 t277,.int .i64 t278,.int .i64 t279,.int .i64 t280] 23 (0,0))) := ⟨by (with_reducible repeat first|apply kn_|apply kd_|apply ka_);refine blk_far ?_ NB282_288.out _;(with_reducible repeat first|apply kn_|apply kd_|apply ka_);refine blk_far ?_ NB282_288.out _;(with_reducible repeat first|apply kn_|apply kd_|apply ka_);refine blk_far ?_ NB282_288.out _;(with_reducible repeat first|apply kn_|apply kd_|apply ka_);refine blk_far ?_ NB282_288.out _;(with_reducible repeat first|apply kn_|apply kd_|apply ka_);exact BK282.out⟩
     have n5_ : Aside0 (((((w36.setCell ⟨gb288,0,none⟩ (.int .i64 t283)).setCell ⟨gb288,1,none⟩ (.int .i64 t284)).setCell ⟨gb288,2,none⟩ (.int .i64 t285)).setCell ⟨gb288,3,none⟩ (.int .i64 t286)).heap[gb288]? = some (.cells #[.int .i64 t283,.int .i64 t284,.int .i64 t285,.int .i64 t286] 23 (0,0))) := ⟨by (with_reducible repeat first|apply kn_|apply kd_|apply ka_);refine blk_put (cs := #[.int .i64 t283,.int .i64 t284,.int .i64 t285,.int .i64 0]) ?_ 3 _ rfl;(with_reducible repeat first|apply kn_|apply kd_|apply ka_);refine blk_put (cs := #[.int .i64 t283,.int .i64 t284,.int .i64 0,.int .i64 0]) ?_ 2 _ rfl;(with_reducible repeat first|apply kn_|apply kd_|apply ka_);refine blk_put (cs := #[.int .i64 t283,.int .i64 0,.int .i64 0,.int .i64 0]) ?_ 1 _ rfl;(with_reducible repeat first|apply kn_|apply kd_|apply ka_);refine blk_put (cs := #[.int .i64 0,.int .i64 0,.int .i64 0,.int .i64 0]) ?_ 0 _ rfl;(with_reducible repeat first|apply kn_|apply kd_|apply ka_);exact BK288.out⟩
     have n6_ : Aside0 (Below w.heap.size w ((((w36.setCell ⟨gb288,0,none⟩ (.int .i64 t283)).setCell ⟨gb288,1,none⟩ (.int .i64 t284)).setCell ⟨gb288,2,none⟩ (.int .i64 t285)).setCell ⟨gb288,3,none⟩ (.int .i64 t286))) := ⟨by repeat (first|(with_reducible first|exact HB.out|apply ba_|apply pd_|apply d1_|refine bs_ ?_ GE263.out|refine bs_ ?_ GE264.out|refine bs_ ?_ GE270.out|refine bs_ ?_ GE276.out|refine bs_ ?_ GE282.out|refine bs_ ?_ GE288.out)|exact HB.out)⟩
     (try clear BK263)
     (try clear BK264)
     (try clear BK270)
     (try clear BK276)
     (try clear BK282)
     (try clear BK288)
     (try clear HB)
     generalize ((((w36.setCell ⟨gb288,0,none⟩ (.int .i64 t283)).setCell ⟨gb288,1,none⟩ (.int .i64 t284)).setCell ⟨gb288,2,none⟩ (.int .i64 t285)).setCell ⟨gb288,3,none⟩ (.int .i64 t286)) = w48 at n0_ n1_ n2_ n3_ n4_ n5_ n6_ ⊢
     have BK263 := n0_
     have BK264 := n1_
     have BK270 := n2_
     have BK276 := n3_
     have BK282 := n4_
     have BK288 := n5_
     have HB := n6_
     clear n0_ n1_ n2_ n3_ n4_ n5_ n6_
     have n0_ := sd_ (kd_ BK263.out)
     have n1_ := sd_ (kd_ BK264.out)
     have n2_ := sd_ (kd_ BK270.out)
     have n3_ := sd_ (kd_ BK276.out)
     have n4_ := sd_ (kd_ BK282.out)
     have n5_ := sd_ (kd_ BK288.out)
     have n6_ := sd_ (d1_ HB.out)
     clear BK263
     clear BK264
     clear BK270
     clear BK276
     clear BK282
     clear BK288
     clear HB
     have BK263 := n0_
     have BK264 := n1_
     have BK270 := n2_
     have BK276 := n3_
     have BK282 := n4_
     have BK288 := n5_
     have HB := n6_
     clear n0_ n1_ n2_ n3_ n4_ n5_ n6_
     refine start_ (n := 25) (S := fun w' => w'.cell? ⟨gb270,0,none⟩ = some (.int .i64 t265) ∧ w'.cell? ⟨gb270,1,none⟩ = some (.int .i64 t266) ∧ w'.cell? ⟨gb270,2,none⟩ = some (.int .i64 t267) ∧ w'.cell? ⟨gb270,3,none⟩ = some (.int .i64 t268) ∧ w'.cell? ⟨gb276,0,none⟩ = some (.int .i64 t271) ∧ w'.cell? ⟨gb276,1,none⟩ = some (.int .i64 t272) ∧ w'.cell? ⟨gb276,2,none⟩ = some (.int .i64 t273) ∧ w'.cell? ⟨gb276,3,none⟩ = some (.int .i64 t274) ∧ w'.cell? ⟨gb282,0,none⟩ = some (.int .i64 t277) ∧ w'.cell? ⟨gb282,1,none⟩ = some (.int .i64 t278) ∧ w'.cell? ⟨gb282,2,none⟩ = some (.int .i64 t279) ∧ w'.cell? ⟨gb282,3,none⟩ = some (.int .i64 t280) ∧ w'.cell? ⟨gb288,0,none⟩ = some (.int .i64 t283) ∧ w'.cell? ⟨gb288,1,none⟩ = some (.int .i64 t284) ∧ w'.cell? ⟨gb288,2,none⟩ = some (.int .i64 t285) ∧ w'.cell? ⟨gb288,3,none⟩ = some (.int .i64 t286)) (ds := []) #[false,false,false,false,false,false,false,false,false,false,false,false,false,false,false,false,false,false,false,false,false,false,false,false,false] (by kernel_rfl) rfl rfl ⟨(kc_ BK270.out 0).trans rfl,(kc_ BK270.out 1).trans rfl,(kc_ BK270.out 2).trans rfl,(kc_ BK270.out 3).trans rfl,(kc_ BK276.out 0).trans rfl,(kc_ BK276.out 1).trans rfl,(kc_ BK276.out 2).trans rfl,(kc_ BK276.out 3).trans rfl,(kc_ BK282.out 0).trans rfl,(kc_ BK282.out 1).trans rfl,(kc_ BK282.out 2).trans rfl,(kc_ BK282.out 3).trans rfl,(kc_ BK288.out 0).trans rfl,(kc_ BK288.out 1).trans rfl,(kc_ BK288.out 2).trans rfl,(kc_ BK288.out 3).trans rfl⟩ (fun hHeld => ?_);refine with_tabW neumelaw03_BoxTells.tab5 neumelaw03_BoxTells.bits5 (fun HT_ HW_ => ?_)
     generalize w48.drew = w49 at BK263 BK264 BK270 BK276 BK282 BK288 HB hHeld ⊢
     refine take_ (i := 0) (N := some 43) (v := ?_) (a' := ?_) #[true,false,false,false,false,false,false,false,false,false,false,false,false,false,false,false,false,false,false,false,false,false,false,false,false] rfl rfl (take_ofW HT_.out HW_.out (by kernel_rfl)) (fun _ _ _ h => h) (Or.inl ⟨by rfl,?_⟩) hHeld ?_ ?_
     rotate_left
     ·rintro w' ⟨s0,s1,s2,s3,s4,s5,s6,s7,s8,s9,s10,s11,s12,s13,s14,s15⟩
      go_simp
      with_reducible rfl
     rotate_left
     ·simp only [Act.put,ls_,lz_,lc_,i64_w,i32_w]
      rfl
     refine take_ (i := 1) (N := some 44) (v := ?_) (a' := ?_) #[true,true,false,false,false,false,false,false,false,false,false,false,false,false,false,false,false,false,false,false,false,false,false,false,false] rfl rfl (take_ofW HT_.out HW_.out (by kernel_rfl)) (fun _ _ _ h => h) (Or.inl ⟨by rfl,?_⟩) hHeld ?_ ?_
     rotate_left
     ·rintro w' ⟨s0,s1,s2,s3,s4,s5,s6,s7,s8,s9,s10,s11,s12,s13,s14,s15⟩
      go_simp
      with_reducible rfl
     rotate_left
     ·simp only [Act.put,ls_,lz_,lc_,i64_w,i32_w]
      rfl
     refine pure_ (i := 2) (N := some 45) (v := ?_) (a' := ?_) #[true,true,true,false,false,false,false,false,false,false,false,false,false,false,false,false,false,false,false,false,false,false,false,false,false] rfl rfl (any_of HT_.out (by kernel_rfl)) (fun _ _ _ h => h) (Or.inl ⟨by rfl,?_⟩) ?_ ?_
     rotate_left;(intro w';go_simp;with_reducible rfl);rotate_left;(simp only [Act.put,ls_,lz_,lc_,i64_w,i32_w];rfl)
     refine pure_ (i := 3) (N := some 46) (v := ?_) (a' := ?_) #[true,true,true,true,false,false,false,false,false,false,false,false,false,false,false,false,false,false,false,false,false,false,false,false,false] rfl rfl (any_of HT_.out (by kernel_rfl)) (fun _ _ _ h => h) (Or.inl ⟨by rfl,?_⟩) ?_ ?_
     rotate_left;(intro w';go_simp;with_reducible rfl);rotate_left;(simp only [Act.put,ls_,lz_,lc_,i64_w,i32_w];rfl)
     refine pure_ (i := 4) (N := some 47) (v := ?_) (a' := ?_) #[true,true,true,true,true,false,false,false,false,false,false,false,false,false,false,false,false,false,false,false,false,false,false,false,false] rfl rfl (any_of HT_.out (by kernel_rfl)) (fun _ _ _ h => h) (Or.inl ⟨by rfl,?_⟩) ?_ ?_
     rotate_left;(intro w';go_simp;with_reducible rfl);rotate_left;(simp only [Act.put,ls_,lz_,lc_,i64_w,i32_w];rfl)
     refine pure_ (i := 5) (N := some 48) (v := ?_) (a' := ?_) #[true,true,true,true,true,true,false,false,false,false,false,false,false,false,false,false,false,false,false,false,false,false,false,false,false] rfl rfl (any_of HT_.out (by kernel_rfl)) (fun _ _ _ h => h) (Or.inl ⟨by rfl,?_⟩) ?_ ?_
     rotate_left;(intro w';go_simp;with_reducible rfl);rotate_left;(simp only [Act.put,ls_,lz_,lc_,i64_w,i32_w];rfl)
     refine pure_ (i := 6) (N := some 49) (v := ?_) (a' := ?_) #[true,true,true,true,true,true,true,false,false,false,false,false,false,false,false,false,false,false,false,false,false,false,false,false,false] rfl rfl (any_of HT_.out (by kernel_rfl)) (fun _ _ _ h => h) (Or.inl ⟨by rfl,?_⟩) ?_ ?_
     rotate_left;(intro w';go_simp;with_reducible rfl);rotate_left;(simp only [Act.put,ls_,lz_,lc_,i64_w,i32_w];rfl)
     refine pure_ (i := 7) (N := some 50) (v := ?_) (a' := ?_) #[true,true,true,true,true,true,true,true,false,false,false,false,false,false,false,false,false,false,false,false,false,false,false,false,false] rfl rfl (any_of HT_.out (by kernel_rfl)) (fun _ _ _ h => h) (Or.inl ⟨by rfl,?_⟩) ?_ ?_
     rotate_left;(intro w';go_simp;with_reducible rfl);rotate_left;(simp only [Act.put,ls_,lz_,lc_,i64_w,i32_w];rfl)
     refine pure_ (i := 8) (N := some 51) (v := ?_) (a' := ?_) #[true,true,true,true,true,true,true,true,true,false,false,false,false,false,false,false,false,false,false,false,false,false,false,false,false] rfl rfl (any_of HT_.out (by kernel_rfl)) (fun _ _ _ h => h) (Or.inl ⟨by rfl,?_⟩) ?_ ?_
     rotate_left;(intro w';go_simp;with_reducible rfl);rotate_left;(simp only [Act.put,ls_,lz_,lc_,i64_w,i32_w];rfl)
     refine take_ (i := 9) (N := some 52) (v := ?_) (a' := ?_) #[true,true,true,true,true,true,true,true,true,true,false,false,false,false,false,false,false,false,false,false,false,false,false,false,false] rfl rfl (take_ofW HT_.out HW_.out (by kernel_rfl)) (fun _ _ _ h => h) (Or.inl ⟨by rfl,?_⟩) hHeld ?_ ?_
     rotate_left
     ·rintro w' ⟨s0,s1,s2,s3,s4,s5,s6,s7,s8,s9,s10,s11,s12,s13,s14,s15⟩
      go_simp
      with_reducible rfl
     rotate_left
     ·simp only [Act.put,ls_,lz_,lc_,i64_w,i32_w]
      rfl
     refine take_ (i := 10) (N := some 53) (v := ?_) (a' := ?_) #[true,true,true,true,true,true,true,true,true,true,true,false,false,false,false,false,false,false,false,false,false,false,false,false,false] rfl rfl (take_ofW HT_.out HW_.out (by kernel_rfl)) (fun _ _ _ h => h) (Or.inl ⟨by rfl,?_⟩) hHeld ?_ ?_
     rotate_left
     ·rintro w' ⟨s0,s1,s2,s3,s4,s5,s6,s7,s8,s9,s10,s11,s12,s13,s14,s15⟩
      go_simp
      with_reducible rfl
     rotate_left
     ·simp only [Act.put,ls_,lz_,lc_,i64_w,i32_w]
      rfl
     refine pure_ (i := 11) (N := some 54) (v := ?_) (a' := ?_) #[true,true,true,true,true,true,true,true,true,true,true,true,false,false,false,false,false,false,false,false,false,false,false,false,false] rfl rfl (any_of HT_.out (by kernel_rfl)) (fun _ _ _ h => h) (Or.inl ⟨by rfl,?_⟩) ?_ ?_
     rotate_left;(intro w';go_simp;with_reducible rfl);rotate_left;(simp only [Act.put,ls_,lz_,lc_,i64_w,i32_w];rfl)
     refine pure_ (i := 12) (N := some 55) (v := ?_) (a' := ?_) #[true,true,true,true,true,true,true,true,true,true,true,true,true,false,false,false,false,false,false,false,false,false,false,false,false] rfl rfl (any_of HT_.out (by kernel_rfl)) (fun _ _ _ h => h) (Or.inl ⟨by rfl,?_⟩) ?_ ?_
     rotate_left;(intro w';go_simp;with_reducible rfl);rotate_left;(simp only [Act.put,ls_,lz_,lc_,i64_w,i32_w];rfl)
     refine pure_ (i := 13) (N := some 56) (v := ?_) (a' := ?_) #[true,true,true,true,true,true,true,true,true,true,true,true,true,true,false,false,false,false,false,false,false,false,false,false,false] rfl rfl (any_of HT_.out (by kernel_rfl)) (fun _ _ _ h => h) (Or.inl ⟨by rfl,?_⟩) ?_ ?_
     rotate_left;(intro w';go_simp;with_reducible rfl);rotate_left;(simp only [Act.put,ls_,lz_,lc_,i64_w,i32_w];rfl)
     refine pure_ (i := 14) (N := some 57) (v := undef) (a' := ?_) #[true,true,true,true,true,true,true,true,true,true,true,true,true,true,true,false,false,false,false,false,false,false,false,false,false] rfl rfl (any_of HT_.out (by kernel_rfl)) (fun _ _ _ h => h) (Or.inr ⟨by rfl,rfl⟩) ?_ ?_
     rotate_left
     ·simp only [Act.put,ls_,lz_,lc_,i64_w,i32_w]
      rfl
     refine pure_ (i := 15) (N := some 58) (v := undef) (a' := ?_) #[true,true,true,true,true,true,true,true,true,true,true,true,true,true,true,true,false,false,false,false,false,false,false,false,false] rfl rfl (any_of HT_.out (by kernel_rfl)) (fun _ _ _ h => h) (Or.inr ⟨by rfl,rfl⟩) ?_ ?_
     rotate_left
     ·simp only [Act.put,ls_,lz_,lc_,i64_w,i32_w]
      rfl
     refine pure_ (i := 16) (N := some 59) (v := undef) (a' := ?_) #[true,true,true,true,true,true,true,true,true,true,true,true,true,true,true,true,true,false,false,false,false,false,false,false,false] rfl rfl (any_of HT_.out (by kernel_rfl)) (fun _ _ _ h => h) (Or.inr ⟨by rfl,rfl⟩) ?_ ?_
     rotate_left
     ·simp only [Act.put,ls_,lz_,lc_,i64_w,i32_w]
      rfl
     refine pure_ (i := 17) (N := some 60) (v := ?_) (a' := ?_) #[true,true,true,true,true,true,true,true,true,true,true,true,true,true,true,true,true,true,false,false,false,false,false,false,false] rfl rfl (any_of HT_.out (by kernel_rfl)) (fun _ _ _ h => h) (Or.inl ⟨by rfl,?_⟩) ?_ ?_
     rotate_left;(intro w';go_simp;with_reducible rfl);rotate_left;(simp only [Act.put,ls_,lz_,lc_,i64_w,i32_w];rfl)
     refine pure_ (i := 18) (N := some 61) (v := ?_) (a' := ?_) #[true,true,true,true,true,true,true,true,true,true,true,true,true,true,true,true,true,true,true,false,false,false,false,false,false] rfl rfl (any_of HT_.out (by kernel_rfl)) (fun _ _ _ h => h) (Or.inl ⟨by rfl,?_⟩) ?_ ?_
     rotate_left;(intro w';go_simp;with_reducible rfl);rotate_left;(simp only [Act.put,ls_,lz_,lc_,i64_w,i32_w];rfl)
     refine pure_ (i := 19) (N := some 62) (v := undef) (a' := ?_) #[true,true,true,true,true,true,true,true,true,true,true,true,true,true,true,true,true,true,true,true,false,false,false,false,false] rfl rfl (any_of HT_.out (by kernel_rfl)) (fun _ _ _ h => h) (Or.inr ⟨by rfl,rfl⟩) ?_ ?_
     rotate_left
     ·simp only [Act.put,ls_,lz_,lc_,i64_w,i32_w]
      rfl
     refine pure_ (i := 20) (N := some 63) (v := undef) (a' := ?_) #[true,true,true,true,true,true,true,true,true,true,true,true,true,true,true,true,true,true,true,true,true,false,false,false,false] rfl rfl (any_of HT_.out (by kernel_rfl)) (fun _ _ _ h => h) (Or.inr ⟨by rfl,rfl⟩) ?_ ?_
     rotate_left
     ·simp only [Act.put,ls_,lz_,lc_,i64_w,i32_w]
      rfl
     refine pure_ (i := 21) (N := some 64) (v := undef) (a' := ?_) #[true,true,true,true,true,true,true,true,true,true,true,true,true,true,true,true,true,true,true,true,true,true,false,false,false] rfl rfl (any_of HT_.out (by kernel_rfl)) (fun _ _ _ h => h) (Or.inr ⟨by rfl,rfl⟩) ?_ ?_
     rotate_left
     ·simp only [Act.put,ls_,lz_,lc_,i64_w,i32_w]
      rfl
     refine pure_ (i := 22) (N := some 65) (v := undef) (a' := ?_) #[true,true,true,true,true,true,true,true,true,true,true,true,true,true,true,true,true,true,true,true,true,true,true,false,false] rfl rfl (any_of HT_.out (by kernel_rfl)) (fun _ _ _ h => h) (Or.inr ⟨by rfl,rfl⟩) ?_ ?_
     rotate_left
     ·simp only [Act.put,ls_,lz_,lc_,i64_w,i32_w]
      rfl
     refine pure_ (i := 23) (N := some 66) (v := undef) (a' := ?_) #[true,true,true,true,true,true,true,true,true,true,true,true,true,true,true,true,true,true,true,true,true,true,true,true,false] rfl rfl (any_of HT_.out (by kernel_rfl)) (fun _ _ _ h => h) (Or.inr ⟨by rfl,rfl⟩) ?_ ?_
     rotate_left
     ·simp only [Act.put,ls_,lz_,lc_,i64_w,i32_w]
      rfl
     refine pure_ (i := 24) (N := some 67) (v := ?_) (a' := ?_) #[true,true,true,true,true,true,true,true,true,true,true,true,true,true,true,true,true,true,true,true,true,true,true,true,true] rfl rfl (any_of HT_.out (by kernel_rfl)) (fun _ _ _ h => h) (Or.inl ⟨by rfl,?_⟩) ?_ ?_
     rotate_left;(intro w';go_simp;with_reducible rfl);rotate_left;(simp only [Act.put,ls_,lz_,lc_,i64_w,i32_w];rfl)
     refine done_ (done_of HT_.out (by kernel_rfl)) ?_
     try go_wp2
     go_meet
     case rel => exact ⟨_,(true),(by first|rfl|(simp;done)|(simp [*];done)|(simp [bne];done)),H',⟨by first|omega|exact Nat.le_refl _⟩,⟨by (with_reducible repeat first|apply kn_|apply kd_|apply ka_);exact BK263.out⟩,⟨by (with_reducible repeat first|apply kn_|apply kd_|apply ka_);exact BK264.out⟩,⟨by (with_reducible repeat first|apply kn_|apply kd_|apply ka_);exact BK270.out⟩,⟨by (with_reducible repeat first|apply kn_|apply kd_|apply ka_);exact BK276.out⟩,⟨by (with_reducible repeat first|apply kn_|apply kd_|apply ka_);exact BK282.out⟩,⟨by (with_reducible repeat first|apply kn_|apply kd_|apply ka_);exact BK288.out⟩,⟨by repeat (first|(with_reducible first|exact HB.out|apply ba_|apply pd_|apply d1_|refine bs_ ?_ GE263.out|refine bs_ ?_ GE264.out|refine bs_ ?_ GE270.out|refine bs_ ?_ GE276.out|refine bs_ ?_ GE282.out|refine bs_ ?_ GE288.out)|exact HB.out)⟩⟩
    ·rw [if_neg c47] at H
     have c47b0 : (!(t277 == t283) || (!(t278 == t284) || (!(t279 == t285) || (!(t280 == t286))))) = false := by simpa using c47
     clear c47
     by_cases c50 : t281 = t287
     ·rw [if_pos c50] at H
      have c50b0 : (t281 == t287) = true := beq_iff_eq.mpr c50
      have c50b1 : (t281 != t287) = false := bne_eq_false_iff_eq.mpr c50
      clear c50
      replace H := ob_ H
      obtain ⟨t289,A510,H⟩ := H
      replace H : ((neumeref03_Check.f a0_0 a0_1 a0_2 a0_3).bind fun t290 => (neumelaw03_BoxTells.j0 k (t289 != t290) a0_0 a0_1 a0_2 a0_3 a1_0 a1_1 a1_2 a1_3)) = some r := H
      have A51 := sd_ A510
      clear A510
      replace H := ob_ H
      obtain ⟨t290,A520,H⟩ := H
      replace H : (neumelaw03_BoxTells.j0 k (t289 != t290) a0_0 a0_1 a0_2 a0_3 a1_0 a1_1 a1_2 a1_3) = some r := H
      have A52 := sd_ A520
      clear A520
      have H' := sd_ H
      clear H
      try go_wp2
      have n0_ : Aside0 (((((w36.setCell ⟨gb288,0,none⟩ (.int .i64 t283)).setCell ⟨gb288,1,none⟩ (.int .i64 t284)).setCell ⟨gb288,2,none⟩ (.int .i64 t285)).setCell ⟨gb288,3,none⟩ (.int .i64 t286)).heap[gb263]? = some (.cells #[.int .i64 a0_0,.int .i64 a0_1,.int .i64 a0_2,.int .i64 a0_3] 23 (0,0))) := ⟨by (with_reducible repeat first|apply kn_|apply kd_|apply ka_);refine blk_far ?_ NB263_288.out _;(with_reducible repeat first|apply kn_|apply kd_|apply ka_);refine blk_far ?_ NB263_288.out _;(with_reducible repeat first|apply kn_|apply kd_|apply ka_);refine blk_far ?_ NB263_288.out _;(with_reducible repeat first|apply kn_|apply kd_|apply ka_);refine blk_far ?_ NB263_288.out _;(with_reducible repeat first|apply kn_|apply kd_|apply ka_);exact BK263.out⟩
      have n1_ : Aside0 (((((w36.setCell ⟨gb288,0,none⟩ (.int .i64 t283)).setCell ⟨gb288,1,none⟩ (.int .i64 t284)).setCell ⟨gb288,2,none⟩ (.int .i64 t285)).setCell ⟨gb288,3,none⟩ (.int .i64 t286)).heap[gb264]? = some (.cells #[.int .i64 a1_0,.int .i64 a1_1,.int .i64 a1_2,.int .i64 a1_3] 23 (0,0))) := ⟨by (with_reducible repeat first|apply kn_|apply kd_|apply ka_);refine blk_far ?_ NB264_288.out _;(with_reducible repeat first|apply kn_|apply kd_|apply ka_);refine blk_far ?_ NB264_288.out _;(with_reducible repeat first|apply kn_|apply kd_|apply ka_);refine blk_far ?_ NB264_288.out _;(with_reducible repeat first|apply kn_|apply kd_|apply ka_);refine blk_far ?_ NB264_288.out _;(with_reducible repeat first|apply kn_|apply kd_|apply ka_);exact BK264.out⟩
      have n2_ : Aside0 (((((w36.setCell ⟨gb288,0,none⟩ (.int .i64 t283)).setCell ⟨gb288,1,none⟩ (.int .i64 t284)).setCell ⟨gb288,2,none⟩ (.int .i64 t285)).setCell ⟨gb288,3,none⟩ (.int .i64 t286)).heap[gb270]? = some (.cells #[.int .i64 t265,.int .i64 t266,.int .i64 t267,.int .i64 t268] 23 (0,0))) := ⟨by (with_reducible repeat first|apply kn_|apply kd_|apply ka_);refine blk_far ?_ NB270_288.out _;(with_reducible repeat first|apply kn_|apply kd_|apply ka_);refine blk_far ?_ NB270_288.out _;(with_reducible repeat first|apply kn_|apply kd_|apply ka_);refine blk_far ?_ NB270_288.out _;(with_reducible repeat first|apply kn_|apply kd_|apply ka_);refine blk_far ?_ NB270_288.out _;(with_reducible repeat first|apply kn_|apply kd_|apply ka_);exact BK270.out⟩
      have n3_ : Aside0 (((((w36.setCell ⟨gb288,0,none⟩ (.int .i64 t283)).setCell ⟨gb288,1,none⟩ (.int .i64 t284)).setCell ⟨gb288,2,none⟩ (.int .i64 t285)).setCell ⟨gb288,3,none⟩ (.int .i64 t286)).heap[gb276]? = some (.cells #[.int .i64 t271,.int .i64 t272,.int .i64 t273,.int .i64 t274] 23 (0,0))) := ⟨by (with_reducible repeat first|apply kn_|apply kd_|apply ka_);refine blk_far ?_ NB276_288.out _;(with_reducible repeat first|apply kn_|apply kd_|apply ka_);refine blk_far ?_ NB276_288.out _;(with_reducible repeat first|apply kn_|apply kd_|apply ka_);refine blk_far ?_ NB276_288.out _;(with_reducible repeat first|apply kn_|apply kd_|apply ka_);refine blk_far ?_ NB276_288.out _;(with_reducible repeat first|apply kn_|apply kd_|apply ka_);exact BK276.out⟩
      have n4_ : Aside0 (((((w36.setCell ⟨gb288,0,none⟩ (.int .i64 t283)).setCell ⟨gb288,1,none⟩ (.int .i64 t284)).setCell ⟨gb288,2,none⟩ (.int .i64 t285)).setCell ⟨gb288,3,none⟩ (.int .i64 t286)).heap[gb282]? = some (.cells #[.int .i64 t277,.int .i64 t278,.int .i64 t279,.int .i64 t280] 23 (0,0))) := ⟨by (with_reducible repeat first|apply kn_|apply kd_|apply ka_);refine blk_far ?_ NB282_288.out _;(with_reducible repeat first|apply kn_|apply kd_|apply ka_);refine blk_far ?_ NB282_288.out _;(with_reducible repeat first|apply kn_|apply kd_|apply ka_);refine blk_far ?_ NB282_288.out _;(with_reducible repeat first|apply kn_|apply kd_|apply ka_);refine blk_far ?_ NB282_288.out _;(with_reducible repeat first|apply kn_|apply kd_|apply ka_);exact BK282.out⟩
      have n5_ : Aside0 (((((w36.setCell ⟨gb288,0,none⟩ (.int .i64 t283)).setCell ⟨gb288,1,none⟩ (.int .i64 t284)).setCell ⟨gb288,2,none⟩ (.int .i64 t285)).setCell ⟨gb288,3,none⟩ (.int .i64 t286)).heap[gb288]? = some (.cells #[.int .i64 t283,.int .i64 t284,.int .i64 t285,.int .i64 t286] 23 (0,0))) := ⟨by (with_reducible repeat first|apply kn_|apply kd_|apply ka_);refine blk_put (cs := #[.int .i64 t283,.int .i64 t284,.int .i64 t285,.int .i64 0]) ?_ 3 _ rfl;(with_reducible repeat first|apply kn_|apply kd_|apply ka_);refine blk_put (cs := #[.int .i64 t283,.int .i64 t284,.int .i64 0,.int .i64 0]) ?_ 2 _ rfl;(with_reducible repeat first|apply kn_|apply kd_|apply ka_);refine blk_put (cs := #[.int .i64 t283,.int .i64 0,.int .i64 0,.int .i64 0]) ?_ 1 _ rfl;(with_reducible repeat first|apply kn_|apply kd_|apply ka_);refine blk_put (cs := #[.int .i64 0,.int .i64 0,.int .i64 0,.int .i64 0]) ?_ 0 _ rfl;(with_reducible repeat first|apply kn_|apply kd_|apply ka_);exact BK288.out⟩
      have n6_ : Aside0 (Below w.heap.size w ((((w36.setCell ⟨gb288,0,none⟩ (.int .i64 t283)).setCell ⟨gb288,1,none⟩ (.int .i64 t284)).setCell ⟨gb288,2,none⟩ (.int .i64 t285)).setCell ⟨gb288,3,none⟩ (.int .i64 t286))) := ⟨by repeat (first|(with_reducible first|exact HB.out|apply ba_|apply pd_|apply d1_|refine bs_ ?_ GE263.out|refine bs_ ?_ GE264.out|refine bs_ ?_ GE270.out|refine bs_ ?_ GE276.out|refine bs_ ?_ GE282.out|refine bs_ ?_ GE288.out)|exact HB.out)⟩
      (try clear BK263)
      (try clear BK264)
      (try clear BK270)
      (try clear BK276)
      (try clear BK282)
      (try clear BK288)
      (try clear HB)
      generalize ((((w36.setCell ⟨gb288,0,none⟩ (.int .i64 t283)).setCell ⟨gb288,1,none⟩ (.int .i64 t284)).setCell ⟨gb288,2,none⟩ (.int .i64 t285)).setCell ⟨gb288,3,none⟩ (.int .i64 t286)) = w53 at n0_ n1_ n2_ n3_ n4_ n5_ n6_ ⊢
      have BK263 := n0_
      have BK264 := n1_
      have BK270 := n2_
      have BK276 := n3_
      have BK282 := n4_
      have BK288 := n5_
      have HB := n6_
      clear n0_ n1_ n2_ n3_ n4_ n5_ n6_
      have n0_ := sd_ (kd_ BK263.out)
      have n1_ := sd_ (kd_ BK264.out)
      have n2_ := sd_ (kd_ BK270.out)
      have n3_ := sd_ (kd_ BK276.out)
      have n4_ := sd_ (kd_ BK282.out)
      have n5_ := sd_ (kd_ BK288.out)
      have n6_ := sd_ (d1_ HB.out)
      clear BK263
      clear BK264
      clear BK270
      clear BK276
      clear BK282
      clear BK288
      clear HB
      have BK263 := n0_
      have BK264 := n1_
      have BK270 := n2_
      have BK276 := n3_
      have BK282 := n4_
      have BK288 := n5_
      have HB := n6_
      clear n0_ n1_ n2_ n3_ n4_ n5_ n6_
      refine start_ (n := 25) (S := fun w' => w'.cell? ⟨gb270,0,none⟩ = some (.int .i64 t265) ∧ w'.cell? ⟨gb270,1,none⟩ = some (.int .i64 t266) ∧ w'.cell? ⟨gb270,2,none⟩ = some (.int .i64 t267) ∧ w'.cell? ⟨gb270,3,none⟩ = some (.int .i64 t268) ∧ w'.cell? ⟨gb276,0,none⟩ = some (.int .i64 t271) ∧ w'.cell? ⟨gb276,1,none⟩ = some (.int .i64 t272) ∧ w'.cell? ⟨gb276,2,none⟩ = some (.int .i64 t273) ∧ w'.cell? ⟨gb276,3,none⟩ = some (.int .i64 t274) ∧ w'.cell? ⟨gb282,0,none⟩ = some (.int .i64 t277) ∧ w'.cell? ⟨gb282,1,none⟩ = some (.int .i64 t278) ∧ w'.cell? ⟨gb282,2,none⟩ = some (.int .i64 t279) ∧ w'.cell? ⟨gb282,3,none⟩ = some (.int .i64 t280) ∧ w'.cell? ⟨gb288,0,none⟩ = some (.int .i64 t283) ∧ w'.cell? ⟨gb288,1,none⟩ = some (.int .i64 t284) ∧ w'.cell? ⟨gb288,2,none⟩ = some (.int .i64 t285) ∧ w'.cell? ⟨gb288,3,none⟩ = some (.int .i64 t286) ∧ w'.cell? ⟨gb263,0,none⟩ = some (.int .i64 a0_0) ∧ w'.cell? ⟨gb263,1,none⟩ = some (.int .i64 a0_1) ∧ w'.cell? ⟨gb263,2,none⟩ = some (.int .i64 a0_2) ∧ w'.cell? ⟨gb263,3,none⟩ = some (.int .i64 a0_3)) (ds := []) #[false,false,false,false,false,false,false,false,false,false,false,false,false,false,false,false,false,false,false,false,false,false,false,false,false] (by kernel_rfl) rfl rfl ⟨(kc_ BK270.out 0).trans rfl,(kc_ BK270.out 1).trans rfl,(kc_ BK270.out 2).trans rfl,(kc_ BK270.out 3).trans rfl,(kc_ BK276.out 0).trans rfl,(kc_ BK276.out 1).trans rfl,(kc_ BK276.out 2).trans rfl,(kc_ BK276.out 3).trans rfl,(kc_ BK282.out 0).trans rfl,(kc_ BK282.out 1).trans rfl,(kc_ BK282.out 2).trans rfl,(kc_ BK282.out 3).trans rfl,(kc_ BK288.out 0).trans rfl,(kc_ BK288.out 1).trans rfl,(kc_ BK288.out 2).trans rfl,(kc_ BK288.out 3).trans rfl,(kc_ BK263.out 0).trans rfl,(kc_ BK263.out 1).trans rfl,(kc_ BK263.out 2).trans rfl,(kc_ BK263.out 3).trans rfl⟩ (fun hHeld => ?_);refine with_tabW neumelaw03_BoxTells.tab5 neumelaw03_BoxTells.bits5 (fun HT_ HW_ => ?_)
      generalize w53.drew = w54 at BK263 BK264 BK270 BK276 BK282 BK288 HB hHeld ⊢
      refine take_ (i := 0) (N := some 43) (v := ?_) (a' := ?_) #[true,false,false,false,false,false,false,false,false,false,false,false,false,false,false,false,false,false,false,false,false,false,false,false,false] rfl rfl (take_ofW HT_.out HW_.out (by kernel_rfl)) (fun _ _ _ h => h) (Or.inl ⟨by rfl,?_⟩) hHeld ?_ ?_
      rotate_left
      ·rintro w' ⟨s0,s1,s2,s3,s4,s5,s6,s7,s8,s9,s10,s11,s12,s13,s14,s15,s16,s17,s18,s19⟩
       go_simp
       with_reducible rfl
      rotate_left
      ·simp only [Act.put,ls_,lz_,lc_,i64_w,i32_w]
       rfl
      refine take_ (i := 1) (N := some 44) (v := ?_) (a' := ?_) #[true,true,false,false,false,false,false,false,false,false,false,false,false,false,false,false,false,false,false,false,false,false,false,false,false] rfl rfl (take_ofW HT_.out HW_.out (by kernel_rfl)) (fun _ _ _ h => h) (Or.inl ⟨by rfl,?_⟩) hHeld ?_ ?_
      rotate_left
      ·rintro w' ⟨s0,s1,s2,s3,s4,s5,s6,s7,s8,s9,s10,s11,s12,s13,s14,s15,s16,s17,s18,s19⟩
       go_simp
       with_reducible rfl
      rotate_left
      ·simp only [Act.put,ls_,lz_,lc_,i64_w,i32_w]
       rfl
      refine pure_ (i := 2) (N := some 45) (v := ?_) (a' := ?_) #[true,true,true,false,false,false,false,false,false,false,false,false,false,false,false,false,false,false,false,false,false,false,false,false,false] rfl rfl (any_of HT_.out (by kernel_rfl)) (fun _ _ _ h => h) (Or.inl ⟨by rfl,?_⟩) ?_ ?_
      rotate_left;(intro w';go_simp;with_reducible rfl);rotate_left;(simp only [Act.put,ls_,lz_,lc_,i64_w,i32_w];rfl)
      refine pure_ (i := 3) (N := some 46) (v := ?_) (a' := ?_) #[true,true,true,true,false,false,false,false,false,false,false,false,false,false,false,false,false,false,false,false,false,false,false,false,false] rfl rfl (any_of HT_.out (by kernel_rfl)) (fun _ _ _ h => h) (Or.inl ⟨by rfl,?_⟩) ?_ ?_
      rotate_left;(intro w';go_simp;with_reducible rfl);rotate_left;(simp only [Act.put,ls_,lz_,lc_,i64_w,i32_w];rfl)
      refine pure_ (i := 4) (N := some 47) (v := ?_) (a' := ?_) #[true,true,true,true,true,false,false,false,false,false,false,false,false,false,false,false,false,false,false,false,false,false,false,false,false] rfl rfl (any_of HT_.out (by kernel_rfl)) (fun _ _ _ h => h) (Or.inl ⟨by rfl,?_⟩) ?_ ?_
      rotate_left;(intro w';go_simp;with_reducible rfl);rotate_left;(simp only [Act.put,ls_,lz_,lc_,i64_w,i32_w];rfl)
      refine pure_ (i := 5) (N := some 48) (v := ?_) (a' := ?_) #[true,true,true,true,true,true,false,false,false,false,false,false,false,false,false,false,false,false,false,false,false,false,false,false,false] rfl rfl (any_of HT_.out (by kernel_rfl)) (fun _ _ _ h => h) (Or.inl ⟨by rfl,?_⟩) ?_ ?_
      rotate_left;(intro w';go_simp;with_reducible rfl);rotate_left;(simp only [Act.put,ls_,lz_,lc_,i64_w,i32_w];rfl)
      refine pure_ (i := 6) (N := some 49) (v := ?_) (a' := ?_) #[true,true,true,true,true,true,true,false,false,false,false,false,false,false,false,false,false,false,false,false,false,false,false,false,false] rfl rfl (any_of HT_.out (by kernel_rfl)) (fun _ _ _ h => h) (Or.inl ⟨by rfl,?_⟩) ?_ ?_
      rotate_left;(intro w';go_simp;with_reducible rfl);rotate_left;(simp only [Act.put,ls_,lz_,lc_,i64_w,i32_w];rfl)
      refine pure_ (i := 7) (N := some 50) (v := ?_) (a' := ?_) #[true,true,true,true,true,true,true,true,false,false,false,false,false,false,false,false,false,false,false,false,false,false,false,false,false] rfl rfl (any_of HT_.out (by kernel_rfl)) (fun _ _ _ h => h) (Or.inl ⟨by rfl,?_⟩) ?_ ?_
      rotate_left;(intro w';go_simp;with_reducible rfl);rotate_left;(simp only [Act.put,ls_,lz_,lc_,i64_w,i32_w];rfl)
      refine pure_ (i := 8) (N := some 51) (v := ?_) (a' := ?_) #[true,true,true,true,true,true,true,true,true,false,false,false,false,false,false,false,false,false,false,false,false,false,false,false,false] rfl rfl (any_of HT_.out (by kernel_rfl)) (fun _ _ _ h => h) (Or.inl ⟨by rfl,?_⟩) ?_ ?_
      rotate_left;(intro w';go_simp;with_reducible rfl);rotate_left;(simp only [Act.put,ls_,lz_,lc_,i64_w,i32_w];rfl)
      refine take_ (i := 9) (N := some 52) (v := ?_) (a' := ?_) #[true,true,true,true,true,true,true,true,true,true,false,false,false,false,false,false,false,false,false,false,false,false,false,false,false] rfl rfl (take_ofW HT_.out HW_.out (by kernel_rfl)) (fun _ _ _ h => h) (Or.inl ⟨by rfl,?_⟩) hHeld ?_ ?_
      rotate_left
      ·rintro w' ⟨s0,s1,s2,s3,s4,s5,s6,s7,s8,s9,s10,s11,s12,s13,s14,s15,s16,s17,s18,s19⟩
       go_simp
       with_reducible rfl
      rotate_left
      ·simp only [Act.put,ls_,lz_,lc_,i64_w,i32_w]
       rfl
      refine take_ (i := 10) (N := some 53) (v := ?_) (a' := ?_) #[true,true,true,true,true,true,true,true,true,true,true,false,false,false,false,false,false,false,false,false,false,false,false,false,false] rfl rfl (take_ofW HT_.out HW_.out (by kernel_rfl)) (fun _ _ _ h => h) (Or.inl ⟨by rfl,?_⟩) hHeld ?_ ?_
      rotate_left
      ·rintro w' ⟨s0,s1,s2,s3,s4,s5,s6,s7,s8,s9,s10,s11,s12,s13,s14,s15,s16,s17,s18,s19⟩
       go_simp
       with_reducible rfl
      rotate_left
      ·simp only [Act.put,ls_,lz_,lc_,i64_w,i32_w]
       rfl
      refine pure_ (i := 11) (N := some 54) (v := ?_) (a' := ?_) #[true,true,true,true,true,true,true,true,true,true,true,true,false,false,false,false,false,false,false,false,false,false,false,false,false] rfl rfl (any_of HT_.out (by kernel_rfl)) (fun _ _ _ h => h) (Or.inl ⟨by rfl,?_⟩) ?_ ?_
      rotate_left;(intro w';go_simp;with_reducible rfl);rotate_left;(simp only [Act.put,ls_,lz_,lc_,i64_w,i32_w];rfl)
      refine pure_ (i := 12) (N := some 55) (v := ?_) (a' := ?_) #[true,true,true,true,true,true,true,true,true,true,true,true,true,false,false,false,false,false,false,false,false,false,false,false,false] rfl rfl (any_of HT_.out (by kernel_rfl)) (fun _ _ _ h => h) (Or.inl ⟨by rfl,?_⟩) ?_ ?_
      rotate_left;(intro w';go_simp;with_reducible rfl);rotate_left;(simp only [Act.put,ls_,lz_,lc_,i64_w,i32_w];rfl)
      refine pure_ (i := 13) (N := some 56) (v := ?_) (a' := ?_) #[true,true,true,true,true,true,true,true,true,true,true,true,true,true,false,false,false,false,false,false,false,false,false,false,false] rfl rfl (any_of HT_.out (by kernel_rfl)) (fun _ _ _ h => h) (Or.inl ⟨by rfl,?_⟩) ?_ ?_
      rotate_left;(intro w';go_simp;with_reducible rfl);rotate_left;(simp only [Act.put,ls_,lz_,lc_,i64_w,i32_w];rfl)
      refine pure_ (i := 14) (N := some 57) (v := ?_) (a' := ?_) #[true,true,true,true,true,true,true,true,true,true,true,true,true,true,true,false,false,false,false,false,false,false,false,false,false] rfl rfl (any_of HT_.out (by kernel_rfl)) (fun _ _ _ h => h) (Or.inl ⟨by rfl,?_⟩) ?_ ?_
      rotate_left;(intro w';go_simp;with_reducible rfl);rotate_left;(simp only [Act.put,ls_,lz_,lc_,i64_w,i32_w];rfl)
      refine pure_ (i := 15) (N := some 58) (v := ?_) (a' := ?_) #[true,true,true,true,true,true,true,true,true,true,true,true,true,true,true,true,false,false,false,false,false,false,false,false,false] rfl rfl (any_of HT_.out (by kernel_rfl)) (fun _ _ _ h => h) (Or.inl ⟨by rfl,?_⟩) ?_ ?_
      rotate_left;(intro w';go_simp;with_reducible rfl);rotate_left;(simp only [Act.put,ls_,lz_,lc_,i64_w,i32_w];rfl)
      refine pure_ (i := 16) (N := some 59) (v := ?_) (a' := ?_) #[true,true,true,true,true,true,true,true,true,true,true,true,true,true,true,true,true,false,false,false,false,false,false,false,false] rfl rfl (any_of HT_.out (by kernel_rfl)) (fun _ _ _ h => h) (Or.inl ⟨by rfl,?_⟩) ?_ ?_
      rotate_left;(intro w';go_simp;with_reducible rfl);rotate_left;(simp only [Act.put,ls_,lz_,lc_,i64_w,i32_w];rfl)
      refine pure_ (i := 17) (N := some 60) (v := ?_) (a' := ?_) #[true,true,true,true,true,true,true,true,true,true,true,true,true,true,true,true,true,true,false,false,false,false,false,false,false] rfl rfl (any_of HT_.out (by kernel_rfl)) (fun _ _ _ h => h) (Or.inl ⟨by rfl,?_⟩) ?_ ?_
      rotate_left;(intro w';go_simp;with_reducible rfl);rotate_left;(simp only [Act.put,ls_,lz_,lc_,i64_w,i32_w];rfl)
      refine pure_ (i := 18) (N := some 61) (v := ?_) (a' := ?_) #[true,true,true,true,true,true,true,true,true,true,true,true,true,true,true,true,true,true,true,false,false,false,false,false,false] rfl rfl (any_of HT_.out (by kernel_rfl)) (fun _ _ _ h => h) (Or.inl ⟨by rfl,?_⟩) ?_ ?_
      rotate_left;(intro w';go_simp;with_reducible rfl);rotate_left;(simp only [Act.put,ls_,lz_,lc_,i64_w,i32_w];rfl)
      refine take_ (i := 19) (N := some 62) (v := ?_) (a' := ?_) #[true,true,true,true,true,true,true,true,true,true,true,true,true,true,true,true,true,true,true,true,false,false,false,false,false] rfl rfl (take_ofW HT_.out HW_.out (by kernel_rfl)) (fun _ _ _ h => h) (Or.inl ⟨by rfl,?_⟩) hHeld ?_ ?_
      rotate_left
      ·rintro w' ⟨s0,s1,s2,s3,s4,s5,s6,s7,s8,s9,s10,s11,s12,s13,s14,s15,s16,s17,s18,s19⟩
       go_simp
       with_reducible rfl
      rotate_left
      ·simp only [Act.put,ls_,lz_,lc_,i64_w,i32_w]
       rfl
      refine take_ (i := 21) (N := some 64) (v := ?_) (a' := ?_) #[true,true,true,true,true,true,true,true,true,true,true,true,true,true,true,true,true,true,true,true,false,true,false,false,false] rfl rfl (take_ofW HT_.out HW_.out (by kernel_rfl)) (fun _ _ _ h => h) (Or.inl ⟨by rfl,?_⟩) hHeld ?_ ?_
      rotate_left
      ·rintro w' ⟨s0,s1,s2,s3,s4,s5,s6,s7,s8,s9,s10,s11,s12,s13,s14,s15,s16,s17,s18,s19⟩
       go_simp
       with_reducible rfl
      rotate_left
      ·simp only [Act.put,ls_,lz_,lc_,i64_w,i32_w]
       rfl
      refine one_ (i := 20) (N := some 63) #[true,true,true,true,true,true,true,true,true,true,true,true,true,true,true,true,true,true,true,true,true,true,false,false,false] rfl rfl (one_of HT_.out (by kernel_rfl)) (by decide) (fun K hK => ?_)
      refine goes_ Tryd.func12 (by kernel_rfl) rfl #[.agg #[.int .i64 a0_0,.int .i64 a0_1,.int .i64 a0_2,.int .i64 a0_3]] (by rfl) rfl rfl (by (try simp only [lm_,lq_,lx_]);first|done|rfl|(simp only [ld_,lt_];rfl)) ?_
      with_reducible refine (box_Check.calls a0_0 a0_1 a0_2 a0_3 t289 _ A51.out).mono ?_
      rintro e w55 ⟨rfl,hb⟩
      refine ⟨_,rfl,?_⟩
      have n0_ := sd_ (blk_below (g := gb263) (o := .cells #[.int .i64 a0_0,.int .i64 a0_1,.int .i64 a0_2,.int .i64 a0_3] 23 (0,0)) (by (with_reducible repeat first|apply kn_|apply kd_|apply ka_);exact BK263.out) hb)
      have n1_ := sd_ (blk_below (g := gb264) (o := .cells #[.int .i64 a1_0,.int .i64 a1_1,.int .i64 a1_2,.int .i64 a1_3] 23 (0,0)) (by (with_reducible repeat first|apply kn_|apply kd_|apply ka_);exact BK264.out) hb)
      have n2_ := sd_ (blk_below (g := gb270) (o := .cells #[.int .i64 t265,.int .i64 t266,.int .i64 t267,.int .i64 t268] 23 (0,0)) (by (with_reducible repeat first|apply kn_|apply kd_|apply ka_);exact BK270.out) hb)
      have n3_ := sd_ (blk_below (g := gb276) (o := .cells #[.int .i64 t271,.int .i64 t272,.int .i64 t273,.int .i64 t274] 23 (0,0)) (by (with_reducible repeat first|apply kn_|apply kd_|apply ka_);exact BK276.out) hb)
      have n4_ := sd_ (blk_below (g := gb282) (o := .cells #[.int .i64 t277,.int .i64 t278,.int .i64 t279,.int .i64 t280] 23 (0,0)) (by (with_reducible repeat first|apply kn_|apply kd_|apply ka_);exact BK282.out) hb)
      have n5_ := sd_ (blk_below (g := gb288) (o := .cells #[.int .i64 t283,.int .i64 t284,.int .i64 t285,.int .i64 t286] 23 (0,0)) (by (with_reducible repeat first|apply kn_|apply kd_|apply ka_);exact BK288.out) hb)
      have n6_ := sd_ (bt_ (by repeat (first|(with_reducible first|exact HB.out|apply ba_|apply pd_|apply d1_|refine bs_ ?_ GE263.out|refine bs_ ?_ GE264.out|refine bs_ ?_ GE270.out|refine bs_ ?_ GE276.out|refine bs_ ?_ GE282.out|refine bs_ ?_ GE288.out)|exact HB.out)) hb)
      clear BK263
      clear BK264
      clear BK270
      clear BK276
      clear BK282
      clear BK288
      clear HB
      have BK263 := n0_
      have BK264 := n1_
      have BK270 := n2_
      have BK276 := n3_
      have BK282 := n4_
      have BK288 := n5_
      have HB := n6_
      clear n0_ n1_ n2_ n3_ n4_ n5_ n6_
      (try clear hb)
      (try clear hb2)
      (try clear hk)
      (try clear hi)
      refine hK.out _ _ ⟨(kc_ BK270.out 0).trans rfl,(kc_ BK270.out 1).trans rfl,(kc_ BK270.out 2).trans rfl,(kc_ BK270.out 3).trans rfl,(kc_ BK276.out 0).trans rfl,(kc_ BK276.out 1).trans rfl,(kc_ BK276.out 2).trans rfl,(kc_ BK276.out 3).trans rfl,(kc_ BK282.out 0).trans rfl,(kc_ BK282.out 1).trans rfl,(kc_ BK282.out 2).trans rfl,(kc_ BK282.out 3).trans rfl,(kc_ BK288.out 0).trans rfl,(kc_ BK288.out 1).trans rfl,(kc_ BK288.out 2).trans rfl,(kc_ BK288.out 3).trans rfl,(kc_ BK263.out 0).trans rfl,(kc_ BK263.out 1).trans rfl,(kc_ BK263.out 2).trans rfl,(kc_ BK263.out 3).trans rfl⟩ (fun hHeld => ?_)
      clear hK K
      refine norm_ (a' := ?_) ?_ ?_
      rotate_left
      ·show Act.put _ (some 63) _ = _
       simp only [Act.put,ls_,lz_,lc_,i64_w,i32_w]
       rfl
      refine one_ (i := 22) (N := some 65) #[true,true,true,true,true,true,true,true,true,true,true,true,true,true,true,true,true,true,true,true,true,true,true,false,false] rfl rfl (one_of HT_.out (by kernel_rfl)) (by decide) (fun K hK => ?_)
      refine goes_ Tryd.func13 (by kernel_rfl) rfl #[.agg #[.int .i64 a0_0,.int .i64 a0_1,.int .i64 a0_2,.int .i64 a0_3]] (by rfl) rfl rfl (by (try simp only [lm_,lq_,lx_]);first|done|rfl|(simp only [ld_,lt_];rfl)) ?_
      with_reducible refine (neumeref03_Check.calls a0_0 a0_1 a0_2 a0_3 t290 _ A52.out).mono ?_
      rintro e w56 ⟨rfl,hb⟩
      refine ⟨_,rfl,?_⟩
      have n0_ := sd_ (blk_below (g := gb263) (o := .cells #[.int .i64 a0_0,.int .i64 a0_1,.int .i64 a0_2,.int .i64 a0_3] 23 (0,0)) (by (with_reducible repeat first|apply kn_|apply kd_|apply ka_);exact BK263.out) hb)
      have n1_ := sd_ (blk_below (g := gb264) (o := .cells #[.int .i64 a1_0,.int .i64 a1_1,.int .i64 a1_2,.int .i64 a1_3] 23 (0,0)) (by (with_reducible repeat first|apply kn_|apply kd_|apply ka_);exact BK264.out) hb)
      have n2_ := sd_ (blk_below (g := gb270) (o := .cells #[.int .i64 t265,.int .i64 t266,.int .i64 t267,.int .i64 t268] 23 (0,0)) (by (with_reducible repeat first|apply kn_|apply kd_|apply ka_);exact BK270.out) hb)
      have n3_ := sd_ (blk_below (g := gb276) (o := .cells #[.int .i64 t271,.int .i64 t272,.int .i64 t273,.int .i64 t274] 23 (0,0)) (by (with_reducible repeat first|apply kn_|apply kd_|apply ka_);exact BK276.out) hb)
      have n4_ := sd_ (blk_below (g := gb282) (o := .cells #[.int .i64 t277,.int .i64 t278,.int .i64 t279,.int .i64 t280] 23 (0,0)) (by (with_reducible repeat first|apply kn_|apply kd_|apply ka_);exact BK282.out) hb)
      have n5_ := sd_ (blk_below (g := gb288) (o := .cells #[.int .i64 t283,.int .i64 t284,.int .i64 t285,.int .i64 t286] 23 (0,0)) (by (with_reducible repeat first|apply kn_|apply kd_|apply ka_);exact BK288.out) hb)
      have n6_ := sd_ (bt_ (by repeat (first|(with_reducible first|exact HB.out|apply ba_|apply pd_|apply d1_|refine bs_ ?_ GE263.out|refine bs_ ?_ GE264.out|refine bs_ ?_ GE270.out|refine bs_ ?_ GE276.out|refine bs_ ?_ GE282.out|refine bs_ ?_ GE288.out)|exact HB.out)) hb)
      clear BK263
      clear BK264
      clear BK270
      clear BK276
      clear BK282
      clear BK288
      clear HB
      have BK263 := n0_
      have BK264 := n1_
      have BK270 := n2_
      have BK276 := n3_
      have BK282 := n4_
      have BK288 := n5_
      have HB := n6_
      clear n0_ n1_ n2_ n3_ n4_ n5_ n6_
      (try clear hb)
      (try clear hb2)
      (try clear hk)
      (try clear hi)
      refine hK.out _ _ ⟨(kc_ BK270.out 0).trans rfl,(kc_ BK270.out 1).trans rfl,(kc_ BK270.out 2).trans rfl,(kc_ BK270.out 3).trans rfl,(kc_ BK276.out 0).trans rfl,(kc_ BK276.out 1).trans rfl,(kc_ BK276.out 2).trans rfl,(kc_ BK276.out 3).trans rfl,(kc_ BK282.out 0).trans rfl,(kc_ BK282.out 1).trans rfl,(kc_ BK282.out 2).trans rfl,(kc_ BK282.out 3).trans rfl,(kc_ BK288.out 0).trans rfl,(kc_ BK288.out 1).trans rfl,(kc_ BK288.out 2).trans rfl,(kc_ BK288.out 3).trans rfl,(kc_ BK263.out 0).trans rfl,(kc_ BK263.out 1).trans rfl,(kc_ BK263.out 2).trans rfl,(kc_ BK263.out 3).trans rfl⟩ (fun hHeld => ?_)
      clear hK K
      refine norm_ (a' := ?_) ?_ ?_
      rotate_left
      ·show Act.put _ (some 65) _ = _
       simp only [Act.put,ls_,lz_,lc_,i64_w,i32_w]
       rfl
      refine pure_ (i := 23) (N := some 66) (v := ?_) (a' := ?_) #[true,true,true,true,true,true,true,true,true,true,true,true,true,true,true,true,true,true,true,true,true,true,true,true,false] rfl rfl (any_of HT_.out (by kernel_rfl)) (fun _ _ _ h => h) (Or.inl ⟨by rfl,?_⟩) ?_ ?_
      rotate_left;(intro w';go_simp;with_reducible rfl);rotate_left;(simp only [Act.put,ls_,lz_,lc_,i64_w,i32_w];rfl)
      refine pure_ (i := 24) (N := some 67) (v := ?_) (a' := ?_) #[true,true,true,true,true,true,true,true,true,true,true,true,true,true,true,true,true,true,true,true,true,true,true,true,true] rfl rfl (any_of HT_.out (by kernel_rfl)) (fun _ _ _ h => h) (Or.inl ⟨by rfl,?_⟩) ?_ ?_
      rotate_left;(intro w';go_simp;with_reducible rfl);rotate_left;(simp only [Act.put,ls_,lz_,lc_,i64_w,i32_w];rfl)
      refine done_ (done_of HT_.out (by kernel_rfl)) ?_
      try go_wp2
      go_meet
      case rel => exact ⟨_,((t289 != t290)),(by first|rfl|(simp;done)|(simp [*];done)|(simp [bne];done)),H',⟨by first|omega|exact Nat.le_refl _⟩,⟨by (with_reducible repeat first|apply kn_|apply kd_|apply ka_);exact BK263.out⟩,⟨by (with_reducible repeat first|apply kn_|apply kd_|apply ka_);exact BK264.out⟩,⟨by (with_reducible repeat first|apply kn_|apply kd_|apply ka_);exact BK270.out⟩,⟨by (with_reducible repeat first|apply kn_|apply kd_|apply ka_);exact BK276.out⟩,⟨by (with_reducible repeat first|apply kn_|apply kd_|apply ka_);exact BK282.out⟩,⟨by (with_reducible repeat first|apply kn_|apply kd_|apply ka_);exact BK288.out⟩,⟨by repeat (first|(with_reducible first|exact HB.out|apply ba_|apply pd_|apply d1_|refine bs_ ?_ GE263.out|refine bs_ ?_ GE264.out|refine bs_ ?_ GE270.out|refine bs_ ?_ GE276.out|refine bs_ ?_ GE282.out|refine bs_ ?_ GE288.out)|exact HB.out)⟩⟩
     ·rw [if_neg c50] at H
      have c50b0 : (t281 == t287) = false := beq_eq_false_iff_ne.mpr c50
      have c50b1 : (t281 != t287) = true := bne_iff_ne.mpr c50
      have H' := sd_ H
      clear H
      try go_wp2
      have n0_ : Aside0 (((((w36.setCell ⟨gb288,0,none⟩ (.int .i64 t283)).setCell ⟨gb288,1,none⟩ (.int .i64 t284)).setCell ⟨gb288,2,none⟩ (.int .i64 t285)).setCell ⟨gb288,3,none⟩ (.int .i64 t286)).heap[gb263]? = some (.cells #[.int .i64 a0_0,.int .i64 a0_1,.int .i64 a0_2,.int .i64 a0_3] 23 (0,0))) := ⟨by (with_reducible repeat first|apply kn_|apply kd_|apply ka_);refine blk_far ?_ NB263_288.out _;(with_reducible repeat first|apply kn_|apply kd_|apply ka_);refine blk_far ?_ NB263_288.out _;(with_reducible repeat first|apply kn_|apply kd_|apply ka_);refine blk_far ?_ NB263_288.out _;(with_reducible repeat first|apply kn_|apply kd_|apply ka_);refine blk_far ?_ NB263_288.out _;(with_reducible repeat first|apply kn_|apply kd_|apply ka_);exact BK263.out⟩
      have n1_ : Aside0 (((((w36.setCell ⟨gb288,0,none⟩ (.int .i64 t283)).setCell ⟨gb288,1,none⟩ (.int .i64 t284)).setCell ⟨gb288,2,none⟩ (.int .i64 t285)).setCell ⟨gb288,3,none⟩ (.int .i64 t286)).heap[gb264]? = some (.cells #[.int .i64 a1_0,.int .i64 a1_1,.int .i64 a1_2,.int .i64 a1_3] 23 (0,0))) := ⟨by (with_reducible repeat first|apply kn_|apply kd_|apply ka_);refine blk_far ?_ NB264_288.out _;(with_reducible repeat first|apply kn_|apply kd_|apply ka_);refine blk_far ?_ NB264_288.out _;(with_reducible repeat first|apply kn_|apply kd_|apply ka_);refine blk_far ?_ NB264_288.out _;(with_reducible repeat first|apply kn_|apply kd_|apply ka_);refine blk_far ?_ NB264_288.out _;(with_reducible repeat first|apply kn_|apply kd_|apply ka_);exact BK264.out⟩
      have n2_ : Aside0 (((((w36.setCell ⟨gb288,0,none⟩ (.int .i64 t283)).setCell ⟨gb288,1,none⟩ (.int .i64 t284)).setCell ⟨gb288,2,none⟩ (.int .i64 t285)).setCell ⟨gb288,3,none⟩ (.int .i64 t286)).heap[gb270]? = some (.cells #[.int .i64 t265,.int .i64 t266,.int .i64 t267,.int .i64 t268] 23 (0,0))) := ⟨by (with_reducible repeat first|apply kn_|apply kd_|apply ka_);refine blk_far ?_ NB270_288.out _;(with_reducible repeat first|apply kn_|apply kd_|apply ka_);refine blk_far ?_ NB270_288.out _;(with_reducible repeat first|apply kn_|apply kd_|apply ka_);refine blk_far ?_ NB270_288.out _;(with_reducible repeat first|apply kn_|apply kd_|apply ka_);refine blk_far ?_ NB270_288.out _;(with_reducible repeat first|apply kn_|apply kd_|apply ka_);exact BK270.out⟩
      have n3_ : Aside0 (((((w36.setCell ⟨gb288,0,none⟩ (.int .i64 t283)).setCell ⟨gb288,1,none⟩ (.int .i64 t284)).setCell ⟨gb288,2,none⟩ (.int .i64 t285)).setCell ⟨gb288,3,none⟩ (.int .i64 t286)).heap[gb276]? = some (.cells #[.int .i64 t271,.int .i64 t272,.int .i64 t273,.int .i64 t274] 23 (0,0))) := ⟨by (with_reducible repeat first|apply kn_|apply kd_|apply ka_);refine blk_far ?_ NB276_288.out _;(with_reducible repeat first|apply kn_|apply kd_|apply ka_);refine blk_far ?_ NB276_288.out _;(with_reducible repeat first|apply kn_|apply kd_|apply ka_);refine blk_far ?_ NB276_288.out _;(with_reducible repeat first|apply kn_|apply kd_|apply ka_);refine blk_far ?_ NB276_288.out _;(with_reducible repeat first|apply kn_|apply kd_|apply ka_);exact BK276.out⟩
      have n4_ : Aside0 (((((w36.setCell ⟨gb288,0,none⟩ (.int .i64 t283)).setCell ⟨gb288,1,none⟩ (.int .i64 t284)).setCell ⟨gb288,2,none⟩ (.int .i64 t285)).setCell ⟨gb288,3,none⟩ (.int .i64 t286)).heap[gb282]? = some (.cells #[.int .i64 t277,.int .i64 t278,.int .i64 t279,.int .i64 t280] 23 (0,0))) := ⟨by (with_reducible repeat first|apply kn_|apply kd_|apply ka_);refine blk_far ?_ NB282_288.out _;(with_reducible repeat first|apply kn_|apply kd_|apply ka_);refine blk_far ?_ NB282_288.out _;(with_reducible repeat first|apply kn_|apply kd_|apply ka_);refine blk_far ?_ NB282_288.out _;(with_reducible repeat first|apply kn_|apply kd_|apply ka_);refine blk_far ?_ NB282_288.out _;(with_reducible repeat first|apply kn_|apply kd_|apply ka_);exact BK282.out⟩
      have n5_ : Aside0 (((((w36.setCell ⟨gb288,0,none⟩ (.int .i64 t283)).setCell ⟨gb288,1,none⟩ (.int .i64 t284)).setCell ⟨gb288,2,none⟩ (.int .i64 t285)).setCell ⟨gb288,3,none⟩ (.int .i64 t286)).heap[gb288]? = some (.cells #[.int .i64 t283,.int .i64 t284,.int .i64 t285,.int .i64 t286] 23 (0,0))) := ⟨by (with_reducible repeat first|apply kn_|apply kd_|apply ka_);refine blk_put (cs := #[.int .i64 t283,.int .i64 t284,.int .i64 t285,.int .i64 0]) ?_ 3 _ rfl;(with_reducible repeat first|apply kn_|apply kd_|apply ka_);refine blk_put (cs := #[.int .i64 t283,.int .i64 t284,.int .i64 0,.int .i64 0]) ?_ 2 _ rfl;(with_reducible repeat first|apply kn_|apply kd_|apply ka_);refine blk_put (cs := #[.int .i64 t283,.int .i64 0,.int .i64 0,.int .i64 0]) ?_ 1 _ rfl;(with_reducible repeat first|apply kn_|apply kd_|apply ka_);refine blk_put (cs := #[.int .i64 0,.int .i64 0,.int .i64 0,.int .i64 0]) ?_ 0 _ rfl;(with_reducible repeat first|apply kn_|apply kd_|apply ka_);exact BK288.out⟩
      have n6_ : Aside0 (Below w.heap.size w ((((w36.setCell ⟨gb288,0,none⟩ (.int .i64 t283)).setCell ⟨gb288,1,none⟩ (.int .i64 t284)).setCell ⟨gb288,2,none⟩ (.int .i64 t285)).setCell ⟨gb288,3,none⟩ (.int .i64 t286))) := ⟨by repeat (first|(with_reducible first|exact HB.out|apply ba_|apply pd_|apply d1_|refine bs_ ?_ GE263.out|refine bs_ ?_ GE264.out|refine bs_ ?_ GE270.out|refine bs_ ?_ GE276.out|refine bs_ ?_ GE282.out|refine bs_ ?_ GE288.out)|exact HB.out)⟩
      (try clear BK263)
      (try clear BK264)
      (try clear BK270)
      (try clear BK276)
      (try clear BK282)
      (try clear BK288)
      (try clear HB)
      generalize ((((w36.setCell ⟨gb288,0,none⟩ (.int .i64 t283)).setCell ⟨gb288,1,none⟩ (.int .i64 t284)).setCell ⟨gb288,2,none⟩ (.int .i64 t285)).setCell ⟨gb288,3,none⟩ (.int .i64 t286)) = w57 at n0_ n1_ n2_ n3_ n4_ n5_ n6_ ⊢
      have BK263 := n0_
      have BK264 := n1_
      have BK270 := n2_
      have BK276 := n3_
      have BK282 := n4_
      have BK288 := n5_
      have HB := n6_
      clear n0_ n1_ n2_ n3_ n4_ n5_ n6_
      have n0_ := sd_ (kd_ BK263.out)
      have n1_ := sd_ (kd_ BK264.out)
      have n2_ := sd_ (kd_ BK270.out)
      have n3_ := sd_ (kd_ BK276.out)
      have n4_ := sd_ (kd_ BK282.out)
      have n5_ := sd_ (kd_ BK288.out)
      have n6_ := sd_ (d1_ HB.out)
      clear BK263
      clear BK264
      clear BK270
      clear BK276
      clear BK282
      clear BK288
      clear HB
      have BK263 := n0_
      have BK264 := n1_
      have BK270 := n2_
      have BK276 := n3_
      have BK282 := n4_
      have BK288 := n5_
      have HB := n6_
      clear n0_ n1_ n2_ n3_ n4_ n5_ n6_
      refine start_ (n := 25) (S := fun w' => w'.cell? ⟨gb270,0,none⟩ = some (.int .i64 t265) ∧ w'.cell? ⟨gb270,1,none⟩ = some (.int .i64 t266) ∧ w'.cell? ⟨gb270,2,none⟩ = some (.int .i64 t267) ∧ w'.cell? ⟨gb270,3,none⟩ = some (.int .i64 t268) ∧ w'.cell? ⟨gb276,0,none⟩ = some (.int .i64 t271) ∧ w'.cell? ⟨gb276,1,none⟩ = some (.int .i64 t272) ∧ w'.cell? ⟨gb276,2,none⟩ = some (.int .i64 t273) ∧ w'.cell? ⟨gb276,3,none⟩ = some (.int .i64 t274) ∧ w'.cell? ⟨gb282,0,none⟩ = some (.int .i64 t277) ∧ w'.cell? ⟨gb282,1,none⟩ = some (.int .i64 t278) ∧ w'.cell? ⟨gb282,2,none⟩ = some (.int .i64 t279) ∧ w'.cell? ⟨gb282,3,none⟩ = some (.int .i64 t280) ∧ w'.cell? ⟨gb288,0,none⟩ = some (.int .i64 t283) ∧ w'.cell? ⟨gb288,1,none⟩ = some (.int .i64 t284) ∧ w'.cell? ⟨gb288,2,none⟩ = some (.int .i64 t285) ∧ w'.cell? ⟨gb288,3,none⟩ = some (.int .i64 t286)) (ds := []) #[false,false,false,false,false,false,false,false,false,false,false,false,false,false,false,false,false,false,false,false,false,false,false,false,false] (by kernel_rfl) rfl rfl ⟨(kc_ BK270.out 0).trans rfl,(kc_ BK270.out 1).trans rfl,(kc_ BK270.out 2).trans rfl,(kc_ BK270.out 3).trans rfl,(kc_ BK276.out 0).trans rfl,(kc_ BK276.out 1).trans rfl,(kc_ BK276.out 2).trans rfl,(kc_ BK276.out 3).trans rfl,(kc_ BK282.out 0).trans rfl,(kc_ BK282.out 1).trans rfl,(kc_ BK282.out 2).trans rfl,(kc_ BK282.out 3).trans rfl,(kc_ BK288.out 0).trans rfl,(kc_ BK288.out 1).trans rfl,(kc_ BK288.out 2).trans rfl,(kc_ BK288.out 3).trans rfl⟩ (fun hHeld => ?_);refine with_tabW neumelaw03_BoxTells.tab5 neumelaw03_BoxTells.bits5 (fun HT_ HW_ => ?_)
      generalize w57.drew = w58 at BK263 BK264 BK270 BK276 BK282 BK288 HB hHeld ⊢
      refine take_ (i := 0) (N := some 43) (v := ?_) (a' := ?_) #[true,false,false,false,false,false,false,false,false,false,false,false,false,false,false,false,false,false,false,false,false,false,false,false,false] rfl rfl (take_ofW HT_.out HW_.out (by kernel_rfl)) (fun _ _ _ h => h) (Or.inl ⟨by rfl,?_⟩) hHeld ?_ ?_
      rotate_left
      ·rintro w' ⟨s0,s1,s2,s3,s4,s5,s6,s7,s8,s9,s10,s11,s12,s13,s14,s15⟩
       go_simp
       with_reducible rfl
      rotate_left
      ·simp only [Act.put,ls_,lz_,lc_,i64_w,i32_w]
       rfl
      refine take_ (i := 1) (N := some 44) (v := ?_) (a' := ?_) #[true,true,false,false,false,false,false,false,false,false,false,false,false,false,false,false,false,false,false,false,false,false,false,false,false] rfl rfl (take_ofW HT_.out HW_.out (by kernel_rfl)) (fun _ _ _ h => h) (Or.inl ⟨by rfl,?_⟩) hHeld ?_ ?_
      rotate_left
      ·rintro w' ⟨s0,s1,s2,s3,s4,s5,s6,s7,s8,s9,s10,s11,s12,s13,s14,s15⟩
       go_simp
       with_reducible rfl
      rotate_left
      ·simp only [Act.put,ls_,lz_,lc_,i64_w,i32_w]
       rfl
      refine pure_ (i := 2) (N := some 45) (v := ?_) (a' := ?_) #[true,true,true,false,false,false,false,false,false,false,false,false,false,false,false,false,false,false,false,false,false,false,false,false,false] rfl rfl (any_of HT_.out (by kernel_rfl)) (fun _ _ _ h => h) (Or.inl ⟨by rfl,?_⟩) ?_ ?_
      rotate_left;(intro w';go_simp;with_reducible rfl);rotate_left;(simp only [Act.put,ls_,lz_,lc_,i64_w,i32_w];rfl)
      refine pure_ (i := 3) (N := some 46) (v := ?_) (a' := ?_) #[true,true,true,true,false,false,false,false,false,false,false,false,false,false,false,false,false,false,false,false,false,false,false,false,false] rfl rfl (any_of HT_.out (by kernel_rfl)) (fun _ _ _ h => h) (Or.inl ⟨by rfl,?_⟩) ?_ ?_
      rotate_left;(intro w';go_simp;with_reducible rfl);rotate_left;(simp only [Act.put,ls_,lz_,lc_,i64_w,i32_w];rfl)
      refine pure_ (i := 4) (N := some 47) (v := ?_) (a' := ?_) #[true,true,true,true,true,false,false,false,false,false,false,false,false,false,false,false,false,false,false,false,false,false,false,false,false] rfl rfl (any_of HT_.out (by kernel_rfl)) (fun _ _ _ h => h) (Or.inl ⟨by rfl,?_⟩) ?_ ?_
      rotate_left;(intro w';go_simp;with_reducible rfl);rotate_left;(simp only [Act.put,ls_,lz_,lc_,i64_w,i32_w];rfl)
      refine pure_ (i := 5) (N := some 48) (v := ?_) (a' := ?_) #[true,true,true,true,true,true,false,false,false,false,false,false,false,false,false,false,false,false,false,false,false,false,false,false,false] rfl rfl (any_of HT_.out (by kernel_rfl)) (fun _ _ _ h => h) (Or.inl ⟨by rfl,?_⟩) ?_ ?_
      rotate_left;(intro w';go_simp;with_reducible rfl);rotate_left;(simp only [Act.put,ls_,lz_,lc_,i64_w,i32_w];rfl)
      refine pure_ (i := 6) (N := some 49) (v := ?_) (a' := ?_) #[true,true,true,true,true,true,true,false,false,false,false,false,false,false,false,false,false,false,false,false,false,false,false,false,false] rfl rfl (any_of HT_.out (by kernel_rfl)) (fun _ _ _ h => h) (Or.inl ⟨by rfl,?_⟩) ?_ ?_
      rotate_left;(intro w';go_simp;with_reducible rfl);rotate_left;(simp only [Act.put,ls_,lz_,lc_,i64_w,i32_w];rfl)
      refine pure_ (i := 7) (N := some 50) (v := ?_) (a' := ?_) #[true,true,true,true,true,true,true,true,false,false,false,false,false,false,false,false,false,false,false,false,false,false,false,false,false] rfl rfl (any_of HT_.out (by kernel_rfl)) (fun _ _ _ h => h) (Or.inl ⟨by rfl,?_⟩) ?_ ?_
      rotate_left;(intro w';go_simp;with_reducible rfl);rotate_left;(simp only [Act.put,ls_,lz_,lc_,i64_w,i32_w];rfl)
      refine pure_ (i := 8) (N := some 51) (v := ?_) (a' := ?_) #[true,true,true,true,true,true,true,true,true,false,false,false,false,false,false,false,false,false,false,false,false,false,false,false,false] rfl rfl (any_of HT_.out (by kernel_rfl)) (fun _ _ _ h => h) (Or.inl ⟨by rfl,?_⟩) ?_ ?_
      rotate_left;(intro w';go_simp;with_reducible rfl);rotate_left;(simp only [Act.put,ls_,lz_,lc_,i64_w,i32_w];rfl)
      refine take_ (i := 9) (N := some 52) (v := ?_) (a' := ?_) #[true,true,true,true,true,true,true,true,true,true,false,false,false,false,false,false,false,false,false,false,false,false,false,false,false] rfl rfl (take_ofW HT_.out HW_.out (by kernel_rfl)) (fun _ _ _ h => h) (Or.inl ⟨by rfl,?_⟩) hHeld ?_ ?_
      rotate_left
      ·rintro w' ⟨s0,s1,s2,s3,s4,s5,s6,s7,s8,s9,s10,s11,s12,s13,s14,s15⟩
       go_simp
       with_reducible rfl
      rotate_left
      ·simp only [Act.put,ls_,lz_,lc_,i64_w,i32_w]
       rfl
      refine take_ (i := 10) (N := some 53) (v := ?_) (a' := ?_) #[true,true,true,true,true,true,true,true,true,true,true,false,false,false,false,false,false,false,false,false,false,false,false,false,false] rfl rfl (take_ofW HT_.out HW_.out (by kernel_rfl)) (fun _ _ _ h => h) (Or.inl ⟨by rfl,?_⟩) hHeld ?_ ?_
      rotate_left
      ·rintro w' ⟨s0,s1,s2,s3,s4,s5,s6,s7,s8,s9,s10,s11,s12,s13,s14,s15⟩
       go_simp
       with_reducible rfl
      rotate_left
      ·simp only [Act.put,ls_,lz_,lc_,i64_w,i32_w]
       rfl
      refine pure_ (i := 11) (N := some 54) (v := ?_) (a' := ?_) #[true,true,true,true,true,true,true,true,true,true,true,true,false,false,false,false,false,false,false,false,false,false,false,false,false] rfl rfl (any_of HT_.out (by kernel_rfl)) (fun _ _ _ h => h) (Or.inl ⟨by rfl,?_⟩) ?_ ?_
      rotate_left;(intro w';go_simp;with_reducible rfl);rotate_left;(simp only [Act.put,ls_,lz_,lc_,i64_w,i32_w];rfl)
      refine pure_ (i := 12) (N := some 55) (v := ?_) (a' := ?_) #[true,true,true,true,true,true,true,true,true,true,true,true,true,false,false,false,false,false,false,false,false,false,false,false,false] rfl rfl (any_of HT_.out (by kernel_rfl)) (fun _ _ _ h => h) (Or.inl ⟨by rfl,?_⟩) ?_ ?_
      rotate_left;(intro w';go_simp;with_reducible rfl);rotate_left;(simp only [Act.put,ls_,lz_,lc_,i64_w,i32_w];rfl)
      refine pure_ (i := 13) (N := some 56) (v := ?_) (a' := ?_) #[true,true,true,true,true,true,true,true,true,true,true,true,true,true,false,false,false,false,false,false,false,false,false,false,false] rfl rfl (any_of HT_.out (by kernel_rfl)) (fun _ _ _ h => h) (Or.inl ⟨by rfl,?_⟩) ?_ ?_
      rotate_left;(intro w';go_simp;with_reducible rfl);rotate_left;(simp only [Act.put,ls_,lz_,lc_,i64_w,i32_w];rfl)
      refine pure_ (i := 14) (N := some 57) (v := ?_) (a' := ?_) #[true,true,true,true,true,true,true,true,true,true,true,true,true,true,true,false,false,false,false,false,false,false,false,false,false] rfl rfl (any_of HT_.out (by kernel_rfl)) (fun _ _ _ h => h) (Or.inl ⟨by rfl,?_⟩) ?_ ?_
      rotate_left;(intro w';go_simp;with_reducible rfl);rotate_left;(simp only [Act.put,ls_,lz_,lc_,i64_w,i32_w];rfl)
      refine pure_ (i := 15) (N := some 58) (v := ?_) (a' := ?_) #[true,true,true,true,true,true,true,true,true,true,true,true,true,true,true,true,false,false,false,false,false,false,false,false,false] rfl rfl (any_of HT_.out (by kernel_rfl)) (fun _ _ _ h => h) (Or.inl ⟨by rfl,?_⟩) ?_ ?_
      rotate_left;(intro w';go_simp;with_reducible rfl);rotate_left;(simp only [Act.put,ls_,lz_,lc_,i64_w,i32_w];rfl)
      refine pure_ (i := 16) (N := some 59) (v := ?_) (a' := ?_) #[true,true,true,true,true,true,true,true,true,true,true,true,true,true,true,true,true,false,false,false,false,false,false,false,false] rfl rfl (any_of HT_.out (by kernel_rfl)) (fun _ _ _ h => h) (Or.inl ⟨by rfl,?_⟩) ?_ ?_
      rotate_left;(intro w';go_simp;with_reducible rfl);rotate_left;(simp only [Act.put,ls_,lz_,lc_,i64_w,i32_w];rfl)
      refine pure_ (i := 17) (N := some 60) (v := ?_) (a' := ?_) #[true,true,true,true,true,true,true,true,true,true,true,true,true,true,true,true,true,true,false,false,false,false,false,false,false] rfl rfl (any_of HT_.out (by kernel_rfl)) (fun _ _ _ h => h) (Or.inl ⟨by rfl,?_⟩) ?_ ?_
      rotate_left;(intro w';go_simp;with_reducible rfl);rotate_left;(simp only [Act.put,ls_,lz_,lc_,i64_w,i32_w];rfl)
      refine pure_ (i := 18) (N := some 61) (v := ?_) (a' := ?_) #[true,true,true,true,true,true,true,true,true,true,true,true,true,true,true,true,true,true,true,false,false,false,false,false,false] rfl rfl (any_of HT_.out (by kernel_rfl)) (fun _ _ _ h => h) (Or.inl ⟨by rfl,?_⟩) ?_ ?_
      rotate_left;(intro w';go_simp;with_reducible rfl);rotate_left;(simp only [Act.put,ls_,lz_,lc_,i64_w,i32_w];rfl)
      refine pure_ (i := 19) (N := some 62) (v := undef) (a' := ?_) #[true,true,true,true,true,true,true,true,true,true,true,true,true,true,true,true,true,true,true,true,false,false,false,false,false] rfl rfl (any_of HT_.out (by kernel_rfl)) (fun _ _ _ h => h) (Or.inr ⟨by rfl,rfl⟩) ?_ ?_
      rotate_left
      ·simp only [Act.put,ls_,lz_,lc_,i64_w,i32_w]
       rfl
      refine pure_ (i := 20) (N := some 63) (v := undef) (a' := ?_) #[true,true,true,true,true,true,true,true,true,true,true,true,true,true,true,true,true,true,true,true,true,false,false,false,false] rfl rfl (any_of HT_.out (by kernel_rfl)) (fun _ _ _ h => h) (Or.inr ⟨by rfl,rfl⟩) ?_ ?_
      rotate_left
      ·simp only [Act.put,ls_,lz_,lc_,i64_w,i32_w]
       rfl
      refine pure_ (i := 21) (N := some 64) (v := undef) (a' := ?_) #[true,true,true,true,true,true,true,true,true,true,true,true,true,true,true,true,true,true,true,true,true,true,false,false,false] rfl rfl (any_of HT_.out (by kernel_rfl)) (fun _ _ _ h => h) (Or.inr ⟨by rfl,rfl⟩) ?_ ?_
      rotate_left
      ·simp only [Act.put,ls_,lz_,lc_,i64_w,i32_w]
       rfl
      refine pure_ (i := 22) (N := some 65) (v := undef) (a' := ?_) #[true,true,true,true,true,true,true,true,true,true,true,true,true,true,true,true,true,true,true,true,true,true,true,false,false] rfl rfl (any_of HT_.out (by kernel_rfl)) (fun _ _ _ h => h) (Or.inr ⟨by rfl,rfl⟩) ?_ ?_
      rotate_left
      ·simp only [Act.put,ls_,lz_,lc_,i64_w,i32_w]
       rfl
      refine pure_ (i := 23) (N := some 66) (v := undef) (a' := ?_) #[true,true,true,true,true,true,true,true,true,true,true,true,true,true,true,true,true,true,true,true,true,true,true,true,false] rfl rfl (any_of HT_.out (by kernel_rfl)) (fun _ _ _ h => h) (Or.inr ⟨by rfl,rfl⟩) ?_ ?_
      rotate_left
      ·simp only [Act.put,ls_,lz_,lc_,i64_w,i32_w]
       rfl
      refine pure_ (i := 24) (N := some 67) (v := ?_) (a' := ?_) #[true,true,true,true,true,true,true,true,true,true,true,true,true,true,true,true,true,true,true,true,true,true,true,true,true] rfl rfl (any_of HT_.out (by kernel_rfl)) (fun _ _ _ h => h) (Or.inl ⟨by rfl,?_⟩) ?_ ?_
      rotate_left;(intro w';go_simp;with_reducible rfl);rotate_left;(simp only [Act.put,ls_,lz_,lc_,i64_w,i32_w];rfl)
      refine done_ (done_of HT_.out (by kernel_rfl)) ?_
      try go_wp2
      go_meet
      case rel => exact ⟨_,(true),(by first|rfl|(simp;done)|(simp [*];done)|(simp [bne];done)),H',⟨by first|omega|exact Nat.le_refl _⟩,⟨by (with_reducible repeat first|apply kn_|apply kd_|apply ka_);exact BK263.out⟩,⟨by (with_reducible repeat first|apply kn_|apply kd_|apply ka_);exact BK264.out⟩,⟨by (with_reducible repeat first|apply kn_|apply kd_|apply ka_);exact BK270.out⟩,⟨by (with_reducible repeat first|apply kn_|apply kd_|apply ka_);exact BK276.out⟩,⟨by (with_reducible repeat first|apply kn_|apply kd_|apply ka_);exact BK282.out⟩,⟨by (with_reducible repeat first|apply kn_|apply kd_|apply ka_);exact BK288.out⟩,⟨by repeat (first|(with_reducible first|exact HB.out|apply ba_|apply pd_|apply d1_|refine bs_ ?_ GE263.out|refine bs_ ?_ GE264.out|refine bs_ ?_ GE270.out|refine bs_ ?_ GE276.out|refine bs_ ?_ GE282.out|refine bs_ ?_ GE288.out)|exact HB.out)⟩⟩
   ·rw [if_neg c46] at H
    have c46b0 : (t269 == t275) = false := beq_eq_false_iff_ne.mpr c46
    have c46b1 : (t269 != t275) = true := bne_iff_ne.mpr c46
    have H' := sd_ H
    clear H
    try go_wp2
    have n0_ : Aside0 (((((w36.setCell ⟨gb288,0,none⟩ (.int .i64 t283)).setCell ⟨gb288,1,none⟩ (.int .i64 t284)).setCell ⟨gb288,2,none⟩ (.int .i64 t285)).setCell ⟨gb288,3,none⟩ (.int .i64 t286)).heap[gb263]? = some (.cells #[.int .i64 a0_0,.int .i64 a0_1,.int .i64 a0_2,.int .i64 a0_3] 23 (0,0))) := ⟨by (with_reducible repeat first|apply kn_|apply kd_|apply ka_);refine blk_far ?_ NB263_288.out _;(with_reducible repeat first|apply kn_|apply kd_|apply ka_);refine blk_far ?_ NB263_288.out _;(with_reducible repeat first|apply kn_|apply kd_|apply ka_);refine blk_far ?_ NB263_288.out _;(with_reducible repeat first|apply kn_|apply kd_|apply ka_);refine blk_far ?_ NB263_288.out _;(with_reducible repeat first|apply kn_|apply kd_|apply ka_);exact BK263.out⟩
    have n1_ : Aside0 (((((w36.setCell ⟨gb288,0,none⟩ (.int .i64 t283)).setCell ⟨gb288,1,none⟩ (.int .i64 t284)).setCell ⟨gb288,2,none⟩ (.int .i64 t285)).setCell ⟨gb288,3,none⟩ (.int .i64 t286)).heap[gb264]? = some (.cells #[.int .i64 a1_0,.int .i64 a1_1,.int .i64 a1_2,.int .i64 a1_3] 23 (0,0))) := ⟨by (with_reducible repeat first|apply kn_|apply kd_|apply ka_);refine blk_far ?_ NB264_288.out _;(with_reducible repeat first|apply kn_|apply kd_|apply ka_);refine blk_far ?_ NB264_288.out _;(with_reducible repeat first|apply kn_|apply kd_|apply ka_);refine blk_far ?_ NB264_288.out _;(with_reducible repeat first|apply kn_|apply kd_|apply ka_);refine blk_far ?_ NB264_288.out _;(with_reducible repeat first|apply kn_|apply kd_|apply ka_);exact BK264.out⟩
    have n2_ : Aside0 (((((w36.setCell ⟨gb288,0,none⟩ (.int .i64 t283)).setCell ⟨gb288,1,none⟩ (.int .i64 t284)).setCell ⟨gb288,2,none⟩ (.int .i64 t285)).setCell ⟨gb288,3,none⟩ (.int .i64 t286)).heap[gb270]? = some (.cells #[.int .i64 t265,.int .i64 t266,.int .i64 t267,.int .i64 t268] 23 (0,0))) := ⟨by (with_reducible repeat first|apply kn_|apply kd_|apply ka_);refine blk_far ?_ NB270_288.out _;(with_reducible repeat first|apply kn_|apply kd_|apply ka_);refine blk_far ?_ NB270_288.out _;(with_reducible repeat first|apply kn_|apply kd_|apply ka_);refine blk_far ?_ NB270_288.out _;(with_reducible repeat first|apply kn_|apply kd_|apply ka_);refine blk_far ?_ NB270_288.out _;(with_reducible repeat first|apply kn_|apply kd_|apply ka_);exact BK270.out⟩
    have n3_ : Aside0 (((((w36.setCell ⟨gb288,0,none⟩ (.int .i64 t283)).setCell ⟨gb288,1,none⟩ (.int .i64 t284)).setCell ⟨gb288,2,none⟩ (.int .i64 t285)).setCell ⟨gb288,3,none⟩ (.int .i64 t286)).heap[gb276]? = some (.cells #[.int .i64 t271,.int .i64 t272,.int .i64 t273,.int .i64 t274] 23 (0,0))) := ⟨by (with_reducible repeat first|apply kn_|apply kd_|apply ka_);refine blk_far ?_ NB276_288.out _;(with_reducible repeat first|apply kn_|apply kd_|apply ka_);refine blk_far ?_ NB276_288.out _;(with_reducible repeat first|apply kn_|apply kd_|apply ka_);refine blk_far ?_ NB276_288.out _;(with_reducible repeat first|apply kn_|apply kd_|apply ka_);refine blk_far ?_ NB276_288.out _;(with_reducible repeat first|apply kn_|apply kd_|apply ka_);exact BK276.out⟩
    have n4_ : Aside0 (((((w36.setCell ⟨gb288,0,none⟩ (.int .i64 t283)).setCell ⟨gb288,1,none⟩ (.int .i64 t284)).setCell ⟨gb288,2,none⟩ (.int .i64 t285)).setCell ⟨gb288,3,none⟩ (.int .i64 t286)).heap[gb282]? = some (.cells #[.int .i64 t277,.int .i64 t278,.int .i64 t279,.int .i64 t280] 23 (0,0))) := ⟨by (with_reducible repeat first|apply kn_|apply kd_|apply ka_);refine blk_far ?_ NB282_288.out _;(with_reducible repeat first|apply kn_|apply kd_|apply ka_);refine blk_far ?_ NB282_288.out _;(with_reducible repeat first|apply kn_|apply kd_|apply ka_);refine blk_far ?_ NB282_288.out _;(with_reducible repeat first|apply kn_|apply kd_|apply ka_);refine blk_far ?_ NB282_288.out _;(with_reducible repeat first|apply kn_|apply kd_|apply ka_);exact BK282.out⟩
    have n5_ : Aside0 (((((w36.setCell ⟨gb288,0,none⟩ (.int .i64 t283)).setCell ⟨gb288,1,none⟩ (.int .i64 t284)).setCell ⟨gb288,2,none⟩ (.int .i64 t285)).setCell ⟨gb288,3,none⟩ (.int .i64 t286)).heap[gb288]? = some (.cells #[.int .i64 t283,.int .i64 t284,.int .i64 t285,.int .i64 t286] 23 (0,0))) := ⟨by (with_reducible repeat first|apply kn_|apply kd_|apply ka_);refine blk_put (cs := #[.int .i64 t283,.int .i64 t284,.int .i64 t285,.int .i64 0]) ?_ 3 _ rfl;(with_reducible repeat first|apply kn_|apply kd_|apply ka_);refine blk_put (cs := #[.int .i64 t283,.int .i64 t284,.int .i64 0,.int .i64 0]) ?_ 2 _ rfl;(with_reducible repeat first|apply kn_|apply kd_|apply ka_);refine blk_put (cs := #[.int .i64 t283,.int .i64 0,.int .i64 0,.int .i64 0]) ?_ 1 _ rfl;(with_reducible repeat first|apply kn_|apply kd_|apply ka_);refine blk_put (cs := #[.int .i64 0,.int .i64 0,.int .i64 0,.int .i64 0]) ?_ 0 _ rfl;(with_reducible repeat first|apply kn_|apply kd_|apply ka_);exact BK288.out⟩
    have n6_ : Aside0 (Below w.heap.size w ((((w36.setCell ⟨gb288,0,none⟩ (.int .i64 t283)).setCell ⟨gb288,1,none⟩ (.int .i64 t284)).setCell ⟨gb288,2,none⟩ (.int .i64 t285)).setCell ⟨gb288,3,none⟩ (.int .i64 t286))) := ⟨by repeat (first|(with_reducible first|exact HB.out|apply ba_|apply pd_|apply d1_|refine bs_ ?_ GE263.out|refine bs_ ?_ GE264.out|refine bs_ ?_ GE270.out|refine bs_ ?_ GE276.out|refine bs_ ?_ GE282.out|refine bs_ ?_ GE288.out)|exact HB.out)⟩
    (try clear BK263)
    (try clear BK264)
    (try clear BK270)
    (try clear BK276)
    (try clear BK282)
    (try clear BK288)
    (try clear HB)
    generalize ((((w36.setCell ⟨gb288,0,none⟩ (.int .i64 t283)).setCell ⟨gb288,1,none⟩ (.int .i64 t284)).setCell ⟨gb288,2,none⟩ (.int .i64 t285)).setCell ⟨gb288,3,none⟩ (.int .i64 t286)) = w59 at n0_ n1_ n2_ n3_ n4_ n5_ n6_ ⊢
    have BK263 := n0_
    have BK264 := n1_
    have BK270 := n2_
    have BK276 := n3_
    have BK282 := n4_
    have BK288 := n5_
    have HB := n6_
    clear n0_ n1_ n2_ n3_ n4_ n5_ n6_
    have n0_ := sd_ (kd_ BK263.out)
    have n1_ := sd_ (kd_ BK264.out)
    have n2_ := sd_ (kd_ BK270.out)
    have n3_ := sd_ (kd_ BK276.out)
    have n4_ := sd_ (kd_ BK282.out)
    have n5_ := sd_ (kd_ BK288.out)
    have n6_ := sd_ (d1_ HB.out)
    clear BK263
    clear BK264
    clear BK270
    clear BK276
    clear BK282
    clear BK288
    clear HB
    have BK263 := n0_
    have BK264 := n1_
    have BK270 := n2_
    have BK276 := n3_
    have BK282 := n4_
    have BK288 := n5_
    have HB := n6_
    clear n0_ n1_ n2_ n3_ n4_ n5_ n6_
    refine start_ (n := 25) (S := fun w' => w'.cell? ⟨gb270,0,none⟩ = some (.int .i64 t265) ∧ w'.cell? ⟨gb270,1,none⟩ = some (.int .i64 t266) ∧ w'.cell? ⟨gb270,2,none⟩ = some (.int .i64 t267) ∧ w'.cell? ⟨gb270,3,none⟩ = some (.int .i64 t268) ∧ w'.cell? ⟨gb276,0,none⟩ = some (.int .i64 t271) ∧ w'.cell? ⟨gb276,1,none⟩ = some (.int .i64 t272) ∧ w'.cell? ⟨gb276,2,none⟩ = some (.int .i64 t273) ∧ w'.cell? ⟨gb276,3,none⟩ = some (.int .i64 t274)) (ds := []) #[false,false,false,false,false,false,false,false,false,false,false,false,false,false,false,false,false,false,false,false,false,false,false,false,false] (by kernel_rfl) rfl rfl ⟨(kc_ BK270.out 0).trans rfl,(kc_ BK270.out 1).trans rfl,(kc_ BK270.out 2).trans rfl,(kc_ BK270.out 3).trans rfl,(kc_ BK276.out 0).trans rfl,(kc_ BK276.out 1).trans rfl,(kc_ BK276.out 2).trans rfl,(kc_ BK276.out 3).trans rfl⟩ (fun hHeld => ?_);refine with_tabW neumelaw03_BoxTells.tab5 neumelaw03_BoxTells.bits5 (fun HT_ HW_ => ?_)
    generalize w59.drew = w60 at BK263 BK264 BK270 BK276 BK282 BK288 HB hHeld ⊢
    refine take_ (i := 0) (N := some 43) (v := ?_) (a' := ?_) #[true,false,false,false,false,false,false,false,false,false,false,false,false,false,false,false,false,false,false,false,false,false,false,false,false] rfl rfl (take_ofW HT_.out HW_.out (by kernel_rfl)) (fun _ _ _ h => h) (Or.inl ⟨by rfl,?_⟩) hHeld ?_ ?_
    rotate_left
    ·rintro w' ⟨s0,s1,s2,s3,s4,s5,s6,s7⟩
     go_simp
     with_reducible rfl
    rotate_left
    ·simp only [Act.put,ls_,lz_,lc_,i64_w,i32_w]
     rfl
    refine take_ (i := 1) (N := some 44) (v := ?_) (a' := ?_) #[true,true,false,false,false,false,false,false,false,false,false,false,false,false,false,false,false,false,false,false,false,false,false,false,false] rfl rfl (take_ofW HT_.out HW_.out (by kernel_rfl)) (fun _ _ _ h => h) (Or.inl ⟨by rfl,?_⟩) hHeld ?_ ?_
    rotate_left
    ·rintro w' ⟨s0,s1,s2,s3,s4,s5,s6,s7⟩
     go_simp
     with_reducible rfl
    rotate_left
    ·simp only [Act.put,ls_,lz_,lc_,i64_w,i32_w]
     rfl
    refine pure_ (i := 2) (N := some 45) (v := ?_) (a' := ?_) #[true,true,true,false,false,false,false,false,false,false,false,false,false,false,false,false,false,false,false,false,false,false,false,false,false] rfl rfl (any_of HT_.out (by kernel_rfl)) (fun _ _ _ h => h) (Or.inl ⟨by rfl,?_⟩) ?_ ?_
    rotate_left;(intro w';go_simp;with_reducible rfl);rotate_left;(simp only [Act.put,ls_,lz_,lc_,i64_w,i32_w];rfl)
    refine pure_ (i := 3) (N := some 46) (v := ?_) (a' := ?_) #[true,true,true,true,false,false,false,false,false,false,false,false,false,false,false,false,false,false,false,false,false,false,false,false,false] rfl rfl (any_of HT_.out (by kernel_rfl)) (fun _ _ _ h => h) (Or.inl ⟨by rfl,?_⟩) ?_ ?_
    rotate_left;(intro w';go_simp;with_reducible rfl);rotate_left;(simp only [Act.put,ls_,lz_,lc_,i64_w,i32_w];rfl)
    refine pure_ (i := 4) (N := some 47) (v := ?_) (a' := ?_) #[true,true,true,true,true,false,false,false,false,false,false,false,false,false,false,false,false,false,false,false,false,false,false,false,false] rfl rfl (any_of HT_.out (by kernel_rfl)) (fun _ _ _ h => h) (Or.inl ⟨by rfl,?_⟩) ?_ ?_
    rotate_left;(intro w';go_simp;with_reducible rfl);rotate_left;(simp only [Act.put,ls_,lz_,lc_,i64_w,i32_w];rfl)
    refine pure_ (i := 5) (N := some 48) (v := ?_) (a' := ?_) #[true,true,true,true,true,true,false,false,false,false,false,false,false,false,false,false,false,false,false,false,false,false,false,false,false] rfl rfl (any_of HT_.out (by kernel_rfl)) (fun _ _ _ h => h) (Or.inl ⟨by rfl,?_⟩) ?_ ?_
    rotate_left;(intro w';go_simp;with_reducible rfl);rotate_left;(simp only [Act.put,ls_,lz_,lc_,i64_w,i32_w];rfl)
    refine pure_ (i := 6) (N := some 49) (v := ?_) (a' := ?_) #[true,true,true,true,true,true,true,false,false,false,false,false,false,false,false,false,false,false,false,false,false,false,false,false,false] rfl rfl (any_of HT_.out (by kernel_rfl)) (fun _ _ _ h => h) (Or.inl ⟨by rfl,?_⟩) ?_ ?_
    rotate_left;(intro w';go_simp;with_reducible rfl);rotate_left;(simp only [Act.put,ls_,lz_,lc_,i64_w,i32_w];rfl)
    refine pure_ (i := 7) (N := some 50) (v := ?_) (a' := ?_) #[true,true,true,true,true,true,true,true,false,false,false,false,false,false,false,false,false,false,false,false,false,false,false,false,false] rfl rfl (any_of HT_.out (by kernel_rfl)) (fun _ _ _ h => h) (Or.inl ⟨by rfl,?_⟩) ?_ ?_
    rotate_left;(intro w';go_simp;with_reducible rfl);rotate_left;(simp only [Act.put,ls_,lz_,lc_,i64_w,i32_w];rfl)
    refine pure_ (i := 8) (N := some 51) (v := ?_) (a' := ?_) #[true,true,true,true,true,true,true,true,true,false,false,false,false,false,false,false,false,false,false,false,false,false,false,false,false] rfl rfl (any_of HT_.out (by kernel_rfl)) (fun _ _ _ h => h) (Or.inl ⟨by rfl,?_⟩) ?_ ?_
    rotate_left;(intro w';go_simp;with_reducible rfl);rotate_left;(simp only [Act.put,ls_,lz_,lc_,i64_w,i32_w];rfl)
    refine pure_ (i := 9) (N := some 52) (v := undef) (a' := ?_) #[true,true,true,true,true,true,true,true,true,true,false,false,false,false,false,false,false,false,false,false,false,false,false,false,false] rfl rfl (any_of HT_.out (by kernel_rfl)) (fun _ _ _ h => h) (Or.inr ⟨by rfl,rfl⟩) ?_ ?_
    rotate_left
    ·simp only [Act.put,ls_,lz_,lc_,i64_w,i32_w]
     rfl
    refine pure_ (i := 10) (N := some 53) (v := undef) (a' := ?_) #[true,true,true,true,true,true,true,true,true,true,true,false,false,false,false,false,false,false,false,false,false,false,false,false,false] rfl rfl (any_of HT_.out (by kernel_rfl)) (fun _ _ _ h => h) (Or.inr ⟨by rfl,rfl⟩) ?_ ?_
    rotate_left
    ·simp only [Act.put,ls_,lz_,lc_,i64_w,i32_w]
     rfl
    refine pure_ (i := 11) (N := some 54) (v := undef) (a' := ?_) #[true,true,true,true,true,true,true,true,true,true,true,true,false,false,false,false,false,false,false,false,false,false,false,false,false] rfl rfl (any_of HT_.out (by kernel_rfl)) (fun _ _ _ h => h) (Or.inr ⟨by rfl,rfl⟩) ?_ ?_
    rotate_left
    ·simp only [Act.put,ls_,lz_,lc_,i64_w,i32_w]
     rfl
    refine pure_ (i := 12) (N := some 55) (v := ?_) (a' := ?_) #[true,true,true,true,true,true,true,true,true,true,true,true,true,false,false,false,false,false,false,false,false,false,false,false,false] rfl rfl (any_of HT_.out (by kernel_rfl)) (fun _ _ _ h => h) (Or.inl ⟨by rfl,?_⟩) ?_ ?_
    rotate_left;(intro w';go_simp;with_reducible rfl);rotate_left;(simp only [Act.put,ls_,lz_,lc_,i64_w,i32_w];rfl)
    refine pure_ (i := 13) (N := some 56) (v := ?_) (a' := ?_) #[true,true,true,true,true,true,true,true,true,true,true,true,true,true,false,false,false,false,false,false,false,false,false,false,false] rfl rfl (any_of HT_.out (by kernel_rfl)) (fun _ _ _ h => h) (Or.inl ⟨by rfl,?_⟩) ?_ ?_
    rotate_left;(intro w';go_simp;with_reducible rfl);rotate_left;(simp only [Act.put,ls_,lz_,lc_,i64_w,i32_w];rfl)
    refine pure_ (i := 14) (N := some 57) (v := undef) (a' := ?_) #[true,true,true,true,true,true,true,true,true,true,true,true,true,true,true,false,false,false,false,false,false,false,false,false,false] rfl rfl (any_of HT_.out (by kernel_rfl)) (fun _ _ _ h => h) (Or.inr ⟨by rfl,rfl⟩) ?_ ?_
    rotate_left
    ·simp only [Act.put,ls_,lz_,lc_,i64_w,i32_w]
     rfl
    refine pure_ (i := 15) (N := some 58) (v := undef) (a' := ?_) #[true,true,true,true,true,true,true,true,true,true,true,true,true,true,true,true,false,false,false,false,false,false,false,false,false] rfl rfl (any_of HT_.out (by kernel_rfl)) (fun _ _ _ h => h) (Or.inr ⟨by rfl,rfl⟩) ?_ ?_
    rotate_left
    ·simp only [Act.put,ls_,lz_,lc_,i64_w,i32_w]
     rfl
    refine pure_ (i := 16) (N := some 59) (v := undef) (a' := ?_) #[true,true,true,true,true,true,true,true,true,true,true,true,true,true,true,true,true,false,false,false,false,false,false,false,false] rfl rfl (any_of HT_.out (by kernel_rfl)) (fun _ _ _ h => h) (Or.inr ⟨by rfl,rfl⟩) ?_ ?_
    rotate_left
    ·simp only [Act.put,ls_,lz_,lc_,i64_w,i32_w]
     rfl
    refine pure_ (i := 17) (N := some 60) (v := ?_) (a' := ?_) #[true,true,true,true,true,true,true,true,true,true,true,true,true,true,true,true,true,true,false,false,false,false,false,false,false] rfl rfl (any_of HT_.out (by kernel_rfl)) (fun _ _ _ h => h) (Or.inl ⟨by rfl,?_⟩) ?_ ?_
    rotate_left;(intro w';go_simp;with_reducible rfl);rotate_left;(simp only [Act.put,ls_,lz_,lc_,i64_w,i32_w];rfl)
    refine pure_ (i := 18) (N := some 61) (v := ?_) (a' := ?_) #[true,true,true,true,true,true,true,true,true,true,true,true,true,true,true,true,true,true,true,false,false,false,false,false,false] rfl rfl (any_of HT_.out (by kernel_rfl)) (fun _ _ _ h => h) (Or.inl ⟨by rfl,?_⟩) ?_ ?_
    rotate_left;(intro w';go_simp;with_reducible rfl);rotate_left;(simp only [Act.put,ls_,lz_,lc_,i64_w,i32_w];rfl)
    refine pure_ (i := 19) (N := some 62) (v := undef) (a' := ?_) #[true,true,true,true,true,true,true,true,true,true,true,true,true,true,true,true,true,true,true,true,false,false,false,false,false] rfl rfl (any_of HT_.out (by kernel_rfl)) (fun _ _ _ h => h) (Or.inr ⟨by rfl,rfl⟩) ?_ ?_
    rotate_left
    ·simp only [Act.put,ls_,lz_,lc_,i64_w,i32_w]
     rfl
    refine pure_ (i := 20) (N := some 63) (v := undef) (a' := ?_) #[true,true,true,true,true,true,true,true,true,true,true,true,true,true,true,true,true,true,true,true,true,false,false,false,false] rfl rfl (any_of HT_.out (by kernel_rfl)) (fun _ _ _ h => h) (Or.inr ⟨by rfl,rfl⟩) ?_ ?_
    rotate_left
    ·simp only [Act.put,ls_,lz_,lc_,i64_w,i32_w]
     rfl
    refine pure_ (i := 21) (N := some 64) (v := undef) (a' := ?_) #[true,true,true,true,true,true,true,true,true,true,true,true,true,true,true,true,true,true,true,true,true,true,false,false,false] rfl rfl (any_of HT_.out (by kernel_rfl)) (fun _ _ _ h => h) (Or.inr ⟨by rfl,rfl⟩) ?_ ?_
    rotate_left
    ·simp only [Act.put,ls_,lz_,lc_,i64_w,i32_w]
     rfl
    refine pure_ (i := 22) (N := some 65) (v := undef) (a' := ?_) #[true,true,true,true,true,true,true,true,true,true,true,true,true,true,true,true,true,true,true,true,true,true,true,false,false] rfl rfl (any_of HT_.out (by kernel_rfl)) (fun _ _ _ h => h) (Or.inr ⟨by rfl,rfl⟩) ?_ ?_
    rotate_left
    ·simp only [Act.put,ls_,lz_,lc_,i64_w,i32_w]
     rfl
    refine pure_ (i := 23) (N := some 66) (v := undef) (a' := ?_) #[true,true,true,true,true,true,true,true,true,true,true,true,true,true,true,true,true,true,true,true,true,true,true,true,false] rfl rfl (any_of HT_.out (by kernel_rfl)) (fun _ _ _ h => h) (Or.inr ⟨by rfl,rfl⟩) ?_ ?_
    rotate_left
    ·simp only [Act.put,ls_,lz_,lc_,i64_w,i32_w]
     rfl
    refine pure_ (i := 24) (N := some 67) (v := ?_) (a' := ?_) #[true,true,true,true,true,true,true,true,true,true,true,true,true,true,true,true,true,true,true,true,true,true,true,true,true] rfl rfl (any_of HT_.out (by kernel_rfl)) (fun _ _ _ h => h) (Or.inl ⟨by rfl,?_⟩) ?_ ?_
    rotate_left;(intro w';go_simp;with_reducible rfl);rotate_left;(simp only [Act.put,ls_,lz_,lc_,i64_w,i32_w];rfl)
    refine done_ (done_of HT_.out (by kernel_rfl)) ?_
    try go_wp2
    go_meet
    case rel => exact ⟨_,(true),(by first|rfl|(simp;done)|(simp [*];done)|(simp [bne];done)),H',⟨by first|omega|exact Nat.le_refl _⟩,⟨by (with_reducible repeat first|apply kn_|apply kd_|apply ka_);exact BK263.out⟩,⟨by (with_reducible repeat first|apply kn_|apply kd_|apply ka_);exact BK264.out⟩,⟨by (with_reducible repeat first|apply kn_|apply kd_|apply ka_);exact BK270.out⟩,⟨by (with_reducible repeat first|apply kn_|apply kd_|apply ka_);exact BK276.out⟩,⟨by (with_reducible repeat first|apply kn_|apply kd_|apply ka_);exact BK282.out⟩,⟨by (with_reducible repeat first|apply kn_|apply kd_|apply ka_);exact BK288.out⟩,⟨by repeat (first|(with_reducible first|exact HB.out|apply ba_|apply pd_|apply d1_|refine bs_ ?_ GE263.out|refine bs_ ?_ GE264.out|refine bs_ ?_ GE270.out|refine bs_ ?_ GE276.out|refine bs_ ?_ GE282.out|refine bs_ ?_ GE288.out)|exact HB.out)⟩⟩
 case rest =>
  clear HC9
  try clear c1;try clear p2;try clear c4;try clear c5;try clear c12;try clear c13;try clear c46;try clear c46b0;try clear c46b1;try clear c50;try clear c50b0;try clear c50b1
  obtain ⟨kq,x67_8,rfl,HA,HJ8,BK263,BK264,BK270,BK276,BK282,BK288,HB⟩ := hcut
  cases kq with
  | zero => exact absurd HA.out (by simp [neumelaw03_BoxTells.j0])
  | succ kj8 =>
   have H := HA.out
   clear HA
   simp only [neumelaw03_BoxTells.j0] at H
   by_cases c61 : x67_8 = true
   ·subst c61
    have H1 : (some false) = some r := by rw [if_pos rfl] at H;exact H
    clear H;have H := H1;clear H1
    exact absurd ((Option.some.inj H).trans hxt.out) (by decide)
   ·replace c61 := bf_ c61
    subst c61
    have H1 : ((box_Join.f kj8 a0_0 a0_1 a0_2 a0_3 a1_0 a1_1 a1_2 a1_3).bind fun bt291 => ((neumeref03_Join.f kj8 a0_0 a0_1 a0_2 a0_3 a1_0 a1_1 a1_2 a1_3).bind fun bt295 => (if (bt291.1 == bt295.1 && (bt291.2.1 == bt295.2.1 && (bt291.2.2.1 == bt295.2.2.1 && (bt291.2.2.2 == bt295.2.2.2)))) = true then ((box_Meet.f a0_0 a0_1 a0_2 a0_3 a1_0 a1_1 a1_2 a1_3).bind fun t299 => ((neumeref03_Meet.f a0_0 a0_1 a0_2 a0_3 a1_0 a1_1 a1_2 a1_3).bind fun t300 => (if (t299 == t300) = true then ((box_Inside.f kj8 a0_0 a0_1 a0_2 a0_3 a1_0 a1_1 a1_2 a1_3).bind fun t301 => ((neumeref03_Inside.f a0_0 a0_1 a0_2 a0_3 a1_0 a1_1 a1_2 a1_3).bind fun t302 => (if (t301 == t302) = true then ((neumelaw03_heads.f kj8).bind fun t303 => (some t303)) else (some false)))) else (some false)))) else (some false)))) = some r := by rw [if_neg (show ¬ (false = true) by decide)] at H;exact H
    clear H;have H := H1;clear H1
    replace H := ob_ H
    obtain ⟨⟨t291,t292,t293,t294⟩,A620,H⟩ := H
    replace H : ((neumeref03_Join.f kj8 a0_0 a0_1 a0_2 a0_3 a1_0 a1_1 a1_2 a1_3).bind fun bt295 => (if (t291 == bt295.1 && (t292 == bt295.2.1 && (t293 == bt295.2.2.1 && (t294 == bt295.2.2.2)))) = true then ((box_Meet.f a0_0 a0_1 a0_2 a0_3 a1_0 a1_1 a1_2 a1_3).bind fun t299 => ((neumeref03_Meet.f a0_0 a0_1 a0_2 a0_3 a1_0 a1_1 a1_2 a1_3).bind fun t300 => (if (t299 == t300) = true then ((box_Inside.f kj8 a0_0 a0_1 a0_2 a0_3 a1_0 a1_1 a1_2 a1_3).bind fun t301 => ((neumeref03_Inside.f a0_0 a0_1 a0_2 a0_3 a1_0 a1_1 a1_2 a1_3).bind fun t302 => (if (t301 == t302) = true then ((neumelaw03_heads.f kj8).bind fun t303 => (some t303)) else (some false)))) else (some false)))) else (some false))) = some r := H
    have A62 := sd_ A620
    clear A620
    replace H := ob_ H
    obtain ⟨⟨t295,t296,t297,t298⟩,A630,H⟩ := H
    replace H : (if (t291 == t295 && (t292 == t296 && (t293 == t297 && (t294 == t298)))) = true then ((box_Meet.f a0_0 a0_1 a0_2 a0_3 a1_0 a1_1 a1_2 a1_3).bind fun t299 => ((neumeref03_Meet.f a0_0 a0_1 a0_2 a0_3 a1_0 a1_1 a1_2 a1_3).bind fun t300 => (if (t299 == t300) = true then ((box_Inside.f kj8 a0_0 a0_1 a0_2 a0_3 a1_0 a1_1 a1_2 a1_3).bind fun t301 => ((neumeref03_Inside.f a0_0 a0_1 a0_2 a0_3 a1_0 a1_1 a1_2 a1_3).bind fun t302 => (if (t301 == t302) = true then ((neumelaw03_heads.f kj8).bind fun t303 => (some t303)) else (some false)))) else (some false)))) else (some false)) = some r := H
    have A63 := sd_ A630
    clear A630
    by_cases c64 : (t291 == t295 && (t292 == t296 && (t293 == t297 && (t294 == t298)))) = true
    ·rw [if_pos c64] at H
     have c64b0 : (t291 == t295 && (t292 == t296 && (t293 == t297 && (t294 == t298)))) = true := c64
     (try (have c64b1 : decide (t291 = t295 && (t292 == t296 && (t293 == t297 && (t294 == t298)))) = true := by simpa using c64))
     (try (have c64b2 : (t291 == t295 && (t292 == t296 && (t293 == t297 && (t294 == t298)))) = true := by simpa using c64))
     clear c64
     replace H := ob_ H
     obtain ⟨t299,A650,H⟩ := H
     replace H : ((neumeref03_Meet.f a0_0 a0_1 a0_2 a0_3 a1_0 a1_1 a1_2 a1_3).bind fun t300 => (if (t299 == t300) = true then ((box_Inside.f kj8 a0_0 a0_1 a0_2 a0_3 a1_0 a1_1 a1_2 a1_3).bind fun t301 => ((neumeref03_Inside.f a0_0 a0_1 a0_2 a0_3 a1_0 a1_1 a1_2 a1_3).bind fun t302 => (if (t301 == t302) = true then ((neumelaw03_heads.f kj8).bind fun t303 => (some t303)) else (some false)))) else (some false))) = some r := H
     have A65 := sd_ A650
     clear A650
     replace H := ob_ H
     obtain ⟨t300,A660,H⟩ := H
     replace H : (if (t299 == t300) = true then ((box_Inside.f kj8 a0_0 a0_1 a0_2 a0_3 a1_0 a1_1 a1_2 a1_3).bind fun t301 => ((neumeref03_Inside.f a0_0 a0_1 a0_2 a0_3 a1_0 a1_1 a1_2 a1_3).bind fun t302 => (if (t301 == t302) = true then ((neumelaw03_heads.f kj8).bind fun t303 => (some t303)) else (some false)))) else (some false)) = some r := H
     have A66 := sd_ A660
     clear A660
     by_cases c67 : (t299 == t300) = true
     ·rw [if_pos c67] at H
      have c67b0 : (t299 == t300) = true := c67
      (try (have c67b1 : decide (t299 = t300) = true := by simpa using c67))
      (try (have c67b2 : (t299 == t300) = true := by simpa using c67))
      clear c67
      replace H := ob_ H
      obtain ⟨t301,A680,H⟩ := H
      replace H : ((neumeref03_Inside.f a0_0 a0_1 a0_2 a0_3 a1_0 a1_1 a1_2 a1_3).bind fun t302 => (if (t301 == t302) = true then ((neumelaw03_heads.f kj8).bind fun t303 => (some t303)) else (some false))) = some r := H
      have A68 := sd_ A680
      clear A680
      replace H := ob_ H
      obtain ⟨t302,A690,H⟩ := H
      replace H : (if (t301 == t302) = true then ((neumelaw03_heads.f kj8).bind fun t303 => (some t303)) else (some false)) = some r := H
      have A69 := sd_ A690
      clear A690
      by_cases c70 : (t301 == t302) = true
      ·rw [if_pos c70] at H
       have c70b0 : (t301 == t302) = true := c70
       (try (have c70b1 : decide (t301 = t302) = true := by simpa using c70))
       (try (have c70b2 : (t301 == t302) = true := by simpa using c70))
       clear c70
       replace H := ob_ H
       obtain ⟨t303,A710,H⟩ := H
       replace H : (some t303) = some r := H
       have A71 := sd_ A710
       clear A710
       obtain rfl := Option.some.inj H
       try go_wp2
       have n0_ := sd_ (kd_ BK263.out)
       have n1_ := sd_ (kd_ BK264.out)
       have n2_ := sd_ (kd_ BK270.out)
       have n3_ := sd_ (kd_ BK276.out)
       have n4_ := sd_ (kd_ BK282.out)
       have n5_ := sd_ (kd_ BK288.out)
       have n6_ := sd_ (d1_ HB.out)
       clear BK263
       clear BK264
       clear BK270
       clear BK276
       clear BK282
       clear BK288
       clear HB
       have BK263 := n0_
       have BK264 := n1_
       have BK270 := n2_
       have BK276 := n3_
       have BK282 := n4_
       have BK288 := n5_
       have HB := n6_
       clear n0_ n1_ n2_ n3_ n4_ n5_ n6_
       refine start_ (n := 29) (S := fun w' => w'.cell? ⟨gb263,0,none⟩ = some (.int .i64 a0_0) ∧ w'.cell? ⟨gb263,1,none⟩ = some (.int .i64 a0_1) ∧ w'.cell? ⟨gb263,2,none⟩ = some (.int .i64 a0_2) ∧ w'.cell? ⟨gb263,3,none⟩ = some (.int .i64 a0_3) ∧ w'.cell? ⟨gb264,0,none⟩ = some (.int .i64 a1_0) ∧ w'.cell? ⟨gb264,1,none⟩ = some (.int .i64 a1_1) ∧ w'.cell? ⟨gb264,2,none⟩ = some (.int .i64 a1_2) ∧ w'.cell? ⟨gb264,3,none⟩ = some (.int .i64 a1_3)) (ds := []) #[false,false,false,false,false,false,false,false,false,false,false,false,false,false,false,false,false,false,false,false,false,false,false,false,false,false,false,false,false] (by kernel_rfl) rfl rfl ⟨(kc_ BK263.out 0).trans rfl,(kc_ BK263.out 1).trans rfl,(kc_ BK263.out 2).trans rfl,(kc_ BK263.out 3).trans rfl,(kc_ BK264.out 0).trans rfl,(kc_ BK264.out 1).trans rfl,(kc_ BK264.out 2).trans rfl,(kc_ BK264.out 3).trans rfl⟩ (fun hHeld => ?_);refine with_tabW neumelaw03_BoxTells.tab7 neumelaw03_BoxTells.bits7 (fun HT_ HW_ => ?_)
       generalize wc.drew = w72 at BK263 BK264 BK270 BK276 BK282 BK288 HB hHeld ⊢
       refine take_ (i := 0) (N := some 68) (v := ?_) (a' := ?_) #[true,false,false,false,false,false,false,false,false,false,false,false,false,false,false,false,false,false,false,false,false,false,false,false,false,false,false,false,false] rfl rfl (take_ofW HT_.out HW_.out (by kernel_rfl)) (fun _ _ _ h => h) (Or.inl ⟨by rfl,?_⟩) hHeld ?_ ?_
       rotate_left
       ·rintro w' ⟨s0,s1,s2,s3,s4,s5,s6,s7⟩
        go_simp
        with_reducible rfl
       rotate_left
       ·simp only [Act.put,ls_,lz_,lc_,i64_w,i32_w]
        rfl
       refine take_ (i := 1) (N := some 69) (v := ?_) (a' := ?_) #[true,true,false,false,false,false,false,false,false,false,false,false,false,false,false,false,false,false,false,false,false,false,false,false,false,false,false,false,false] rfl rfl (take_ofW HT_.out HW_.out (by kernel_rfl)) (fun _ _ _ h => h) (Or.inl ⟨by rfl,?_⟩) hHeld ?_ ?_
       rotate_left
       ·rintro w' ⟨s0,s1,s2,s3,s4,s5,s6,s7⟩
        go_simp
        with_reducible rfl
       rotate_left
       ·simp only [Act.put,ls_,lz_,lc_,i64_w,i32_w]
        rfl
       refine take_ (i := 3) (N := some 71) (v := ?_) (a' := ?_) #[true,true,false,true,false,false,false,false,false,false,false,false,false,false,false,false,false,false,false,false,false,false,false,false,false,false,false,false,false] rfl rfl (take_ofW HT_.out HW_.out (by kernel_rfl)) (fun _ _ _ h => h) (Or.inl ⟨by rfl,?_⟩) hHeld ?_ ?_
       rotate_left
       ·rintro w' ⟨s0,s1,s2,s3,s4,s5,s6,s7⟩
        go_simp
        with_reducible rfl
       rotate_left
       ·simp only [Act.put,ls_,lz_,lc_,i64_w,i32_w]
        rfl
       refine take_ (i := 4) (N := some 72) (v := ?_) (a' := ?_) #[true,true,false,true,true,false,false,false,false,false,false,false,false,false,false,false,false,false,false,false,false,false,false,false,false,false,false,false,false] rfl rfl (take_ofW HT_.out HW_.out (by kernel_rfl)) (fun _ _ _ h => h) (Or.inl ⟨by rfl,?_⟩) hHeld ?_ ?_
       rotate_left
       ·rintro w' ⟨s0,s1,s2,s3,s4,s5,s6,s7⟩
        go_simp
        with_reducible rfl
       rotate_left
       ·simp only [Act.put,ls_,lz_,lc_,i64_w,i32_w]
        rfl
       refine one_ (i := 2) (N := some 70) #[true,true,true,true,true,false,false,false,false,false,false,false,false,false,false,false,false,false,false,false,false,false,false,false,false,false,false,false,false] rfl rfl (one_of HT_.out (by kernel_rfl)) (by decide) (fun K hK => ?_)
       refine goes_ Tryd.func14 (by kernel_rfl) rfl #[.agg #[.int .i64 a0_0,.int .i64 a0_1,.int .i64 a0_2,.int .i64 a0_3],.agg #[.int .i64 a1_0,.int .i64 a1_1,.int .i64 a1_2,.int .i64 a1_3]] (by rfl) rfl rfl (by (try simp only [lm_,lq_,lx_]);first|done|rfl|(simp only [ld_,lt_];rfl)) ?_
       with_reducible refine (box_Join.calls kj8 a0_0 a0_1 a0_2 a0_3 a1_0 a1_1 a1_2 a1_3 t291 t292 t293 t294 _ A62.out).mono ?_
       rintro e w73 ⟨rfl,hb⟩
       refine ⟨_,rfl,?_⟩
       have n0_ := sd_ (blk_below (g := gb263) (o := .cells #[.int .i64 a0_0,.int .i64 a0_1,.int .i64 a0_2,.int .i64 a0_3] 23 (0,0)) (by (with_reducible repeat first|apply kn_|apply kd_|apply ka_);exact BK263.out) hb)
       have n1_ := sd_ (blk_below (g := gb264) (o := .cells #[.int .i64 a1_0,.int .i64 a1_1,.int .i64 a1_2,.int .i64 a1_3] 23 (0,0)) (by (with_reducible repeat first|apply kn_|apply kd_|apply ka_);exact BK264.out) hb)
       have n2_ := sd_ (blk_below (g := gb270) (o := .cells #[.int .i64 t265,.int .i64 t266,.int .i64 t267,.int .i64 t268] 23 (0,0)) (by (with_reducible repeat first|apply kn_|apply kd_|apply ka_);exact BK270.out) hb)
       have n3_ := sd_ (blk_below (g := gb276) (o := .cells #[.int .i64 t271,.int .i64 t272,.int .i64 t273,.int .i64 t274] 23 (0,0)) (by (with_reducible repeat first|apply kn_|apply kd_|apply ka_);exact BK276.out) hb)
       have n4_ := sd_ (blk_below (g := gb282) (o := .cells #[.int .i64 t277,.int .i64 t278,.int .i64 t279,.int .i64 t280] 23 (0,0)) (by (with_reducible repeat first|apply kn_|apply kd_|apply ka_);exact BK282.out) hb)
       have n5_ := sd_ (blk_below (g := gb288) (o := .cells #[.int .i64 t283,.int .i64 t284,.int .i64 t285,.int .i64 t286] 23 (0,0)) (by (with_reducible repeat first|apply kn_|apply kd_|apply ka_);exact BK288.out) hb)
       have n6_ := sd_ (bt_ (by repeat (first|(with_reducible first|exact HB.out|apply ba_|apply pd_|apply d1_|refine bs_ ?_ GE263.out|refine bs_ ?_ GE264.out|refine bs_ ?_ GE270.out|refine bs_ ?_ GE276.out|refine bs_ ?_ GE282.out|refine bs_ ?_ GE288.out)|exact HB.out)) hb)
       clear BK263
       clear BK264
       clear BK270
       clear BK276
       clear BK282
       clear BK288
       clear HB
       have BK263 := n0_
       have BK264 := n1_
       have BK270 := n2_
       have BK276 := n3_
       have BK282 := n4_
       have BK288 := n5_
       have HB := n6_
       clear n0_ n1_ n2_ n3_ n4_ n5_ n6_
       (try clear hb)
       (try clear hb2)
       (try clear hk)
       (try clear hi)
       refine hK.out _ _ ⟨(kc_ BK263.out 0).trans rfl,(kc_ BK263.out 1).trans rfl,(kc_ BK263.out 2).trans rfl,(kc_ BK263.out 3).trans rfl,(kc_ BK264.out 0).trans rfl,(kc_ BK264.out 1).trans rfl,(kc_ BK264.out 2).trans rfl,(kc_ BK264.out 3).trans rfl⟩ (fun hHeld => ?_)
       clear hK K
       refine norm_ (a' := ?_) ?_ ?_
       rotate_left
       ·show Act.put _ (some 70) _ = _
        simp only [Act.put,ls_,lz_,lc_,i64_w,i32_w]
        rfl
       refine one_ (i := 5) (N := some 73) #[true,true,true,true,true,true,false,false,false,false,false,false,false,false,false,false,false,false,false,false,false,false,false,false,false,false,false,false,false] rfl rfl (one_of HT_.out (by kernel_rfl)) (by decide) (fun K hK => ?_)
       refine goes_ Tryd.func15 (by kernel_rfl) rfl #[.agg #[.int .i64 a0_0,.int .i64 a0_1,.int .i64 a0_2,.int .i64 a0_3],.agg #[.int .i64 a1_0,.int .i64 a1_1,.int .i64 a1_2,.int .i64 a1_3]] (by rfl) rfl rfl (by (try simp only [lm_,lq_,lx_]);first|done|rfl|(simp only [ld_,lt_];rfl)) ?_
       with_reducible refine (neumeref03_Join.calls kj8 a0_0 a0_1 a0_2 a0_3 a1_0 a1_1 a1_2 a1_3 t295 t296 t297 t298 _ A63.out).mono ?_
       rintro e w74 ⟨rfl,hb⟩
       refine ⟨_,rfl,?_⟩
       have n0_ := sd_ (blk_below (g := gb263) (o := .cells #[.int .i64 a0_0,.int .i64 a0_1,.int .i64 a0_2,.int .i64 a0_3] 23 (0,0)) (by (with_reducible repeat first|apply kn_|apply kd_|apply ka_);exact BK263.out) hb)
       have n1_ := sd_ (blk_below (g := gb264) (o := .cells #[.int .i64 a1_0,.int .i64 a1_1,.int .i64 a1_2,.int .i64 a1_3] 23 (0,0)) (by (with_reducible repeat first|apply kn_|apply kd_|apply ka_);exact BK264.out) hb)
       have n2_ := sd_ (blk_below (g := gb270) (o := .cells #[.int .i64 t265,.int .i64 t266,.int .i64 t267,.int .i64 t268] 23 (0,0)) (by (with_reducible repeat first|apply kn_|apply kd_|apply ka_);exact BK270.out) hb)
       have n3_ := sd_ (blk_below (g := gb276) (o := .cells #[.int .i64 t271,.int .i64 t272,.int .i64 t273,.int .i64 t274] 23 (0,0)) (by (with_reducible repeat first|apply kn_|apply kd_|apply ka_);exact BK276.out) hb)
       have n4_ := sd_ (blk_below (g := gb282) (o := .cells #[.int .i64 t277,.int .i64 t278,.int .i64 t279,.int .i64 t280] 23 (0,0)) (by (with_reducible repeat first|apply kn_|apply kd_|apply ka_);exact BK282.out) hb)
       have n5_ := sd_ (blk_below (g := gb288) (o := .cells #[.int .i64 t283,.int .i64 t284,.int .i64 t285,.int .i64 t286] 23 (0,0)) (by (with_reducible repeat first|apply kn_|apply kd_|apply ka_);exact BK288.out) hb)
       have n6_ := sd_ (bt_ (by repeat (first|(with_reducible first|exact HB.out|apply ba_|apply pd_|apply d1_|refine bs_ ?_ GE263.out|refine bs_ ?_ GE264.out|refine bs_ ?_ GE270.out|refine bs_ ?_ GE276.out|refine bs_ ?_ GE282.out|refine bs_ ?_ GE288.out)|exact HB.out)) hb)
       clear BK263
       clear BK264
       clear BK270
       clear BK276
       clear BK282
       clear BK288
       clear HB
       have BK263 := n0_
       have BK264 := n1_
       have BK270 := n2_
       have BK276 := n3_
       have BK282 := n4_
       have BK288 := n5_
       have HB := n6_
       clear n0_ n1_ n2_ n3_ n4_ n5_ n6_
       (try clear hb)
       (try clear hb2)
       (try clear hk)
       (try clear hi)
       refine hK.out _ _ ⟨(kc_ BK263.out 0).trans rfl,(kc_ BK263.out 1).trans rfl,(kc_ BK263.out 2).trans rfl,(kc_ BK263.out 3).trans rfl,(kc_ BK264.out 0).trans rfl,(kc_ BK264.out 1).trans rfl,(kc_ BK264.out 2).trans rfl,(kc_ BK264.out 3).trans rfl⟩ (fun hHeld => ?_)
       clear hK K
       refine norm_ (a' := ?_) ?_ ?_
       rotate_left
       ·show Act.put _ (some 73) _ = _
        simp only [Act.put,ls_,lz_,lc_,i64_w,i32_w]
        rfl
       refine pure_ (i := 6) (N := some 74) (v := ?_) (a' := ?_) #[true,true,true,true,true,true,true,false,false,false,false,false,false,false,false,false,false,false,false,false,false,false,false,false,false,false,false,false,false] rfl rfl (any_of HT_.out (by kernel_rfl)) (fun _ _ _ h => h) (Or.inl ⟨by rfl,?_⟩) ?_ ?_
       rotate_left;(intro w';go_simp;with_reducible rfl);rotate_left;(simp only [Act.put,ls_,lz_,lc_,i64_w,i32_w];rfl)
       refine pure_ (i := 7) (N := some 75) (v := ?_) (a' := ?_) #[true,true,true,true,true,true,true,true,false,false,false,false,false,false,false,false,false,false,false,false,false,false,false,false,false,false,false,false,false] rfl rfl (any_of HT_.out (by kernel_rfl)) (fun _ _ _ h => h) (Or.inl ⟨by rfl,?_⟩) ?_ ?_
       rotate_left;(intro w';go_simp;with_reducible rfl);rotate_left;(simp only [Act.put,ls_,lz_,lc_,i64_w,i32_w];rfl)
       refine take_ (i := 8) (N := some 76) (v := ?_) (a' := ?_) #[true,true,true,true,true,true,true,true,true,false,false,false,false,false,false,false,false,false,false,false,false,false,false,false,false,false,false,false,false] rfl rfl (take_ofW HT_.out HW_.out (by kernel_rfl)) (fun _ _ _ h => h) (Or.inl ⟨by rfl,?_⟩) hHeld ?_ ?_
       rotate_left
       ·rintro w' ⟨s0,s1,s2,s3,s4,s5,s6,s7⟩
        go_simp
        with_reducible rfl
       rotate_left
       ·simp only [Act.put,ls_,lz_,lc_,i64_w,i32_w]
        rfl
       refine take_ (i := 9) (N := some 77) (v := ?_) (a' := ?_) #[true,true,true,true,true,true,true,true,true,true,false,false,false,false,false,false,false,false,false,false,false,false,false,false,false,false,false,false,false] rfl rfl (take_ofW HT_.out HW_.out (by kernel_rfl)) (fun _ _ _ h => h) (Or.inl ⟨by rfl,?_⟩) hHeld ?_ ?_
       rotate_left
       ·rintro w' ⟨s0,s1,s2,s3,s4,s5,s6,s7⟩
        go_simp
        with_reducible rfl
       rotate_left
       ·simp only [Act.put,ls_,lz_,lc_,i64_w,i32_w]
        rfl
       refine take_ (i := 11) (N := some 79) (v := ?_) (a' := ?_) #[true,true,true,true,true,true,true,true,true,true,false,true,false,false,false,false,false,false,false,false,false,false,false,false,false,false,false,false,false] rfl rfl (take_ofW HT_.out HW_.out (by kernel_rfl)) (fun _ _ _ h => h) (Or.inl ⟨by rfl,?_⟩) hHeld ?_ ?_
       rotate_left
       ·rintro w' ⟨s0,s1,s2,s3,s4,s5,s6,s7⟩
        go_simp
        with_reducible rfl
       rotate_left
       ·simp only [Act.put,ls_,lz_,lc_,i64_w,i32_w]
        rfl
       refine take_ (i := 12) (N := some 80) (v := ?_) (a' := ?_) #[true,true,true,true,true,true,true,true,true,true,false,true,true,false,false,false,false,false,false,false,false,false,false,false,false,false,false,false,false] rfl rfl (take_ofW HT_.out HW_.out (by kernel_rfl)) (fun _ _ _ h => h) (Or.inl ⟨by rfl,?_⟩) hHeld ?_ ?_
       rotate_left
       ·rintro w' ⟨s0,s1,s2,s3,s4,s5,s6,s7⟩
        go_simp
        with_reducible rfl
       rotate_left
       ·simp only [Act.put,ls_,lz_,lc_,i64_w,i32_w]
        rfl
       refine one_ (i := 10) (N := some 78) #[true,true,true,true,true,true,true,true,true,true,true,true,true,false,false,false,false,false,false,false,false,false,false,false,false,false,false,false,false] rfl rfl (one_of HT_.out (by kernel_rfl)) (by decide) (fun K hK => ?_)
       refine goes_ Tryd.func16 (by kernel_rfl) rfl #[.agg #[.int .i64 a0_0,.int .i64 a0_1,.int .i64 a0_2,.int .i64 a0_3],.agg #[.int .i64 a1_0,.int .i64 a1_1,.int .i64 a1_2,.int .i64 a1_3]] (by rfl) rfl rfl (by (try simp only [lm_,lq_,lx_]);first|done|rfl|(simp only [ld_,lt_];rfl)) ?_
       with_reducible refine (box_Meet.calls a0_0 a0_1 a0_2 a0_3 a1_0 a1_1 a1_2 a1_3 t299 _ A65.out).mono ?_
       rintro e w75 ⟨rfl,hb⟩
       refine ⟨_,rfl,?_⟩
       have n0_ := sd_ (blk_below (g := gb263) (o := .cells #[.int .i64 a0_0,.int .i64 a0_1,.int .i64 a0_2,.int .i64 a0_3] 23 (0,0)) (by (with_reducible repeat first|apply kn_|apply kd_|apply ka_);exact BK263.out) hb)
       have n1_ := sd_ (blk_below (g := gb264) (o := .cells #[.int .i64 a1_0,.int .i64 a1_1,.int .i64 a1_2,.int .i64 a1_3] 23 (0,0)) (by (with_reducible repeat first|apply kn_|apply kd_|apply ka_);exact BK264.out) hb)
       have n2_ := sd_ (blk_below (g := gb270) (o := .cells #[.int .i64 t265,.int .i64 t266,.int .i64 t267,.int .i64 t268] 23 (0,0)) (by (with_reducible repeat first|apply kn_|apply kd_|apply ka_);exact BK270.out) hb)
       have n3_ := sd_ (blk_below (g := gb276) (o := .cells #[.int .i64 t271,.int .i64 t272,.int .i64 t273,.int .i64 t274] 23 (0,0)) (by (with_reducible repeat first|apply kn_|apply kd_|apply ka_);exact BK276.out) hb)
       have n4_ := sd_ (blk_below (g := gb282) (o := .cells #[.int .i64 t277,.int .i64 t278,.int .i64 t279,.int .i64 t280] 23 (0,0)) (by (with_reducible repeat first|apply kn_|apply kd_|apply ka_);exact BK282.out) hb)
       have n5_ := sd_ (blk_below (g := gb288) (o := .cells #[.int .i64 t283,.int .i64 t284,.int .i64 t285,.int .i64 t286] 23 (0,0)) (by (with_reducible repeat first|apply kn_|apply kd_|apply ka_);exact BK288.out) hb)
       have n6_ := sd_ (bt_ (by repeat (first|(with_reducible first|exact HB.out|apply ba_|apply pd_|apply d1_|refine bs_ ?_ GE263.out|refine bs_ ?_ GE264.out|refine bs_ ?_ GE270.out|refine bs_ ?_ GE276.out|refine bs_ ?_ GE282.out|refine bs_ ?_ GE288.out)|exact HB.out)) hb)
       clear BK263
       clear BK264
       clear BK270
       clear BK276
       clear BK282
       clear BK288
       clear HB
       have BK263 := n0_
       have BK264 := n1_
       have BK270 := n2_
       have BK276 := n3_
       have BK282 := n4_
       have BK288 := n5_
       have HB := n6_
       clear n0_ n1_ n2_ n3_ n4_ n5_ n6_
       (try clear hb)
       (try clear hb2)
       (try clear hk)
       (try clear hi)
       refine hK.out _ _ ⟨(kc_ BK263.out 0).trans rfl,(kc_ BK263.out 1).trans rfl,(kc_ BK263.out 2).trans rfl,(kc_ BK263.out 3).trans rfl,(kc_ BK264.out 0).trans rfl,(kc_ BK264.out 1).trans rfl,(kc_ BK264.out 2).trans rfl,(kc_ BK264.out 3).trans rfl⟩ (fun hHeld => ?_)
       clear hK K
       refine norm_ (a' := ?_) ?_ ?_
       rotate_left
       ·show Act.put _ (some 78) _ = _
        simp only [Act.put,ls_,lz_,lc_,i64_w,i32_w]
        rfl
       refine one_ (i := 13) (N := some 81) #[true,true,true,true,true,true,true,true,true,true,true,true,true,true,false,false,false,false,false,false,false,false,false,false,false,false,false,false,false] rfl rfl (one_of HT_.out (by kernel_rfl)) (by decide) (fun K hK => ?_)
       refine goes_ Tryd.func17 (by kernel_rfl) rfl #[.agg #[.int .i64 a0_0,.int .i64 a0_1,.int .i64 a0_2,.int .i64 a0_3],.agg #[.int .i64 a1_0,.int .i64 a1_1,.int .i64 a1_2,.int .i64 a1_3]] (by rfl) rfl rfl (by (try simp only [lm_,lq_,lx_]);first|done|rfl|(simp only [ld_,lt_];rfl)) ?_
       with_reducible refine (neumeref03_Meet.calls a0_0 a0_1 a0_2 a0_3 a1_0 a1_1 a1_2 a1_3 t300 _ A66.out).mono ?_
       rintro e w76 ⟨rfl,hb⟩
       refine ⟨_,rfl,?_⟩
       have n0_ := sd_ (blk_below (g := gb263) (o := .cells #[.int .i64 a0_0,.int .i64 a0_1,.int .i64 a0_2,.int .i64 a0_3] 23 (0,0)) (by (with_reducible repeat first|apply kn_|apply kd_|apply ka_);exact BK263.out) hb)
       have n1_ := sd_ (blk_below (g := gb264) (o := .cells #[.int .i64 a1_0,.int .i64 a1_1,.int .i64 a1_2,.int .i64 a1_3] 23 (0,0)) (by (with_reducible repeat first|apply kn_|apply kd_|apply ka_);exact BK264.out) hb)
       have n2_ := sd_ (blk_below (g := gb270) (o := .cells #[.int .i64 t265,.int .i64 t266,.int .i64 t267,.int .i64 t268] 23 (0,0)) (by (with_reducible repeat first|apply kn_|apply kd_|apply ka_);exact BK270.out) hb)
       have n3_ := sd_ (blk_below (g := gb276) (o := .cells #[.int .i64 t271,.int .i64 t272,.int .i64 t273,.int .i64 t274] 23 (0,0)) (by (with_reducible repeat first|apply kn_|apply kd_|apply ka_);exact BK276.out) hb)
       have n4_ := sd_ (blk_below (g := gb282) (o := .cells #[.int .i64 t277,.int .i64 t278,.int .i64 t279,.int .i64 t280] 23 (0,0)) (by (with_reducible repeat first|apply kn_|apply kd_|apply ka_);exact BK282.out) hb)
       have n5_ := sd_ (blk_below (g := gb288) (o := .cells #[.int .i64 t283,.int .i64 t284,.int .i64 t285,.int .i64 t286] 23 (0,0)) (by (with_reducible repeat first|apply kn_|apply kd_|apply ka_);exact BK288.out) hb)
       have n6_ := sd_ (bt_ (by repeat (first|(with_reducible first|exact HB.out|apply ba_|apply pd_|apply d1_|refine bs_ ?_ GE263.out|refine bs_ ?_ GE264.out|refine bs_ ?_ GE270.out|refine bs_ ?_ GE276.out|refine bs_ ?_ GE282.out|refine bs_ ?_ GE288.out)|exact HB.out)) hb)
       clear BK263
       clear BK264
       clear BK270
       clear BK276
       clear BK282
       clear BK288
       clear HB
       have BK263 := n0_
       have BK264 := n1_
       have BK270 := n2_
       have BK276 := n3_
       have BK282 := n4_
       have BK288 := n5_
       have HB := n6_
       clear n0_ n1_ n2_ n3_ n4_ n5_ n6_
       (try clear hb)
       (try clear hb2)
       (try clear hk)
       (try clear hi)
       refine hK.out _ _ ⟨(kc_ BK263.out 0).trans rfl,(kc_ BK263.out 1).trans rfl,(kc_ BK263.out 2).trans rfl,(kc_ BK263.out 3).trans rfl,(kc_ BK264.out 0).trans rfl,(kc_ BK264.out 1).trans rfl,(kc_ BK264.out 2).trans rfl,(kc_ BK264.out 3).trans rfl⟩ (fun hHeld => ?_)
       clear hK K
       refine norm_ (a' := ?_) ?_ ?_
       rotate_left
       ·show Act.put _ (some 81) _ = _
        simp only [Act.put,ls_,lz_,lc_,i64_w,i32_w]
        rfl
       refine pure_ (i := 14) (N := some 82) (v := ?_) (a' := ?_) #[true,true,true,true,true,true,true,true,true,true,true,true,true,true,true,false,false,false,false,false,false,false,false,false,false,false,false,false,false] rfl rfl (any_of HT_.out (by kernel_rfl)) (fun _ _ _ h => h) (Or.inl ⟨by rfl,?_⟩) ?_ ?_
       rotate_left;(intro w';go_simp;with_reducible rfl);rotate_left;(simp only [Act.put,ls_,lz_,lc_,i64_w,i32_w];rfl)
       refine pure_ (i := 15) (N := some 83) (v := ?_) (a' := ?_) #[true,true,true,true,true,true,true,true,true,true,true,true,true,true,true,true,false,false,false,false,false,false,false,false,false,false,false,false,false] rfl rfl (any_of HT_.out (by kernel_rfl)) (fun _ _ _ h => h) (Or.inl ⟨by rfl,?_⟩) ?_ ?_
       rotate_left;(intro w';go_simp;with_reducible rfl);rotate_left;(simp only [Act.put,ls_,lz_,lc_,i64_w,i32_w];rfl)
       refine pure_ (i := 16) (N := some 84) (v := ?_) (a' := ?_) #[true,true,true,true,true,true,true,true,true,true,true,true,true,true,true,true,true,false,false,false,false,false,false,false,false,false,false,false,false] rfl rfl (any_of HT_.out (by kernel_rfl)) (fun _ _ _ h => h) (Or.inl ⟨by rfl,?_⟩) ?_ ?_
       rotate_left;(intro w';go_simp;with_reducible rfl);rotate_left;(simp only [Act.put,ls_,lz_,lc_,i64_w,i32_w];rfl)
       refine take_ (i := 17) (N := some 85) (v := ?_) (a' := ?_) #[true,true,true,true,true,true,true,true,true,true,true,true,true,true,true,true,true,true,false,false,false,false,false,false,false,false,false,false,false] rfl rfl (take_ofW HT_.out HW_.out (by kernel_rfl)) (fun _ _ _ h => h) (Or.inl ⟨by rfl,?_⟩) hHeld ?_ ?_
       rotate_left
       ·rintro w' ⟨s0,s1,s2,s3,s4,s5,s6,s7⟩
        go_simp
        with_reducible rfl
       rotate_left
       ·simp only [Act.put,ls_,lz_,lc_,i64_w,i32_w]
        rfl
       refine take_ (i := 18) (N := some 86) (v := ?_) (a' := ?_) #[true,true,true,true,true,true,true,true,true,true,true,true,true,true,true,true,true,true,true,false,false,false,false,false,false,false,false,false,false] rfl rfl (take_ofW HT_.out HW_.out (by kernel_rfl)) (fun _ _ _ h => h) (Or.inl ⟨by rfl,?_⟩) hHeld ?_ ?_
       rotate_left
       ·rintro w' ⟨s0,s1,s2,s3,s4,s5,s6,s7⟩
        go_simp
        with_reducible rfl
       rotate_left
       ·simp only [Act.put,ls_,lz_,lc_,i64_w,i32_w]
        rfl
       refine take_ (i := 20) (N := some 88) (v := ?_) (a' := ?_) #[true,true,true,true,true,true,true,true,true,true,true,true,true,true,true,true,true,true,true,false,true,false,false,false,false,false,false,false,false] rfl rfl (take_ofW HT_.out HW_.out (by kernel_rfl)) (fun _ _ _ h => h) (Or.inl ⟨by rfl,?_⟩) hHeld ?_ ?_
       rotate_left
       ·rintro w' ⟨s0,s1,s2,s3,s4,s5,s6,s7⟩
        go_simp
        with_reducible rfl
       rotate_left
       ·simp only [Act.put,ls_,lz_,lc_,i64_w,i32_w]
        rfl
       refine take_ (i := 21) (N := some 89) (v := ?_) (a' := ?_) #[true,true,true,true,true,true,true,true,true,true,true,true,true,true,true,true,true,true,true,false,true,true,false,false,false,false,false,false,false] rfl rfl (take_ofW HT_.out HW_.out (by kernel_rfl)) (fun _ _ _ h => h) (Or.inl ⟨by rfl,?_⟩) hHeld ?_ ?_
       rotate_left
       ·rintro w' ⟨s0,s1,s2,s3,s4,s5,s6,s7⟩
        go_simp
        with_reducible rfl
       rotate_left
       ·simp only [Act.put,ls_,lz_,lc_,i64_w,i32_w]
        rfl
       refine one_ (i := 19) (N := some 87) #[true,true,true,true,true,true,true,true,true,true,true,true,true,true,true,true,true,true,true,true,true,true,false,false,false,false,false,false,false] rfl rfl (one_of HT_.out (by kernel_rfl)) (by decide) (fun K hK => ?_)
       refine goes_ Tryd.func18 (by kernel_rfl) rfl #[.agg #[.int .i64 a0_0,.int .i64 a0_1,.int .i64 a0_2,.int .i64 a0_3],.agg #[.int .i64 a1_0,.int .i64 a1_1,.int .i64 a1_2,.int .i64 a1_3]] (by rfl) rfl rfl (by (try simp only [lm_,lq_,lx_]);first|done|rfl|(simp only [ld_,lt_];rfl)) ?_
       with_reducible refine (box_Inside.calls kj8 a0_0 a0_1 a0_2 a0_3 a1_0 a1_1 a1_2 a1_3 t301 _ A68.out).mono ?_
       rintro e w77 ⟨rfl,hb⟩
       refine ⟨_,rfl,?_⟩
       have n0_ := sd_ (blk_below (g := gb263) (o := .cells #[.int .i64 a0_0,.int .i64 a0_1,.int .i64 a0_2,.int .i64 a0_3] 23 (0,0)) (by (with_reducible repeat first|apply kn_|apply kd_|apply ka_);exact BK263.out) hb)
       have n1_ := sd_ (blk_below (g := gb264) (o := .cells #[.int .i64 a1_0,.int .i64 a1_1,.int .i64 a1_2,.int .i64 a1_3] 23 (0,0)) (by (with_reducible repeat first|apply kn_|apply kd_|apply ka_);exact BK264.out) hb)
       have n2_ := sd_ (blk_below (g := gb270) (o := .cells #[.int .i64 t265,.int .i64 t266,.int .i64 t267,.int .i64 t268] 23 (0,0)) (by (with_reducible repeat first|apply kn_|apply kd_|apply ka_);exact BK270.out) hb)
       have n3_ := sd_ (blk_below (g := gb276) (o := .cells #[.int .i64 t271,.int .i64 t272,.int .i64 t273,.int .i64 t274] 23 (0,0)) (by (with_reducible repeat first|apply kn_|apply kd_|apply ka_);exact BK276.out) hb)
       have n4_ := sd_ (blk_below (g := gb282) (o := .cells #[.int .i64 t277,.int .i64 t278,.int .i64 t279,.int .i64 t280] 23 (0,0)) (by (with_reducible repeat first|apply kn_|apply kd_|apply ka_);exact BK282.out) hb)
       have n5_ := sd_ (blk_below (g := gb288) (o := .cells #[.int .i64 t283,.int .i64 t284,.int .i64 t285,.int .i64 t286] 23 (0,0)) (by (with_reducible repeat first|apply kn_|apply kd_|apply ka_);exact BK288.out) hb)
       have n6_ := sd_ (bt_ (by repeat (first|(with_reducible first|exact HB.out|apply ba_|apply pd_|apply d1_|refine bs_ ?_ GE263.out|refine bs_ ?_ GE264.out|refine bs_ ?_ GE270.out|refine bs_ ?_ GE276.out|refine bs_ ?_ GE282.out|refine bs_ ?_ GE288.out)|exact HB.out)) hb)
       clear BK263
       clear BK264
       clear BK270
       clear BK276
       clear BK282
       clear BK288
       clear HB
       have BK263 := n0_
       have BK264 := n1_
       have BK270 := n2_
       have BK276 := n3_
       have BK282 := n4_
       have BK288 := n5_
       have HB := n6_
       clear n0_ n1_ n2_ n3_ n4_ n5_ n6_
       (try clear hb)
       (try clear hb2)
       (try clear hk)
       (try clear hi)
       refine hK.out _ _ ⟨(kc_ BK263.out 0).trans rfl,(kc_ BK263.out 1).trans rfl,(kc_ BK263.out 2).trans rfl,(kc_ BK263.out 3).trans rfl,(kc_ BK264.out 0).trans rfl,(kc_ BK264.out 1).trans rfl,(kc_ BK264.out 2).trans rfl,(kc_ BK264.out 3).trans rfl⟩ (fun hHeld => ?_)
       clear hK K
       refine norm_ (a' := ?_) ?_ ?_
       rotate_left
       ·show Act.put _ (some 87) _ = _
        simp only [Act.put,ls_,lz_,lc_,i64_w,i32_w]
        rfl
       refine one_ (i := 22) (N := some 90) #[true,true,true,true,true,true,true,true,true,true,true,true,true,true,true,true,true,true,true,true,true,true,true,false,false,false,false,false,false] rfl rfl (one_of HT_.out (by kernel_rfl)) (by decide) (fun K hK => ?_)
       refine goes_ Tryd.func19 (by kernel_rfl) rfl #[.agg #[.int .i64 a0_0,.int .i64 a0_1,.int .i64 a0_2,.int .i64 a0_3],.agg #[.int .i64 a1_0,.int .i64 a1_1,.int .i64 a1_2,.int .i64 a1_3]] (by rfl) rfl rfl (by (try simp only [lm_,lq_,lx_]);first|done|rfl|(simp only [ld_,lt_];rfl)) ?_
       with_reducible refine (neumeref03_Inside.calls a0_0 a0_1 a0_2 a0_3 a1_0 a1_1 a1_2 a1_3 t302 _ A69.out).mono ?_
       rintro e w78 ⟨rfl,hb⟩
       refine ⟨_,rfl,?_⟩
       have n0_ := sd_ (blk_below (g := gb263) (o := .cells #[.int .i64 a0_0,.int .i64 a0_1,.int .i64 a0_2,.int .i64 a0_3] 23 (0,0)) (by (with_reducible repeat first|apply kn_|apply kd_|apply ka_);exact BK263.out) hb)
       have n1_ := sd_ (blk_below (g := gb264) (o := .cells #[.int .i64 a1_0,.int .i64 a1_1,.int .i64 a1_2,.int .i64 a1_3] 23 (0,0)) (by (with_reducible repeat first|apply kn_|apply kd_|apply ka_);exact BK264.out) hb)
       have n2_ := sd_ (blk_below (g := gb270) (o := .cells #[.int .i64 t265,.int .i64 t266,.int .i64 t267,.int .i64 t268] 23 (0,0)) (by (with_reducible repeat first|apply kn_|apply kd_|apply ka_);exact BK270.out) hb)
       have n3_ := sd_ (blk_below (g := gb276) (o := .cells #[.int .i64 t271,.int .i64 t272,.int .i64 t273,.int .i64 t274] 23 (0,0)) (by (with_reducible repeat first|apply kn_|apply kd_|apply ka_);exact BK276.out) hb)
       have n4_ := sd_ (blk_below (g := gb282) (o := .cells #[.int .i64 t277,.int .i64 t278,.int .i64 t279,.int .i64 t280] 23 (0,0)) (by (with_reducible repeat first|apply kn_|apply kd_|apply ka_);exact BK282.out) hb)
       have n5_ := sd_ (blk_below (g := gb288) (o := .cells #[.int .i64 t283,.int .i64 t284,.int .i64 t285,.int .i64 t286] 23 (0,0)) (by (with_reducible repeat first|apply kn_|apply kd_|apply ka_);exact BK288.out) hb)
       have n6_ := sd_ (bt_ (by repeat (first|(with_reducible first|exact HB.out|apply ba_|apply pd_|apply d1_|refine bs_ ?_ GE263.out|refine bs_ ?_ GE264.out|refine bs_ ?_ GE270.out|refine bs_ ?_ GE276.out|refine bs_ ?_ GE282.out|refine bs_ ?_ GE288.out)|exact HB.out)) hb)
       clear BK263
       clear BK264
       clear BK270
       clear BK276
       clear BK282
       clear BK288
       clear HB
       have BK263 := n0_
       have BK264 := n1_
       have BK270 := n2_
       have BK276 := n3_
       have BK282 := n4_
       have BK288 := n5_
       have HB := n6_
       clear n0_ n1_ n2_ n3_ n4_ n5_ n6_
       (try clear hb)
       (try clear hb2)
       (try clear hk)
       (try clear hi)
       refine hK.out _ _ ⟨(kc_ BK263.out 0).trans rfl,(kc_ BK263.out 1).trans rfl,(kc_ BK263.out 2).trans rfl,(kc_ BK263.out 3).trans rfl,(kc_ BK264.out 0).trans rfl,(kc_ BK264.out 1).trans rfl,(kc_ BK264.out 2).trans rfl,(kc_ BK264.out 3).trans rfl⟩ (fun hHeld => ?_)
       clear hK K
       refine norm_ (a' := ?_) ?_ ?_
       rotate_left
       ·show Act.put _ (some 90) _ = _
        simp only [Act.put,ls_,lz_,lc_,i64_w,i32_w]
        rfl
       refine pure_ (i := 23) (N := some 91) (v := ?_) (a' := ?_) #[true,true,true,true,true,true,true,true,true,true,true,true,true,true,true,true,true,true,true,true,true,true,true,true,false,false,false,false,false] rfl rfl (any_of HT_.out (by kernel_rfl)) (fun _ _ _ h => h) (Or.inl ⟨by rfl,?_⟩) ?_ ?_
       rotate_left;(intro w';go_simp;with_reducible rfl);rotate_left;(simp only [Act.put,ls_,lz_,lc_,i64_w,i32_w];rfl)
       refine pure_ (i := 24) (N := some 92) (v := ?_) (a' := ?_) #[true,true,true,true,true,true,true,true,true,true,true,true,true,true,true,true,true,true,true,true,true,true,true,true,true,false,false,false,false] rfl rfl (any_of HT_.out (by kernel_rfl)) (fun _ _ _ h => h) (Or.inl ⟨by rfl,?_⟩) ?_ ?_
       rotate_left;(intro w';go_simp;with_reducible rfl);rotate_left;(simp only [Act.put,ls_,lz_,lc_,i64_w,i32_w];rfl)
       refine pure_ (i := 25) (N := some 93) (v := ?_) (a' := ?_) #[true,true,true,true,true,true,true,true,true,true,true,true,true,true,true,true,true,true,true,true,true,true,true,true,true,true,false,false,false] rfl rfl (any_of HT_.out (by kernel_rfl)) (fun _ _ _ h => h) (Or.inl ⟨by rfl,?_⟩) ?_ ?_
       rotate_left;(intro w';go_simp;with_reducible rfl);rotate_left;(simp only [Act.put,ls_,lz_,lc_,i64_w,i32_w];rfl)
       refine one_ (i := 26) (N := some 94) #[true,true,true,true,true,true,true,true,true,true,true,true,true,true,true,true,true,true,true,true,true,true,true,true,true,true,true,false,false] rfl rfl (one_of HT_.out (by kernel_rfl)) (by decide) (fun K hK => ?_)
       refine goes_ Tryd.func20 (by kernel_rfl) rfl #[] (by rfl) rfl rfl (by (try simp only [lm_,lq_,lx_]);first|done|rfl|(simp only [ld_,lt_];rfl)) ?_
       with_reducible refine (neumelaw03_heads.calls kj8  t303 _ ?side1 A71.out).mono ?_
       (case side1 => first|(with_reducible exact hE)|exact sd_ (LaidE.below hE.out (by repeat (first|(with_reducible first|exact HB.out|apply ba_|apply pd_|apply d1_|refine bs_ ?_ GE263.out|refine bs_ ?_ GE264.out|refine bs_ ?_ GE270.out|refine bs_ ?_ GE276.out|refine bs_ ?_ GE282.out|refine bs_ ?_ GE288.out)|exact HB.out))))
       rintro e w79 ⟨rfl,hb⟩
       refine ⟨_,rfl,?_⟩
       have n0_ := sd_ (blk_below (g := gb263) (o := .cells #[.int .i64 a0_0,.int .i64 a0_1,.int .i64 a0_2,.int .i64 a0_3] 23 (0,0)) (by (with_reducible repeat first|apply kn_|apply kd_|apply ka_);exact BK263.out) hb)
       have n1_ := sd_ (blk_below (g := gb264) (o := .cells #[.int .i64 a1_0,.int .i64 a1_1,.int .i64 a1_2,.int .i64 a1_3] 23 (0,0)) (by (with_reducible repeat first|apply kn_|apply kd_|apply ka_);exact BK264.out) hb)
       have n2_ := sd_ (blk_below (g := gb270) (o := .cells #[.int .i64 t265,.int .i64 t266,.int .i64 t267,.int .i64 t268] 23 (0,0)) (by (with_reducible repeat first|apply kn_|apply kd_|apply ka_);exact BK270.out) hb)
       have n3_ := sd_ (blk_below (g := gb276) (o := .cells #[.int .i64 t271,.int .i64 t272,.int .i64 t273,.int .i64 t274] 23 (0,0)) (by (with_reducible repeat first|apply kn_|apply kd_|apply ka_);exact BK276.out) hb)
       have n4_ := sd_ (blk_below (g := gb282) (o := .cells #[.int .i64 t277,.int .i64 t278,.int .i64 t279,.int .i64 t280] 23 (0,0)) (by (with_reducible repeat first|apply kn_|apply kd_|apply ka_);exact BK282.out) hb)
       have n5_ := sd_ (blk_below (g := gb288) (o := .cells #[.int .i64 t283,.int .i64 t284,.int .i64 t285,.int .i64 t286] 23 (0,0)) (by (with_reducible repeat first|apply kn_|apply kd_|apply ka_);exact BK288.out) hb)
       have n6_ := sd_ (bt_ (by repeat (first|(with_reducible first|exact HB.out|apply ba_|apply pd_|apply d1_|refine bs_ ?_ GE263.out|refine bs_ ?_ GE264.out|refine bs_ ?_ GE270.out|refine bs_ ?_ GE276.out|refine bs_ ?_ GE282.out|refine bs_ ?_ GE288.out)|exact HB.out)) hb)
       clear BK263
       clear BK264
       clear BK270
       clear BK276
       clear BK282
       clear BK288
       clear HB
       have BK263 := n0_
       have BK264 := n1_
       have BK270 := n2_
       have BK276 := n3_
       have BK282 := n4_
       have BK288 := n5_
       have HB := n6_
       clear n0_ n1_ n2_ n3_ n4_ n5_ n6_
       (try clear hb)
       (try clear hb2)
       (try clear hk)
       (try clear hi)
       refine hK.out _ _ ⟨(kc_ BK263.out 0).trans rfl,(kc_ BK263.out 1).trans rfl,(kc_ BK263.out 2).trans rfl,(kc_ BK263.out 3).trans rfl,(kc_ BK264.out 0).trans rfl,(kc_ BK264.out 1).trans rfl,(kc_ BK264.out 2).trans rfl,(kc_ BK264.out 3).trans rfl⟩ (fun hHeld => ?_)
       clear hK K
       refine norm_ (a' := ?_) ?_ ?_
       rotate_left
       ·show Act.put _ (some 94) _ = _
        simp only [Act.put,ls_,lz_,lc_,i64_w,i32_w]
        rfl
       refine pure_ (i := 27) (N := some 95) (v := ?_) (a' := ?_) #[true,true,true,true,true,true,true,true,true,true,true,true,true,true,true,true,true,true,true,true,true,true,true,true,true,true,true,true,false] rfl rfl (any_of HT_.out (by kernel_rfl)) (fun _ _ _ h => h) (Or.inl ⟨by rfl,?_⟩) ?_ ?_
       rotate_left;(intro w';go_simp;with_reducible rfl);rotate_left;(simp only [Act.put,ls_,lz_,lc_,i64_w,i32_w];rfl)
       refine pure_ (i := 28) (N := some 8) (v := ?_) (a' := ?_) #[true,true,true,true,true,true,true,true,true,true,true,true,true,true,true,true,true,true,true,true,true,true,true,true,true,true,true,true,true] rfl rfl (any_of HT_.out (by kernel_rfl)) (fun _ _ _ h => h) (Or.inl ⟨by rfl,?_⟩) ?_ ?_
       rotate_left;(intro w';go_simp;with_reducible rfl);rotate_left;(simp only [Act.put,ls_,lz_,lc_,i64_w,i32_w];rfl)
       refine done_ (done_of HT_.out (by kernel_rfl)) ?_
       try go_wp2
       go_ret
       exact ⟨by first|rfl|(simp [errW_none,errW_some] <;> rfl)|(simp [*,errW_none,errW_some] <;> rfl),by repeat (first|(with_reducible first|exact HB.out|apply ba_|apply pd_|apply d1_|refine bs_ ?_ GE263.out|refine bs_ ?_ GE264.out|refine bs_ ?_ GE270.out|refine bs_ ?_ GE276.out|refine bs_ ?_ GE282.out|refine bs_ ?_ GE288.out)|exact HB.out)⟩
      ·rw [if_neg c70] at H
       have c70b0 : (t301 == t302) = false := by simpa using c70
       (try (have c70b1 : decide (t301 = t302) = false := by simpa using c70))
       (try (have c70b2 : (t301 == t302) = false := by simpa using c70))
       (try (have c70b3 : ¬ (t301 = t302) := by simpa using c70))
       clear c70
       exact absurd ((Option.some.inj H).trans hxt.out) (by decide)
     ·rw [if_neg c67] at H
      have c67b0 : (t299 == t300) = false := by simpa using c67
      (try (have c67b1 : decide (t299 = t300) = false := by simpa using c67))
      (try (have c67b2 : (t299 == t300) = false := by simpa using c67))
      (try (have c67b3 : ¬ (t299 = t300) := by simpa using c67))
      clear c67
      exact absurd ((Option.some.inj H).trans hxt.out) (by decide)
    ·rw [if_neg c64] at H
     have c64b0 : (t291 == t295 && (t292 == t296 && (t293 == t297 && (t294 == t298)))) = false := by simpa using c64
     (try (have c64b1 : decide (t291 = t295 && (t292 == t296 && (t293 == t297 && (t294 == t298)))) = false := by simpa using c64))
     (try (have c64b2 : (t291 == t295 && (t292 == t296 && (t293 == t297 && (t294 == t298)))) = false := by simpa using c64))
     (try (have c64b3 : ¬ (t291 = t295 && (t292 == t296 && (t293 == t297 && (t294 == t298)))) := by simpa using c64))
     clear c64
     exact absurd ((Option.some.inj H).trans hxt.out) (by decide)

end Go.Proofs.YteecpeggnejeaaaDoor.P
