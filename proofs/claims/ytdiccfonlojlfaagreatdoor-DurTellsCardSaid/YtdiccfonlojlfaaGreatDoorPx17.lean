-- Written by a program of this session (wip/tools/xprint.py, over the kit's print): Lean checks it.
import Derived.Test.YtdiccfonlojlfaaGreatDoorPx0
import Derived.Test.YtdiccfonlojlfaaGreatDoorPx1
import Derived.Test.YtdiccfonlojlfaaGreatDoorPx2
import Derived.Test.YtdiccfonlojlfaaGreatDoorPx3
import Derived.Test.YtdiccfonlojlfaaGreatDoorPx4
import Derived.Test.YtdiccfonlojlfaaGreatDoorPx6
import Derived.Test.YtdiccfonlojlfaaGreatDoorPx10
import Derived.Test.YtdiccfonlojlfaaGreatDoorPx14
import Derived.Test.YtdiccfonlojlfaaGreatDoorPx16
namespace Go.Proofs.YtdiccfonlojlfaaGreatDoor.P
open Go.RowKit Go.Proofs.YtdiccfonlojlfaaGreatDoorW.PrintWords Go.Proofs.YtdiccfonlojlfaaGreatDoorW.PrintLast Go.Proofs.YtdiccfonlojlfaaGreatDoorW.PrintMore
attribute [local go_sem] max2_int min2_int max_two min_two max_three min_three max_four min_four   -- for this text's walks alone
set_option linter.unusedVariables false
set_option linter.unusedSimpArgs false

attribute [local go_sem high] eqA23 eqA25
/-! ### neumelaw07_DurTells: function 3 -/
def neumelaw07_DurTells.j0 : Nat → Bool → Int → Int → Option (Bool)
 | 0, _, _, _ => none
 | k + 1, x105, x430000, x430001 => if x105 = true then (some false) else ((dur_Check.f x430000 x430001).bind fun t465 => ((neumeref07_Check.f x430000 x430001).bind fun t466 => (if (t465 == t466) = true then ((dur_Name.f x430000 x430001).bind fun t467 => ((neumeref07_Name.f k x430000 x430001).bind fun t468 => (if t467.toList = t468.toList then ((dur_Head.f x430000 x430001).bind fun t469 => ((neumeref07_Head.f x430000 x430001).bind fun t470 => (if t469 = t470 then ((dur_Rest.f x430000 x430001).bind fun t471 => ((neumeref07_Rest.f x430000 x430001).bind fun t472 => (if t471 = t472 then ((dur_Flags.f x430000 x430001).bind fun t473 => ((neumeref07_Flags.f x430000 x430001).bind fun t474 => (if t473 = t474 then ((neumelaw07_heads.f k).bind fun t475 => (some t475)) else (some false)))) else (some false)))) else (some false)))) else (some false)))) else (some false))))
def neumelaw07_DurTells.f (k : Nat) (a0_0 : Int) (a0_1 : Int) (a1_0 : Int) (a1_1 : Int) (a2 : ByteArray) : Option (Bool) := if (a2.size : Int) > 100 then ((neumelaw07_heads.f k).bind fun t431 => (some t431)) else ((dur_Value.f k a0_0 a0_1).bind fun bt432 => ((neumeref07_Value.f k a0_0 a0_1).bind fun bt436 => ((dur_Parse.f k a2).bind fun bt440 => ((neumeref07_Parse.f k a2).bind fun bt444 => ((dur_Of.f k a1_0 a1_1).bind fun bt448 => ((neumeref07_Of.f k a1_0 a1_1).bind fun bt452 => ((dur_Split.f k a1_0 a1_1).bind fun bt456 => ((neumeref07_Split.f k a1_0 a1_1).bind fun bt460 => (if (!(bt432.1 == bt436.1) || (!(bt432.2.1 == bt436.2.1))) = true then (neumelaw07_DurTells.j0 k true a0_0 a0_1) else (if bt432.2.2 = bt436.2.2 then (if (!(bt440.1 == bt444.1) || (!(bt440.2.1 == bt444.2.1))) = true then (neumelaw07_DurTells.j0 k true a0_0 a0_1) else (if (bt440.2.2 != bt444.2.2) = true then (neumelaw07_DurTells.j0 k true a0_0 a0_1) else (if (!(bt448.1 == bt452.1) || (!(bt448.2.1 == bt452.2.1))) = true then (neumelaw07_DurTells.j0 k true a0_0 a0_1) else (if (bt448.2.2 != bt452.2.2) = true then (neumelaw07_DurTells.j0 k true a0_0 a0_1) else ((neumeref07_Same.f k bt456.1 bt460.1).bind fun t464 => (if t464 = true then (neumelaw07_DurTells.j0 k (bt456.2 != bt460.2) a0_0 a0_1) else (neumelaw07_DurTells.j0 k true a0_0 a0_1))))))) else (neumelaw07_DurTells.j0 k true a0_0 a0_1)))))))))))
theorem neumelaw07_DurTells.mono_l : ∀ k, (∀ y0 y1 y2, LeO (neumelaw07_DurTells.j0 k y0 y1 y2) (neumelaw07_DurTells.j0 (k + 1) y0 y1 y2))
 | 0 => fun _ _ _ r h => by simp [neumelaw07_DurTells.j0] at h
 | k + 1 => by
  have ih0 := neumelaw07_DurTells.mono_l k
  ·intro y0 y1 y2
   unfold neumelaw07_DurTells.j0
   repeat' first
   | (with_reducible exact ih0 _ _ _)
   | (with_reducible exact dur_Of.mono _ _ _)
   | (with_reducible exact dur_Parse.mono _ _)
   | (with_reducible exact dur_Split.mono _ _ _)
   | (with_reducible exact dur_Value.mono _ _ _)
   | (with_reducible exact neumelaw07_heads.mono _)
   | (with_reducible exact neumeref07_Name.mono _ _ _)
   | (with_reducible exact neumeref07_Of.mono _ _ _)
   | (with_reducible exact neumeref07_Parse.mono _ _)
   | (with_reducible exact neumeref07_Same.mono _ _ _)
   | (with_reducible exact neumeref07_Split.mono _ _ _)
   | (with_reducible exact neumeref07_Value.mono _ _ _)
   | (with_reducible exact LeO.refl _)
   | (with_reducible exact LeO.none _)
   | (with_reducible refine LeO.ite ?_ ?_)
   | (with_reducible refine LeO.bind ?_ (fun _ => ?_))
   | exact ih0 _ _ _
   | exact dur_Of.mono _ _ _
   | exact dur_Parse.mono _ _
   | exact dur_Split.mono _ _ _
   | exact dur_Value.mono _ _ _
   | exact neumelaw07_heads.mono _
   | exact neumeref07_Name.mono _ _ _
   | exact neumeref07_Of.mono _ _ _
   | exact neumeref07_Parse.mono _ _
   | exact neumeref07_Same.mono _ _ _
   | exact neumeref07_Split.mono _ _ _
   | exact neumeref07_Value.mono _ _ _
   | exact LeO.none _
   | refine LeO.ite ?_ ?_
   | refine LeO.bind ?_ (fun _ => ?_)
theorem neumelaw07_DurTells.mono : ∀ a0 a1 a2 a3 a4 k, LeO (neumelaw07_DurTells.f k a0 a1 a2 a3 a4) (neumelaw07_DurTells.f (k + 1) a0 a1 a2 a3 a4) := by
 intro a0 a1 a2 a3 a4 k
 have ih0 := neumelaw07_DurTells.mono_l k
 unfold neumelaw07_DurTells.f
 repeat' first
   | (with_reducible exact ih0 _ _ _)
   | (with_reducible exact dur_Of.mono _ _ _)
   | (with_reducible exact dur_Parse.mono _ _)
   | (with_reducible exact dur_Split.mono _ _ _)
   | (with_reducible exact dur_Value.mono _ _ _)
   | (with_reducible exact neumelaw07_heads.mono _)
   | (with_reducible exact neumeref07_Name.mono _ _ _)
   | (with_reducible exact neumeref07_Of.mono _ _ _)
   | (with_reducible exact neumeref07_Parse.mono _ _)
   | (with_reducible exact neumeref07_Same.mono _ _ _)
   | (with_reducible exact neumeref07_Split.mono _ _ _)
   | (with_reducible exact neumeref07_Value.mono _ _ _)
   | (with_reducible exact LeO.refl _)
   | (with_reducible exact LeO.none _)
   | (with_reducible refine LeO.ite ?_ ?_)
   | (with_reducible refine LeO.bind ?_ (fun _ => ?_))
   | exact ih0 _ _ _
   | exact dur_Of.mono _ _ _
   | exact dur_Parse.mono _ _
   | exact dur_Split.mono _ _ _
   | exact dur_Value.mono _ _ _
   | exact neumelaw07_heads.mono _
   | exact neumeref07_Name.mono _ _ _
   | exact neumeref07_Of.mono _ _ _
   | exact neumeref07_Parse.mono _ _
   | exact neumeref07_Same.mono _ _ _
   | exact neumeref07_Split.mono _ _ _
   | exact neumeref07_Value.mono _ _ _
   | exact LeO.none _
   | refine LeO.ite ?_ ?_
   | refine LeO.bind ?_ (fun _ => ?_)
def neumelaw07_DurTells.T13 : Bool × List (List Nat × List Nat) := (true, [([], []), ([0], [0]), ([], []), ([2, 1], [2]), ([1, 3], [1, 3]), ([4, 3], [4]), ([5], [5]), ([6, 5, 5], [5, 6]), ([5], [5]), ([8, 7, 5], [5, 8]), ([7, 9, 5], [5, 7, 9]), ([5, 10], [5, 10]), ([11, 9], [11]), ([12], [12]), ([13, 12, 12], [12, 13]), ([12], [12]), ([15, 14, 12], [12, 15]), ([14, 16, 12], [12, 14, 16]), ([12, 17], [12, 17]), ([18, 16], [18]), ([19], [19]), ([20, 19, 19], [19, 20]), ([19], [19]), ([22, 21, 19], [19, 22]), ([21, 23, 19], [19, 21, 23]), ([19, 24], [19, 24]), ([25, 23], [25]), ([26], [26]), ([27, 26, 26], [26, 27]), ([26], [26]), ([29, 28, 26], [26, 29]), ([28, 30, 26], [26, 28, 30]), ([26, 31], [26, 31]), ([32, 30], [32]), ([33, 33], [33]), ([33, 34], [33, 34]), ([35, 34, 0, 1, 2, 3, 4, 5, 6, 7, 8, 9, 10, 11, 12, 13, 14, 15, 16, 17, 18, 19, 20, 21, 22, 23, 24, 25, 26, 27, 28, 29, 30, 31, 32, 33, 34, 35], [35])])
def neumelaw07_DurTells.B13 : List Nat := [0, 1, 0, 7, 15, 31, 63, 127, 63, 511, 1023, 2047, 4095, 8191, 16383, 8191, 65535, 131071, 262143, 524287, 1048575, 2097151, 1048575, 8388607, 16777215, 33554431, 67108863, 134217727, 268435455, 134217727, 1073741823, 2147483647, 4294967295, 8589934591, 17179869183, 34359738367, 68719476735]
theorem neumelaw07_DurTells.tab13 : rtab .any (opsOf Tryz.f3 13) = neumelaw07_DurTells.T13 := by kernel_rfl
theorem neumelaw07_DurTells.bits13 : waitsOk neumelaw07_DurTells.T13.2 neumelaw07_DurTells.B13 = true := by kernel_rfl
set_option maxHeartbeats 8000000 in
set_option maxRecDepth 100000 in
theorem neumelaw07_DurTells.calls (k : Nat) (a0_0 : Int) (a0_1 : Int) (a1_0 : Int) (a1_1 : Int) (a2 : ByteArray) (r : Bool) (w : World) (hE : Aside0 (LaidE w)) (hxt : Aside0 (r = true)) (h : neumelaw07_DurTells.f k a0_0 a0_1 a1_0 a1_1 a2 = some r) :
  Calls Tryz.prog 3 #[.agg #[.int .i64 a0_0, .int .i64 a0_1], .agg #[.int .i64 a1_0, .int .i64 a1_1], .string a2] w fun e w' => e = .returned (.bool r) ∧ Below w.heap.size w w' := by
 have hu23 := Tryz.underlying23
 have hu25 := Tryz.underlying25
 have HB := sd_ (Below.refl w.heap.size w)
 have H : (if (a2.size : Int) > 100 then ((neumelaw07_heads.f k).bind fun t431 => (some t431)) else ((dur_Value.f k a0_0 a0_1).bind fun bt432 => ((neumeref07_Value.f k a0_0 a0_1).bind fun bt436 => ((dur_Parse.f k a2).bind fun bt440 => ((neumeref07_Parse.f k a2).bind fun bt444 => ((dur_Of.f k a1_0 a1_1).bind fun bt448 => ((neumeref07_Of.f k a1_0 a1_1).bind fun bt452 => ((dur_Split.f k a1_0 a1_1).bind fun bt456 => ((neumeref07_Split.f k a1_0 a1_1).bind fun bt460 => (if (!(bt432.1 == bt436.1) || (!(bt432.2.1 == bt436.2.1))) = true then (neumelaw07_DurTells.j0 k true a0_0 a0_1) else (if bt432.2.2 = bt436.2.2 then (if (!(bt440.1 == bt444.1) || (!(bt440.2.1 == bt444.2.1))) = true then (neumelaw07_DurTells.j0 k true a0_0 a0_1) else (if (bt440.2.2 != bt444.2.2) = true then (neumelaw07_DurTells.j0 k true a0_0 a0_1) else (if (!(bt448.1 == bt452.1) || (!(bt448.2.1 == bt452.2.1))) = true then (neumelaw07_DurTells.j0 k true a0_0 a0_1) else (if (bt448.2.2 != bt452.2.2) = true then (neumelaw07_DurTells.j0 k true a0_0 a0_1) else ((neumeref07_Same.f k bt456.1 bt460.1).bind fun t464 => (if t464 = true then (neumelaw07_DurTells.j0 k (bt456.2 != bt460.2) a0_0 a0_1) else (neumelaw07_DurTells.j0 k true a0_0 a0_1))))))) else (neumelaw07_DurTells.j0 k true a0_0 a0_1)))))))))))) = some r := h
 clear h
 by_cases c4 : (a2.size : Int) > 100
 ·rw [if_pos c4] at H
  have c4b0 : decide (100 < (a2.size : Int)) = true := dt_ c4
  have c4b1 : decide (100 < a2.size) = true := dt_ (by omega)
  clear c4
  replace H := ob_ H
  obtain ⟨t431, A50, H⟩ := H
  replace H : (some t431) = some r := H
  have A5 := sd_ A50
  clear A50
  obtain rfl := Option.some.inj H
  go_enter Tryz.func3, Tryz.ntmps3
  go_wp2_with (first | ((with_reducible refine gate_dst (N := 3) rfl ?_); refine box_event ?hg (N := 3) ?hd (cs := #[.int .i64 a0_0, .int .i64 a0_1]) (t := 23) ?hr ?_; (case hd => rfl); (case hg => rfl); (case hr => first | (go_simp; done) | (go_simp; rfl)); intro gb429 hg w6 hbox hb; have BK429 := sd_ hbox; have GW429 := gw_ HB e0_ hg; have GE429 := GW429; replace HB := hb_ HB e0_ hb; clear hb hbox hg) | ((with_reducible refine gate_dst (N := 4) rfl ?_); refine box_event ?hg (N := 4) ?hd (cs := #[.int .i64 a1_0, .int .i64 a1_1]) (t := 25) ?hr ?_; (case hd => rfl); (case hg => rfl); (case hr => first | (go_simp; done) | (go_simp; rfl)); intro gb430 hg w7 hbox hb; have BK430 := sd_ hbox; have GW430 := gw_ HB (e_ GE429 e0_) hg; have GE430 := GW430; have NB429_430 := nb_ BK429 hg; have NB430_429 := sy_ NB429_430; replace BK429 := kb_ BK429 hb; replace HB := hb_ HB (e_ GE429 e0_) hb; clear hb hbox hg) | ((with_reducible refine gate_callee (f := 5) rfl ?_); refine goesL_ (some 26) rfl rfl Tryz.func5 (by kernel_rfl) rfl #[] rfl (by (try simp only [lm_, lq_, lx_]); first | done | rfl | (simp only [ld_, lt_]; rfl)) ?_; (with_reducible refine (neumelaw07_heads.calls k  t431 _ ?side1 A5.out).mono ?_); (case side1 => first | (with_reducible exact hE) | exact sd_ (LaidE.below hE.out (bb_ HB.out (e_ GE429 (e_ GE430 e0_))))); rintro e w8 ⟨rfl, hb⟩; refine ⟨_, rfl, ?_⟩; replace BK429 := kb_ BK429 hb; replace BK430 := kb_ BK430 hb; replace HB := hb_ HB (e_ GE429 (e_ GE430 e0_)) hb; (try clear hb); (try clear hb2); (try clear hk); (try clear hi)))
  go_ret
  exact ⟨by first | rfl | (simp [errW_none, errW_some] <;> rfl) | (simp [*, errW_none, errW_some] <;> rfl), by repeat (first | (with_reducible first | exact HB.out | apply ba_ | apply pd_ | apply d1_ | refine bs_ ?_ GE429.out | refine bs_ ?_ GE430.out) | exact HB.out)⟩
 ·rw [if_neg c4] at H
  have c4b0 : decide (100 < (a2.size : Int)) = false := df_ c4
  have c4b1 : decide (100 < a2.size) = false := df_ (by omega)
  clear c4
  replace H := ob_ H
  obtain ⟨⟨t432, t433, t434⟩, A90, H⟩ := H
  replace H : ((neumeref07_Value.f k a0_0 a0_1).bind fun bt436 => ((dur_Parse.f k a2).bind fun bt440 => ((neumeref07_Parse.f k a2).bind fun bt444 => ((dur_Of.f k a1_0 a1_1).bind fun bt448 => ((neumeref07_Of.f k a1_0 a1_1).bind fun bt452 => ((dur_Split.f k a1_0 a1_1).bind fun bt456 => ((neumeref07_Split.f k a1_0 a1_1).bind fun bt460 => (if (!(t432 == bt436.1) || (!(t433 == bt436.2.1))) = true then (neumelaw07_DurTells.j0 k true a0_0 a0_1) else (if t434 = bt436.2.2 then (if (!(bt440.1 == bt444.1) || (!(bt440.2.1 == bt444.2.1))) = true then (neumelaw07_DurTells.j0 k true a0_0 a0_1) else (if (bt440.2.2 != bt444.2.2) = true then (neumelaw07_DurTells.j0 k true a0_0 a0_1) else (if (!(bt448.1 == bt452.1) || (!(bt448.2.1 == bt452.2.1))) = true then (neumelaw07_DurTells.j0 k true a0_0 a0_1) else (if (bt448.2.2 != bt452.2.2) = true then (neumelaw07_DurTells.j0 k true a0_0 a0_1) else ((neumeref07_Same.f k bt456.1 bt460.1).bind fun t464 => (if t464 = true then (neumelaw07_DurTells.j0 k (bt456.2 != bt460.2) a0_0 a0_1) else (neumelaw07_DurTells.j0 k true a0_0 a0_1))))))) else (neumelaw07_DurTells.j0 k true a0_0 a0_1)))))))))) = some r := H
  have A9 := sd_ A90
  clear A90
  replace H := ob_ H
  obtain ⟨⟨t436, t437, t438⟩, A100, H⟩ := H
  replace H : ((dur_Parse.f k a2).bind fun bt440 => ((neumeref07_Parse.f k a2).bind fun bt444 => ((dur_Of.f k a1_0 a1_1).bind fun bt448 => ((neumeref07_Of.f k a1_0 a1_1).bind fun bt452 => ((dur_Split.f k a1_0 a1_1).bind fun bt456 => ((neumeref07_Split.f k a1_0 a1_1).bind fun bt460 => (if (!(t432 == t436) || (!(t433 == t437))) = true then (neumelaw07_DurTells.j0 k true a0_0 a0_1) else (if t434 = t438 then (if (!(bt440.1 == bt444.1) || (!(bt440.2.1 == bt444.2.1))) = true then (neumelaw07_DurTells.j0 k true a0_0 a0_1) else (if (bt440.2.2 != bt444.2.2) = true then (neumelaw07_DurTells.j0 k true a0_0 a0_1) else (if (!(bt448.1 == bt452.1) || (!(bt448.2.1 == bt452.2.1))) = true then (neumelaw07_DurTells.j0 k true a0_0 a0_1) else (if (bt448.2.2 != bt452.2.2) = true then (neumelaw07_DurTells.j0 k true a0_0 a0_1) else ((neumeref07_Same.f k bt456.1 bt460.1).bind fun t464 => (if t464 = true then (neumelaw07_DurTells.j0 k (bt456.2 != bt460.2) a0_0 a0_1) else (neumelaw07_DurTells.j0 k true a0_0 a0_1))))))) else (neumelaw07_DurTells.j0 k true a0_0 a0_1))))))))) = some r := H
  have A10 := sd_ A100
  clear A100
  replace H := ob_ H
  obtain ⟨⟨t440, t441, t442⟩, A110, H⟩ := H
  replace H : ((neumeref07_Parse.f k a2).bind fun bt444 => ((dur_Of.f k a1_0 a1_1).bind fun bt448 => ((neumeref07_Of.f k a1_0 a1_1).bind fun bt452 => ((dur_Split.f k a1_0 a1_1).bind fun bt456 => ((neumeref07_Split.f k a1_0 a1_1).bind fun bt460 => (if (!(t432 == t436) || (!(t433 == t437))) = true then (neumelaw07_DurTells.j0 k true a0_0 a0_1) else (if t434 = t438 then (if (!(t440 == bt444.1) || (!(t441 == bt444.2.1))) = true then (neumelaw07_DurTells.j0 k true a0_0 a0_1) else (if (t442 != bt444.2.2) = true then (neumelaw07_DurTells.j0 k true a0_0 a0_1) else (if (!(bt448.1 == bt452.1) || (!(bt448.2.1 == bt452.2.1))) = true then (neumelaw07_DurTells.j0 k true a0_0 a0_1) else (if (bt448.2.2 != bt452.2.2) = true then (neumelaw07_DurTells.j0 k true a0_0 a0_1) else ((neumeref07_Same.f k bt456.1 bt460.1).bind fun t464 => (if t464 = true then (neumelaw07_DurTells.j0 k (bt456.2 != bt460.2) a0_0 a0_1) else (neumelaw07_DurTells.j0 k true a0_0 a0_1))))))) else (neumelaw07_DurTells.j0 k true a0_0 a0_1)))))))) = some r := H
  have A11 := sd_ A110
  clear A110
  replace H := ob_ H
  obtain ⟨⟨t444, t445, t446⟩, A120, H⟩ := H
  replace H : ((dur_Of.f k a1_0 a1_1).bind fun bt448 => ((neumeref07_Of.f k a1_0 a1_1).bind fun bt452 => ((dur_Split.f k a1_0 a1_1).bind fun bt456 => ((neumeref07_Split.f k a1_0 a1_1).bind fun bt460 => (if (!(t432 == t436) || (!(t433 == t437))) = true then (neumelaw07_DurTells.j0 k true a0_0 a0_1) else (if t434 = t438 then (if (!(t440 == t444) || (!(t441 == t445))) = true then (neumelaw07_DurTells.j0 k true a0_0 a0_1) else (if (t442 != t446) = true then (neumelaw07_DurTells.j0 k true a0_0 a0_1) else (if (!(bt448.1 == bt452.1) || (!(bt448.2.1 == bt452.2.1))) = true then (neumelaw07_DurTells.j0 k true a0_0 a0_1) else (if (bt448.2.2 != bt452.2.2) = true then (neumelaw07_DurTells.j0 k true a0_0 a0_1) else ((neumeref07_Same.f k bt456.1 bt460.1).bind fun t464 => (if t464 = true then (neumelaw07_DurTells.j0 k (bt456.2 != bt460.2) a0_0 a0_1) else (neumelaw07_DurTells.j0 k true a0_0 a0_1))))))) else (neumelaw07_DurTells.j0 k true a0_0 a0_1))))))) = some r := H
  have A12 := sd_ A120
  clear A120
  replace H := ob_ H
  obtain ⟨⟨t448, t449, t450⟩, A130, H⟩ := H
  replace H : ((neumeref07_Of.f k a1_0 a1_1).bind fun bt452 => ((dur_Split.f k a1_0 a1_1).bind fun bt456 => ((neumeref07_Split.f k a1_0 a1_1).bind fun bt460 => (if (!(t432 == t436) || (!(t433 == t437))) = true then (neumelaw07_DurTells.j0 k true a0_0 a0_1) else (if t434 = t438 then (if (!(t440 == t444) || (!(t441 == t445))) = true then (neumelaw07_DurTells.j0 k true a0_0 a0_1) else (if (t442 != t446) = true then (neumelaw07_DurTells.j0 k true a0_0 a0_1) else (if (!(t448 == bt452.1) || (!(t449 == bt452.2.1))) = true then (neumelaw07_DurTells.j0 k true a0_0 a0_1) else (if (t450 != bt452.2.2) = true then (neumelaw07_DurTells.j0 k true a0_0 a0_1) else ((neumeref07_Same.f k bt456.1 bt460.1).bind fun t464 => (if t464 = true then (neumelaw07_DurTells.j0 k (bt456.2 != bt460.2) a0_0 a0_1) else (neumelaw07_DurTells.j0 k true a0_0 a0_1))))))) else (neumelaw07_DurTells.j0 k true a0_0 a0_1)))))) = some r := H
  have A13 := sd_ A130
  clear A130
  replace H := ob_ H
  obtain ⟨⟨t452, t453, t454⟩, A140, H⟩ := H
  replace H : ((dur_Split.f k a1_0 a1_1).bind fun bt456 => ((neumeref07_Split.f k a1_0 a1_1).bind fun bt460 => (if (!(t432 == t436) || (!(t433 == t437))) = true then (neumelaw07_DurTells.j0 k true a0_0 a0_1) else (if t434 = t438 then (if (!(t440 == t444) || (!(t441 == t445))) = true then (neumelaw07_DurTells.j0 k true a0_0 a0_1) else (if (t442 != t446) = true then (neumelaw07_DurTells.j0 k true a0_0 a0_1) else (if (!(t448 == t452) || (!(t449 == t453))) = true then (neumelaw07_DurTells.j0 k true a0_0 a0_1) else (if (t450 != t454) = true then (neumelaw07_DurTells.j0 k true a0_0 a0_1) else ((neumeref07_Same.f k bt456.1 bt460.1).bind fun t464 => (if t464 = true then (neumelaw07_DurTells.j0 k (bt456.2 != bt460.2) a0_0 a0_1) else (neumelaw07_DurTells.j0 k true a0_0 a0_1))))))) else (neumelaw07_DurTells.j0 k true a0_0 a0_1))))) = some r := H
  have A14 := sd_ A140
  clear A140
  replace H := ob_ H
  obtain ⟨⟨t456, t459⟩, A150, H⟩ := H
  replace H : ((neumeref07_Split.f k a1_0 a1_1).bind fun bt460 => (if (!(t432 == t436) || (!(t433 == t437))) = true then (neumelaw07_DurTells.j0 k true a0_0 a0_1) else (if t434 = t438 then (if (!(t440 == t444) || (!(t441 == t445))) = true then (neumelaw07_DurTells.j0 k true a0_0 a0_1) else (if (t442 != t446) = true then (neumelaw07_DurTells.j0 k true a0_0 a0_1) else (if (!(t448 == t452) || (!(t449 == t453))) = true then (neumelaw07_DurTells.j0 k true a0_0 a0_1) else (if (t450 != t454) = true then (neumelaw07_DurTells.j0 k true a0_0 a0_1) else ((neumeref07_Same.f k t456 bt460.1).bind fun t464 => (if t464 = true then (neumelaw07_DurTells.j0 k (t459 != bt460.2) a0_0 a0_1) else (neumelaw07_DurTells.j0 k true a0_0 a0_1))))))) else (neumelaw07_DurTells.j0 k true a0_0 a0_1)))) = some r := H
  have A15 := sd_ A150
  clear A150
  replace H := ob_ H
  obtain ⟨⟨t460, t463⟩, A160, H⟩ := H
  replace H : (if (!(t432 == t436) || (!(t433 == t437))) = true then (neumelaw07_DurTells.j0 k true a0_0 a0_1) else (if t434 = t438 then (if (!(t440 == t444) || (!(t441 == t445))) = true then (neumelaw07_DurTells.j0 k true a0_0 a0_1) else (if (t442 != t446) = true then (neumelaw07_DurTells.j0 k true a0_0 a0_1) else (if (!(t448 == t452) || (!(t449 == t453))) = true then (neumelaw07_DurTells.j0 k true a0_0 a0_1) else (if (t450 != t454) = true then (neumelaw07_DurTells.j0 k true a0_0 a0_1) else ((neumeref07_Same.f k t456 t460).bind fun t464 => (if t464 = true then (neumelaw07_DurTells.j0 k (t459 != t463) a0_0 a0_1) else (neumelaw07_DurTells.j0 k true a0_0 a0_1))))))) else (neumelaw07_DurTells.j0 k true a0_0 a0_1))) = some r := H
  have A16 := sd_ A160
  clear A160
  have HC17 := sd_ H
  clear H
  go_enter Tryz.func3, Tryz.ntmps3
  go_upto_region 11 with (first | ((with_reducible refine gate_dst (N := 3) rfl ?_); refine box_event ?hg (N := 3) ?hd (cs := #[.int .i64 a0_0, .int .i64 a0_1]) (t := 23) ?hr ?_; (case hd => rfl); (case hg => rfl); (case hr => first | (go_simp; done) | (go_simp; rfl)); intro gb429 hg w18 hbox hb; have BK429 := sd_ hbox; have GW429 := gw_ HB e0_ hg; have GE429 := GW429; replace HB := hb_ HB e0_ hb; clear hb hbox hg) | ((with_reducible refine gate_dst (N := 4) rfl ?_); refine box_event ?hg (N := 4) ?hd (cs := #[.int .i64 a1_0, .int .i64 a1_1]) (t := 25) ?hr ?_; (case hd => rfl); (case hg => rfl); (case hr => first | (go_simp; done) | (go_simp; rfl)); intro gb430 hg w19 hbox hb; have BK430 := sd_ hbox; have GW430 := gw_ HB (e_ GE429 e0_) hg; have GE430 := GW430; have NB429_430 := nb_ BK429 hg; have NB430_429 := sy_ NB429_430; replace BK429 := kb_ BK429 hb; replace HB := hb_ HB (e_ GE429 e0_) hb; clear hb hbox hg; have hnb20 := NB429_430.out; have hnc20 := NB430_429.out; have hcz21_0 : w19.cell? ⟨gb429, 0, none⟩ = some (.int .i64 a0_0) := (kc_ BK429.out 0).trans rfl; have hcz21_1 : w19.cell? ⟨gb429, 1, none⟩ = some (.int .i64 a0_1) := (kc_ BK429.out 1).trans rfl; have hfz21_0 := kf_ BK429.out 0; have hfz21_1 := kf_ BK429.out 1) | ((with_reducible refine gate_callee (f := 6) rfl ?_); refine goesL_ (some 29) rfl rfl Tryz.func6 (by kernel_rfl) rfl #[.agg #[.int .i64 a0_0, .int .i64 a0_1]] rfl (by (try simp only [lm_, lq_, lx_]); first | done | rfl | (simp only [ld_, lt_]; rfl)) ?_; (with_reducible refine (dur_Value.calls k a0_0 a0_1 t432 t433 t434 _ ?side1 A9.out).mono ?_); (case side1 => first | (with_reducible exact hE) | exact sd_ (LaidE.below hE.out (bb_ HB.out (e_ GE429 (e_ GE430 e0_))))); rintro e w22 ⟨rfl, hb⟩; refine ⟨_, rfl, ?_⟩; replace BK429 := kb_ BK429 hb; replace BK430 := kb_ BK430 hb; replace HB := hb_ HB (e_ GE429 (e_ GE430 e0_)) hb; (try clear hb); (try clear hb2); (try clear hk); (try clear hi)) | ((with_reducible refine gate_dst (N := 7) rfl ?_); refine box_event ?hg (N := 7) ?hd (cs := #[.int .i64 0, .int .i64 0]) (t := 25) ?hr ?_; (case hd => rfl); (case hg => rfl); (case hr => first | (go_simp; done) | (go_simp; rfl)); intro gb435 hg w23 hbox hb; have BK435 := sd_ hbox; have GW435 := gw_ HB (e_ GE429 (e_ GE430 e0_)) hg; have GE435 := GW435; have NB429_435 := nb_ BK429 hg; have NB435_429 := sy_ NB429_435; have NB430_435 := nb_ BK430 hg; have NB435_430 := sy_ NB430_435; replace BK429 := kb_ BK429 hb; replace BK430 := kb_ BK430 hb; replace HB := hb_ HB (e_ GE429 (e_ GE430 e0_)) hb; clear hb hbox hg; have hnb24 := NB435_429.out; have hnc24 := NB429_435.out; have hnb25 := NB435_430.out; have hnc25 := NB430_435.out; have hcz26_0 : w23.cell? ⟨gb435, 0, none⟩ = some (.int .i64 0) := (kc_ BK435.out 0).trans rfl; have hcz26_1 : w23.cell? ⟨gb435, 1, none⟩ = some (.int .i64 0) := (kc_ BK435.out 1).trans rfl; have hfz26_0 := kf_ BK435.out 0; have hfz26_1 := kf_ BK435.out 1; have hcz27_0 : w23.cell? ⟨gb429, 0, none⟩ = some (.int .i64 a0_0) := (kc_ BK429.out 0).trans rfl; have hcz27_1 : w23.cell? ⟨gb429, 1, none⟩ = some (.int .i64 a0_1) := (kc_ BK429.out 1).trans rfl; have hfz27_0 := kf_ BK429.out 0; have hfz27_1 := kf_ BK429.out 1) | ((with_reducible refine gate_callee (f := 7) rfl ?_); refine goesL_ (some 34) rfl rfl Tryz.func7 (by kernel_rfl) rfl #[.agg #[.int .i64 a0_0, .int .i64 a0_1]] rfl (by (try simp only [lm_, lq_, lx_]); first | done | rfl | (simp only [ld_, lt_]; rfl)) ?_; (with_reducible refine (neumeref07_Value.calls k a0_0 a0_1 t436 t437 t438 _ A10.out).mono ?_); rintro e w28 ⟨rfl, hb⟩; refine ⟨_, rfl, ?_⟩; replace BK429 := sd_ (blk_below (g := gb429) (o := .cells #[.int .i64 a0_0, .int .i64 a0_1] 23 (0, 0)) (by (with_reducible repeat first | apply kn_ | apply kd_ | apply ka_); refine blk_far ?_ NB429_435.out _; (with_reducible repeat first | apply kn_ | apply kd_ | apply ka_); refine blk_far ?_ NB429_435.out _; (with_reducible repeat first | apply kn_ | apply kd_ | apply ka_); exact BK429.out) hb); replace BK430 := sd_ (blk_below (g := gb430) (o := .cells #[.int .i64 a1_0, .int .i64 a1_1] 25 (0, 0)) (by (with_reducible repeat first | apply kn_ | apply kd_ | apply ka_); refine blk_far ?_ NB430_435.out _; (with_reducible repeat first | apply kn_ | apply kd_ | apply ka_); refine blk_far ?_ NB430_435.out _; (with_reducible repeat first | apply kn_ | apply kd_ | apply ka_); exact BK430.out) hb); replace BK435 := sd_ (blk_below (g := gb435) (o := .cells #[.int .i64 t432, .int .i64 t433] 25 (0, 0)) (by (with_reducible repeat first | apply kn_ | apply kd_ | apply ka_); refine blk_put (cs := #[.int .i64 t432, .int .i64 0]) ?_ 1 _ rfl; (with_reducible repeat first | apply kn_ | apply kd_ | apply ka_); refine blk_put (cs := #[.int .i64 0, .int .i64 0]) ?_ 0 _ rfl; (with_reducible repeat first | apply kn_ | apply kd_ | apply ka_); exact BK435.out) hb); replace HB := hb_ HB (e_ GE429 (e_ GE430 (e_ GE435 e0_))) hb; (try clear hb); (try clear hb2); (try clear hk); (try clear hi)) | ((with_reducible refine gate_dst (N := 9) rfl ?_); refine box_event ?hg (N := 9) ?hd (cs := #[.int .i64 0, .int .i64 0]) (t := 25) ?hr ?_; (case hd => rfl); (case hg => rfl); (case hr => first | (go_simp; done) | (go_simp; rfl)); intro gb439 hg w29 hbox hb; have BK439 := sd_ hbox; have GW439 := gw_ HB (e_ GE429 (e_ GE430 (e_ GE435 e0_))) hg; have GE439 := GW439; have NB429_439 := nb_ BK429 hg; have NB439_429 := sy_ NB429_439; have NB430_439 := nb_ BK430 hg; have NB439_430 := sy_ NB430_439; have NB435_439 := nb_ BK435 hg; have NB439_435 := sy_ NB435_439; replace BK429 := kb_ BK429 hb; replace BK430 := kb_ BK430 hb; replace BK435 := kb_ BK435 hb; replace HB := hb_ HB (e_ GE429 (e_ GE430 (e_ GE435 e0_))) hb; clear hb hbox hg; have hnb30 := NB439_429.out; have hnc30 := NB429_439.out; have hnb31 := NB439_430.out; have hnc31 := NB430_439.out; have hnb32 := NB439_435.out; have hnc32 := NB435_439.out; have hcz33_0 : w29.cell? ⟨gb439, 0, none⟩ = some (.int .i64 0) := (kc_ BK439.out 0).trans rfl; have hcz33_1 : w29.cell? ⟨gb439, 1, none⟩ = some (.int .i64 0) := (kc_ BK439.out 1).trans rfl; have hfz33_0 := kf_ BK439.out 0; have hfz33_1 := kf_ BK439.out 1) | ((with_reducible refine gate_callee (f := 8) rfl ?_); refine goesL_ (some 39) rfl rfl Tryz.func8 (by kernel_rfl) rfl #[.string a2] rfl (by (try simp only [lm_, lq_, lx_]); first | done | rfl | (simp only [ld_, lt_]; rfl)) ?_; (with_reducible refine (dur_Parse.calls k a2 t440 t441 t442 _ A11.out).mono ?_); rintro e w34 ⟨rfl, hb⟩; refine ⟨_, rfl, ?_⟩; replace BK429 := sd_ (blk_below (g := gb429) (o := .cells #[.int .i64 a0_0, .int .i64 a0_1] 23 (0, 0)) (by (with_reducible repeat first | apply kn_ | apply kd_ | apply ka_); refine blk_far ?_ NB429_439.out _; (with_reducible repeat first | apply kn_ | apply kd_ | apply ka_); refine blk_far ?_ NB429_439.out _; (with_reducible repeat first | apply kn_ | apply kd_ | apply ka_); exact BK429.out) hb); replace BK430 := sd_ (blk_below (g := gb430) (o := .cells #[.int .i64 a1_0, .int .i64 a1_1] 25 (0, 0)) (by (with_reducible repeat first | apply kn_ | apply kd_ | apply ka_); refine blk_far ?_ NB430_439.out _; (with_reducible repeat first | apply kn_ | apply kd_ | apply ka_); refine blk_far ?_ NB430_439.out _; (with_reducible repeat first | apply kn_ | apply kd_ | apply ka_); exact BK430.out) hb); replace BK435 := sd_ (blk_below (g := gb435) (o := .cells #[.int .i64 t432, .int .i64 t433] 25 (0, 0)) (by (with_reducible repeat first | apply kn_ | apply kd_ | apply ka_); refine blk_far ?_ NB435_439.out _; (with_reducible repeat first | apply kn_ | apply kd_ | apply ka_); refine blk_far ?_ NB435_439.out _; (with_reducible repeat first | apply kn_ | apply kd_ | apply ka_); exact BK435.out) hb); replace BK439 := sd_ (blk_below (g := gb439) (o := .cells #[.int .i64 t436, .int .i64 t437] 25 (0, 0)) (by (with_reducible repeat first | apply kn_ | apply kd_ | apply ka_); refine blk_put (cs := #[.int .i64 t436, .int .i64 0]) ?_ 1 _ rfl; (with_reducible repeat first | apply kn_ | apply kd_ | apply ka_); refine blk_put (cs := #[.int .i64 0, .int .i64 0]) ?_ 0 _ rfl; (with_reducible repeat first | apply kn_ | apply kd_ | apply ka_); exact BK439.out) hb); replace HB := hb_ HB (e_ GE429 (e_ GE430 (e_ GE435 (e_ GE439 e0_)))) hb; (try clear hb); (try clear hb2); (try clear hk); (try clear hi)) | ((with_reducible refine gate_dst (N := 11) rfl ?_); refine box_event ?hg (N := 11) ?hd (cs := #[.int .i64 0, .int .i64 0]) (t := 23) ?hr ?_; (case hd => rfl); (case hg => rfl); (case hr => first | (go_simp; done) | (go_simp; rfl)); intro gb443 hg w35 hbox hb; have BK443 := sd_ hbox; have GW443 := gw_ HB (e_ GE429 (e_ GE430 (e_ GE435 (e_ GE439 e0_)))) hg; have GE443 := GW443; have NB429_443 := nb_ BK429 hg; have NB443_429 := sy_ NB429_443; have NB430_443 := nb_ BK430 hg; have NB443_430 := sy_ NB430_443; have NB435_443 := nb_ BK435 hg; have NB443_435 := sy_ NB435_443; have NB439_443 := nb_ BK439 hg; have NB443_439 := sy_ NB439_443; replace BK429 := kb_ BK429 hb; replace BK430 := kb_ BK430 hb; replace BK435 := kb_ BK435 hb; replace BK439 := kb_ BK439 hb; replace HB := hb_ HB (e_ GE429 (e_ GE430 (e_ GE435 (e_ GE439 e0_)))) hb; clear hb hbox hg; have hnb36 := NB443_429.out; have hnc36 := NB429_443.out; have hnb37 := NB443_430.out; have hnc37 := NB430_443.out; have hnb38 := NB443_435.out; have hnc38 := NB435_443.out; have hnb39 := NB443_439.out; have hnc39 := NB439_443.out; have hcz40_0 : w35.cell? ⟨gb443, 0, none⟩ = some (.int .i64 0) := (kc_ BK443.out 0).trans rfl; have hcz40_1 : w35.cell? ⟨gb443, 1, none⟩ = some (.int .i64 0) := (kc_ BK443.out 1).trans rfl; have hfz40_0 := kf_ BK443.out 0; have hfz40_1 := kf_ BK443.out 1) | ((with_reducible refine gate_callee (f := 9) rfl ?_); refine goesL_ (some 44) rfl rfl Tryz.func9 (by kernel_rfl) rfl #[.string a2] rfl (by (try simp only [lm_, lq_, lx_]); first | done | rfl | (simp only [ld_, lt_]; rfl)) ?_; (with_reducible refine (neumeref07_Parse.calls k a2 t444 t445 t446 _ A12.out).mono ?_); rintro e w41 ⟨rfl, hb⟩; refine ⟨_, rfl, ?_⟩; replace BK429 := sd_ (blk_below (g := gb429) (o := .cells #[.int .i64 a0_0, .int .i64 a0_1] 23 (0, 0)) (by (with_reducible repeat first | apply kn_ | apply kd_ | apply ka_); refine blk_far ?_ NB429_443.out _; (with_reducible repeat first | apply kn_ | apply kd_ | apply ka_); refine blk_far ?_ NB429_443.out _; (with_reducible repeat first | apply kn_ | apply kd_ | apply ka_); exact BK429.out) hb); replace BK430 := sd_ (blk_below (g := gb430) (o := .cells #[.int .i64 a1_0, .int .i64 a1_1] 25 (0, 0)) (by (with_reducible repeat first | apply kn_ | apply kd_ | apply ka_); refine blk_far ?_ NB430_443.out _; (with_reducible repeat first | apply kn_ | apply kd_ | apply ka_); refine blk_far ?_ NB430_443.out _; (with_reducible repeat first | apply kn_ | apply kd_ | apply ka_); exact BK430.out) hb); replace BK435 := sd_ (blk_below (g := gb435) (o := .cells #[.int .i64 t432, .int .i64 t433] 25 (0, 0)) (by (with_reducible repeat first | apply kn_ | apply kd_ | apply ka_); refine blk_far ?_ NB435_443.out _; (with_reducible repeat first | apply kn_ | apply kd_ | apply ka_); refine blk_far ?_ NB435_443.out _; (with_reducible repeat first | apply kn_ | apply kd_ | apply ka_); exact BK435.out) hb); replace BK439 := sd_ (blk_below (g := gb439) (o := .cells #[.int .i64 t436, .int .i64 t437] 25 (0, 0)) (by (with_reducible repeat first | apply kn_ | apply kd_ | apply ka_); refine blk_far ?_ NB439_443.out _; (with_reducible repeat first | apply kn_ | apply kd_ | apply ka_); refine blk_far ?_ NB439_443.out _; (with_reducible repeat first | apply kn_ | apply kd_ | apply ka_); exact BK439.out) hb); replace BK443 := sd_ (blk_below (g := gb443) (o := .cells #[.int .i64 t440, .int .i64 t441] 23 (0, 0)) (by (with_reducible repeat first | apply kn_ | apply kd_ | apply ka_); refine blk_put (cs := #[.int .i64 t440, .int .i64 0]) ?_ 1 _ rfl; (with_reducible repeat first | apply kn_ | apply kd_ | apply ka_); refine blk_put (cs := #[.int .i64 0, .int .i64 0]) ?_ 0 _ rfl; (with_reducible repeat first | apply kn_ | apply kd_ | apply ka_); exact BK443.out) hb); replace HB := hb_ HB (e_ GE429 (e_ GE430 (e_ GE435 (e_ GE439 (e_ GE443 e0_))))) hb; (try clear hb); (try clear hb2); (try clear hk); (try clear hi)) | ((with_reducible refine gate_dst (N := 13) rfl ?_); refine box_event ?hg (N := 13) ?hd (cs := #[.int .i64 0, .int .i64 0]) (t := 23) ?hr ?_; (case hd => rfl); (case hg => rfl); (case hr => first | (go_simp; done) | (go_simp; rfl)); intro gb447 hg w42 hbox hb; have BK447 := sd_ hbox; have GW447 := gw_ HB (e_ GE429 (e_ GE430 (e_ GE435 (e_ GE439 (e_ GE443 e0_))))) hg; have GE447 := GW447; have NB429_447 := nb_ BK429 hg; have NB447_429 := sy_ NB429_447; have NB430_447 := nb_ BK430 hg; have NB447_430 := sy_ NB430_447; have NB435_447 := nb_ BK435 hg; have NB447_435 := sy_ NB435_447; have NB439_447 := nb_ BK439 hg; have NB447_439 := sy_ NB439_447; have NB443_447 := nb_ BK443 hg; have NB447_443 := sy_ NB443_447; replace BK429 := kb_ BK429 hb; replace BK430 := kb_ BK430 hb; replace BK435 := kb_ BK435 hb; replace BK439 := kb_ BK439 hb; replace BK443 := kb_ BK443 hb; replace HB := hb_ HB (e_ GE429 (e_ GE430 (e_ GE435 (e_ GE439 (e_ GE443 e0_))))) hb; clear hb hbox hg; have hnb43 := NB447_429.out; have hnc43 := NB429_447.out; have hnb44 := NB447_430.out; have hnc44 := NB430_447.out; have hnb45 := NB447_435.out; have hnc45 := NB435_447.out; have hnb46 := NB447_439.out; have hnc46 := NB439_447.out; have hnb47 := NB447_443.out; have hnc47 := NB443_447.out; have hcz48_0 : w42.cell? ⟨gb447, 0, none⟩ = some (.int .i64 0) := (kc_ BK447.out 0).trans rfl; have hcz48_1 : w42.cell? ⟨gb447, 1, none⟩ = some (.int .i64 0) := (kc_ BK447.out 1).trans rfl; have hfz48_0 := kf_ BK447.out 0; have hfz48_1 := kf_ BK447.out 1; have hcz49_0 : w42.cell? ⟨gb430, 0, none⟩ = some (.int .i64 a1_0) := (kc_ BK430.out 0).trans rfl; have hcz49_1 : w42.cell? ⟨gb430, 1, none⟩ = some (.int .i64 a1_1) := (kc_ BK430.out 1).trans rfl; have hfz49_0 := kf_ BK430.out 0; have hfz49_1 := kf_ BK430.out 1) | ((with_reducible refine gate_callee (f := 10) rfl ?_); refine goesL_ (some 49) rfl rfl Tryz.func10 (by kernel_rfl) rfl #[.agg #[.int .i64 a1_0, .int .i64 a1_1]] rfl (by (try simp only [lm_, lq_, lx_]); first | done | rfl | (simp only [ld_, lt_]; rfl)) ?_; (with_reducible refine (dur_Of.calls k a1_0 a1_1 t448 t449 t450 _ ?side1 A13.out).mono ?_); (case side1 => first | (with_reducible exact hE) | exact sd_ (LaidE.below hE.out (bb_ HB.out (e_ GE429 (e_ GE430 (e_ GE435 (e_ GE439 (e_ GE443 (e_ GE447 e0_))))))))); rintro e w50 ⟨rfl, hb⟩; refine ⟨_, rfl, ?_⟩; replace BK429 := sd_ (blk_below (g := gb429) (o := .cells #[.int .i64 a0_0, .int .i64 a0_1] 23 (0, 0)) (by (with_reducible repeat first | apply kn_ | apply kd_ | apply ka_); refine blk_far ?_ NB429_447.out _; (with_reducible repeat first | apply kn_ | apply kd_ | apply ka_); refine blk_far ?_ NB429_447.out _; (with_reducible repeat first | apply kn_ | apply kd_ | apply ka_); exact BK429.out) hb); replace BK430 := sd_ (blk_below (g := gb430) (o := .cells #[.int .i64 a1_0, .int .i64 a1_1] 25 (0, 0)) (by (with_reducible repeat first | apply kn_ | apply kd_ | apply ka_); refine blk_far ?_ NB430_447.out _; (with_reducible repeat first | apply kn_ | apply kd_ | apply ka_); refine blk_far ?_ NB430_447.out _; (with_reducible repeat first | apply kn_ | apply kd_ | apply ka_); exact BK430.out) hb); replace BK435 := sd_ (blk_below (g := gb435) (o := .cells #[.int .i64 t432, .int .i64 t433] 25 (0, 0)) (by (with_reducible repeat first | apply kn_ | apply kd_ | apply ka_); refine blk_far ?_ NB435_447.out _; (with_reducible repeat first | apply kn_ | apply kd_ | apply ka_); refine blk_far ?_ NB435_447.out _; (with_reducible repeat first | apply kn_ | apply kd_ | apply ka_); exact BK435.out) hb); replace BK439 := sd_ (blk_below (g := gb439) (o := .cells #[.int .i64 t436, .int .i64 t437] 25 (0, 0)) (by (with_reducible repeat first | apply kn_ | apply kd_ | apply ka_); refine blk_far ?_ NB439_447.out _; (with_reducible repeat first | apply kn_ | apply kd_ | apply ka_); refine blk_far ?_ NB439_447.out _; (with_reducible repeat first | apply kn_ | apply kd_ | apply ka_); exact BK439.out) hb); replace BK443 := sd_ (blk_below (g := gb443) (o := .cells #[.int .i64 t440, .int .i64 t441] 23 (0, 0)) (by (with_reducible repeat first | apply kn_ | apply kd_ | apply ka_); refine blk_far ?_ NB443_447.out _; (with_reducible repeat first | apply kn_ | apply kd_ | apply ka_); refine blk_far ?_ NB443_447.out _; (with_reducible repeat first | apply kn_ | apply kd_ | apply ka_); exact BK443.out) hb); replace BK447 := sd_ (blk_below (g := gb447) (o := .cells #[.int .i64 t444, .int .i64 t445] 23 (0, 0)) (by (with_reducible repeat first | apply kn_ | apply kd_ | apply ka_); refine blk_put (cs := #[.int .i64 t444, .int .i64 0]) ?_ 1 _ rfl; (with_reducible repeat first | apply kn_ | apply kd_ | apply ka_); refine blk_put (cs := #[.int .i64 0, .int .i64 0]) ?_ 0 _ rfl; (with_reducible repeat first | apply kn_ | apply kd_ | apply ka_); exact BK447.out) hb); replace HB := hb_ HB (e_ GE429 (e_ GE430 (e_ GE435 (e_ GE439 (e_ GE443 (e_ GE447 e0_)))))) hb; (try clear hb); (try clear hb2); (try clear hk); (try clear hi)) | ((with_reducible refine gate_dst (N := 15) rfl ?_); refine box_event ?hg (N := 15) ?hd (cs := #[.int .i64 0, .int .i64 0]) (t := 23) ?hr ?_; (case hd => rfl); (case hg => rfl); (case hr => first | (go_simp; done) | (go_simp; rfl)); intro gb451 hg w51 hbox hb; have BK451 := sd_ hbox; have GW451 := gw_ HB (e_ GE429 (e_ GE430 (e_ GE435 (e_ GE439 (e_ GE443 (e_ GE447 e0_)))))) hg; have GE451 := GW451; have NB429_451 := nb_ BK429 hg; have NB451_429 := sy_ NB429_451; have NB430_451 := nb_ BK430 hg; have NB451_430 := sy_ NB430_451; have NB435_451 := nb_ BK435 hg; have NB451_435 := sy_ NB435_451; have NB439_451 := nb_ BK439 hg; have NB451_439 := sy_ NB439_451; have NB443_451 := nb_ BK443 hg; have NB451_443 := sy_ NB443_451; have NB447_451 := nb_ BK447 hg; have NB451_447 := sy_ NB447_451; replace BK429 := kb_ BK429 hb; replace BK430 := kb_ BK430 hb; replace BK435 := kb_ BK435 hb; replace BK439 := kb_ BK439 hb; replace BK443 := kb_ BK443 hb; replace BK447 := kb_ BK447 hb; replace HB := hb_ HB (e_ GE429 (e_ GE430 (e_ GE435 (e_ GE439 (e_ GE443 (e_ GE447 e0_)))))) hb; clear hb hbox hg; have hnb52 := NB451_429.out; have hnc52 := NB429_451.out; have hnb53 := NB451_430.out; have hnc53 := NB430_451.out; have hnb54 := NB451_435.out; have hnc54 := NB435_451.out; have hnb55 := NB451_439.out; have hnc55 := NB439_451.out; have hnb56 := NB451_443.out; have hnc56 := NB443_451.out; have hnb57 := NB451_447.out; have hnc57 := NB447_451.out; have hcz58_0 : w51.cell? ⟨gb451, 0, none⟩ = some (.int .i64 0) := (kc_ BK451.out 0).trans rfl; have hcz58_1 : w51.cell? ⟨gb451, 1, none⟩ = some (.int .i64 0) := (kc_ BK451.out 1).trans rfl; have hfz58_0 := kf_ BK451.out 0; have hfz58_1 := kf_ BK451.out 1; have hcz59_0 : w51.cell? ⟨gb430, 0, none⟩ = some (.int .i64 a1_0) := (kc_ BK430.out 0).trans rfl; have hcz59_1 : w51.cell? ⟨gb430, 1, none⟩ = some (.int .i64 a1_1) := (kc_ BK430.out 1).trans rfl; have hfz59_0 := kf_ BK430.out 0; have hfz59_1 := kf_ BK430.out 1) | ((with_reducible refine gate_callee (f := 11) rfl ?_); refine goesL_ (some 54) rfl rfl Tryz.func11 (by kernel_rfl) rfl #[.agg #[.int .i64 a1_0, .int .i64 a1_1]] rfl (by (try simp only [lm_, lq_, lx_]); first | done | rfl | (simp only [ld_, lt_]; rfl)) ?_; (with_reducible refine (neumeref07_Of.calls k a1_0 a1_1 t452 t453 t454 _ A14.out).mono ?_); rintro e w60 ⟨rfl, hb⟩; refine ⟨_, rfl, ?_⟩; replace BK429 := sd_ (blk_below (g := gb429) (o := .cells #[.int .i64 a0_0, .int .i64 a0_1] 23 (0, 0)) (by (with_reducible repeat first | apply kn_ | apply kd_ | apply ka_); refine blk_far ?_ NB429_451.out _; (with_reducible repeat first | apply kn_ | apply kd_ | apply ka_); refine blk_far ?_ NB429_451.out _; (with_reducible repeat first | apply kn_ | apply kd_ | apply ka_); exact BK429.out) hb); replace BK430 := sd_ (blk_below (g := gb430) (o := .cells #[.int .i64 a1_0, .int .i64 a1_1] 25 (0, 0)) (by (with_reducible repeat first | apply kn_ | apply kd_ | apply ka_); refine blk_far ?_ NB430_451.out _; (with_reducible repeat first | apply kn_ | apply kd_ | apply ka_); refine blk_far ?_ NB430_451.out _; (with_reducible repeat first | apply kn_ | apply kd_ | apply ka_); exact BK430.out) hb); replace BK435 := sd_ (blk_below (g := gb435) (o := .cells #[.int .i64 t432, .int .i64 t433] 25 (0, 0)) (by (with_reducible repeat first | apply kn_ | apply kd_ | apply ka_); refine blk_far ?_ NB435_451.out _; (with_reducible repeat first | apply kn_ | apply kd_ | apply ka_); refine blk_far ?_ NB435_451.out _; (with_reducible repeat first | apply kn_ | apply kd_ | apply ka_); exact BK435.out) hb); replace BK439 := sd_ (blk_below (g := gb439) (o := .cells #[.int .i64 t436, .int .i64 t437] 25 (0, 0)) (by (with_reducible repeat first | apply kn_ | apply kd_ | apply ka_); refine blk_far ?_ NB439_451.out _; (with_reducible repeat first | apply kn_ | apply kd_ | apply ka_); refine blk_far ?_ NB439_451.out _; (with_reducible repeat first | apply kn_ | apply kd_ | apply ka_); exact BK439.out) hb); replace BK443 := sd_ (blk_below (g := gb443) (o := .cells #[.int .i64 t440, .int .i64 t441] 23 (0, 0)) (by (with_reducible repeat first | apply kn_ | apply kd_ | apply ka_); refine blk_far ?_ NB443_451.out _; (with_reducible repeat first | apply kn_ | apply kd_ | apply ka_); refine blk_far ?_ NB443_451.out _; (with_reducible repeat first | apply kn_ | apply kd_ | apply ka_); exact BK443.out) hb); replace BK447 := sd_ (blk_below (g := gb447) (o := .cells #[.int .i64 t444, .int .i64 t445] 23 (0, 0)) (by (with_reducible repeat first | apply kn_ | apply kd_ | apply ka_); refine blk_far ?_ NB447_451.out _; (with_reducible repeat first | apply kn_ | apply kd_ | apply ka_); refine blk_far ?_ NB447_451.out _; (with_reducible repeat first | apply kn_ | apply kd_ | apply ka_); exact BK447.out) hb); replace BK451 := sd_ (blk_below (g := gb451) (o := .cells #[.int .i64 t448, .int .i64 t449] 23 (0, 0)) (by (with_reducible repeat first | apply kn_ | apply kd_ | apply ka_); refine blk_put (cs := #[.int .i64 t448, .int .i64 0]) ?_ 1 _ rfl; (with_reducible repeat first | apply kn_ | apply kd_ | apply ka_); refine blk_put (cs := #[.int .i64 0, .int .i64 0]) ?_ 0 _ rfl; (with_reducible repeat first | apply kn_ | apply kd_ | apply ka_); exact BK451.out) hb); replace HB := hb_ HB (e_ GE429 (e_ GE430 (e_ GE435 (e_ GE439 (e_ GE443 (e_ GE447 (e_ GE451 e0_))))))) hb; (try clear hb); (try clear hb2); (try clear hk); (try clear hi)) | ((with_reducible refine gate_dst (N := 17) rfl ?_); refine box_event ?hg (N := 17) ?hd (cs := #[.int .i64 0, .int .i64 0]) (t := 23) ?hr ?_; (case hd => rfl); (case hg => rfl); (case hr => first | (go_simp; done) | (go_simp; rfl)); intro gb455 hg w61 hbox hb; have BK455 := sd_ hbox; have GW455 := gw_ HB (e_ GE429 (e_ GE430 (e_ GE435 (e_ GE439 (e_ GE443 (e_ GE447 (e_ GE451 e0_))))))) hg; have GE455 := GW455; have NB429_455 := nb_ BK429 hg; have NB455_429 := sy_ NB429_455; have NB430_455 := nb_ BK430 hg; have NB455_430 := sy_ NB430_455; have NB435_455 := nb_ BK435 hg; have NB455_435 := sy_ NB435_455; have NB439_455 := nb_ BK439 hg; have NB455_439 := sy_ NB439_455; have NB443_455 := nb_ BK443 hg; have NB455_443 := sy_ NB443_455; have NB447_455 := nb_ BK447 hg; have NB455_447 := sy_ NB447_455; have NB451_455 := nb_ BK451 hg; have NB455_451 := sy_ NB451_455; replace BK429 := kb_ BK429 hb; replace BK430 := kb_ BK430 hb; replace BK435 := kb_ BK435 hb; replace BK439 := kb_ BK439 hb; replace BK443 := kb_ BK443 hb; replace BK447 := kb_ BK447 hb; replace BK451 := kb_ BK451 hb; replace HB := hb_ HB (e_ GE429 (e_ GE430 (e_ GE435 (e_ GE439 (e_ GE443 (e_ GE447 (e_ GE451 e0_))))))) hb; clear hb hbox hg; have hnb62 := NB455_429.out; have hnc62 := NB429_455.out; have hnb63 := NB455_430.out; have hnc63 := NB430_455.out; have hnb64 := NB455_435.out; have hnc64 := NB435_455.out; have hnb65 := NB455_439.out; have hnc65 := NB439_455.out; have hnb66 := NB455_443.out; have hnc66 := NB443_455.out; have hnb67 := NB455_447.out; have hnc67 := NB447_455.out; have hnb68 := NB455_451.out; have hnc68 := NB451_455.out; have hcz69_0 : w61.cell? ⟨gb455, 0, none⟩ = some (.int .i64 0) := (kc_ BK455.out 0).trans rfl; have hcz69_1 : w61.cell? ⟨gb455, 1, none⟩ = some (.int .i64 0) := (kc_ BK455.out 1).trans rfl; have hfz69_0 := kf_ BK455.out 0; have hfz69_1 := kf_ BK455.out 1; have hcz70_0 : w61.cell? ⟨gb430, 0, none⟩ = some (.int .i64 a1_0) := (kc_ BK430.out 0).trans rfl; have hcz70_1 : w61.cell? ⟨gb430, 1, none⟩ = some (.int .i64 a1_1) := (kc_ BK430.out 1).trans rfl; have hfz70_0 := kf_ BK430.out 0; have hfz70_1 := kf_ BK430.out 1) | ((with_reducible refine gate_callee (f := 12) rfl ?_); refine goesL_ (some 59) rfl rfl Tryz.func12 (by kernel_rfl) rfl #[.agg #[.int .i64 a1_0, .int .i64 a1_1]] rfl (by (try simp only [lm_, lq_, lx_]); first | done | rfl | (simp only [ld_, lt_]; rfl)) ?_; (with_reducible refine (dur_Split.calls k a1_0 a1_1 t456 t459 _ ?side1 A15.out).mono ?_); (case side1 => first | (with_reducible exact hE) | exact sd_ (LaidE.below hE.out (bb_ HB.out (e_ GE429 (e_ GE430 (e_ GE435 (e_ GE439 (e_ GE443 (e_ GE447 (e_ GE451 (e_ GE455 e0_))))))))))); rintro e w71 ⟨v457, rfl, ho0, hb⟩; refine ⟨_, rfl, ?_⟩; have HO458 := sd_ (Kd.R_lower (Kd.R_newB (Kd.R_newB (Kd.R_newB (Kd.R_newB (Kd.R_newB ho0 (g := gb429) (o := .cells #[.int .i64 a0_0, .int .i64 a0_1] 23 (0, 0)) (by (with_reducible repeat first | apply kn_ | apply kd_ | apply ka_); refine blk_far ?_ NB429_455.out _; (with_reducible repeat first | apply kn_ | apply kd_ | apply ka_); refine blk_far ?_ NB429_455.out _; (with_reducible repeat first | apply kn_ | apply kd_ | apply ka_); exact BK429.out)) (g := gb443) (o := .cells #[.int .i64 t440, .int .i64 t441] 23 (0, 0)) (by (with_reducible repeat first | apply kn_ | apply kd_ | apply ka_); refine blk_far ?_ NB443_455.out _; (with_reducible repeat first | apply kn_ | apply kd_ | apply ka_); refine blk_far ?_ NB443_455.out _; (with_reducible repeat first | apply kn_ | apply kd_ | apply ka_); exact BK443.out)) (g := gb447) (o := .cells #[.int .i64 t444, .int .i64 t445] 23 (0, 0)) (by (with_reducible repeat first | apply kn_ | apply kd_ | apply ka_); refine blk_far ?_ NB447_455.out _; (with_reducible repeat first | apply kn_ | apply kd_ | apply ka_); refine blk_far ?_ NB447_455.out _; (with_reducible repeat first | apply kn_ | apply kd_ | apply ka_); exact BK447.out)) (g := gb451) (o := .cells #[.int .i64 t448, .int .i64 t449] 23 (0, 0)) (by (with_reducible repeat first | apply kn_ | apply kd_ | apply ka_); refine blk_far ?_ NB451_455.out _; (with_reducible repeat first | apply kn_ | apply kd_ | apply ka_); refine blk_far ?_ NB451_455.out _; (with_reducible repeat first | apply kn_ | apply kd_ | apply ka_); exact BK451.out)) (g := gb455) (o := .cells #[.int .i64 t452, .int .i64 t453] 23 (0, 0)) (by (with_reducible repeat first | apply kn_ | apply kd_ | apply ka_); refine blk_put (cs := #[.int .i64 t452, .int .i64 0]) ?_ 1 _ rfl; (with_reducible repeat first | apply kn_ | apply kd_ | apply ka_); refine blk_put (cs := #[.int .i64 0, .int .i64 0]) ?_ 0 _ rfl; (with_reducible repeat first | apply kn_ | apply kd_ | apply ka_); exact BK455.out)) (bz_ (bb_ HB.out (e_ GE429 (e_ GE430 (e_ GE435 (e_ GE439 (e_ GE443 (e_ GE447 (e_ GE451 (e_ GE455 e0_))))))))))); replace BK429 := sd_ (blk_below (g := gb429) (o := .cells #[.int .i64 a0_0, .int .i64 a0_1] 23 (0, 0)) (by (with_reducible repeat first | apply kn_ | apply kd_ | apply ka_); refine blk_far ?_ NB429_455.out _; (with_reducible repeat first | apply kn_ | apply kd_ | apply ka_); refine blk_far ?_ NB429_455.out _; (with_reducible repeat first | apply kn_ | apply kd_ | apply ka_); exact BK429.out) hb); replace BK430 := sd_ (blk_below (g := gb430) (o := .cells #[.int .i64 a1_0, .int .i64 a1_1] 25 (0, 0)) (by (with_reducible repeat first | apply kn_ | apply kd_ | apply ka_); refine blk_far ?_ NB430_455.out _; (with_reducible repeat first | apply kn_ | apply kd_ | apply ka_); refine blk_far ?_ NB430_455.out _; (with_reducible repeat first | apply kn_ | apply kd_ | apply ka_); exact BK430.out) hb); replace BK435 := sd_ (blk_below (g := gb435) (o := .cells #[.int .i64 t432, .int .i64 t433] 25 (0, 0)) (by (with_reducible repeat first | apply kn_ | apply kd_ | apply ka_); refine blk_far ?_ NB435_455.out _; (with_reducible repeat first | apply kn_ | apply kd_ | apply ka_); refine blk_far ?_ NB435_455.out _; (with_reducible repeat first | apply kn_ | apply kd_ | apply ka_); exact BK435.out) hb); replace BK439 := sd_ (blk_below (g := gb439) (o := .cells #[.int .i64 t436, .int .i64 t437] 25 (0, 0)) (by (with_reducible repeat first | apply kn_ | apply kd_ | apply ka_); refine blk_far ?_ NB439_455.out _; (with_reducible repeat first | apply kn_ | apply kd_ | apply ka_); refine blk_far ?_ NB439_455.out _; (with_reducible repeat first | apply kn_ | apply kd_ | apply ka_); exact BK439.out) hb); replace BK443 := sd_ (blk_below (g := gb443) (o := .cells #[.int .i64 t440, .int .i64 t441] 23 (0, 0)) (by (with_reducible repeat first | apply kn_ | apply kd_ | apply ka_); refine blk_far ?_ NB443_455.out _; (with_reducible repeat first | apply kn_ | apply kd_ | apply ka_); refine blk_far ?_ NB443_455.out _; (with_reducible repeat first | apply kn_ | apply kd_ | apply ka_); exact BK443.out) hb); replace BK447 := sd_ (blk_below (g := gb447) (o := .cells #[.int .i64 t444, .int .i64 t445] 23 (0, 0)) (by (with_reducible repeat first | apply kn_ | apply kd_ | apply ka_); refine blk_far ?_ NB447_455.out _; (with_reducible repeat first | apply kn_ | apply kd_ | apply ka_); refine blk_far ?_ NB447_455.out _; (with_reducible repeat first | apply kn_ | apply kd_ | apply ka_); exact BK447.out) hb); replace BK451 := sd_ (blk_below (g := gb451) (o := .cells #[.int .i64 t448, .int .i64 t449] 23 (0, 0)) (by (with_reducible repeat first | apply kn_ | apply kd_ | apply ka_); refine blk_far ?_ NB451_455.out _; (with_reducible repeat first | apply kn_ | apply kd_ | apply ka_); refine blk_far ?_ NB451_455.out _; (with_reducible repeat first | apply kn_ | apply kd_ | apply ka_); exact BK451.out) hb); replace BK455 := sd_ (blk_below (g := gb455) (o := .cells #[.int .i64 t452, .int .i64 t453] 23 (0, 0)) (by (with_reducible repeat first | apply kn_ | apply kd_ | apply ka_); refine blk_put (cs := #[.int .i64 t452, .int .i64 0]) ?_ 1 _ rfl; (with_reducible repeat first | apply kn_ | apply kd_ | apply ka_); refine blk_put (cs := #[.int .i64 0, .int .i64 0]) ?_ 0 _ rfl; (with_reducible repeat first | apply kn_ | apply kd_ | apply ka_); exact BK455.out) hb); replace HB := hb_ HB (e_ GE429 (e_ GE430 (e_ GE435 (e_ GE439 (e_ GE443 (e_ GE447 (e_ GE451 (e_ GE455 e0_)))))))) hb; (try clear hb); (try clear hb2); (try clear hk); (try clear hi); (try clear ho0); have hcz72_0 : w71.cell? ⟨gb430, 0, none⟩ = some (.int .i64 a1_0) := (kc_ BK430.out 0).trans rfl; have hcz72_1 : w71.cell? ⟨gb430, 1, none⟩ = some (.int .i64 a1_1) := (kc_ BK430.out 1).trans rfl; have hfz72_0 := kf_ BK430.out 0; have hfz72_1 := kf_ BK430.out 1) | ((with_reducible refine gate_callee (f := 13) rfl ?_); refine goesL_ (some 64) rfl rfl Tryz.func13 (by kernel_rfl) rfl #[.agg #[.int .i64 a1_0, .int .i64 a1_1]] rfl (by (try simp only [lm_, lq_, lx_]); first | done | rfl | (simp only [ld_, lt_]; rfl)) ?_; (with_reducible refine (neumeref07_Split.calls k a1_0 a1_1 t460 t463 _ A16.out).mono ?_); rintro e w73 ⟨v461, rfl, ho0, hb⟩; refine ⟨_, rfl, ?_⟩; have HO462 := sd_ (Kd.R_lower (Kd.R_newB (Kd.R_newB (Kd.R_newB (Kd.R_newB (Kd.R_newB (Kd.R_new' ho0 (Kd.R_lt (by (with_reducible repeat (first | apply Kd.R_alloc | apply Kd.R_drewN | apply Kd.R_drew)); exact HO458.out))) (kk_ BK429.out)) (kk_ BK443.out)) (kk_ BK447.out)) (kk_ BK451.out)) (kk_ BK455.out)) (bz_ (bb_ HB.out (e_ GE429 (e_ GE430 (e_ GE435 (e_ GE439 (e_ GE443 (e_ GE447 (e_ GE451 (e_ GE455 e0_))))))))))); replace HO458 := sd_ (Kd.R_elder' (by (with_reducible repeat (first | apply Kd.R_alloc | apply Kd.R_drewN | apply Kd.R_drew)); exact HO458.out) (Kd.R_base ho0) hb); replace BK429 := kb_ BK429 hb; replace BK430 := kb_ BK430 hb; replace BK435 := kb_ BK435 hb; replace BK439 := kb_ BK439 hb; replace BK443 := kb_ BK443 hb; replace BK447 := kb_ BK447 hb; replace BK451 := kb_ BK451 hb; replace BK455 := kb_ BK455 hb; replace HB := hb_ HB (e_ GE429 (e_ GE430 (e_ GE435 (e_ GE439 (e_ GE443 (e_ GE447 (e_ GE451 (e_ GE455 e0_)))))))) hb; (try clear hb); (try clear hb2); (try clear hk); (try clear hi); (try clear ho0)))
  (try simp only [Act.put, ls_, lz_, lc_])
  go_cut [105] (fun v105 wc => ∃ (kq : Nat) (x105_16 : Bool), v105 = .bool x105_16 ∧ Aside0 (neumelaw07_DurTells.j0 kq x105_16 a0_0 a0_1 = some r) ∧ Aside0 (kq ≤ k) ∧ Aside0 (wc.heap[gb429]? = some (.cells #[.int .i64 a0_0, .int .i64 a0_1] 23 (0, 0))) ∧ Aside0 (wc.heap[gb430]? = some (.cells #[.int .i64 a1_0, .int .i64 a1_1] 25 (0, 0))) ∧ Aside0 (wc.heap[gb435]? = some (.cells #[.int .i64 t432, .int .i64 t433] 25 (0, 0))) ∧ Aside0 (wc.heap[gb439]? = some (.cells #[.int .i64 t436, .int .i64 t437] 25 (0, 0))) ∧ Aside0 (wc.heap[gb443]? = some (.cells #[.int .i64 t440, .int .i64 t441] 23 (0, 0))) ∧ Aside0 (wc.heap[gb447]? = some (.cells #[.int .i64 t444, .int .i64 t445] 23 (0, 0))) ∧ Aside0 (wc.heap[gb451]? = some (.cells #[.int .i64 t448, .int .i64 t449] 23 (0, 0))) ∧ Aside0 (wc.heap[gb455]? = some (.cells #[.int .i64 t452, .int .i64 t453] 23 (0, 0))) ∧ Aside0 (Below w.heap.size w wc))
  case first =>
   have H := HC17.out
   clear HC17
   by_cases c74 : (!(t432 == t436) || (!(t433 == t437))) = true
   ·rw [if_pos c74] at H
    have c74b0 : (!(t432 == t436) || (!(t433 == t437))) = true := c74
    clear c74
    (first | rw [c74b0] | (simp only [i64_w, i32_w]; rw [c74b0]) | skip)
    have H' := sd_ H
    clear H
    have hnb75 := NB435_429.out
    have hnc75 := NB429_435.out
    have hnb76 := NB435_430.out
    have hnc76 := NB430_435.out
    have hnb77 := NB435_439.out
    have hnc77 := NB439_435.out
    have hnb78 := NB435_443.out
    have hnc78 := NB443_435.out
    have hnb79 := NB435_447.out
    have hnc79 := NB447_435.out
    have hnb80 := NB435_451.out
    have hnc80 := NB451_435.out
    have hnb81 := NB435_455.out
    have hnc81 := NB455_435.out
    have hcz82_0 : w73.cell? ⟨gb435, 0, none⟩ = some (.int .i64 t432) := (kc_ BK435.out 0).trans rfl
    have hcz82_1 : w73.cell? ⟨gb435, 1, none⟩ = some (.int .i64 t433) := (kc_ BK435.out 1).trans rfl
    have hfz82_0 := kf_ BK435.out 0
    have hfz82_1 := kf_ BK435.out 1
    have hnb83 := NB439_429.out
    have hnc83 := NB429_439.out
    have hnb84 := NB439_430.out
    have hnc84 := NB430_439.out
    have hnb85 := NB439_443.out
    have hnc85 := NB443_439.out
    have hnb86 := NB439_447.out
    have hnc86 := NB447_439.out
    have hnb87 := NB439_451.out
    have hnc87 := NB451_439.out
    have hnb88 := NB439_455.out
    have hnc88 := NB455_439.out
    have hcz89_0 : w73.cell? ⟨gb439, 0, none⟩ = some (.int .i64 t436) := (kc_ BK439.out 0).trans rfl
    have hcz89_1 : w73.cell? ⟨gb439, 1, none⟩ = some (.int .i64 t437) := (kc_ BK439.out 1).trans rfl
    have hfz89_0 := kf_ BK439.out 0
    have hfz89_1 := kf_ BK439.out 1
    go_wp2
    go_meet
    case rel => exact ⟨_, (true), (by first | rfl | (simp; done) | (simp [*]; done) | (simp [bne]; done)), H', ⟨by first | omega | exact Nat.le_refl _⟩, ⟨by (with_reducible repeat first | apply kn_ | apply kd_ | apply ka_); exact BK429.out⟩, ⟨by (with_reducible repeat first | apply kn_ | apply kd_ | apply ka_); exact BK430.out⟩, ⟨by (with_reducible repeat first | apply kn_ | apply kd_ | apply ka_); exact BK435.out⟩, ⟨by (with_reducible repeat first | apply kn_ | apply kd_ | apply ka_); exact BK439.out⟩, ⟨by (with_reducible repeat first | apply kn_ | apply kd_ | apply ka_); exact BK443.out⟩, ⟨by (with_reducible repeat first | apply kn_ | apply kd_ | apply ka_); exact BK447.out⟩, ⟨by (with_reducible repeat first | apply kn_ | apply kd_ | apply ka_); exact BK451.out⟩, ⟨by (with_reducible repeat first | apply kn_ | apply kd_ | apply ka_); exact BK455.out⟩, ⟨by repeat (first | (with_reducible first | exact HB.out | apply ba_ | apply pd_ | apply d1_ | refine bs_ ?_ GE429.out | refine bs_ ?_ GE430.out | refine bs_ ?_ GE435.out | refine bs_ ?_ GE439.out | refine bs_ ?_ GE443.out | refine bs_ ?_ GE447.out | refine bs_ ?_ GE451.out | refine bs_ ?_ GE455.out) | exact HB.out)⟩⟩
   ·rw [if_neg c74] at H
    have c74b0 : (!(t432 == t436) || (!(t433 == t437))) = false := by simpa using c74
    clear c74
    (first | rw [c74b0] | (simp only [i64_w, i32_w]; rw [c74b0]) | skip)
    by_cases c90 : t434 = t438
    ·rw [if_pos c90] at H
     have c90b0 : (t434 == t438) = true := beq_iff_eq.mpr c90
     have c90b1 : (t434 != t438) = false := bne_eq_false_iff_eq.mpr c90
     clear c90
     by_cases c91 : (!(t440 == t444) || (!(t441 == t445))) = true
     ·rw [if_pos c91] at H
      have c91b0 : (!(t440 == t444) || (!(t441 == t445))) = true := c91
      clear c91
      have H' := sd_ H
      clear H
      have hnb92 := NB435_429.out
      have hnc92 := NB429_435.out
      have hnb93 := NB435_430.out
      have hnc93 := NB430_435.out
      have hnb94 := NB435_439.out
      have hnc94 := NB439_435.out
      have hnb95 := NB435_443.out
      have hnc95 := NB443_435.out
      have hnb96 := NB435_447.out
      have hnc96 := NB447_435.out
      have hnb97 := NB435_451.out
      have hnc97 := NB451_435.out
      have hnb98 := NB435_455.out
      have hnc98 := NB455_435.out
      have hcz99_0 : w73.cell? ⟨gb435, 0, none⟩ = some (.int .i64 t432) := (kc_ BK435.out 0).trans rfl
      have hcz99_1 : w73.cell? ⟨gb435, 1, none⟩ = some (.int .i64 t433) := (kc_ BK435.out 1).trans rfl
      have hfz99_0 := kf_ BK435.out 0
      have hfz99_1 := kf_ BK435.out 1
      have hnb100 := NB439_429.out
      have hnc100 := NB429_439.out
      have hnb101 := NB439_430.out
      have hnc101 := NB430_439.out
      have hnb102 := NB439_443.out
      have hnc102 := NB443_439.out
      have hnb103 := NB439_447.out
      have hnc103 := NB447_439.out
      have hnb104 := NB439_451.out
      have hnc104 := NB451_439.out
      have hnb105 := NB439_455.out
      have hnc105 := NB455_439.out
      have hcz106_0 : w73.cell? ⟨gb439, 0, none⟩ = some (.int .i64 t436) := (kc_ BK439.out 0).trans rfl
      have hcz106_1 : w73.cell? ⟨gb439, 1, none⟩ = some (.int .i64 t437) := (kc_ BK439.out 1).trans rfl
      have hfz106_0 := kf_ BK439.out 0
      have hfz106_1 := kf_ BK439.out 1
      have hnb107 := NB443_429.out
      have hnc107 := NB429_443.out
      have hnb108 := NB443_430.out
      have hnc108 := NB430_443.out
      have hnb109 := NB443_447.out
      have hnc109 := NB447_443.out
      have hnb110 := NB443_451.out
      have hnc110 := NB451_443.out
      have hnb111 := NB443_455.out
      have hnc111 := NB455_443.out
      have hcz112_0 : w73.cell? ⟨gb443, 0, none⟩ = some (.int .i64 t440) := (kc_ BK443.out 0).trans rfl
      have hcz112_1 : w73.cell? ⟨gb443, 1, none⟩ = some (.int .i64 t441) := (kc_ BK443.out 1).trans rfl
      have hfz112_0 := kf_ BK443.out 0
      have hfz112_1 := kf_ BK443.out 1
      have hnb113 := NB447_429.out
      have hnc113 := NB429_447.out
      have hnb114 := NB447_430.out
      have hnc114 := NB430_447.out
      have hnb115 := NB447_451.out
      have hnc115 := NB451_447.out
      have hnb116 := NB447_455.out
      have hnc116 := NB455_447.out
      have hcz117_0 : w73.cell? ⟨gb447, 0, none⟩ = some (.int .i64 t444) := (kc_ BK447.out 0).trans rfl
      have hcz117_1 : w73.cell? ⟨gb447, 1, none⟩ = some (.int .i64 t445) := (kc_ BK447.out 1).trans rfl
      have hfz117_0 := kf_ BK447.out 0
      have hfz117_1 := kf_ BK447.out 1
      go_wp2
      go_meet
      case rel => exact ⟨_, (true), (by first | rfl | (simp; done) | (simp [*]; done) | (simp [bne]; done)), H', ⟨by first | omega | exact Nat.le_refl _⟩, ⟨by (with_reducible repeat first | apply kn_ | apply kd_ | apply ka_); exact BK429.out⟩, ⟨by (with_reducible repeat first | apply kn_ | apply kd_ | apply ka_); exact BK430.out⟩, ⟨by (with_reducible repeat first | apply kn_ | apply kd_ | apply ka_); exact BK435.out⟩, ⟨by (with_reducible repeat first | apply kn_ | apply kd_ | apply ka_); exact BK439.out⟩, ⟨by (with_reducible repeat first | apply kn_ | apply kd_ | apply ka_); exact BK443.out⟩, ⟨by (with_reducible repeat first | apply kn_ | apply kd_ | apply ka_); exact BK447.out⟩, ⟨by (with_reducible repeat first | apply kn_ | apply kd_ | apply ka_); exact BK451.out⟩, ⟨by (with_reducible repeat first | apply kn_ | apply kd_ | apply ka_); exact BK455.out⟩, ⟨by repeat (first | (with_reducible first | exact HB.out | apply ba_ | apply pd_ | apply d1_ | refine bs_ ?_ GE429.out | refine bs_ ?_ GE430.out | refine bs_ ?_ GE435.out | refine bs_ ?_ GE439.out | refine bs_ ?_ GE443.out | refine bs_ ?_ GE447.out | refine bs_ ?_ GE451.out | refine bs_ ?_ GE455.out) | exact HB.out)⟩⟩
     ·rw [if_neg c91] at H
      have c91b0 : (!(t440 == t444) || (!(t441 == t445))) = false := by simpa using c91
      clear c91
      by_cases c118 : (t442 != t446) = true
      ·rw [if_pos c118] at H
       have c118b0 : (t442 != t446) = true := c118
       (try (have c118b1 : decide (t442 = t446) = false := by simpa using c118))
       (try (have c118b2 : (t442 == t446) = false := by simpa using c118))
       (try (have c118b3 : ¬ (t442 = t446) := by simpa using c118))
       clear c118
       have H' := sd_ H
       clear H
       have hnb119 := NB435_429.out
       have hnc119 := NB429_435.out
       have hnb120 := NB435_430.out
       have hnc120 := NB430_435.out
       have hnb121 := NB435_439.out
       have hnc121 := NB439_435.out
       have hnb122 := NB435_443.out
       have hnc122 := NB443_435.out
       have hnb123 := NB435_447.out
       have hnc123 := NB447_435.out
       have hnb124 := NB435_451.out
       have hnc124 := NB451_435.out
       have hnb125 := NB435_455.out
       have hnc125 := NB455_435.out
       have hcz126_0 : w73.cell? ⟨gb435, 0, none⟩ = some (.int .i64 t432) := (kc_ BK435.out 0).trans rfl
       have hcz126_1 : w73.cell? ⟨gb435, 1, none⟩ = some (.int .i64 t433) := (kc_ BK435.out 1).trans rfl
       have hfz126_0 := kf_ BK435.out 0
       have hfz126_1 := kf_ BK435.out 1
       have hnb127 := NB439_429.out
       have hnc127 := NB429_439.out
       have hnb128 := NB439_430.out
       have hnc128 := NB430_439.out
       have hnb129 := NB439_443.out
       have hnc129 := NB443_439.out
       have hnb130 := NB439_447.out
       have hnc130 := NB447_439.out
       have hnb131 := NB439_451.out
       have hnc131 := NB451_439.out
       have hnb132 := NB439_455.out
       have hnc132 := NB455_439.out
       have hcz133_0 : w73.cell? ⟨gb439, 0, none⟩ = some (.int .i64 t436) := (kc_ BK439.out 0).trans rfl
       have hcz133_1 : w73.cell? ⟨gb439, 1, none⟩ = some (.int .i64 t437) := (kc_ BK439.out 1).trans rfl
       have hfz133_0 := kf_ BK439.out 0
       have hfz133_1 := kf_ BK439.out 1
       have hnb134 := NB443_429.out
       have hnc134 := NB429_443.out
       have hnb135 := NB443_430.out
       have hnc135 := NB430_443.out
       have hnb136 := NB443_447.out
       have hnc136 := NB447_443.out
       have hnb137 := NB443_451.out
       have hnc137 := NB451_443.out
       have hnb138 := NB443_455.out
       have hnc138 := NB455_443.out
       have hcz139_0 : w73.cell? ⟨gb443, 0, none⟩ = some (.int .i64 t440) := (kc_ BK443.out 0).trans rfl
       have hcz139_1 : w73.cell? ⟨gb443, 1, none⟩ = some (.int .i64 t441) := (kc_ BK443.out 1).trans rfl
       have hfz139_0 := kf_ BK443.out 0
       have hfz139_1 := kf_ BK443.out 1
       have hnb140 := NB447_429.out
       have hnc140 := NB429_447.out
       have hnb141 := NB447_430.out
       have hnc141 := NB430_447.out
       have hnb142 := NB447_451.out
       have hnc142 := NB451_447.out
       have hnb143 := NB447_455.out
       have hnc143 := NB455_447.out
       have hcz144_0 : w73.cell? ⟨gb447, 0, none⟩ = some (.int .i64 t444) := (kc_ BK447.out 0).trans rfl
       have hcz144_1 : w73.cell? ⟨gb447, 1, none⟩ = some (.int .i64 t445) := (kc_ BK447.out 1).trans rfl
       have hfz144_0 := kf_ BK447.out 0
       have hfz144_1 := kf_ BK447.out 1
       go_wp2
       go_meet
       case rel => exact ⟨_, (true), (by first | rfl | (simp; done) | (simp [*]; done) | (simp [bne]; done)), H', ⟨by first | omega | exact Nat.le_refl _⟩, ⟨by (with_reducible repeat first | apply kn_ | apply kd_ | apply ka_); exact BK429.out⟩, ⟨by (with_reducible repeat first | apply kn_ | apply kd_ | apply ka_); exact BK430.out⟩, ⟨by (with_reducible repeat first | apply kn_ | apply kd_ | apply ka_); exact BK435.out⟩, ⟨by (with_reducible repeat first | apply kn_ | apply kd_ | apply ka_); exact BK439.out⟩, ⟨by (with_reducible repeat first | apply kn_ | apply kd_ | apply ka_); exact BK443.out⟩, ⟨by (with_reducible repeat first | apply kn_ | apply kd_ | apply ka_); exact BK447.out⟩, ⟨by (with_reducible repeat first | apply kn_ | apply kd_ | apply ka_); exact BK451.out⟩, ⟨by (with_reducible repeat first | apply kn_ | apply kd_ | apply ka_); exact BK455.out⟩, ⟨by repeat (first | (with_reducible first | exact HB.out | apply ba_ | apply pd_ | apply d1_ | refine bs_ ?_ GE429.out | refine bs_ ?_ GE430.out | refine bs_ ?_ GE435.out | refine bs_ ?_ GE439.out | refine bs_ ?_ GE443.out | refine bs_ ?_ GE447.out | refine bs_ ?_ GE451.out | refine bs_ ?_ GE455.out) | exact HB.out)⟩⟩
      ·rw [if_neg c118] at H
       have c118b0 : (t442 != t446) = false := by simpa using c118
       (try (have c118b1 : decide (t442 = t446) = true := by simpa using c118))
       (try (have c118b2 : (t442 == t446) = true := by simpa using c118))
       clear c118
       by_cases c145 : (!(t448 == t452) || (!(t449 == t453))) = true
       ·rw [if_pos c145] at H
        have c145b0 : (!(t448 == t452) || (!(t449 == t453))) = true := c145
        clear c145
        have H' := sd_ H
        clear H
        have hnb146 := NB435_429.out
        have hnc146 := NB429_435.out
        have hnb147 := NB435_430.out
        have hnc147 := NB430_435.out
        have hnb148 := NB435_439.out
        have hnc148 := NB439_435.out
        have hnb149 := NB435_443.out
        have hnc149 := NB443_435.out
        have hnb150 := NB435_447.out
        have hnc150 := NB447_435.out
        have hnb151 := NB435_451.out
        have hnc151 := NB451_435.out
        have hnb152 := NB435_455.out
        have hnc152 := NB455_435.out
        have hcz153_0 : w73.cell? ⟨gb435, 0, none⟩ = some (.int .i64 t432) := (kc_ BK435.out 0).trans rfl
        have hcz153_1 : w73.cell? ⟨gb435, 1, none⟩ = some (.int .i64 t433) := (kc_ BK435.out 1).trans rfl
        have hfz153_0 := kf_ BK435.out 0
        have hfz153_1 := kf_ BK435.out 1
        have hnb154 := NB439_429.out
        have hnc154 := NB429_439.out
        have hnb155 := NB439_430.out
        have hnc155 := NB430_439.out
        have hnb156 := NB439_443.out
        have hnc156 := NB443_439.out
        have hnb157 := NB439_447.out
        have hnc157 := NB447_439.out
        have hnb158 := NB439_451.out
        have hnc158 := NB451_439.out
        have hnb159 := NB439_455.out
        have hnc159 := NB455_439.out
        have hcz160_0 : w73.cell? ⟨gb439, 0, none⟩ = some (.int .i64 t436) := (kc_ BK439.out 0).trans rfl
        have hcz160_1 : w73.cell? ⟨gb439, 1, none⟩ = some (.int .i64 t437) := (kc_ BK439.out 1).trans rfl
        have hfz160_0 := kf_ BK439.out 0
        have hfz160_1 := kf_ BK439.out 1
        have hnb161 := NB443_429.out
        have hnc161 := NB429_443.out
        have hnb162 := NB443_430.out
        have hnc162 := NB430_443.out
        have hnb163 := NB443_447.out
        have hnc163 := NB447_443.out
        have hnb164 := NB443_451.out
        have hnc164 := NB451_443.out
        have hnb165 := NB443_455.out
        have hnc165 := NB455_443.out
        have hcz166_0 : w73.cell? ⟨gb443, 0, none⟩ = some (.int .i64 t440) := (kc_ BK443.out 0).trans rfl
        have hcz166_1 : w73.cell? ⟨gb443, 1, none⟩ = some (.int .i64 t441) := (kc_ BK443.out 1).trans rfl
        have hfz166_0 := kf_ BK443.out 0
        have hfz166_1 := kf_ BK443.out 1
        have hnb167 := NB447_429.out
        have hnc167 := NB429_447.out
        have hnb168 := NB447_430.out
        have hnc168 := NB430_447.out
        have hnb169 := NB447_451.out
        have hnc169 := NB451_447.out
        have hnb170 := NB447_455.out
        have hnc170 := NB455_447.out
        have hcz171_0 : w73.cell? ⟨gb447, 0, none⟩ = some (.int .i64 t444) := (kc_ BK447.out 0).trans rfl
        have hcz171_1 : w73.cell? ⟨gb447, 1, none⟩ = some (.int .i64 t445) := (kc_ BK447.out 1).trans rfl
        have hfz171_0 := kf_ BK447.out 0
        have hfz171_1 := kf_ BK447.out 1
        have hnb172 := NB451_429.out
        have hnc172 := NB429_451.out
        have hnb173 := NB451_430.out
        have hnc173 := NB430_451.out
        have hnb174 := NB451_455.out
        have hnc174 := NB455_451.out
        have hcz175_0 : w73.cell? ⟨gb451, 0, none⟩ = some (.int .i64 t448) := (kc_ BK451.out 0).trans rfl
        have hcz175_1 : w73.cell? ⟨gb451, 1, none⟩ = some (.int .i64 t449) := (kc_ BK451.out 1).trans rfl
        have hfz175_0 := kf_ BK451.out 0
        have hfz175_1 := kf_ BK451.out 1
        have hnb176 := NB455_429.out
        have hnc176 := NB429_455.out
        have hnb177 := NB455_430.out
        have hnc177 := NB430_455.out
        have hcz178_0 : w73.cell? ⟨gb455, 0, none⟩ = some (.int .i64 t452) := (kc_ BK455.out 0).trans rfl
        have hcz178_1 : w73.cell? ⟨gb455, 1, none⟩ = some (.int .i64 t453) := (kc_ BK455.out 1).trans rfl
        have hfz178_0 := kf_ BK455.out 0
        have hfz178_1 := kf_ BK455.out 1
        go_wp2
        go_meet
        case rel => exact ⟨_, (true), (by first | rfl | (simp; done) | (simp [*]; done) | (simp [bne]; done)), H', ⟨by first | omega | exact Nat.le_refl _⟩, ⟨by (with_reducible repeat first | apply kn_ | apply kd_ | apply ka_); exact BK429.out⟩, ⟨by (with_reducible repeat first | apply kn_ | apply kd_ | apply ka_); exact BK430.out⟩, ⟨by (with_reducible repeat first | apply kn_ | apply kd_ | apply ka_); exact BK435.out⟩, ⟨by (with_reducible repeat first | apply kn_ | apply kd_ | apply ka_); exact BK439.out⟩, ⟨by (with_reducible repeat first | apply kn_ | apply kd_ | apply ka_); exact BK443.out⟩, ⟨by (with_reducible repeat first | apply kn_ | apply kd_ | apply ka_); exact BK447.out⟩, ⟨by (with_reducible repeat first | apply kn_ | apply kd_ | apply ka_); exact BK451.out⟩, ⟨by (with_reducible repeat first | apply kn_ | apply kd_ | apply ka_); exact BK455.out⟩, ⟨by repeat (first | (with_reducible first | exact HB.out | apply ba_ | apply pd_ | apply d1_ | refine bs_ ?_ GE429.out | refine bs_ ?_ GE430.out | refine bs_ ?_ GE435.out | refine bs_ ?_ GE439.out | refine bs_ ?_ GE443.out | refine bs_ ?_ GE447.out | refine bs_ ?_ GE451.out | refine bs_ ?_ GE455.out) | exact HB.out)⟩⟩
       ·rw [if_neg c145] at H
        have c145b0 : (!(t448 == t452) || (!(t449 == t453))) = false := by simpa using c145
        clear c145
        by_cases c179 : (t450 != t454) = true
        ·rw [if_pos c179] at H
         have c179b0 : (t450 != t454) = true := c179
         (try (have c179b1 : decide (t450 = t454) = false := by simpa using c179))
         (try (have c179b2 : (t450 == t454) = false := by simpa using c179))
         (try (have c179b3 : ¬ (t450 = t454) := by simpa using c179))
         clear c179
         have H' := sd_ H
         clear H
         have hnb180 := NB435_429.out
         have hnc180 := NB429_435.out
         have hnb181 := NB435_430.out
         have hnc181 := NB430_435.out
         have hnb182 := NB435_439.out
         have hnc182 := NB439_435.out
         have hnb183 := NB435_443.out
         have hnc183 := NB443_435.out
         have hnb184 := NB435_447.out
         have hnc184 := NB447_435.out
         have hnb185 := NB435_451.out
         have hnc185 := NB451_435.out
         have hnb186 := NB435_455.out
         have hnc186 := NB455_435.out
         have hcz187_0 : w73.cell? ⟨gb435, 0, none⟩ = some (.int .i64 t432) := (kc_ BK435.out 0).trans rfl
         have hcz187_1 : w73.cell? ⟨gb435, 1, none⟩ = some (.int .i64 t433) := (kc_ BK435.out 1).trans rfl
         have hfz187_0 := kf_ BK435.out 0
         have hfz187_1 := kf_ BK435.out 1
         have hnb188 := NB439_429.out
         have hnc188 := NB429_439.out
         have hnb189 := NB439_430.out
         have hnc189 := NB430_439.out
         have hnb190 := NB439_443.out
         have hnc190 := NB443_439.out
         have hnb191 := NB439_447.out
         have hnc191 := NB447_439.out
         have hnb192 := NB439_451.out
         have hnc192 := NB451_439.out
         have hnb193 := NB439_455.out
         have hnc193 := NB455_439.out
         have hcz194_0 : w73.cell? ⟨gb439, 0, none⟩ = some (.int .i64 t436) := (kc_ BK439.out 0).trans rfl
         have hcz194_1 : w73.cell? ⟨gb439, 1, none⟩ = some (.int .i64 t437) := (kc_ BK439.out 1).trans rfl
         have hfz194_0 := kf_ BK439.out 0
         have hfz194_1 := kf_ BK439.out 1
         have hnb195 := NB443_429.out
         have hnc195 := NB429_443.out
         have hnb196 := NB443_430.out
         have hnc196 := NB430_443.out
         have hnb197 := NB443_447.out
         have hnc197 := NB447_443.out
         have hnb198 := NB443_451.out
         have hnc198 := NB451_443.out
         have hnb199 := NB443_455.out
         have hnc199 := NB455_443.out
         have hcz200_0 : w73.cell? ⟨gb443, 0, none⟩ = some (.int .i64 t440) := (kc_ BK443.out 0).trans rfl
         have hcz200_1 : w73.cell? ⟨gb443, 1, none⟩ = some (.int .i64 t441) := (kc_ BK443.out 1).trans rfl
         have hfz200_0 := kf_ BK443.out 0
         have hfz200_1 := kf_ BK443.out 1
         have hnb201 := NB447_429.out
         have hnc201 := NB429_447.out
         have hnb202 := NB447_430.out
         have hnc202 := NB430_447.out
         have hnb203 := NB447_451.out
         have hnc203 := NB451_447.out
         have hnb204 := NB447_455.out
         have hnc204 := NB455_447.out
         have hcz205_0 : w73.cell? ⟨gb447, 0, none⟩ = some (.int .i64 t444) := (kc_ BK447.out 0).trans rfl
         have hcz205_1 : w73.cell? ⟨gb447, 1, none⟩ = some (.int .i64 t445) := (kc_ BK447.out 1).trans rfl
         have hfz205_0 := kf_ BK447.out 0
         have hfz205_1 := kf_ BK447.out 1
         have hnb206 := NB451_429.out
         have hnc206 := NB429_451.out
         have hnb207 := NB451_430.out
         have hnc207 := NB430_451.out
         have hnb208 := NB451_455.out
         have hnc208 := NB455_451.out
         have hcz209_0 : w73.cell? ⟨gb451, 0, none⟩ = some (.int .i64 t448) := (kc_ BK451.out 0).trans rfl
         have hcz209_1 : w73.cell? ⟨gb451, 1, none⟩ = some (.int .i64 t449) := (kc_ BK451.out 1).trans rfl
         have hfz209_0 := kf_ BK451.out 0
         have hfz209_1 := kf_ BK451.out 1
         have hnb210 := NB455_429.out
         have hnc210 := NB429_455.out
         have hnb211 := NB455_430.out
         have hnc211 := NB430_455.out
         have hcz212_0 : w73.cell? ⟨gb455, 0, none⟩ = some (.int .i64 t452) := (kc_ BK455.out 0).trans rfl
         have hcz212_1 : w73.cell? ⟨gb455, 1, none⟩ = some (.int .i64 t453) := (kc_ BK455.out 1).trans rfl
         have hfz212_0 := kf_ BK455.out 0
         have hfz212_1 := kf_ BK455.out 1
         go_wp2
         go_meet
         case rel => exact ⟨_, (true), (by first | rfl | (simp; done) | (simp [*]; done) | (simp [bne]; done)), H', ⟨by first | omega | exact Nat.le_refl _⟩, ⟨by (with_reducible repeat first | apply kn_ | apply kd_ | apply ka_); exact BK429.out⟩, ⟨by (with_reducible repeat first | apply kn_ | apply kd_ | apply ka_); exact BK430.out⟩, ⟨by (with_reducible repeat first | apply kn_ | apply kd_ | apply ka_); exact BK435.out⟩, ⟨by (with_reducible repeat first | apply kn_ | apply kd_ | apply ka_); exact BK439.out⟩, ⟨by (with_reducible repeat first | apply kn_ | apply kd_ | apply ka_); exact BK443.out⟩, ⟨by (with_reducible repeat first | apply kn_ | apply kd_ | apply ka_); exact BK447.out⟩, ⟨by (with_reducible repeat first | apply kn_ | apply kd_ | apply ka_); exact BK451.out⟩, ⟨by (with_reducible repeat first | apply kn_ | apply kd_ | apply ka_); exact BK455.out⟩, ⟨by repeat (first | (with_reducible first | exact HB.out | apply ba_ | apply pd_ | apply d1_ | refine bs_ ?_ GE429.out | refine bs_ ?_ GE430.out | refine bs_ ?_ GE435.out | refine bs_ ?_ GE439.out | refine bs_ ?_ GE443.out | refine bs_ ?_ GE447.out | refine bs_ ?_ GE451.out | refine bs_ ?_ GE455.out) | exact HB.out)⟩⟩
        ·rw [if_neg c179] at H
         have c179b0 : (t450 != t454) = false := by simpa using c179
         (try (have c179b1 : decide (t450 = t454) = true := by simpa using c179))
         (try (have c179b2 : (t450 == t454) = true := by simpa using c179))
         clear c179
         replace H := ob_ H
         obtain ⟨t464, A2130, H⟩ := H
         replace H : (if t464 = true then (neumelaw07_DurTells.j0 k (t459 != t463) a0_0 a0_1) else (neumelaw07_DurTells.j0 k true a0_0 a0_1)) = some r := H
         have A213 := sd_ A2130
         clear A2130
         by_cases c214 : t464 = true
         ·subst c214
          have H1 : (neumelaw07_DurTells.j0 k (t459 != t463) a0_0 a0_1) = some r := by rw [if_pos rfl] at H; exact H
          clear H; have H := H1; clear H1
          have H' := sd_ H
          clear H
          have hnb215 := NB435_429.out
          have hnc215 := NB429_435.out
          have hnb216 := NB435_430.out
          have hnc216 := NB430_435.out
          have hnb217 := NB435_439.out
          have hnc217 := NB439_435.out
          have hnb218 := NB435_443.out
          have hnc218 := NB443_435.out
          have hnb219 := NB435_447.out
          have hnc219 := NB447_435.out
          have hnb220 := NB435_451.out
          have hnc220 := NB451_435.out
          have hnb221 := NB435_455.out
          have hnc221 := NB455_435.out
          have hcz222_0 : w73.cell? ⟨gb435, 0, none⟩ = some (.int .i64 t432) := (kc_ BK435.out 0).trans rfl
          have hcz222_1 : w73.cell? ⟨gb435, 1, none⟩ = some (.int .i64 t433) := (kc_ BK435.out 1).trans rfl
          have hfz222_0 := kf_ BK435.out 0
          have hfz222_1 := kf_ BK435.out 1
          have hnb223 := NB439_429.out
          have hnc223 := NB429_439.out
          have hnb224 := NB439_430.out
          have hnc224 := NB430_439.out
          have hnb225 := NB439_443.out
          have hnc225 := NB443_439.out
          have hnb226 := NB439_447.out
          have hnc226 := NB447_439.out
          have hnb227 := NB439_451.out
          have hnc227 := NB451_439.out
          have hnb228 := NB439_455.out
          have hnc228 := NB455_439.out
          have hcz229_0 : w73.cell? ⟨gb439, 0, none⟩ = some (.int .i64 t436) := (kc_ BK439.out 0).trans rfl
          have hcz229_1 : w73.cell? ⟨gb439, 1, none⟩ = some (.int .i64 t437) := (kc_ BK439.out 1).trans rfl
          have hfz229_0 := kf_ BK439.out 0
          have hfz229_1 := kf_ BK439.out 1
          have hnb230 := NB443_429.out
          have hnc230 := NB429_443.out
          have hnb231 := NB443_430.out
          have hnc231 := NB430_443.out
          have hnb232 := NB443_447.out
          have hnc232 := NB447_443.out
          have hnb233 := NB443_451.out
          have hnc233 := NB451_443.out
          have hnb234 := NB443_455.out
          have hnc234 := NB455_443.out
          have hcz235_0 : w73.cell? ⟨gb443, 0, none⟩ = some (.int .i64 t440) := (kc_ BK443.out 0).trans rfl
          have hcz235_1 : w73.cell? ⟨gb443, 1, none⟩ = some (.int .i64 t441) := (kc_ BK443.out 1).trans rfl
          have hfz235_0 := kf_ BK443.out 0
          have hfz235_1 := kf_ BK443.out 1
          have hnb236 := NB447_429.out
          have hnc236 := NB429_447.out
          have hnb237 := NB447_430.out
          have hnc237 := NB430_447.out
          have hnb238 := NB447_451.out
          have hnc238 := NB451_447.out
          have hnb239 := NB447_455.out
          have hnc239 := NB455_447.out
          have hcz240_0 : w73.cell? ⟨gb447, 0, none⟩ = some (.int .i64 t444) := (kc_ BK447.out 0).trans rfl
          have hcz240_1 : w73.cell? ⟨gb447, 1, none⟩ = some (.int .i64 t445) := (kc_ BK447.out 1).trans rfl
          have hfz240_0 := kf_ BK447.out 0
          have hfz240_1 := kf_ BK447.out 1
          have hnb241 := NB451_429.out
          have hnc241 := NB429_451.out
          have hnb242 := NB451_430.out
          have hnc242 := NB430_451.out
          have hnb243 := NB451_455.out
          have hnc243 := NB455_451.out
          have hcz244_0 : w73.cell? ⟨gb451, 0, none⟩ = some (.int .i64 t448) := (kc_ BK451.out 0).trans rfl
          have hcz244_1 : w73.cell? ⟨gb451, 1, none⟩ = some (.int .i64 t449) := (kc_ BK451.out 1).trans rfl
          have hfz244_0 := kf_ BK451.out 0
          have hfz244_1 := kf_ BK451.out 1
          have hnb245 := NB455_429.out
          have hnc245 := NB429_455.out
          have hnb246 := NB455_430.out
          have hnc246 := NB430_455.out
          have hcz247_0 : w73.cell? ⟨gb455, 0, none⟩ = some (.int .i64 t452) := (kc_ BK455.out 0).trans rfl
          have hcz247_1 : w73.cell? ⟨gb455, 1, none⟩ = some (.int .i64 t453) := (kc_ BK455.out 1).trans rfl
          have hfz247_0 := kf_ BK455.out 0
          have hfz247_1 := kf_ BK455.out 1
          obtain ⟨Ao248, co248, eo248⟩ := Kd.R_slice HO458.out
          subst eo248
          obtain ⟨Ao249, co249, eo249⟩ := Kd.R_slice HO462.out
          subst eo249
          go_wp2_with (first | (go_at_call 14; (with_reducible refine (neumeref07_Same.calls k _ _ t456 _ _ t460 true _ ?side1 ?side2 ?side3 ?side4 A213.out).mono ?_); (case side1 => repeat (first | exact (Kd.R_reads' HO458.out).2.2 | (with_reducible refine Kd.C_alloc ?_ _) | (with_reducible refine Kd.C_drewN ?_ _) | (with_reducible refine Kd.C_drew ?_))); (case side2 => exact (Kd.R_reads' HO458.out).2.1); (case side3 => repeat (first | exact (Kd.R_reads' HO462.out).2.2 | (with_reducible refine Kd.C_alloc ?_ _) | (with_reducible refine Kd.C_drewN ?_ _) | (with_reducible refine Kd.C_drew ?_))); (case side4 => exact (Kd.R_reads' HO462.out).2.1); rintro e w' ⟨rfl, ⟨nd, rfl⟩⟩))
          go_meet
          case rel => exact ⟨_, ((t459 != t463)), (by first | rfl | (simp; done) | (simp [*]; done) | (simp [bne]; done)), H', ⟨by first | omega | exact Nat.le_refl _⟩, ⟨by (with_reducible repeat first | apply kn_ | apply kd_ | apply ka_); exact BK429.out⟩, ⟨by (with_reducible repeat first | apply kn_ | apply kd_ | apply ka_); exact BK430.out⟩, ⟨by (with_reducible repeat first | apply kn_ | apply kd_ | apply ka_); exact BK435.out⟩, ⟨by (with_reducible repeat first | apply kn_ | apply kd_ | apply ka_); exact BK439.out⟩, ⟨by (with_reducible repeat first | apply kn_ | apply kd_ | apply ka_); exact BK443.out⟩, ⟨by (with_reducible repeat first | apply kn_ | apply kd_ | apply ka_); exact BK447.out⟩, ⟨by (with_reducible repeat first | apply kn_ | apply kd_ | apply ka_); exact BK451.out⟩, ⟨by (with_reducible repeat first | apply kn_ | apply kd_ | apply ka_); exact BK455.out⟩, ⟨by repeat (first | (with_reducible first | exact HB.out | apply ba_ | apply pd_ | apply d1_ | refine bs_ ?_ GE429.out | refine bs_ ?_ GE430.out | refine bs_ ?_ GE435.out | refine bs_ ?_ GE439.out | refine bs_ ?_ GE443.out | refine bs_ ?_ GE447.out | refine bs_ ?_ GE451.out | refine bs_ ?_ GE455.out) | exact HB.out)⟩⟩
         ·replace c214 := bf_ c214
          subst c214
          have H1 : (neumelaw07_DurTells.j0 k true a0_0 a0_1) = some r := by rw [if_neg (show ¬ (false = true) by decide)] at H; exact H
          clear H; have H := H1; clear H1
          have H' := sd_ H
          clear H
          have hnb250 := NB435_429.out
          have hnc250 := NB429_435.out
          have hnb251 := NB435_430.out
          have hnc251 := NB430_435.out
          have hnb252 := NB435_439.out
          have hnc252 := NB439_435.out
          have hnb253 := NB435_443.out
          have hnc253 := NB443_435.out
          have hnb254 := NB435_447.out
          have hnc254 := NB447_435.out
          have hnb255 := NB435_451.out
          have hnc255 := NB451_435.out
          have hnb256 := NB435_455.out
          have hnc256 := NB455_435.out
          have hcz257_0 : w73.cell? ⟨gb435, 0, none⟩ = some (.int .i64 t432) := (kc_ BK435.out 0).trans rfl
          have hcz257_1 : w73.cell? ⟨gb435, 1, none⟩ = some (.int .i64 t433) := (kc_ BK435.out 1).trans rfl
          have hfz257_0 := kf_ BK435.out 0
          have hfz257_1 := kf_ BK435.out 1
          have hnb258 := NB439_429.out
          have hnc258 := NB429_439.out
          have hnb259 := NB439_430.out
          have hnc259 := NB430_439.out
          have hnb260 := NB439_443.out
          have hnc260 := NB443_439.out
          have hnb261 := NB439_447.out
          have hnc261 := NB447_439.out
          have hnb262 := NB439_451.out
          have hnc262 := NB451_439.out
          have hnb263 := NB439_455.out
          have hnc263 := NB455_439.out
          have hcz264_0 : w73.cell? ⟨gb439, 0, none⟩ = some (.int .i64 t436) := (kc_ BK439.out 0).trans rfl
          have hcz264_1 : w73.cell? ⟨gb439, 1, none⟩ = some (.int .i64 t437) := (kc_ BK439.out 1).trans rfl
          have hfz264_0 := kf_ BK439.out 0
          have hfz264_1 := kf_ BK439.out 1
          have hnb265 := NB443_429.out
          have hnc265 := NB429_443.out
          have hnb266 := NB443_430.out
          have hnc266 := NB430_443.out
          have hnb267 := NB443_447.out
          have hnc267 := NB447_443.out
          have hnb268 := NB443_451.out
          have hnc268 := NB451_443.out
          have hnb269 := NB443_455.out
          have hnc269 := NB455_443.out
          have hcz270_0 : w73.cell? ⟨gb443, 0, none⟩ = some (.int .i64 t440) := (kc_ BK443.out 0).trans rfl
          have hcz270_1 : w73.cell? ⟨gb443, 1, none⟩ = some (.int .i64 t441) := (kc_ BK443.out 1).trans rfl
          have hfz270_0 := kf_ BK443.out 0
          have hfz270_1 := kf_ BK443.out 1
          have hnb271 := NB447_429.out
          have hnc271 := NB429_447.out
          have hnb272 := NB447_430.out
          have hnc272 := NB430_447.out
          have hnb273 := NB447_451.out
          have hnc273 := NB451_447.out
          have hnb274 := NB447_455.out
          have hnc274 := NB455_447.out
          have hcz275_0 : w73.cell? ⟨gb447, 0, none⟩ = some (.int .i64 t444) := (kc_ BK447.out 0).trans rfl
          have hcz275_1 : w73.cell? ⟨gb447, 1, none⟩ = some (.int .i64 t445) := (kc_ BK447.out 1).trans rfl
          have hfz275_0 := kf_ BK447.out 0
          have hfz275_1 := kf_ BK447.out 1
          have hnb276 := NB451_429.out
          have hnc276 := NB429_451.out
          have hnb277 := NB451_430.out
          have hnc277 := NB430_451.out
          have hnb278 := NB451_455.out
          have hnc278 := NB455_451.out
          have hcz279_0 : w73.cell? ⟨gb451, 0, none⟩ = some (.int .i64 t448) := (kc_ BK451.out 0).trans rfl
          have hcz279_1 : w73.cell? ⟨gb451, 1, none⟩ = some (.int .i64 t449) := (kc_ BK451.out 1).trans rfl
          have hfz279_0 := kf_ BK451.out 0
          have hfz279_1 := kf_ BK451.out 1
          have hnb280 := NB455_429.out
          have hnc280 := NB429_455.out
          have hnb281 := NB455_430.out
          have hnc281 := NB430_455.out
          have hcz282_0 : w73.cell? ⟨gb455, 0, none⟩ = some (.int .i64 t452) := (kc_ BK455.out 0).trans rfl
          have hcz282_1 : w73.cell? ⟨gb455, 1, none⟩ = some (.int .i64 t453) := (kc_ BK455.out 1).trans rfl
          have hfz282_0 := kf_ BK455.out 0
          have hfz282_1 := kf_ BK455.out 1
          obtain ⟨Ao283, co283, eo283⟩ := Kd.R_slice HO458.out
          subst eo283
          obtain ⟨Ao284, co284, eo284⟩ := Kd.R_slice HO462.out
          subst eo284
          go_wp2_with (first | (go_at_call 14; (with_reducible refine (neumeref07_Same.calls k _ _ t456 _ _ t460 false _ ?side1 ?side2 ?side3 ?side4 A213.out).mono ?_); (case side1 => repeat (first | exact (Kd.R_reads' HO458.out).2.2 | (with_reducible refine Kd.C_alloc ?_ _) | (with_reducible refine Kd.C_drewN ?_ _) | (with_reducible refine Kd.C_drew ?_))); (case side2 => exact (Kd.R_reads' HO458.out).2.1); (case side3 => repeat (first | exact (Kd.R_reads' HO462.out).2.2 | (with_reducible refine Kd.C_alloc ?_ _) | (with_reducible refine Kd.C_drewN ?_ _) | (with_reducible refine Kd.C_drew ?_))); (case side4 => exact (Kd.R_reads' HO462.out).2.1); rintro e w' ⟨rfl, ⟨nd, rfl⟩⟩))
          go_meet
          case rel => exact ⟨_, (true), (by first | rfl | (simp; done) | (simp [*]; done) | (simp [bne]; done)), H', ⟨by first | omega | exact Nat.le_refl _⟩, ⟨by (with_reducible repeat first | apply kn_ | apply kd_ | apply ka_); exact BK429.out⟩, ⟨by (with_reducible repeat first | apply kn_ | apply kd_ | apply ka_); exact BK430.out⟩, ⟨by (with_reducible repeat first | apply kn_ | apply kd_ | apply ka_); exact BK435.out⟩, ⟨by (with_reducible repeat first | apply kn_ | apply kd_ | apply ka_); exact BK439.out⟩, ⟨by (with_reducible repeat first | apply kn_ | apply kd_ | apply ka_); exact BK443.out⟩, ⟨by (with_reducible repeat first | apply kn_ | apply kd_ | apply ka_); exact BK447.out⟩, ⟨by (with_reducible repeat first | apply kn_ | apply kd_ | apply ka_); exact BK451.out⟩, ⟨by (with_reducible repeat first | apply kn_ | apply kd_ | apply ka_); exact BK455.out⟩, ⟨by repeat (first | (with_reducible first | exact HB.out | apply ba_ | apply pd_ | apply d1_ | refine bs_ ?_ GE429.out | refine bs_ ?_ GE430.out | refine bs_ ?_ GE435.out | refine bs_ ?_ GE439.out | refine bs_ ?_ GE443.out | refine bs_ ?_ GE447.out | refine bs_ ?_ GE451.out | refine bs_ ?_ GE455.out) | exact HB.out)⟩⟩
    ·rw [if_neg c90] at H
     have c90b0 : (t434 == t438) = false := beq_eq_false_iff_ne.mpr c90
     have c90b1 : (t434 != t438) = true := bne_iff_ne.mpr c90
     have H' := sd_ H
     clear H
     have hnb285 := NB435_429.out
     have hnc285 := NB429_435.out
     have hnb286 := NB435_430.out
     have hnc286 := NB430_435.out
     have hnb287 := NB435_439.out
     have hnc287 := NB439_435.out
     have hnb288 := NB435_443.out
     have hnc288 := NB443_435.out
     have hnb289 := NB435_447.out
     have hnc289 := NB447_435.out
     have hnb290 := NB435_451.out
     have hnc290 := NB451_435.out
     have hnb291 := NB435_455.out
     have hnc291 := NB455_435.out
     have hcz292_0 : w73.cell? ⟨gb435, 0, none⟩ = some (.int .i64 t432) := (kc_ BK435.out 0).trans rfl
     have hcz292_1 : w73.cell? ⟨gb435, 1, none⟩ = some (.int .i64 t433) := (kc_ BK435.out 1).trans rfl
     have hfz292_0 := kf_ BK435.out 0
     have hfz292_1 := kf_ BK435.out 1
     have hnb293 := NB439_429.out
     have hnc293 := NB429_439.out
     have hnb294 := NB439_430.out
     have hnc294 := NB430_439.out
     have hnb295 := NB439_443.out
     have hnc295 := NB443_439.out
     have hnb296 := NB439_447.out
     have hnc296 := NB447_439.out
     have hnb297 := NB439_451.out
     have hnc297 := NB451_439.out
     have hnb298 := NB439_455.out
     have hnc298 := NB455_439.out
     have hcz299_0 : w73.cell? ⟨gb439, 0, none⟩ = some (.int .i64 t436) := (kc_ BK439.out 0).trans rfl
     have hcz299_1 : w73.cell? ⟨gb439, 1, none⟩ = some (.int .i64 t437) := (kc_ BK439.out 1).trans rfl
     have hfz299_0 := kf_ BK439.out 0
     have hfz299_1 := kf_ BK439.out 1
     go_wp2
     go_meet
     case rel => exact ⟨_, (true), (by first | rfl | (simp; done) | (simp [*]; done) | (simp [bne]; done)), H', ⟨by first | omega | exact Nat.le_refl _⟩, ⟨by (with_reducible repeat first | apply kn_ | apply kd_ | apply ka_); exact BK429.out⟩, ⟨by (with_reducible repeat first | apply kn_ | apply kd_ | apply ka_); exact BK430.out⟩, ⟨by (with_reducible repeat first | apply kn_ | apply kd_ | apply ka_); exact BK435.out⟩, ⟨by (with_reducible repeat first | apply kn_ | apply kd_ | apply ka_); exact BK439.out⟩, ⟨by (with_reducible repeat first | apply kn_ | apply kd_ | apply ka_); exact BK443.out⟩, ⟨by (with_reducible repeat first | apply kn_ | apply kd_ | apply ka_); exact BK447.out⟩, ⟨by (with_reducible repeat first | apply kn_ | apply kd_ | apply ka_); exact BK451.out⟩, ⟨by (with_reducible repeat first | apply kn_ | apply kd_ | apply ka_); exact BK455.out⟩, ⟨by repeat (first | (with_reducible first | exact HB.out | apply ba_ | apply pd_ | apply d1_ | refine bs_ ?_ GE429.out | refine bs_ ?_ GE430.out | refine bs_ ?_ GE435.out | refine bs_ ?_ GE439.out | refine bs_ ?_ GE443.out | refine bs_ ?_ GE447.out | refine bs_ ?_ GE451.out | refine bs_ ?_ GE455.out) | exact HB.out)⟩⟩
  case rest =>
   clear HC17
   try clear c1; try clear c2; try clear p2; try clear c7; try clear c8; try clear c9; try clear c10; try clear c11; try clear c12; try clear c13; try clear c14; try clear c15; try clear c16; try clear c17; try clear c18; try clear c19; try clear c20; try clear c21; try clear c22; try clear c23; try clear c24; try clear c25; try clear c26; try clear c27; try clear c28; try clear c29; try clear c74; try clear c74b0; try clear c83; try clear c84; try clear c85; try clear c86; try clear c87; try clear c88; try clear c90; try clear c90b0; try clear c90b1; try clear c91; try clear c91b0; try clear c92; try clear c93; try clear c94; try clear c95; try clear c96; try clear c97; try clear c98; try clear c100; try clear c101; try clear c102; try clear c103; try clear c104; try clear c105; try clear c107; try clear c108; try clear c109; try clear c110; try clear c111; try clear c113; try clear c114; try clear c115; try clear c116; try clear c118; try clear c118b0; try clear c118b1; try clear c118b2; try clear c119; try clear c120; try clear c121; try clear c122; try clear c123; try clear c124; try clear c125; try clear c127; try clear c128; try clear c129; try clear c130; try clear c131; try clear c132; try clear c134; try clear c135; try clear c136; try clear c137; try clear c138; try clear c140; try clear c141; try clear c142; try clear c143; try clear c145; try clear c145b0; try clear c146; try clear c147; try clear c148; try clear c149; try clear c150; try clear c151; try clear c152; try clear c154; try clear c155; try clear c156; try clear c157; try clear c158; try clear c159; try clear c161; try clear c162; try clear c163; try clear c164; try clear c165; try clear c167; try clear c168; try clear c169; try clear c170; try clear c172; try clear c173; try clear c174; try clear c176; try clear c177; try clear c179; try clear c179b0; try clear c179b1; try clear c179b2; try clear c180; try clear c181; try clear c182; try clear c183; try clear c184; try clear c185; try clear c186; try clear c188; try clear c189; try clear c190; try clear c191; try clear c192; try clear c193; try clear c195; try clear c196; try clear c197; try clear c198; try clear c199; try clear c201; try clear c202; try clear c203; try clear c204; try clear c206; try clear c207; try clear c208; try clear c210; try clear c211; try clear c214; try clear c215; try clear c216; try clear c217; try clear c218; try clear c219; try clear c220; try clear c221; try clear c223; try clear c224; try clear c225; try clear c226; try clear c227; try clear c228; try clear c230; try clear c231; try clear c232; try clear c233; try clear c234; try clear c236; try clear c237; try clear c238; try clear c239; try clear c241; try clear c242; try clear c243; try clear c245; try clear c246; try clear c250; try clear c251; try clear c252; try clear c253; try clear c254; try clear c255; try clear c256; try clear c258; try clear c259; try clear c260; try clear c261; try clear c262; try clear c263; try clear c265; try clear c266; try clear c267; try clear c268; try clear c269; try clear c271; try clear c272; try clear c273; try clear c274; try clear c276; try clear c277; try clear c278; try clear c280; try clear c281; try clear c285; try clear c286; try clear c287; try clear c288; try clear c289; try clear c290; try clear c291; try clear c293; try clear c294; try clear c295; try clear c296; try clear c297; try clear c298; try clear hcz106_0; try clear hcz106_1; try clear hcz112_0; try clear hcz112_1; try clear hcz117_0; try clear hcz117_1; try clear hcz126_0; try clear hcz126_1; try clear hcz133_0; try clear hcz133_1; try clear hcz139_0; try clear hcz139_1; try clear hcz144_0; try clear hcz144_1; try clear hcz153_0; try clear hcz153_1; try clear hcz160_0; try clear hcz160_1; try clear hcz166_0; try clear hcz166_1; try clear hcz171_0; try clear hcz171_1; try clear hcz175_0; try clear hcz175_1; try clear hcz178_0; try clear hcz178_1; try clear hcz187_0; try clear hcz187_1; try clear hcz194_0; try clear hcz194_1; try clear hcz200_0; try clear hcz200_1; try clear hcz205_0; try clear hcz205_1; try clear hcz209_0; try clear hcz209_1; try clear hcz212_0; try clear hcz212_1; try clear hcz222_0; try clear hcz222_1; try clear hcz229_0; try clear hcz229_1; try clear hcz235_0; try clear hcz235_1; try clear hcz240_0; try clear hcz240_1; try clear hcz244_0; try clear hcz244_1; try clear hcz247_0; try clear hcz247_1; try clear hcz257_0; try clear hcz257_1; try clear hcz264_0; try clear hcz264_1; try clear hcz270_0; try clear hcz270_1; try clear hcz275_0; try clear hcz275_1; try clear hcz279_0; try clear hcz279_1; try clear hcz282_0; try clear hcz282_1; try clear hcz292_0; try clear hcz292_1; try clear hcz299_0; try clear hcz299_1; try clear hcz82_1; try clear hcz89_0; try clear hcz89_1; try clear hcz99_0; try clear hcz99_1; try clear hfz106_0; try clear hfz106_1; try clear hfz112_0; try clear hfz112_1; try clear hfz117_0; try clear hfz117_1; try clear hfz126_0; try clear hfz126_1; try clear hfz133_0; try clear hfz133_1; try clear hfz139_0; try clear hfz139_1; try clear hfz144_0; try clear hfz144_1; try clear hfz153_0; try clear hfz153_1; try clear hfz160_0; try clear hfz160_1; try clear hfz166_0; try clear hfz166_1; try clear hfz171_0; try clear hfz171_1; try clear hfz175_0; try clear hfz175_1; try clear hfz178_0; try clear hfz178_1; try clear hfz187_0; try clear hfz187_1; try clear hfz194_0; try clear hfz194_1; try clear hfz200_0; try clear hfz200_1; try clear hfz205_0; try clear hfz205_1; try clear hfz209_0; try clear hfz209_1; try clear hfz212_0; try clear hfz212_1; try clear hfz222_0; try clear hfz222_1; try clear hfz229_0; try clear hfz229_1; try clear hfz235_0; try clear hfz235_1; try clear hfz240_0; try clear hfz240_1; try clear hfz244_0; try clear hfz244_1; try clear hfz247_0; try clear hfz247_1; try clear hfz257_0; try clear hfz257_1; try clear hfz264_0; try clear hfz264_1; try clear hfz270_0; try clear hfz270_1; try clear hfz275_0; try clear hfz275_1; try clear hfz279_0; try clear hfz279_1; try clear hfz282_0; try clear hfz282_1; try clear hfz292_0; try clear hfz292_1; try clear hfz299_0; try clear hfz299_1; try clear hfz82_0; try clear hfz82_1; try clear hfz89_0; try clear hfz89_1; try clear hfz99_0; try clear hfz99_1
   obtain ⟨kq, x105_16, rfl, HA, HJ16, BK429, BK430, BK435, BK439, BK443, BK447, BK451, BK455, HB⟩ := hcut
   cases kq with
   | zero => exact absurd HA.out (by simp [neumelaw07_DurTells.j0])
   | succ kj16 =>
    have H := HA.out
    clear HA
    simp only [neumelaw07_DurTells.j0] at H
    by_cases c300 : x105_16 = true
    ·subst c300
     have H1 : (some false) = some r := by rw [if_pos rfl] at H; exact H
     clear H; have H := H1; clear H1
     exact absurd ((Option.some.inj H).trans hxt.out) (by decide)
    ·replace c300 := bf_ c300
     subst c300
     have H1 : ((dur_Check.f a0_0 a0_1).bind fun t465 => ((neumeref07_Check.f a0_0 a0_1).bind fun t466 => (if (t465 == t466) = true then ((dur_Name.f a0_0 a0_1).bind fun t467 => ((neumeref07_Name.f kj16 a0_0 a0_1).bind fun t468 => (if t467.toList = t468.toList then ((dur_Head.f a0_0 a0_1).bind fun t469 => ((neumeref07_Head.f a0_0 a0_1).bind fun t470 => (if t469 = t470 then ((dur_Rest.f a0_0 a0_1).bind fun t471 => ((neumeref07_Rest.f a0_0 a0_1).bind fun t472 => (if t471 = t472 then ((dur_Flags.f a0_0 a0_1).bind fun t473 => ((neumeref07_Flags.f a0_0 a0_1).bind fun t474 => (if t473 = t474 then ((neumelaw07_heads.f kj16).bind fun t475 => (some t475)) else (some false)))) else (some false)))) else (some false)))) else (some false)))) else (some false)))) = some r := by rw [if_neg (show ¬ (false = true) by decide)] at H; exact H
     clear H; have H := H1; clear H1
     replace H := ob_ H
     obtain ⟨t465, A3010, H⟩ := H
     replace H : ((neumeref07_Check.f a0_0 a0_1).bind fun t466 => (if (t465 == t466) = true then ((dur_Name.f a0_0 a0_1).bind fun t467 => ((neumeref07_Name.f kj16 a0_0 a0_1).bind fun t468 => (if t467.toList = t468.toList then ((dur_Head.f a0_0 a0_1).bind fun t469 => ((neumeref07_Head.f a0_0 a0_1).bind fun t470 => (if t469 = t470 then ((dur_Rest.f a0_0 a0_1).bind fun t471 => ((neumeref07_Rest.f a0_0 a0_1).bind fun t472 => (if t471 = t472 then ((dur_Flags.f a0_0 a0_1).bind fun t473 => ((neumeref07_Flags.f a0_0 a0_1).bind fun t474 => (if t473 = t474 then ((neumelaw07_heads.f kj16).bind fun t475 => (some t475)) else (some false)))) else (some false)))) else (some false)))) else (some false)))) else (some false))) = some r := H
     have A301 := sd_ A3010
     clear A3010
     replace H := ob_ H
     obtain ⟨t466, A3020, H⟩ := H
     replace H : (if (t465 == t466) = true then ((dur_Name.f a0_0 a0_1).bind fun t467 => ((neumeref07_Name.f kj16 a0_0 a0_1).bind fun t468 => (if t467.toList = t468.toList then ((dur_Head.f a0_0 a0_1).bind fun t469 => ((neumeref07_Head.f a0_0 a0_1).bind fun t470 => (if t469 = t470 then ((dur_Rest.f a0_0 a0_1).bind fun t471 => ((neumeref07_Rest.f a0_0 a0_1).bind fun t472 => (if t471 = t472 then ((dur_Flags.f a0_0 a0_1).bind fun t473 => ((neumeref07_Flags.f a0_0 a0_1).bind fun t474 => (if t473 = t474 then ((neumelaw07_heads.f kj16).bind fun t475 => (some t475)) else (some false)))) else (some false)))) else (some false)))) else (some false)))) else (some false)) = some r := H
     have A302 := sd_ A3020
     clear A3020
     by_cases c303 : (t465 == t466) = true
     ·rw [if_pos c303] at H
      have c303b0 : (t465 == t466) = true := c303
      (try (have c303b1 : decide (t465 = t466) = true := by simpa using c303))
      (try (have c303b2 : (t465 == t466) = true := by simpa using c303))
      clear c303
      replace H := ob_ H
      obtain ⟨t467, A3040, H⟩ := H
      replace H : ((neumeref07_Name.f kj16 a0_0 a0_1).bind fun t468 => (if t467.toList = t468.toList then ((dur_Head.f a0_0 a0_1).bind fun t469 => ((neumeref07_Head.f a0_0 a0_1).bind fun t470 => (if t469 = t470 then ((dur_Rest.f a0_0 a0_1).bind fun t471 => ((neumeref07_Rest.f a0_0 a0_1).bind fun t472 => (if t471 = t472 then ((dur_Flags.f a0_0 a0_1).bind fun t473 => ((neumeref07_Flags.f a0_0 a0_1).bind fun t474 => (if t473 = t474 then ((neumelaw07_heads.f kj16).bind fun t475 => (some t475)) else (some false)))) else (some false)))) else (some false)))) else (some false))) = some r := H
      have A304 := sd_ A3040
      clear A3040
      replace H := ob_ H
      obtain ⟨t468, A3050, H⟩ := H
      replace H : (if t467.toList = t468.toList then ((dur_Head.f a0_0 a0_1).bind fun t469 => ((neumeref07_Head.f a0_0 a0_1).bind fun t470 => (if t469 = t470 then ((dur_Rest.f a0_0 a0_1).bind fun t471 => ((neumeref07_Rest.f a0_0 a0_1).bind fun t472 => (if t471 = t472 then ((dur_Flags.f a0_0 a0_1).bind fun t473 => ((neumeref07_Flags.f a0_0 a0_1).bind fun t474 => (if t473 = t474 then ((neumelaw07_heads.f kj16).bind fun t475 => (some t475)) else (some false)))) else (some false)))) else (some false)))) else (some false)) = some r := H
      have A305 := sd_ A3050
      clear A3050
      by_cases c306 : t467.toList = t468.toList
      ·rw [if_pos c306] at H
       have c306b0 : (t467.toList == t468.toList) = true := beq_iff_eq.mpr c306
       have c306b1 : (t467.toList != t468.toList) = false := bne_eq_false_iff_eq.mpr c306
       clear c306
       replace H := ob_ H
       obtain ⟨t469, A3070, H⟩ := H
       replace H : ((neumeref07_Head.f a0_0 a0_1).bind fun t470 => (if t469 = t470 then ((dur_Rest.f a0_0 a0_1).bind fun t471 => ((neumeref07_Rest.f a0_0 a0_1).bind fun t472 => (if t471 = t472 then ((dur_Flags.f a0_0 a0_1).bind fun t473 => ((neumeref07_Flags.f a0_0 a0_1).bind fun t474 => (if t473 = t474 then ((neumelaw07_heads.f kj16).bind fun t475 => (some t475)) else (some false)))) else (some false)))) else (some false))) = some r := H
       have A307 := sd_ A3070
       clear A3070
       replace H := ob_ H
       obtain ⟨t470, A3080, H⟩ := H
       replace H : (if t469 = t470 then ((dur_Rest.f a0_0 a0_1).bind fun t471 => ((neumeref07_Rest.f a0_0 a0_1).bind fun t472 => (if t471 = t472 then ((dur_Flags.f a0_0 a0_1).bind fun t473 => ((neumeref07_Flags.f a0_0 a0_1).bind fun t474 => (if t473 = t474 then ((neumelaw07_heads.f kj16).bind fun t475 => (some t475)) else (some false)))) else (some false)))) else (some false)) = some r := H
       have A308 := sd_ A3080
       clear A3080
       by_cases c309 : t469 = t470
       ·rw [if_pos c309] at H
        have c309b0 : (t469 == t470) = true := beq_iff_eq.mpr c309
        have c309b1 : (t469 != t470) = false := bne_eq_false_iff_eq.mpr c309
        clear c309
        replace H := ob_ H
        obtain ⟨t471, A3100, H⟩ := H
        replace H : ((neumeref07_Rest.f a0_0 a0_1).bind fun t472 => (if t471 = t472 then ((dur_Flags.f a0_0 a0_1).bind fun t473 => ((neumeref07_Flags.f a0_0 a0_1).bind fun t474 => (if t473 = t474 then ((neumelaw07_heads.f kj16).bind fun t475 => (some t475)) else (some false)))) else (some false))) = some r := H
        have A310 := sd_ A3100
        clear A3100
        replace H := ob_ H
        obtain ⟨t472, A3110, H⟩ := H
        replace H : (if t471 = t472 then ((dur_Flags.f a0_0 a0_1).bind fun t473 => ((neumeref07_Flags.f a0_0 a0_1).bind fun t474 => (if t473 = t474 then ((neumelaw07_heads.f kj16).bind fun t475 => (some t475)) else (some false)))) else (some false)) = some r := H
        have A311 := sd_ A3110
        clear A3110
        by_cases c312 : t471 = t472
        ·rw [if_pos c312] at H
         have c312b0 : (t471 == t472) = true := beq_iff_eq.mpr c312
         have c312b1 : (t471 != t472) = false := bne_eq_false_iff_eq.mpr c312
         clear c312
         replace H := ob_ H
         obtain ⟨t473, A3130, H⟩ := H
         replace H : ((neumeref07_Flags.f a0_0 a0_1).bind fun t474 => (if t473 = t474 then ((neumelaw07_heads.f kj16).bind fun t475 => (some t475)) else (some false))) = some r := H
         have A313 := sd_ A3130
         clear A3130
         replace H := ob_ H
         obtain ⟨t474, A3140, H⟩ := H
         replace H : (if t473 = t474 then ((neumelaw07_heads.f kj16).bind fun t475 => (some t475)) else (some false)) = some r := H
         have A314 := sd_ A3140
         clear A3140
         by_cases c315 : t473 = t474
         ·rw [if_pos c315] at H
          have c315b0 : (t473 == t474) = true := beq_iff_eq.mpr c315
          have c315b1 : (t473 != t474) = false := bne_eq_false_iff_eq.mpr c315
          clear c315
          replace H := ob_ H
          obtain ⟨t475, A3160, H⟩ := H
          replace H : (some t475) = some r := H
          have A316 := sd_ A3160
          clear A3160
          obtain rfl := Option.some.inj H
          try go_wp2
          replace BK429 := sd_ (kd_ BK429.out)
          replace BK430 := sd_ (kd_ BK430.out)
          replace BK435 := sd_ (kd_ BK435.out)
          replace BK439 := sd_ (kd_ BK439.out)
          replace BK443 := sd_ (kd_ BK443.out)
          replace BK447 := sd_ (kd_ BK447.out)
          replace BK451 := sd_ (kd_ BK451.out)
          replace BK455 := sd_ (kd_ BK455.out)
          replace HB := sd_ (d1_ HB.out)
          refine start_ (n := 37) (S := fun w' => w'.cell? ⟨gb429, 0, none⟩ = some (.int .i64 a0_0) ∧ w'.cell? ⟨gb429, 1, none⟩ = some (.int .i64 a0_1)) (ds := []) (Array.replicate 37 false) (by kernel_rfl) rfl rfl ⟨(kc_ BK429.out 0).trans rfl, (kc_ BK429.out 1).trans rfl⟩ (fun hHeld => ?_); refine with_tabW neumelaw07_DurTells.tab13 neumelaw07_DurTells.bits13 (fun HT_ HW_ => ?_)
          generalize wc.drew = w317 at BK429 BK430 BK435 BK439 BK443 BK447 BK451 BK455 HB hHeld ⊢
          refine ta_ (v := ?_) (a' := ?_) 0 106 (bz 37 1) rfl rfl HT_ HW_ (by kernel_rfl) (fun _ _ _ h => h) (by rfl) ?_ hHeld ?_ ?_
          rotate_left
          ·rintro w' ⟨s0, s1⟩
           go_simp
           with_reducible rfl
          rotate_left
          ·simp only [Act.put, ls_, lz_, lc_, i64_w, i32_w]
           rfl
          refine ta_ (v := ?_) (a' := ?_) 2 108 (bz 37 5) rfl rfl HT_ HW_ (by kernel_rfl) (fun _ _ _ h => h) (by rfl) ?_ hHeld ?_ ?_
          rotate_left
          ·rintro w' ⟨s0, s1⟩
           go_simp
           with_reducible rfl
          rotate_left
          ·simp only [Act.put, ls_, lz_, lc_, i64_w, i32_w]
           rfl
          refine on_ (N := some 107) 1 (bz 37 7) rfl rfl HT_ (by kernel_rfl) (by decide) (fun K hK => ?_)
          refine goes_ Tryz.func15 (by kernel_rfl) rfl #[.agg #[.int .i64 a0_0, .int .i64 a0_1]] (by rfl) rfl rfl (by (try simp only [lm_, lq_, lx_]); first | done | rfl | (simp only [ld_, lt_]; rfl)) ?_
          with_reducible refine (dur_Check.calls a0_0 a0_1 t465 _ A301.out).mono ?_
          rintro e w318 ⟨rfl, hb⟩
          refine ⟨_, rfl, ?_⟩
          replace BK429 := kb_ BK429 hb
          replace BK430 := kb_ BK430 hb
          replace BK435 := kb_ BK435 hb
          replace BK439 := kb_ BK439 hb
          replace BK443 := kb_ BK443 hb
          replace BK447 := kb_ BK447 hb
          replace BK451 := kb_ BK451 hb
          replace BK455 := kb_ BK455 hb
          replace HB := hb_ HB (e_ GE429 (e_ GE430 (e_ GE435 (e_ GE439 (e_ GE443 (e_ GE447 (e_ GE451 (e_ GE455 e0_)))))))) hb
          (try clear hb)
          (try clear hb2)
          (try clear hk)
          (try clear hi)
          refine hK.out _ _ ⟨(kc_ BK429.out 0).trans rfl, (kc_ BK429.out 1).trans rfl⟩ (fun hHeld => ?_)
          clear hK K
          refine norm_ (a' := ?_) ?_ ?_
          rotate_left
          ·show Act.put _ (some 107) _ = _
           simp only [Act.put, ls_, lz_, lc_, i64_w, i32_w]
           rfl
          refine on_ (N := some 109) 3 (bz 37 15) rfl rfl HT_ (by kernel_rfl) (by decide) (fun K hK => ?_)
          refine goes_ Tryz.func16 (by kernel_rfl) rfl #[.agg #[.int .i64 a0_0, .int .i64 a0_1]] (by rfl) rfl rfl (by (try simp only [lm_, lq_, lx_]); first | done | rfl | (simp only [ld_, lt_]; rfl)) ?_
          with_reducible refine (neumeref07_Check.calls a0_0 a0_1 t466 _ A302.out).mono ?_
          rintro e w319 ⟨rfl, hb⟩
          refine ⟨_, rfl, ?_⟩
          replace BK429 := kb_ BK429 hb
          replace BK430 := kb_ BK430 hb
          replace BK435 := kb_ BK435 hb
          replace BK439 := kb_ BK439 hb
          replace BK443 := kb_ BK443 hb
          replace BK447 := kb_ BK447 hb
          replace BK451 := kb_ BK451 hb
          replace BK455 := kb_ BK455 hb
          replace HB := hb_ HB (e_ GE429 (e_ GE430 (e_ GE435 (e_ GE439 (e_ GE443 (e_ GE447 (e_ GE451 (e_ GE455 e0_)))))))) hb
          (try clear hb)
          (try clear hb2)
          (try clear hk)
          (try clear hi)
          refine hK.out _ _ ⟨(kc_ BK429.out 0).trans rfl, (kc_ BK429.out 1).trans rfl⟩ (fun hHeld => ?_)
          clear hK K
          refine norm_ (a' := ?_) ?_ ?_
          rotate_left
          ·show Act.put _ (some 109) _ = _
           simp only [Act.put, ls_, lz_, lc_, i64_w, i32_w]
           rfl
          refine pu_ (v := ?_) (a' := ?_) 4 110 (bz 37 31) rfl rfl HT_ (by kernel_rfl) (fun _ _ _ h => h) (by rfl) ?_ ?_ ?_
          rotate_left; (intro w'; go_simp; with_reducible rfl); rotate_left; (simp only [Act.put, ls_, lz_, lc_, i64_w, i32_w]; rfl)
          refine pu_ (v := ?_) (a' := ?_) 5 111 (bz 37 63) rfl rfl HT_ (by kernel_rfl) (fun _ _ _ h => h) (by rfl) ?_ ?_ ?_
          rotate_left; (intro w'; go_simp; with_reducible rfl); rotate_left; (simp only [Act.put, ls_, lz_, lc_, i64_w, i32_w]; rfl)
          refine ta_ (v := ?_) (a' := ?_) 6 112 (bz 37 127) rfl rfl HT_ HW_ (by kernel_rfl) (fun _ _ _ h => h) (by rfl) ?_ hHeld ?_ ?_
          rotate_left
          ·rintro w' ⟨s0, s1⟩
           go_simp
           with_reducible rfl
          rotate_left
          ·simp only [Act.put, ls_, lz_, lc_, i64_w, i32_w]
           rfl
          refine ta_ (v := ?_) (a' := ?_) 8 114 (bz 37 383) rfl rfl HT_ HW_ (by kernel_rfl) (fun _ _ _ h => h) (by rfl) ?_ hHeld ?_ ?_
          rotate_left
          ·rintro w' ⟨s0, s1⟩
           go_simp
           with_reducible rfl
          rotate_left
          ·simp only [Act.put, ls_, lz_, lc_, i64_w, i32_w]
           rfl
          refine on_ (N := some 113) 7 (bz 37 511) rfl rfl HT_ (by kernel_rfl) (by decide) (fun K hK => ?_)
          refine goes_ Tryz.func17 (by kernel_rfl) rfl #[.agg #[.int .i64 a0_0, .int .i64 a0_1]] (by rfl) rfl rfl (by (try simp only [lm_, lq_, lx_]); first | done | rfl | (simp only [ld_, lt_]; rfl)) ?_
          with_reducible refine (dur_Name.calls a0_0 a0_1 t467 _ A304.out).mono ?_
          rintro e w320 ⟨rfl, hb⟩
          refine ⟨_, rfl, ?_⟩
          replace BK429 := kb_ BK429 hb
          replace BK430 := kb_ BK430 hb
          replace BK435 := kb_ BK435 hb
          replace BK439 := kb_ BK439 hb
          replace BK443 := kb_ BK443 hb
          replace BK447 := kb_ BK447 hb
          replace BK451 := kb_ BK451 hb
          replace BK455 := kb_ BK455 hb
          replace HB := hb_ HB (e_ GE429 (e_ GE430 (e_ GE435 (e_ GE439 (e_ GE443 (e_ GE447 (e_ GE451 (e_ GE455 e0_)))))))) hb
          (try clear hb)
          (try clear hb2)
          (try clear hk)
          (try clear hi)
          refine hK.out _ _ ⟨(kc_ BK429.out 0).trans rfl, (kc_ BK429.out 1).trans rfl⟩ (fun hHeld => ?_)
          clear hK K
          refine norm_ (a' := ?_) ?_ ?_
          rotate_left
          ·show Act.put _ (some 113) _ = _
           simp only [Act.put, ls_, lz_, lc_, i64_w, i32_w]
           rfl
          refine on_ (N := some 115) 9 (bz 37 1023) rfl rfl HT_ (by kernel_rfl) (by decide) (fun K hK => ?_)
          refine goes_ Tryz.func18 (by kernel_rfl) rfl #[.agg #[.int .i64 a0_0, .int .i64 a0_1]] (by rfl) rfl rfl (by (try simp only [lm_, lq_, lx_]); first | done | rfl | (simp only [ld_, lt_]; rfl)) ?_
          with_reducible refine (neumeref07_Name.calls kj16 a0_0 a0_1 t468 _ A305.out).mono ?_
          rintro e w321 ⟨rfl, hb⟩
          refine ⟨_, rfl, ?_⟩
          replace BK429 := kb_ BK429 hb
          replace BK430 := kb_ BK430 hb
          replace BK435 := kb_ BK435 hb
          replace BK439 := kb_ BK439 hb
          replace BK443 := kb_ BK443 hb
          replace BK447 := kb_ BK447 hb
          replace BK451 := kb_ BK451 hb
          replace BK455 := kb_ BK455 hb
          replace HB := hb_ HB (e_ GE429 (e_ GE430 (e_ GE435 (e_ GE439 (e_ GE443 (e_ GE447 (e_ GE451 (e_ GE455 e0_)))))))) hb
          (try clear hb)
          (try clear hb2)
          (try clear hk)
          (try clear hi)
          refine hK.out _ _ ⟨(kc_ BK429.out 0).trans rfl, (kc_ BK429.out 1).trans rfl⟩ (fun hHeld => ?_)
          clear hK K
          refine norm_ (a' := ?_) ?_ ?_
          rotate_left
          ·show Act.put _ (some 115) _ = _
           simp only [Act.put, ls_, lz_, lc_, i64_w, i32_w]
           rfl
          refine pu_ (v := ?_) (a' := ?_) 10 116 (bz 37 2047) rfl rfl HT_ (by kernel_rfl) (fun _ _ _ h => h) (by rfl) ?_ ?_ ?_
          rotate_left; (intro w'; go_simp; with_reducible rfl); rotate_left; (simp only [Act.put, ls_, lz_, lc_, i64_w, i32_w]; rfl)
          refine pu_ (v := ?_) (a' := ?_) 11 117 (bz 37 4095) rfl rfl HT_ (by kernel_rfl) (fun _ _ _ h => h) (by rfl) ?_ ?_ ?_
          rotate_left; (intro w'; go_simp; with_reducible rfl); rotate_left; (simp only [Act.put, ls_, lz_, lc_, i64_w, i32_w]; rfl)
          refine pu_ (v := ?_) (a' := ?_) 12 118 (bz 37 8191) rfl rfl HT_ (by kernel_rfl) (fun _ _ _ h => h) (by rfl) ?_ ?_ ?_
          rotate_left; (intro w'; go_simp; with_reducible rfl); rotate_left; (simp only [Act.put, ls_, lz_, lc_, i64_w, i32_w]; rfl)
          refine ta_ (v := ?_) (a' := ?_) 13 119 (bz 37 16383) rfl rfl HT_ HW_ (by kernel_rfl) (fun _ _ _ h => h) (by rfl) ?_ hHeld ?_ ?_
          rotate_left
          ·rintro w' ⟨s0, s1⟩
           go_simp
           with_reducible rfl
          rotate_left
          ·simp only [Act.put, ls_, lz_, lc_, i64_w, i32_w]
           rfl
          refine ta_ (v := ?_) (a' := ?_) 15 121 (bz 37 49151) rfl rfl HT_ HW_ (by kernel_rfl) (fun _ _ _ h => h) (by rfl) ?_ hHeld ?_ ?_
          rotate_left
          ·rintro w' ⟨s0, s1⟩
           go_simp
           with_reducible rfl
          rotate_left
          ·simp only [Act.put, ls_, lz_, lc_, i64_w, i32_w]
           rfl
          refine on_ (N := some 120) 14 (bz 37 65535) rfl rfl HT_ (by kernel_rfl) (by decide) (fun K hK => ?_)
          refine goes_ Tryz.func19 (by kernel_rfl) rfl #[.agg #[.int .i64 a0_0, .int .i64 a0_1]] (by rfl) rfl rfl (by (try simp only [lm_, lq_, lx_]); first | done | rfl | (simp only [ld_, lt_]; rfl)) ?_
          with_reducible refine (dur_Head.calls a0_0 a0_1 t469 _ A307.out).mono ?_
          rintro e w322 ⟨rfl, hb⟩
          refine ⟨_, rfl, ?_⟩
          replace BK429 := kb_ BK429 hb
          replace BK430 := kb_ BK430 hb
          replace BK435 := kb_ BK435 hb
          replace BK439 := kb_ BK439 hb
          replace BK443 := kb_ BK443 hb
          replace BK447 := kb_ BK447 hb
          replace BK451 := kb_ BK451 hb
          replace BK455 := kb_ BK455 hb
          replace HB := hb_ HB (e_ GE429 (e_ GE430 (e_ GE435 (e_ GE439 (e_ GE443 (e_ GE447 (e_ GE451 (e_ GE455 e0_)))))))) hb
          (try clear hb)
          (try clear hb2)
          (try clear hk)
          (try clear hi)
          refine hK.out _ _ ⟨(kc_ BK429.out 0).trans rfl, (kc_ BK429.out 1).trans rfl⟩ (fun hHeld => ?_)
          clear hK K
          refine norm_ (a' := ?_) ?_ ?_
          rotate_left
          ·show Act.put _ (some 120) _ = _
           simp only [Act.put, ls_, lz_, lc_, i64_w, i32_w]
           rfl
          refine on_ (N := some 122) 16 (bz 37 131071) rfl rfl HT_ (by kernel_rfl) (by decide) (fun K hK => ?_)
          refine goes_ Tryz.func20 (by kernel_rfl) rfl #[.agg #[.int .i64 a0_0, .int .i64 a0_1]] (by rfl) rfl rfl (by (try simp only [lm_, lq_, lx_]); first | done | rfl | (simp only [ld_, lt_]; rfl)) ?_
          with_reducible refine (neumeref07_Head.calls a0_0 a0_1 t470 _ A308.out).mono ?_
          rintro e w323 ⟨rfl, hb⟩
          refine ⟨_, rfl, ?_⟩
          replace BK429 := kb_ BK429 hb
          replace BK430 := kb_ BK430 hb
          replace BK435 := kb_ BK435 hb
          replace BK439 := kb_ BK439 hb
          replace BK443 := kb_ BK443 hb
          replace BK447 := kb_ BK447 hb
          replace BK451 := kb_ BK451 hb
          replace BK455 := kb_ BK455 hb
          replace HB := hb_ HB (e_ GE429 (e_ GE430 (e_ GE435 (e_ GE439 (e_ GE443 (e_ GE447 (e_ GE451 (e_ GE455 e0_)))))))) hb
          (try clear hb)
          (try clear hb2)
          (try clear hk)
          (try clear hi)
          refine hK.out _ _ ⟨(kc_ BK429.out 0).trans rfl, (kc_ BK429.out 1).trans rfl⟩ (fun hHeld => ?_)
          clear hK K
          refine norm_ (a' := ?_) ?_ ?_
          rotate_left
          ·show Act.put _ (some 122) _ = _
           simp only [Act.put, ls_, lz_, lc_, i64_w, i32_w]
           rfl
          refine pu_ (v := ?_) (a' := ?_) 17 123 (bz 37 262143) rfl rfl HT_ (by kernel_rfl) (fun _ _ _ h => h) (by rfl) ?_ ?_ ?_
          rotate_left; (intro w'; go_simp; with_reducible rfl); rotate_left; (simp only [Act.put, ls_, lz_, lc_, i64_w, i32_w]; rfl)
          refine pu_ (v := ?_) (a' := ?_) 18 124 (bz 37 524287) rfl rfl HT_ (by kernel_rfl) (fun _ _ _ h => h) (by rfl) ?_ ?_ ?_
          rotate_left; (intro w'; go_simp; with_reducible rfl); rotate_left; (simp only [Act.put, ls_, lz_, lc_, i64_w, i32_w]; rfl)
          refine pu_ (v := ?_) (a' := ?_) 19 125 (bz 37 1048575) rfl rfl HT_ (by kernel_rfl) (fun _ _ _ h => h) (by rfl) ?_ ?_ ?_
          rotate_left; (intro w'; go_simp; with_reducible rfl); rotate_left; (simp only [Act.put, ls_, lz_, lc_, i64_w, i32_w]; rfl)
          refine ta_ (v := ?_) (a' := ?_) 20 126 (bz 37 2097151) rfl rfl HT_ HW_ (by kernel_rfl) (fun _ _ _ h => h) (by rfl) ?_ hHeld ?_ ?_
          rotate_left
          ·rintro w' ⟨s0, s1⟩
           go_simp
           with_reducible rfl
          rotate_left
          ·simp only [Act.put, ls_, lz_, lc_, i64_w, i32_w]
           rfl
          refine ta_ (v := ?_) (a' := ?_) 22 128 (bz 37 6291455) rfl rfl HT_ HW_ (by kernel_rfl) (fun _ _ _ h => h) (by rfl) ?_ hHeld ?_ ?_
          rotate_left
          ·rintro w' ⟨s0, s1⟩
           go_simp
           with_reducible rfl
          rotate_left
          ·simp only [Act.put, ls_, lz_, lc_, i64_w, i32_w]
           rfl
          refine on_ (N := some 127) 21 (bz 37 8388607) rfl rfl HT_ (by kernel_rfl) (by decide) (fun K hK => ?_)
          refine goes_ Tryz.func21 (by kernel_rfl) rfl #[.agg #[.int .i64 a0_0, .int .i64 a0_1]] (by rfl) rfl rfl (by (try simp only [lm_, lq_, lx_]); first | done | rfl | (simp only [ld_, lt_]; rfl)) ?_
          with_reducible refine (dur_Rest.calls a0_0 a0_1 t471 _ A310.out).mono ?_
          rintro e w324 ⟨rfl, hb⟩
          refine ⟨_, rfl, ?_⟩
          replace BK429 := kb_ BK429 hb
          replace BK430 := kb_ BK430 hb
          replace BK435 := kb_ BK435 hb
          replace BK439 := kb_ BK439 hb
          replace BK443 := kb_ BK443 hb
          replace BK447 := kb_ BK447 hb
          replace BK451 := kb_ BK451 hb
          replace BK455 := kb_ BK455 hb
          replace HB := hb_ HB (e_ GE429 (e_ GE430 (e_ GE435 (e_ GE439 (e_ GE443 (e_ GE447 (e_ GE451 (e_ GE455 e0_)))))))) hb
          (try clear hb)
          (try clear hb2)
          (try clear hk)
          (try clear hi)
          refine hK.out _ _ ⟨(kc_ BK429.out 0).trans rfl, (kc_ BK429.out 1).trans rfl⟩ (fun hHeld => ?_)
          clear hK K
          refine norm_ (a' := ?_) ?_ ?_
          rotate_left
          ·show Act.put _ (some 127) _ = _
           simp only [Act.put, ls_, lz_, lc_, i64_w, i32_w]
           rfl
          refine on_ (N := some 129) 23 (bz 37 16777215) rfl rfl HT_ (by kernel_rfl) (by decide) (fun K hK => ?_)
          refine goes_ Tryz.func22 (by kernel_rfl) rfl #[.agg #[.int .i64 a0_0, .int .i64 a0_1]] (by rfl) rfl rfl (by (try simp only [lm_, lq_, lx_]); first | done | rfl | (simp only [ld_, lt_]; rfl)) ?_
          with_reducible refine (neumeref07_Rest.calls a0_0 a0_1 t472 _ A311.out).mono ?_
          rintro e w325 ⟨rfl, hb⟩
          refine ⟨_, rfl, ?_⟩
          replace BK429 := kb_ BK429 hb
          replace BK430 := kb_ BK430 hb
          replace BK435 := kb_ BK435 hb
          replace BK439 := kb_ BK439 hb
          replace BK443 := kb_ BK443 hb
          replace BK447 := kb_ BK447 hb
          replace BK451 := kb_ BK451 hb
          replace BK455 := kb_ BK455 hb
          replace HB := hb_ HB (e_ GE429 (e_ GE430 (e_ GE435 (e_ GE439 (e_ GE443 (e_ GE447 (e_ GE451 (e_ GE455 e0_)))))))) hb
          (try clear hb)
          (try clear hb2)
          (try clear hk)
          (try clear hi)
          refine hK.out _ _ ⟨(kc_ BK429.out 0).trans rfl, (kc_ BK429.out 1).trans rfl⟩ (fun hHeld => ?_)
          clear hK K
          refine norm_ (a' := ?_) ?_ ?_
          rotate_left
          ·show Act.put _ (some 129) _ = _
           simp only [Act.put, ls_, lz_, lc_, i64_w, i32_w]
           rfl
          refine pu_ (v := ?_) (a' := ?_) 24 130 (bz 37 33554431) rfl rfl HT_ (by kernel_rfl) (fun _ _ _ h => h) (by rfl) ?_ ?_ ?_
          rotate_left; (intro w'; go_simp; with_reducible rfl); rotate_left; (simp only [Act.put, ls_, lz_, lc_, i64_w, i32_w]; rfl)
          refine pu_ (v := ?_) (a' := ?_) 25 131 (bz 37 67108863) rfl rfl HT_ (by kernel_rfl) (fun _ _ _ h => h) (by rfl) ?_ ?_ ?_
          rotate_left; (intro w'; go_simp; with_reducible rfl); rotate_left; (simp only [Act.put, ls_, lz_, lc_, i64_w, i32_w]; rfl)
          refine pu_ (v := ?_) (a' := ?_) 26 132 (bz 37 134217727) rfl rfl HT_ (by kernel_rfl) (fun _ _ _ h => h) (by rfl) ?_ ?_ ?_
          rotate_left; (intro w'; go_simp; with_reducible rfl); rotate_left; (simp only [Act.put, ls_, lz_, lc_, i64_w, i32_w]; rfl)
          refine ta_ (v := ?_) (a' := ?_) 27 133 (bz 37 268435455) rfl rfl HT_ HW_ (by kernel_rfl) (fun _ _ _ h => h) (by rfl) ?_ hHeld ?_ ?_
          rotate_left
          ·rintro w' ⟨s0, s1⟩
           go_simp
           with_reducible rfl
          rotate_left
          ·simp only [Act.put, ls_, lz_, lc_, i64_w, i32_w]
           rfl
          refine ta_ (v := ?_) (a' := ?_) 29 135 (bz 37 805306367) rfl rfl HT_ HW_ (by kernel_rfl) (fun _ _ _ h => h) (by rfl) ?_ hHeld ?_ ?_
          rotate_left
          ·rintro w' ⟨s0, s1⟩
           go_simp
           with_reducible rfl
          rotate_left
          ·simp only [Act.put, ls_, lz_, lc_, i64_w, i32_w]
           rfl
          refine on_ (N := some 134) 28 (bz 37 1073741823) rfl rfl HT_ (by kernel_rfl) (by decide) (fun K hK => ?_)
          refine goes_ Tryz.func23 (by kernel_rfl) rfl #[.agg #[.int .i64 a0_0, .int .i64 a0_1]] (by rfl) rfl rfl (by (try simp only [lm_, lq_, lx_]); first | done | rfl | (simp only [ld_, lt_]; rfl)) ?_
          with_reducible refine (dur_Flags.calls a0_0 a0_1 t473 _ A313.out).mono ?_
          rintro e w326 ⟨rfl, hb⟩
          refine ⟨_, rfl, ?_⟩
          replace BK429 := kb_ BK429 hb
          replace BK430 := kb_ BK430 hb
          replace BK435 := kb_ BK435 hb
          replace BK439 := kb_ BK439 hb
          replace BK443 := kb_ BK443 hb
          replace BK447 := kb_ BK447 hb
          replace BK451 := kb_ BK451 hb
          replace BK455 := kb_ BK455 hb
          replace HB := hb_ HB (e_ GE429 (e_ GE430 (e_ GE435 (e_ GE439 (e_ GE443 (e_ GE447 (e_ GE451 (e_ GE455 e0_)))))))) hb
          (try clear hb)
          (try clear hb2)
          (try clear hk)
          (try clear hi)
          refine hK.out _ _ ⟨(kc_ BK429.out 0).trans rfl, (kc_ BK429.out 1).trans rfl⟩ (fun hHeld => ?_)
          clear hK K
          refine norm_ (a' := ?_) ?_ ?_
          rotate_left
          ·show Act.put _ (some 134) _ = _
           simp only [Act.put, ls_, lz_, lc_, i64_w, i32_w]
           rfl
          refine on_ (N := some 136) 30 (bz 37 2147483647) rfl rfl HT_ (by kernel_rfl) (by decide) (fun K hK => ?_)
          refine goes_ Tryz.func24 (by kernel_rfl) rfl #[.agg #[.int .i64 a0_0, .int .i64 a0_1]] (by rfl) rfl rfl (by (try simp only [lm_, lq_, lx_]); first | done | rfl | (simp only [ld_, lt_]; rfl)) ?_
          with_reducible refine (neumeref07_Flags.calls a0_0 a0_1 t474 _ A314.out).mono ?_
          rintro e w327 ⟨rfl, hb⟩
          refine ⟨_, rfl, ?_⟩
          replace BK429 := kb_ BK429 hb
          replace BK430 := kb_ BK430 hb
          replace BK435 := kb_ BK435 hb
          replace BK439 := kb_ BK439 hb
          replace BK443 := kb_ BK443 hb
          replace BK447 := kb_ BK447 hb
          replace BK451 := kb_ BK451 hb
          replace BK455 := kb_ BK455 hb
          replace HB := hb_ HB (e_ GE429 (e_ GE430 (e_ GE435 (e_ GE439 (e_ GE443 (e_ GE447 (e_ GE451 (e_ GE455 e0_)))))))) hb
          (try clear hb)
          (try clear hb2)
          (try clear hk)
          (try clear hi)
          refine hK.out _ _ ⟨(kc_ BK429.out 0).trans rfl, (kc_ BK429.out 1).trans rfl⟩ (fun hHeld => ?_)
          clear hK K
          refine norm_ (a' := ?_) ?_ ?_
          rotate_left
          ·show Act.put _ (some 136) _ = _
           simp only [Act.put, ls_, lz_, lc_, i64_w, i32_w]
           rfl
          refine pu_ (v := ?_) (a' := ?_) 31 137 (bz 37 4294967295) rfl rfl HT_ (by kernel_rfl) (fun _ _ _ h => h) (by rfl) ?_ ?_ ?_
          rotate_left; (intro w'; go_simp; with_reducible rfl); rotate_left; (simp only [Act.put, ls_, lz_, lc_, i64_w, i32_w]; rfl)
          refine pu_ (v := ?_) (a' := ?_) 32 138 (bz 37 8589934591) rfl rfl HT_ (by kernel_rfl) (fun _ _ _ h => h) (by rfl) ?_ ?_ ?_
          rotate_left; (intro w'; go_simp; with_reducible rfl); rotate_left; (simp only [Act.put, ls_, lz_, lc_, i64_w, i32_w]; rfl)
          refine pu_ (v := ?_) (a' := ?_) 33 139 (bz 37 17179869183) rfl rfl HT_ (by kernel_rfl) (fun _ _ _ h => h) (by rfl) ?_ ?_ ?_
          rotate_left; (intro w'; go_simp; with_reducible rfl); rotate_left; (simp only [Act.put, ls_, lz_, lc_, i64_w, i32_w]; rfl)
          refine on_ (N := some 140) 34 (bz 37 34359738367) rfl rfl HT_ (by kernel_rfl) (by decide) (fun K hK => ?_)
          refine goes_ Tryz.func5 (by kernel_rfl) rfl #[] (by rfl) rfl rfl (by (try simp only [lm_, lq_, lx_]); first | done | rfl | (simp only [ld_, lt_]; rfl)) ?_
          with_reducible refine (neumelaw07_heads.calls kj16  t475 _ ?side1 A316.out).mono ?_
          (case side1 => first | (with_reducible exact hE) | exact sd_ (LaidE.below hE.out (bb_ HB.out (e_ GE429 (e_ GE430 (e_ GE435 (e_ GE439 (e_ GE443 (e_ GE447 (e_ GE451 (e_ GE455 e0_)))))))))))
          rintro e w328 ⟨rfl, hb⟩
          refine ⟨_, rfl, ?_⟩
          replace BK429 := kb_ BK429 hb
          replace BK430 := kb_ BK430 hb
          replace BK435 := kb_ BK435 hb
          replace BK439 := kb_ BK439 hb
          replace BK443 := kb_ BK443 hb
          replace BK447 := kb_ BK447 hb
          replace BK451 := kb_ BK451 hb
          replace BK455 := kb_ BK455 hb
          replace HB := hb_ HB (e_ GE429 (e_ GE430 (e_ GE435 (e_ GE439 (e_ GE443 (e_ GE447 (e_ GE451 (e_ GE455 e0_)))))))) hb
          (try clear hb)
          (try clear hb2)
          (try clear hk)
          (try clear hi)
          refine hK.out _ _ ⟨(kc_ BK429.out 0).trans rfl, (kc_ BK429.out 1).trans rfl⟩ (fun hHeld => ?_)
          clear hK K
          refine norm_ (a' := ?_) ?_ ?_
          rotate_left
          ·show Act.put _ (some 140) _ = _
           simp only [Act.put, ls_, lz_, lc_, i64_w, i32_w]
           rfl
          refine pu_ (v := ?_) (a' := ?_) 35 141 (bz 37 68719476735) rfl rfl HT_ (by kernel_rfl) (fun _ _ _ h => h) (by rfl) ?_ ?_ ?_
          rotate_left; (intro w'; go_simp; with_reducible rfl); rotate_left; (simp only [Act.put, ls_, lz_, lc_, i64_w, i32_w]; rfl)
          refine pu_ (v := ?_) (a' := ?_) 36 6 (bz 37 137438953471) rfl rfl HT_ (by kernel_rfl) (fun _ _ _ h => h) (by rfl) ?_ ?_ ?_
          rotate_left; (intro w'; go_simp; with_reducible rfl); rotate_left; (simp only [Act.put, ls_, lz_, lc_, i64_w, i32_w]; rfl)
          refine done_ (done_of HT_.out (by kernel_rfl)) ?_
          try go_wp2
          go_ret
          exact ⟨by first | rfl | (simp [errW_none, errW_some] <;> rfl) | (simp [*, errW_none, errW_some] <;> rfl), by repeat (first | (with_reducible first | exact HB.out | apply ba_ | apply pd_ | apply d1_ | refine bs_ ?_ GE429.out | refine bs_ ?_ GE430.out | refine bs_ ?_ GE435.out | refine bs_ ?_ GE439.out | refine bs_ ?_ GE443.out | refine bs_ ?_ GE447.out | refine bs_ ?_ GE451.out | refine bs_ ?_ GE455.out) | exact HB.out)⟩
         ·rw [if_neg c315] at H
          have c315b0 : (t473 == t474) = false := beq_eq_false_iff_ne.mpr c315
          have c315b1 : (t473 != t474) = true := bne_iff_ne.mpr c315
          exact absurd ((Option.some.inj H).trans hxt.out) (by decide)
        ·rw [if_neg c312] at H
         have c312b0 : (t471 == t472) = false := beq_eq_false_iff_ne.mpr c312
         have c312b1 : (t471 != t472) = true := bne_iff_ne.mpr c312
         exact absurd ((Option.some.inj H).trans hxt.out) (by decide)
       ·rw [if_neg c309] at H
        have c309b0 : (t469 == t470) = false := beq_eq_false_iff_ne.mpr c309
        have c309b1 : (t469 != t470) = true := bne_iff_ne.mpr c309
        exact absurd ((Option.some.inj H).trans hxt.out) (by decide)
      ·rw [if_neg c306] at H
       have c306b0 : (t467.toList == t468.toList) = false := beq_eq_false_iff_ne.mpr c306
       have c306b1 : (t467.toList != t468.toList) = true := bne_iff_ne.mpr c306
       exact absurd ((Option.some.inj H).trans hxt.out) (by decide)
     ·rw [if_neg c303] at H
      have c303b0 : (t465 == t466) = false := by simpa using c303
      (try (have c303b1 : decide (t465 = t466) = false := by simpa using c303))
      (try (have c303b2 : (t465 == t466) = false := by simpa using c303))
      (try (have c303b3 : ¬ (t465 = t466) := by simpa using c303))
      clear c303
      exact absurd ((Option.some.inj H).trans hxt.out) (by decide)

end Go.Proofs.YtdiccfonlojlfaaGreatDoor.P
