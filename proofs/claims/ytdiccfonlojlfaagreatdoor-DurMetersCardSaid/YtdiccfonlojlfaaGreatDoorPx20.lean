-- Written by a program of this session (wip/tools/xprint.py, over the kit's print): Lean checks it.
import Derived.Test.YtdiccfonlojlfaaGreatDoorPx0
import Derived.Test.YtdiccfonlojlfaaGreatDoorPx2
import Derived.Test.YtdiccfonlojlfaaGreatDoorPx3
import Derived.Test.YtdiccfonlojlfaaGreatDoorPx6
import Derived.Test.YtdiccfonlojlfaaGreatDoorPx7
import Derived.Test.YtdiccfonlojlfaaGreatDoorPx9
import Derived.Test.YtdiccfonlojlfaaGreatDoorPx10
import Derived.Test.YtdiccfonlojlfaaGreatDoorPx18
import Derived.Test.YtdiccfonlojlfaaGreatDoorPx19
namespace Go.Proofs.YtdiccfonlojlfaaGreatDoor.P
open Go.RowKit Go.Proofs.YtdiccfonlojlfaaGreatDoorW.PrintWords Go.Proofs.YtdiccfonlojlfaaGreatDoorW.PrintLast Go.Proofs.YtdiccfonlojlfaaGreatDoorW.PrintMore
attribute [local go_sem] max2_int min2_int max_two min_two max_three min_three max_four min_four   -- for this text's walks alone
set_option linter.unusedVariables false
set_option linter.unusedSimpArgs false

attribute [local go_sem high] eqA25
/-! ### neumelaw07_DurMeters: function 4 -/
def neumelaw07_DurMeters.f (k : Nat) (a0_0 : Int) (a0_1 : Int) (a1_0 : Int) (a1_1 : Int) : Option (Bool) := (dur_Bar.f k a0_0 a0_1).bind fun bt508 => ((neumeref07_Bar.f k a0_0 a0_1).bind fun bt512 => ((dur_Beats.f k a0_0 a0_1).bind fun bt516 => ((neumeref07_Beats.f k a0_0 a0_1).bind fun bt520 => ((dur_Beat.f k a0_0 a0_1 a1_0 a1_1).bind fun bt524 => ((neumeref07_Beat.f k a0_0 a0_1 a1_0 a1_1).bind fun bt526 => (if (bt508.1 == bt512.1 && (bt508.2.1 == bt512.2.1)) = true then (if bt508.2.2 = bt512.2.2 then ((neumeref07_Rats.f k bt516.1 bt520.1).bind fun t528 => (if t528 = true then (if bt516.2 = bt520.2 then (if bt524.1 = bt526.1 then (if bt524.2 = bt526.2 then ((dur_Meter.f a0_0 a0_1).bind fun t529 => ((neumeref07_Meter.f a0_0 a0_1).bind fun t530 => (if (t529 == t530) = true then ((neumelaw07_heads.f k).bind fun t531 => (some t531)) else (some false)))) else (some false)) else (some false)) else (some false)) else (some false))) else (some false)) else (some false)))))))
theorem neumelaw07_DurMeters.mono : ∀ a0 a1 a2 a3 k, LeO (neumelaw07_DurMeters.f k a0 a1 a2 a3) (neumelaw07_DurMeters.f (k + 1) a0 a1 a2 a3) := by
 intro a0 a1 a2 a3 k
 unfold neumelaw07_DurMeters.f
 repeat' first
   | (with_reducible exact dur_Bar.mono _ _ _)
   | (with_reducible exact dur_Beat.mono _ _ _ _ _)
   | (with_reducible exact dur_Beats.mono _ _ _)
   | (with_reducible exact neumelaw07_heads.mono _)
   | (with_reducible exact neumeref07_Bar.mono _ _ _)
   | (with_reducible exact neumeref07_Beat.mono _ _ _ _ _)
   | (with_reducible exact neumeref07_Beats.mono _ _ _)
   | (with_reducible exact neumeref07_Rats.mono _ _ _)
   | (with_reducible exact LeO.refl _)
   | (with_reducible exact LeO.none _)
   | (with_reducible refine LeO.ite ?_ ?_)
   | (with_reducible refine LeO.bind ?_ (fun _ => ?_))
   | exact dur_Bar.mono _ _ _
   | exact dur_Beat.mono _ _ _ _ _
   | exact dur_Beats.mono _ _ _
   | exact neumelaw07_heads.mono _
   | exact neumeref07_Bar.mono _ _ _
   | exact neumeref07_Beat.mono _ _ _ _ _
   | exact neumeref07_Beats.mono _ _ _
   | exact neumeref07_Rats.mono _ _ _
   | exact LeO.none _
   | refine LeO.ite ?_ ?_
   | refine LeO.bind ?_ (fun _ => ?_)
def neumelaw07_DurMeters.T7 : Bool × List (List Nat × List Nat) := (true, [([], []), ([], []), ([0, 1], [0, 1]), ([2], [2]), ([3], [3]), ([3], [3]), ([4, 5, 3], [3, 4, 5]), ([3, 6], [3, 6]), ([7, 3], [7]), ([8], [8]), ([8], [8]), ([9, 10, 8, 8], [8, 9, 10]), ([8, 11], [8, 11]), ([12, 11], [12]), ([13], [13]), ([13], [13]), ([14, 15, 13], [13, 14, 15]), ([13, 16], [13, 16]), ([17, 13], [17]), ([18], [18]), ([18], [18]), ([19, 20, 18], [18, 19, 20]), ([18, 21], [18, 21]), ([22, 18], [22]), ([23], [23]), ([23], [23]), ([24, 25, 23], [23, 24, 25]), ([23, 26], [23, 26]), ([27, 23], [27]), ([28], [28]), ([29, 28, 28], [28, 29]), ([28], [28]), ([31, 30, 28], [28, 31]), ([30, 32, 28], [28, 30, 32]), ([28, 33], [28, 33]), ([34, 32], [34]), ([35, 35], [35]), ([35, 36], [35, 36]), ([37, 36, 0, 1, 2, 3, 4, 5, 6, 7, 8, 9, 10, 11, 12, 13, 14, 15, 16, 17, 18, 19, 20, 21, 22, 23, 24, 25, 26, 27, 28, 29, 30, 31, 32, 33, 34, 35, 36, 37], [37])])
def neumelaw07_DurMeters.B7 : List Nat := [0, 0, 3, 7, 15, 15, 63, 127, 255, 511, 511, 2047, 4095, 8191, 16383, 16383, 65535, 131071, 262143, 524287, 524287, 2097151, 4194303, 8388607, 16777215, 16777215, 67108863, 134217727, 268435455, 536870911, 1073741823, 536870911, 4294967295, 8589934591, 17179869183, 34359738367, 68719476735, 137438953471, 274877906943]
theorem neumelaw07_DurMeters.tab7 : rtab .any (opsOf Tryz.f4 7) = neumelaw07_DurMeters.T7 := by kernel_rfl
theorem neumelaw07_DurMeters.bits7 : waitsOk neumelaw07_DurMeters.T7.2 neumelaw07_DurMeters.B7 = true := by kernel_rfl
set_option maxHeartbeats 8000000 in
set_option maxRecDepth 100000 in
theorem neumelaw07_DurMeters.calls (k : Nat) (a0_0 : Int) (a0_1 : Int) (a1_0 : Int) (a1_1 : Int) (r : Bool) (w : World) (hE : Aside0 (LaidE w)) (hxt : Aside0 (r = true)) (h : neumelaw07_DurMeters.f k a0_0 a0_1 a1_0 a1_1 = some r) :
  Calls Tryz.prog 4 #[.agg #[.int .i64 a0_0, .int .i64 a0_1], .agg #[.int .i64 a1_0, .int .i64 a1_1]] w fun e w' => e = .returned (.bool r) ∧ Below w.heap.size w w' := by
 have hu45 := Tryz.underlying45
 have hu25 := Tryz.underlying25
 have HB := sd_ (Below.refl w.heap.size w)
 have H : ((dur_Bar.f k a0_0 a0_1).bind fun bt508 => ((neumeref07_Bar.f k a0_0 a0_1).bind fun bt512 => ((dur_Beats.f k a0_0 a0_1).bind fun bt516 => ((neumeref07_Beats.f k a0_0 a0_1).bind fun bt520 => ((dur_Beat.f k a0_0 a0_1 a1_0 a1_1).bind fun bt524 => ((neumeref07_Beat.f k a0_0 a0_1 a1_0 a1_1).bind fun bt526 => (if (bt508.1 == bt512.1 && (bt508.2.1 == bt512.2.1)) = true then (if bt508.2.2 = bt512.2.2 then ((neumeref07_Rats.f k bt516.1 bt520.1).bind fun t528 => (if t528 = true then (if bt516.2 = bt520.2 then (if bt524.1 = bt526.1 then (if bt524.2 = bt526.2 then ((dur_Meter.f a0_0 a0_1).bind fun t529 => ((neumeref07_Meter.f a0_0 a0_1).bind fun t530 => (if (t529 == t530) = true then ((neumelaw07_heads.f k).bind fun t531 => (some t531)) else (some false)))) else (some false)) else (some false)) else (some false)) else (some false))) else (some false)) else (some false)))))))) = some r := h
 clear h
 replace H := ob_ H
 obtain ⟨⟨t508, t509, t510⟩, A30, H⟩ := H
 replace H : ((neumeref07_Bar.f k a0_0 a0_1).bind fun bt512 => ((dur_Beats.f k a0_0 a0_1).bind fun bt516 => ((neumeref07_Beats.f k a0_0 a0_1).bind fun bt520 => ((dur_Beat.f k a0_0 a0_1 a1_0 a1_1).bind fun bt524 => ((neumeref07_Beat.f k a0_0 a0_1 a1_0 a1_1).bind fun bt526 => (if (t508 == bt512.1 && (t509 == bt512.2.1)) = true then (if t510 = bt512.2.2 then ((neumeref07_Rats.f k bt516.1 bt520.1).bind fun t528 => (if t528 = true then (if bt516.2 = bt520.2 then (if bt524.1 = bt526.1 then (if bt524.2 = bt526.2 then ((dur_Meter.f a0_0 a0_1).bind fun t529 => ((neumeref07_Meter.f a0_0 a0_1).bind fun t530 => (if (t529 == t530) = true then ((neumelaw07_heads.f k).bind fun t531 => (some t531)) else (some false)))) else (some false)) else (some false)) else (some false)) else (some false))) else (some false)) else (some false))))))) = some r := H
 have A3 := sd_ A30
 clear A30
 replace H := ob_ H
 obtain ⟨⟨t512, t513, t514⟩, A40, H⟩ := H
 replace H : ((dur_Beats.f k a0_0 a0_1).bind fun bt516 => ((neumeref07_Beats.f k a0_0 a0_1).bind fun bt520 => ((dur_Beat.f k a0_0 a0_1 a1_0 a1_1).bind fun bt524 => ((neumeref07_Beat.f k a0_0 a0_1 a1_0 a1_1).bind fun bt526 => (if (t508 == t512 && (t509 == t513)) = true then (if t510 = t514 then ((neumeref07_Rats.f k bt516.1 bt520.1).bind fun t528 => (if t528 = true then (if bt516.2 = bt520.2 then (if bt524.1 = bt526.1 then (if bt524.2 = bt526.2 then ((dur_Meter.f a0_0 a0_1).bind fun t529 => ((neumeref07_Meter.f a0_0 a0_1).bind fun t530 => (if (t529 == t530) = true then ((neumelaw07_heads.f k).bind fun t531 => (some t531)) else (some false)))) else (some false)) else (some false)) else (some false)) else (some false))) else (some false)) else (some false)))))) = some r := H
 have A4 := sd_ A40
 clear A40
 replace H := ob_ H
 obtain ⟨⟨t516, t519⟩, A50, H⟩ := H
 replace H : ((neumeref07_Beats.f k a0_0 a0_1).bind fun bt520 => ((dur_Beat.f k a0_0 a0_1 a1_0 a1_1).bind fun bt524 => ((neumeref07_Beat.f k a0_0 a0_1 a1_0 a1_1).bind fun bt526 => (if (t508 == t512 && (t509 == t513)) = true then (if t510 = t514 then ((neumeref07_Rats.f k t516 bt520.1).bind fun t528 => (if t528 = true then (if t519 = bt520.2 then (if bt524.1 = bt526.1 then (if bt524.2 = bt526.2 then ((dur_Meter.f a0_0 a0_1).bind fun t529 => ((neumeref07_Meter.f a0_0 a0_1).bind fun t530 => (if (t529 == t530) = true then ((neumelaw07_heads.f k).bind fun t531 => (some t531)) else (some false)))) else (some false)) else (some false)) else (some false)) else (some false))) else (some false)) else (some false))))) = some r := H
 have A5 := sd_ A50
 clear A50
 replace H := ob_ H
 obtain ⟨⟨t520, t523⟩, A60, H⟩ := H
 replace H : ((dur_Beat.f k a0_0 a0_1 a1_0 a1_1).bind fun bt524 => ((neumeref07_Beat.f k a0_0 a0_1 a1_0 a1_1).bind fun bt526 => (if (t508 == t512 && (t509 == t513)) = true then (if t510 = t514 then ((neumeref07_Rats.f k t516 t520).bind fun t528 => (if t528 = true then (if t519 = t523 then (if bt524.1 = bt526.1 then (if bt524.2 = bt526.2 then ((dur_Meter.f a0_0 a0_1).bind fun t529 => ((neumeref07_Meter.f a0_0 a0_1).bind fun t530 => (if (t529 == t530) = true then ((neumelaw07_heads.f k).bind fun t531 => (some t531)) else (some false)))) else (some false)) else (some false)) else (some false)) else (some false))) else (some false)) else (some false)))) = some r := H
 have A6 := sd_ A60
 clear A60
 replace H := ob_ H
 obtain ⟨⟨t524, t525⟩, A70, H⟩ := H
 replace H : ((neumeref07_Beat.f k a0_0 a0_1 a1_0 a1_1).bind fun bt526 => (if (t508 == t512 && (t509 == t513)) = true then (if t510 = t514 then ((neumeref07_Rats.f k t516 t520).bind fun t528 => (if t528 = true then (if t519 = t523 then (if t524 = bt526.1 then (if t525 = bt526.2 then ((dur_Meter.f a0_0 a0_1).bind fun t529 => ((neumeref07_Meter.f a0_0 a0_1).bind fun t530 => (if (t529 == t530) = true then ((neumelaw07_heads.f k).bind fun t531 => (some t531)) else (some false)))) else (some false)) else (some false)) else (some false)) else (some false))) else (some false)) else (some false))) = some r := H
 have A7 := sd_ A70
 clear A70
 replace H := ob_ H
 obtain ⟨⟨t526, t527⟩, A80, H⟩ := H
 replace H : (if (t508 == t512 && (t509 == t513)) = true then (if t510 = t514 then ((neumeref07_Rats.f k t516 t520).bind fun t528 => (if t528 = true then (if t519 = t523 then (if t524 = t526 then (if t525 = t527 then ((dur_Meter.f a0_0 a0_1).bind fun t529 => ((neumeref07_Meter.f a0_0 a0_1).bind fun t530 => (if (t529 == t530) = true then ((neumelaw07_heads.f k).bind fun t531 => (some t531)) else (some false)))) else (some false)) else (some false)) else (some false)) else (some false))) else (some false)) else (some false)) = some r := H
 have A8 := sd_ A80
 clear A80
 by_cases c9 : (t508 == t512 && (t509 == t513)) = true
 ·rw [if_pos c9] at H
  have c9b0 : (t508 == t512 && (t509 == t513)) = true := c9
  (try (have c9b1 : decide (t508 = t512 && (t509 == t513)) = true := by simpa using c9))
  (try (have c9b2 : (t508 == t512 && (t509 == t513)) = true := by simpa using c9))
  clear c9
  by_cases c10 : t510 = t514
  ·rw [if_pos c10] at H
   have c10b0 : (t510 == t514) = true := beq_iff_eq.mpr c10
   have c10b1 : (t510 != t514) = false := bne_eq_false_iff_eq.mpr c10
   clear c10
   replace H := ob_ H
   obtain ⟨t528, A110, H⟩ := H
   replace H : (if t528 = true then (if t519 = t523 then (if t524 = t526 then (if t525 = t527 then ((dur_Meter.f a0_0 a0_1).bind fun t529 => ((neumeref07_Meter.f a0_0 a0_1).bind fun t530 => (if (t529 == t530) = true then ((neumelaw07_heads.f k).bind fun t531 => (some t531)) else (some false)))) else (some false)) else (some false)) else (some false)) else (some false)) = some r := H
   have A11 := sd_ A110
   clear A110
   by_cases c12 : t528 = true
   ·subst c12
    have H1 : (if t519 = t523 then (if t524 = t526 then (if t525 = t527 then ((dur_Meter.f a0_0 a0_1).bind fun t529 => ((neumeref07_Meter.f a0_0 a0_1).bind fun t530 => (if (t529 == t530) = true then ((neumelaw07_heads.f k).bind fun t531 => (some t531)) else (some false)))) else (some false)) else (some false)) else (some false)) = some r := by rw [if_pos rfl] at H; exact H
    clear H; have H := H1; clear H1
    by_cases c13 : t519 = t523
    ·rw [if_pos c13] at H
     have c13b0 : (t519 == t523) = true := beq_iff_eq.mpr c13
     have c13b1 : (t519 != t523) = false := bne_eq_false_iff_eq.mpr c13
     clear c13
     by_cases c14 : t524 = t526
     ·rw [if_pos c14] at H
      have c14b0 : (t524 == t526) = true := beq_iff_eq.mpr c14
      have c14b1 : (t524 != t526) = false := bne_eq_false_iff_eq.mpr c14
      clear c14
      by_cases c15 : t525 = t527
      ·rw [if_pos c15] at H
       have c15b0 : (t525 == t527) = true := beq_iff_eq.mpr c15
       have c15b1 : (t525 != t527) = false := bne_eq_false_iff_eq.mpr c15
       clear c15
       replace H := ob_ H
       obtain ⟨t529, A160, H⟩ := H
       replace H : ((neumeref07_Meter.f a0_0 a0_1).bind fun t530 => (if (t529 == t530) = true then ((neumelaw07_heads.f k).bind fun t531 => (some t531)) else (some false))) = some r := H
       have A16 := sd_ A160
       clear A160
       replace H := ob_ H
       obtain ⟨t530, A170, H⟩ := H
       replace H : (if (t529 == t530) = true then ((neumelaw07_heads.f k).bind fun t531 => (some t531)) else (some false)) = some r := H
       have A17 := sd_ A170
       clear A170
       by_cases c18 : (t529 == t530) = true
       ·rw [if_pos c18] at H
        have c18b0 : (t529 == t530) = true := c18
        (try (have c18b1 : decide (t529 = t530) = true := by simpa using c18))
        (try (have c18b2 : (t529 == t530) = true := by simpa using c18))
        clear c18
        replace H := ob_ H
        obtain ⟨t531, A190, H⟩ := H
        replace H : (some t531) = some r := H
        have A19 := sd_ A190
        clear A190
        obtain rfl := Option.some.inj H
        go_enter Tryz.func4, Tryz.ntmps4
        try go_wp2_with (first | ((with_reducible refine gate_dst (N := 2) rfl ?_); refine box_event ?hg (N := 2) ?hd (cs := #[.int .i64 a0_0, .int .i64 a0_1]) (t := 45) ?hr ?_; (case hd => rfl); (case hg => rfl); (case hr => first | (go_simp; done) | (go_simp; rfl)); intro gb506 hg w20 hbox hb; have BK506 := sd_ hbox; have GW506 := gw_ HB e0_ hg; have GE506 := GW506; replace HB := hb_ HB e0_ hb; clear hb hbox hg) | ((with_reducible refine gate_dst (N := 3) rfl ?_); refine box_event ?hg (N := 3) ?hd (cs := #[.int .i64 a1_0, .int .i64 a1_1]) (t := 25) ?hr ?_; (case hd => rfl); (case hg => rfl); (case hr => first | (go_simp; done) | (go_simp; rfl)); intro gb507 hg w21 hbox hb; have BK507 := sd_ hbox; have GW507 := gw_ HB (e_ GE506 e0_) hg; have GE507 := GW507; have NB506_507 := nb_ BK506 hg; have NB507_506 := sy_ NB506_507; replace BK506 := kb_ BK506 hb; replace HB := hb_ HB (e_ GE506 e0_) hb; clear hb hbox hg; have hnb22 := NB506_507.out; have hnc22 := NB507_506.out; have hcz23_0 : w21.cell? ⟨gb506, 0, none⟩ = some (.int .i64 a0_0) := (kc_ BK506.out 0).trans rfl; have hcz23_1 : w21.cell? ⟨gb506, 1, none⟩ = some (.int .i64 a0_1) := (kc_ BK506.out 1).trans rfl; have hfz23_0 := kf_ BK506.out 0; have hfz23_1 := kf_ BK506.out 1) | ((with_reducible refine gate_callee (f := 25) rfl ?_); refine goesL_ (some 19) rfl rfl Tryz.func25 (by kernel_rfl) rfl #[.agg #[.int .i64 a0_0, .int .i64 a0_1]] rfl (by (try simp only [lm_, lq_, lx_]); first | done | rfl | (simp only [ld_, lt_]; rfl)) ?_; (with_reducible refine (dur_Bar.calls k a0_0 a0_1 t508 t509 t510 _ ?side1 A3.out).mono ?_); (case side1 => first | (with_reducible exact hE) | exact sd_ (LaidE.below hE.out (bb_ HB.out (e_ GE506 (e_ GE507 e0_))))); rintro e w24 ⟨rfl, hb⟩; refine ⟨_, rfl, ?_⟩; replace BK506 := kb_ BK506 hb; replace BK507 := kb_ BK507 hb; replace HB := hb_ HB (e_ GE506 (e_ GE507 e0_)) hb; (try clear hb); (try clear hb2); (try clear hk); (try clear hi)) | ((with_reducible refine gate_dst (N := 5) rfl ?_); refine box_event ?hg (N := 5) ?hd (cs := #[.int .i64 0, .int .i64 0]) (t := 25) ?hr ?_; (case hd => rfl); (case hg => rfl); (case hr => first | (go_simp; done) | (go_simp; rfl)); intro gb511 hg w25 hbox hb; have BK511 := sd_ hbox; have GW511 := gw_ HB (e_ GE506 (e_ GE507 e0_)) hg; have GE511 := GW511; have NB506_511 := nb_ BK506 hg; have NB511_506 := sy_ NB506_511; have NB507_511 := nb_ BK507 hg; have NB511_507 := sy_ NB507_511; replace BK506 := kb_ BK506 hb; replace BK507 := kb_ BK507 hb; replace HB := hb_ HB (e_ GE506 (e_ GE507 e0_)) hb; clear hb hbox hg; have hnb26 := NB511_506.out; have hnc26 := NB506_511.out; have hnb27 := NB511_507.out; have hnc27 := NB507_511.out; have hcz28_0 : w25.cell? ⟨gb511, 0, none⟩ = some (.int .i64 0) := (kc_ BK511.out 0).trans rfl; have hcz28_1 : w25.cell? ⟨gb511, 1, none⟩ = some (.int .i64 0) := (kc_ BK511.out 1).trans rfl; have hfz28_0 := kf_ BK511.out 0; have hfz28_1 := kf_ BK511.out 1; have hcz29_0 : w25.cell? ⟨gb506, 0, none⟩ = some (.int .i64 a0_0) := (kc_ BK506.out 0).trans rfl; have hcz29_1 : w25.cell? ⟨gb506, 1, none⟩ = some (.int .i64 a0_1) := (kc_ BK506.out 1).trans rfl; have hfz29_0 := kf_ BK506.out 0; have hfz29_1 := kf_ BK506.out 1) | ((with_reducible refine gate_callee (f := 26) rfl ?_); refine goesL_ (some 24) rfl rfl Tryz.func26 (by kernel_rfl) rfl #[.agg #[.int .i64 a0_0, .int .i64 a0_1]] rfl (by (try simp only [lm_, lq_, lx_]); first | done | rfl | (simp only [ld_, lt_]; rfl)) ?_; (with_reducible refine (neumeref07_Bar.calls k a0_0 a0_1 t512 t513 t514 _ A4.out).mono ?_); rintro e w30 ⟨rfl, hb⟩; refine ⟨_, rfl, ?_⟩; replace BK506 := sd_ (blk_below (g := gb506) (o := .cells #[.int .i64 a0_0, .int .i64 a0_1] 45 (0, 0)) (by (with_reducible repeat first | apply kn_ | apply kd_ | apply ka_); refine blk_far ?_ NB506_511.out _; (with_reducible repeat first | apply kn_ | apply kd_ | apply ka_); refine blk_far ?_ NB506_511.out _; (with_reducible repeat first | apply kn_ | apply kd_ | apply ka_); exact BK506.out) hb); replace BK507 := sd_ (blk_below (g := gb507) (o := .cells #[.int .i64 a1_0, .int .i64 a1_1] 25 (0, 0)) (by (with_reducible repeat first | apply kn_ | apply kd_ | apply ka_); refine blk_far ?_ NB507_511.out _; (with_reducible repeat first | apply kn_ | apply kd_ | apply ka_); refine blk_far ?_ NB507_511.out _; (with_reducible repeat first | apply kn_ | apply kd_ | apply ka_); exact BK507.out) hb); replace BK511 := sd_ (blk_below (g := gb511) (o := .cells #[.int .i64 t508, .int .i64 t509] 25 (0, 0)) (by (with_reducible repeat first | apply kn_ | apply kd_ | apply ka_); refine blk_put (cs := #[.int .i64 t508, .int .i64 0]) ?_ 1 _ rfl; (with_reducible repeat first | apply kn_ | apply kd_ | apply ka_); refine blk_put (cs := #[.int .i64 0, .int .i64 0]) ?_ 0 _ rfl; (with_reducible repeat first | apply kn_ | apply kd_ | apply ka_); exact BK511.out) hb); replace HB := hb_ HB (e_ GE506 (e_ GE507 (e_ GE511 e0_))) hb; (try clear hb); (try clear hb2); (try clear hk); (try clear hi)) | ((with_reducible refine gate_dst (N := 7) rfl ?_); refine box_event ?hg (N := 7) ?hd (cs := #[.int .i64 0, .int .i64 0]) (t := 25) ?hr ?_; (case hd => rfl); (case hg => rfl); (case hr => first | (go_simp; done) | (go_simp; rfl)); intro gb515 hg w31 hbox hb; have BK515 := sd_ hbox; have GW515 := gw_ HB (e_ GE506 (e_ GE507 (e_ GE511 e0_))) hg; have GE515 := GW515; have NB506_515 := nb_ BK506 hg; have NB515_506 := sy_ NB506_515; have NB507_515 := nb_ BK507 hg; have NB515_507 := sy_ NB507_515; have NB511_515 := nb_ BK511 hg; have NB515_511 := sy_ NB511_515; replace BK506 := kb_ BK506 hb; replace BK507 := kb_ BK507 hb; replace BK511 := kb_ BK511 hb; replace HB := hb_ HB (e_ GE506 (e_ GE507 (e_ GE511 e0_))) hb; clear hb hbox hg; have hnb32 := NB515_506.out; have hnc32 := NB506_515.out; have hnb33 := NB515_507.out; have hnc33 := NB507_515.out; have hnb34 := NB515_511.out; have hnc34 := NB511_515.out; have hcz35_0 : w31.cell? ⟨gb515, 0, none⟩ = some (.int .i64 0) := (kc_ BK515.out 0).trans rfl; have hcz35_1 : w31.cell? ⟨gb515, 1, none⟩ = some (.int .i64 0) := (kc_ BK515.out 1).trans rfl; have hfz35_0 := kf_ BK515.out 0; have hfz35_1 := kf_ BK515.out 1; have hcz36_0 : w31.cell? ⟨gb506, 0, none⟩ = some (.int .i64 a0_0) := (kc_ BK506.out 0).trans rfl; have hcz36_1 : w31.cell? ⟨gb506, 1, none⟩ = some (.int .i64 a0_1) := (kc_ BK506.out 1).trans rfl; have hfz36_0 := kf_ BK506.out 0; have hfz36_1 := kf_ BK506.out 1) | ((with_reducible refine gate_callee (f := 27) rfl ?_); refine goesL_ (some 29) rfl rfl Tryz.func27 (by kernel_rfl) rfl #[.agg #[.int .i64 a0_0, .int .i64 a0_1]] rfl (by (try simp only [lm_, lq_, lx_]); first | done | rfl | (simp only [ld_, lt_]; rfl)) ?_; (with_reducible refine (dur_Beats.calls k a0_0 a0_1 t516 t519 _ ?side1 A5.out).mono ?_); (case side1 => first | (with_reducible exact hE) | exact sd_ (LaidE.below hE.out (bb_ HB.out (e_ GE506 (e_ GE507 (e_ GE511 (e_ GE515 e0_))))))); rintro e w37 ⟨v517, rfl, ho0, hb⟩; refine ⟨_, rfl, ?_⟩; have HO518 := sd_ (Kd.R_lower (Kd.R_newB (Kd.R_newB (Kd.R_newB ho0 (g := gb507) (o := .cells #[.int .i64 a1_0, .int .i64 a1_1] 25 (0, 0)) (by (with_reducible repeat first | apply kn_ | apply kd_ | apply ka_); refine blk_far ?_ NB507_515.out _; (with_reducible repeat first | apply kn_ | apply kd_ | apply ka_); refine blk_far ?_ NB507_515.out _; (with_reducible repeat first | apply kn_ | apply kd_ | apply ka_); exact BK507.out)) (g := gb511) (o := .cells #[.int .i64 t508, .int .i64 t509] 25 (0, 0)) (by (with_reducible repeat first | apply kn_ | apply kd_ | apply ka_); refine blk_far ?_ NB511_515.out _; (with_reducible repeat first | apply kn_ | apply kd_ | apply ka_); refine blk_far ?_ NB511_515.out _; (with_reducible repeat first | apply kn_ | apply kd_ | apply ka_); exact BK511.out)) (g := gb515) (o := .cells #[.int .i64 t512, .int .i64 t513] 25 (0, 0)) (by (with_reducible repeat first | apply kn_ | apply kd_ | apply ka_); refine blk_put (cs := #[.int .i64 t512, .int .i64 0]) ?_ 1 _ rfl; (with_reducible repeat first | apply kn_ | apply kd_ | apply ka_); refine blk_put (cs := #[.int .i64 0, .int .i64 0]) ?_ 0 _ rfl; (with_reducible repeat first | apply kn_ | apply kd_ | apply ka_); exact BK515.out)) (bz_ (bb_ HB.out (e_ GE506 (e_ GE507 (e_ GE511 (e_ GE515 e0_))))))); replace BK506 := sd_ (blk_below (g := gb506) (o := .cells #[.int .i64 a0_0, .int .i64 a0_1] 45 (0, 0)) (by (with_reducible repeat first | apply kn_ | apply kd_ | apply ka_); refine blk_far ?_ NB506_515.out _; (with_reducible repeat first | apply kn_ | apply kd_ | apply ka_); refine blk_far ?_ NB506_515.out _; (with_reducible repeat first | apply kn_ | apply kd_ | apply ka_); exact BK506.out) hb); replace BK507 := sd_ (blk_below (g := gb507) (o := .cells #[.int .i64 a1_0, .int .i64 a1_1] 25 (0, 0)) (by (with_reducible repeat first | apply kn_ | apply kd_ | apply ka_); refine blk_far ?_ NB507_515.out _; (with_reducible repeat first | apply kn_ | apply kd_ | apply ka_); refine blk_far ?_ NB507_515.out _; (with_reducible repeat first | apply kn_ | apply kd_ | apply ka_); exact BK507.out) hb); replace BK511 := sd_ (blk_below (g := gb511) (o := .cells #[.int .i64 t508, .int .i64 t509] 25 (0, 0)) (by (with_reducible repeat first | apply kn_ | apply kd_ | apply ka_); refine blk_far ?_ NB511_515.out _; (with_reducible repeat first | apply kn_ | apply kd_ | apply ka_); refine blk_far ?_ NB511_515.out _; (with_reducible repeat first | apply kn_ | apply kd_ | apply ka_); exact BK511.out) hb); replace BK515 := sd_ (blk_below (g := gb515) (o := .cells #[.int .i64 t512, .int .i64 t513] 25 (0, 0)) (by (with_reducible repeat first | apply kn_ | apply kd_ | apply ka_); refine blk_put (cs := #[.int .i64 t512, .int .i64 0]) ?_ 1 _ rfl; (with_reducible repeat first | apply kn_ | apply kd_ | apply ka_); refine blk_put (cs := #[.int .i64 0, .int .i64 0]) ?_ 0 _ rfl; (with_reducible repeat first | apply kn_ | apply kd_ | apply ka_); exact BK515.out) hb); replace HB := hb_ HB (e_ GE506 (e_ GE507 (e_ GE511 (e_ GE515 e0_)))) hb; (try clear hb); (try clear hb2); (try clear hk); (try clear hi); (try clear ho0); have hcz38_0 : w37.cell? ⟨gb506, 0, none⟩ = some (.int .i64 a0_0) := (kc_ BK506.out 0).trans rfl; have hcz38_1 : w37.cell? ⟨gb506, 1, none⟩ = some (.int .i64 a0_1) := (kc_ BK506.out 1).trans rfl; have hfz38_0 := kf_ BK506.out 0; have hfz38_1 := kf_ BK506.out 1) | ((with_reducible refine gate_callee (f := 28) rfl ?_); refine goesL_ (some 34) rfl rfl Tryz.func28 (by kernel_rfl) rfl #[.agg #[.int .i64 a0_0, .int .i64 a0_1]] rfl (by (try simp only [lm_, lq_, lx_]); first | done | rfl | (simp only [ld_, lt_]; rfl)) ?_; (with_reducible refine (neumeref07_Beats.calls k a0_0 a0_1 t520 t523 _ A6.out).mono ?_); rintro e w39 ⟨v521, rfl, ho0, hb⟩; refine ⟨_, rfl, ?_⟩; have HO522 := sd_ (Kd.R_lower (Kd.R_newB (Kd.R_newB (Kd.R_newB (Kd.R_new' ho0 (Kd.R_lt (by (with_reducible repeat (first | apply Kd.R_alloc | apply Kd.R_drewN | apply Kd.R_drew)); exact HO518.out))) (kk_ BK507.out)) (kk_ BK511.out)) (kk_ BK515.out)) (bz_ (bb_ HB.out (e_ GE506 (e_ GE507 (e_ GE511 (e_ GE515 e0_))))))); replace HO518 := sd_ (Kd.R_elder' (by (with_reducible repeat (first | apply Kd.R_alloc | apply Kd.R_drewN | apply Kd.R_drew)); exact HO518.out) (Kd.R_base ho0) hb); replace BK506 := kb_ BK506 hb; replace BK507 := kb_ BK507 hb; replace BK511 := kb_ BK511 hb; replace BK515 := kb_ BK515 hb; replace HB := hb_ HB (e_ GE506 (e_ GE507 (e_ GE511 (e_ GE515 e0_)))) hb; (try clear hb); (try clear hb2); (try clear hk); (try clear hi); (try clear ho0); have hcz40_0 : w39.cell? ⟨gb506, 0, none⟩ = some (.int .i64 a0_0) := (kc_ BK506.out 0).trans rfl; have hcz40_1 : w39.cell? ⟨gb506, 1, none⟩ = some (.int .i64 a0_1) := (kc_ BK506.out 1).trans rfl; have hfz40_0 := kf_ BK506.out 0; have hfz40_1 := kf_ BK506.out 1; have hcz41_0 : w39.cell? ⟨gb507, 0, none⟩ = some (.int .i64 a1_0) := (kc_ BK507.out 0).trans rfl; have hcz41_1 : w39.cell? ⟨gb507, 1, none⟩ = some (.int .i64 a1_1) := (kc_ BK507.out 1).trans rfl; have hfz41_0 := kf_ BK507.out 0; have hfz41_1 := kf_ BK507.out 1) | ((with_reducible refine gate_callee (f := 29) rfl ?_); refine goesL_ (some 40) rfl rfl Tryz.func29 (by kernel_rfl) rfl #[.agg #[.int .i64 a0_0, .int .i64 a0_1], .agg #[.int .i64 a1_0, .int .i64 a1_1]] rfl (by (try simp only [lm_, lq_, lx_]); first | done | rfl | (simp only [ld_, lt_]; rfl)) ?_; (with_reducible refine (dur_Beat.calls k a0_0 a0_1 a1_0 a1_1 t524 t525 _ ?side1 A7.out).mono ?_); (case side1 => first | (with_reducible exact hE) | exact sd_ (LaidE.below hE.out (bb_ HB.out (e_ GE506 (e_ GE507 (e_ GE511 (e_ GE515 e0_))))))); rintro e w42 ⟨rfl, hb⟩; refine ⟨_, rfl, ?_⟩; replace HO518 := sd_ (Kd.R_below (by (with_reducible repeat (first | apply Kd.R_alloc | apply Kd.R_drewN | apply Kd.R_drew)); exact HO518.out) hb); replace HO522 := sd_ (Kd.R_below (by (with_reducible repeat (first | apply Kd.R_alloc | apply Kd.R_drewN | apply Kd.R_drew)); exact HO522.out) hb); replace BK506 := kb_ BK506 hb; replace BK507 := kb_ BK507 hb; replace BK511 := kb_ BK511 hb; replace BK515 := kb_ BK515 hb; replace HB := hb_ HB (e_ GE506 (e_ GE507 (e_ GE511 (e_ GE515 e0_)))) hb; (try clear hb); (try clear hb2); (try clear hk); (try clear hi); have hcz43_0 : w42.cell? ⟨gb506, 0, none⟩ = some (.int .i64 a0_0) := (kc_ BK506.out 0).trans rfl; have hcz43_1 : w42.cell? ⟨gb506, 1, none⟩ = some (.int .i64 a0_1) := (kc_ BK506.out 1).trans rfl; have hfz43_0 := kf_ BK506.out 0; have hfz43_1 := kf_ BK506.out 1; have hcz44_0 : w42.cell? ⟨gb507, 0, none⟩ = some (.int .i64 a1_0) := (kc_ BK507.out 0).trans rfl; have hcz44_1 : w42.cell? ⟨gb507, 1, none⟩ = some (.int .i64 a1_1) := (kc_ BK507.out 1).trans rfl; have hfz44_0 := kf_ BK507.out 0; have hfz44_1 := kf_ BK507.out 1) | ((with_reducible refine gate_callee (f := 30) rfl ?_); refine goesL_ (some 46) rfl rfl Tryz.func30 (by kernel_rfl) rfl #[.agg #[.int .i64 a0_0, .int .i64 a0_1], .agg #[.int .i64 a1_0, .int .i64 a1_1]] rfl (by (try simp only [lm_, lq_, lx_]); first | done | rfl | (simp only [ld_, lt_]; rfl)) ?_; (with_reducible refine (neumeref07_Beat.calls k a0_0 a0_1 a1_0 a1_1 t526 t527 _ A8.out).mono ?_); rintro e w45 ⟨rfl, hb⟩; refine ⟨_, rfl, ?_⟩; replace HO518 := sd_ (Kd.R_below (by (with_reducible repeat (first | apply Kd.R_alloc | apply Kd.R_drewN | apply Kd.R_drew)); exact HO518.out) hb); replace HO522 := sd_ (Kd.R_below (by (with_reducible repeat (first | apply Kd.R_alloc | apply Kd.R_drewN | apply Kd.R_drew)); exact HO522.out) hb); replace BK506 := kb_ BK506 hb; replace BK507 := kb_ BK507 hb; replace BK511 := kb_ BK511 hb; replace BK515 := kb_ BK515 hb; replace HB := hb_ HB (e_ GE506 (e_ GE507 (e_ GE511 (e_ GE515 e0_)))) hb; (try clear hb); (try clear hb2); (try clear hk); (try clear hi)))
        replace HO518 := sd_ (Kd.R_drew HO518.out)
        replace HO522 := sd_ (Kd.R_drew HO522.out)
        replace BK506 := sd_ (kd_ BK506.out)
        replace BK507 := sd_ (kd_ BK507.out)
        replace BK511 := sd_ (kd_ BK511.out)
        replace BK515 := sd_ (kd_ BK515.out)
        replace HB := sd_ (d1_ HB.out)
        obtain ⟨Ao47, co47, eo47⟩ := Kd.R_slice HO518.out
        (first | subst eo47 | (injection eo47 with f1_ f2_ f3_; have f4_ := f1_.symm; have f5_ := f3_.symm; clear f1_ f2_ f3_; subst f4_; subst f5_))
        obtain ⟨Ao48, co48, eo48⟩ := Kd.R_slice HO522.out
        (first | subst eo48 | (injection eo48 with f1_ f2_ f3_; have f4_ := f1_.symm; have f5_ := f3_.symm; clear f1_ f2_ f3_; subst f4_; subst f5_))
        refine start_ (n := 39) (S := fun w' => w'.cell? ⟨gb511, 0, none⟩ = some (.int .i64 t508) ∧ w'.cell? ⟨gb511, 1, none⟩ = some (.int .i64 t509) ∧ w'.cell? ⟨gb515, 0, none⟩ = some (.int .i64 t512) ∧ w'.cell? ⟨gb515, 1, none⟩ = some (.int .i64 t513) ∧ w'.cell? ⟨gb506, 0, none⟩ = some (.int .i64 a0_0) ∧ w'.cell? ⟨gb506, 1, none⟩ = some (.int .i64 a0_1)) (ds := []) (Array.replicate 39 false) (by kernel_rfl) rfl rfl ⟨(kc_ BK511.out 0).trans rfl, (kc_ BK511.out 1).trans rfl, (kc_ BK515.out 0).trans rfl, (kc_ BK515.out 1).trans rfl, (kc_ BK506.out 0).trans rfl, (kc_ BK506.out 1).trans rfl⟩ (fun hHeld => ?_); refine with_tabW neumelaw07_DurMeters.tab7 neumelaw07_DurMeters.bits7 (fun HT_ HW_ => ?_)
        generalize w45.drew = w46 at HO518 HO522 BK506 BK507 BK511 BK515 HB hHeld ⊢
        refine ta_ (v := ?_) (a' := ?_) 0 49 (bz 39 1) rfl rfl HT_ HW_ (by kernel_rfl) (fun _ _ _ h => h) (by rfl) ?_ hHeld ?_ ?_
        rotate_left
        ·rintro w' ⟨s0, s1, s2, s3, s4, s5⟩
         go_simp
         with_reducible rfl
        rotate_left
        ·simp only [Act.put, ls_, lz_, lc_, i64_w, i32_w]
         rfl
        refine ta_ (v := ?_) (a' := ?_) 1 50 (bz 39 3) rfl rfl HT_ HW_ (by kernel_rfl) (fun _ _ _ h => h) (by rfl) ?_ hHeld ?_ ?_
        rotate_left
        ·rintro w' ⟨s0, s1, s2, s3, s4, s5⟩
         go_simp
         with_reducible rfl
        rotate_left
        ·simp only [Act.put, ls_, lz_, lc_, i64_w, i32_w]
         rfl
        refine pu_ (v := ?_) (a' := ?_) 2 51 (bz 39 7) rfl rfl HT_ (by kernel_rfl) (fun _ _ _ h => h) (by rfl) ?_ ?_ ?_
        rotate_left; (intro w'; go_simp; with_reducible rfl); rotate_left; (simp only [Act.put, ls_, lz_, lc_, i64_w, i32_w]; rfl)
        refine pu_ (v := ?_) (a' := ?_) 3 52 (bz 39 15) rfl rfl HT_ (by kernel_rfl) (fun _ _ _ h => h) (by rfl) ?_ ?_ ?_
        rotate_left; (intro w'; go_simp; with_reducible rfl); rotate_left; (simp only [Act.put, ls_, lz_, lc_, i64_w, i32_w]; rfl)
        refine pu_ (v := ?_) (a' := ?_) 4 53 (bz 39 31) rfl rfl HT_ (by kernel_rfl) (fun _ _ _ h => h) (by rfl) ?_ ?_ ?_
        rotate_left; (intro w'; go_simp; with_reducible rfl); rotate_left; (simp only [Act.put, ls_, lz_, lc_, i64_w, i32_w]; rfl)
        refine pu_ (v := ?_) (a' := ?_) 5 54 (bz 39 63) rfl rfl HT_ (by kernel_rfl) (fun _ _ _ h => h) (by rfl) ?_ ?_ ?_
        rotate_left; (intro w'; go_simp; with_reducible rfl); rotate_left; (simp only [Act.put, ls_, lz_, lc_, i64_w, i32_w]; rfl)
        refine pu_ (v := ?_) (a' := ?_) 6 55 (bz 39 127) rfl rfl HT_ (by kernel_rfl) (fun _ _ _ h => h) (by rfl) ?_ ?_ ?_
        rotate_left; (intro w'; go_simp; with_reducible rfl); rotate_left; (simp only [Act.put, ls_, lz_, lc_, i64_w, i32_w]; rfl)
        refine pu_ (v := ?_) (a' := ?_) 7 56 (bz 39 255) rfl rfl HT_ (by kernel_rfl) (fun _ _ _ h => h) (by rfl) ?_ ?_ ?_
        rotate_left; (intro w'; go_simp; with_reducible rfl); rotate_left; (simp only [Act.put, ls_, lz_, lc_, i64_w, i32_w]; rfl)
        refine pu_ (v := ?_) (a' := ?_) 8 57 (bz 39 511) rfl rfl HT_ (by kernel_rfl) (fun _ _ _ h => h) (by rfl) ?_ ?_ ?_
        rotate_left; (intro w'; go_simp; with_reducible rfl); rotate_left; (simp only [Act.put, ls_, lz_, lc_, i64_w, i32_w]; rfl)
        refine pu_ (v := ?_) (a' := ?_) 9 58 (bz 39 1023) rfl rfl HT_ (by kernel_rfl) (fun _ _ _ h => h) (by rfl) ?_ ?_ ?_
        rotate_left; (intro w'; go_simp; with_reducible rfl); rotate_left; (simp only [Act.put, ls_, lz_, lc_, i64_w, i32_w]; rfl)
        refine pu_ (v := ?_) (a' := ?_) 10 59 (bz 39 2047) rfl rfl HT_ (by kernel_rfl) (fun _ _ _ h => h) (by rfl) ?_ ?_ ?_
        rotate_left; (intro w'; go_simp; with_reducible rfl); rotate_left; (simp only [Act.put, ls_, lz_, lc_, i64_w, i32_w]; rfl)
        refine on_ (N := some 60) 11 (bz 39 4095) rfl rfl HT_ (by kernel_rfl) (by decide) (fun K hK => ?_)
        refine goes_ Tryz.func31 (by kernel_rfl) rfl #[.slice Ao47 t516.length co47, .slice Ao48 t520.length co48] (by rfl) rfl rfl (by (try simp only [lm_, lq_, lx_]); first | done | rfl | (simp only [ld_, lt_]; rfl)) ?_
        with_reducible refine (neumeref07_Rats.calls k _ _ t516 _ _ t520 true _ ?side1 ?side2 ?side3 ?side4 A11.out).mono ?_
        (case side1 => repeat (first | exact (Kd.R_reads' HO518.out).2.2 | (with_reducible refine Kd.C_alloc ?_ _) | (with_reducible refine Kd.C_drewN ?_ _) | (with_reducible refine Kd.C_drew ?_)))
        (case side2 => exact (Kd.R_reads' HO518.out).2.1)
        (case side3 => repeat (first | exact (Kd.R_reads' HO522.out).2.2 | (with_reducible refine Kd.C_alloc ?_ _) | (with_reducible refine Kd.C_drewN ?_ _) | (with_reducible refine Kd.C_drew ?_)))
        (case side4 => exact (Kd.R_reads' HO522.out).2.1)
        rintro e w' ⟨rfl, ⟨nd, rfl⟩⟩
        refine ⟨_, rfl, ?_⟩
        refine hK.out _ _ ⟨(kc_ BK511.out 0).trans rfl, (kc_ BK511.out 1).trans rfl, (kc_ BK515.out 0).trans rfl, (kc_ BK515.out 1).trans rfl, (kc_ BK506.out 0).trans rfl, (kc_ BK506.out 1).trans rfl⟩ (fun hHeld => ?_)
        clear hK K
        refine norm_ (a' := ?_) ?_ ?_
        rotate_left
        ·show Act.put _ (some 60) _ = _
         simp only [Act.put, ls_, lz_, lc_, i64_w, i32_w]
         rfl
        refine pu_ (v := ?_) (a' := ?_) 12 61 (bz 39 8191) rfl rfl HT_ (by kernel_rfl) (fun _ _ _ h => h) (by rfl) ?_ ?_ ?_
        rotate_left; (intro w'; go_simp; with_reducible rfl); rotate_left; (simp only [Act.put, ls_, lz_, lc_, i64_w, i32_w]; rfl)
        refine pu_ (v := ?_) (a' := ?_) 13 62 (bz 39 16383) rfl rfl HT_ (by kernel_rfl) (fun _ _ _ h => h) (by rfl) ?_ ?_ ?_
        rotate_left; (intro w'; go_simp; with_reducible rfl); rotate_left; (simp only [Act.put, ls_, lz_, lc_, i64_w, i32_w]; rfl)
        refine pu_ (v := ?_) (a' := ?_) 14 63 (bz 39 32767) rfl rfl HT_ (by kernel_rfl) (fun _ _ _ h => h) (by rfl) ?_ ?_ ?_
        rotate_left; (intro w'; go_simp; with_reducible rfl); rotate_left; (simp only [Act.put, ls_, lz_, lc_, i64_w, i32_w]; rfl)
        refine pu_ (v := ?_) (a' := ?_) 15 64 (bz 39 65535) rfl rfl HT_ (by kernel_rfl) (fun _ _ _ h => h) (by rfl) ?_ ?_ ?_
        rotate_left; (intro w'; go_simp; with_reducible rfl); rotate_left; (simp only [Act.put, ls_, lz_, lc_, i64_w, i32_w]; rfl)
        refine pu_ (v := ?_) (a' := ?_) 16 65 (bz 39 131071) rfl rfl HT_ (by kernel_rfl) (fun _ _ _ h => h) (by rfl) ?_ ?_ ?_
        rotate_left; (intro w'; go_simp; with_reducible rfl); rotate_left; (simp only [Act.put, ls_, lz_, lc_, i64_w, i32_w]; rfl)
        refine pu_ (v := ?_) (a' := ?_) 17 66 (bz 39 262143) rfl rfl HT_ (by kernel_rfl) (fun _ _ _ h => h) (by rfl) ?_ ?_ ?_
        rotate_left; (intro w'; go_simp; with_reducible rfl); rotate_left; (simp only [Act.put, ls_, lz_, lc_, i64_w, i32_w]; rfl)
        refine pu_ (v := ?_) (a' := ?_) 18 67 (bz 39 524287) rfl rfl HT_ (by kernel_rfl) (fun _ _ _ h => h) (by rfl) ?_ ?_ ?_
        rotate_left; (intro w'; go_simp; with_reducible rfl); rotate_left; (simp only [Act.put, ls_, lz_, lc_, i64_w, i32_w]; rfl)
        refine pu_ (v := ?_) (a' := ?_) 19 68 (bz 39 1048575) rfl rfl HT_ (by kernel_rfl) (fun _ _ _ h => h) (by rfl) ?_ ?_ ?_
        rotate_left; (intro w'; go_simp; with_reducible rfl); rotate_left; (simp only [Act.put, ls_, lz_, lc_, i64_w, i32_w]; rfl)
        refine pu_ (v := ?_) (a' := ?_) 20 69 (bz 39 2097151) rfl rfl HT_ (by kernel_rfl) (fun _ _ _ h => h) (by rfl) ?_ ?_ ?_
        rotate_left; (intro w'; go_simp; with_reducible rfl); rotate_left; (simp only [Act.put, ls_, lz_, lc_, i64_w, i32_w]; rfl)
        refine pu_ (v := ?_) (a' := ?_) 21 70 (bz 39 4194303) rfl rfl HT_ (by kernel_rfl) (fun _ _ _ h => h) (by rfl) ?_ ?_ ?_
        rotate_left; (intro w'; go_simp; with_reducible rfl); rotate_left; (simp only [Act.put, ls_, lz_, lc_, i64_w, i32_w]; rfl)
        refine pu_ (v := ?_) (a' := ?_) 22 71 (bz 39 8388607) rfl rfl HT_ (by kernel_rfl) (fun _ _ _ h => h) (by rfl) ?_ ?_ ?_
        rotate_left; (intro w'; go_simp; with_reducible rfl); rotate_left; (simp only [Act.put, ls_, lz_, lc_, i64_w, i32_w]; rfl)
        refine pu_ (v := ?_) (a' := ?_) 23 72 (bz 39 16777215) rfl rfl HT_ (by kernel_rfl) (fun _ _ _ h => h) (by rfl) ?_ ?_ ?_
        rotate_left; (intro w'; go_simp; with_reducible rfl); rotate_left; (simp only [Act.put, ls_, lz_, lc_, i64_w, i32_w]; rfl)
        refine pu_ (v := ?_) (a' := ?_) 24 73 (bz 39 33554431) rfl rfl HT_ (by kernel_rfl) (fun _ _ _ h => h) (by rfl) ?_ ?_ ?_
        rotate_left; (intro w'; go_simp; with_reducible rfl); rotate_left; (simp only [Act.put, ls_, lz_, lc_, i64_w, i32_w]; rfl)
        refine pu_ (v := ?_) (a' := ?_) 25 74 (bz 39 67108863) rfl rfl HT_ (by kernel_rfl) (fun _ _ _ h => h) (by rfl) ?_ ?_ ?_
        rotate_left; (intro w'; go_simp; with_reducible rfl); rotate_left; (simp only [Act.put, ls_, lz_, lc_, i64_w, i32_w]; rfl)
        refine pu_ (v := ?_) (a' := ?_) 26 75 (bz 39 134217727) rfl rfl HT_ (by kernel_rfl) (fun _ _ _ h => h) (by rfl) ?_ ?_ ?_
        rotate_left; (intro w'; go_simp; with_reducible rfl); rotate_left; (simp only [Act.put, ls_, lz_, lc_, i64_w, i32_w]; rfl)
        refine pu_ (v := ?_) (a' := ?_) 27 76 (bz 39 268435455) rfl rfl HT_ (by kernel_rfl) (fun _ _ _ h => h) (by rfl) ?_ ?_ ?_
        rotate_left; (intro w'; go_simp; with_reducible rfl); rotate_left; (simp only [Act.put, ls_, lz_, lc_, i64_w, i32_w]; rfl)
        refine pu_ (v := ?_) (a' := ?_) 28 77 (bz 39 536870911) rfl rfl HT_ (by kernel_rfl) (fun _ _ _ h => h) (by rfl) ?_ ?_ ?_
        rotate_left; (intro w'; go_simp; with_reducible rfl); rotate_left; (simp only [Act.put, ls_, lz_, lc_, i64_w, i32_w]; rfl)
        refine ta_ (v := ?_) (a' := ?_) 29 78 (bz 39 1073741823) rfl rfl HT_ HW_ (by kernel_rfl) (fun _ _ _ h => h) (by rfl) ?_ hHeld ?_ ?_
        rotate_left
        ·rintro w' ⟨s0, s1, s2, s3, s4, s5⟩
         go_simp
         with_reducible rfl
        rotate_left
        ·simp only [Act.put, ls_, lz_, lc_, i64_w, i32_w]
         rfl
        refine ta_ (v := ?_) (a' := ?_) 31 80 (bz 39 3221225471) rfl rfl HT_ HW_ (by kernel_rfl) (fun _ _ _ h => h) (by rfl) ?_ hHeld ?_ ?_
        rotate_left
        ·rintro w' ⟨s0, s1, s2, s3, s4, s5⟩
         go_simp
         with_reducible rfl
        rotate_left
        ·simp only [Act.put, ls_, lz_, lc_, i64_w, i32_w]
         rfl
        refine on_ (N := some 79) 30 (bz 39 4294967295) rfl rfl HT_ (by kernel_rfl) (by decide) (fun K hK => ?_)
        refine goes_ Tryz.func32 (by kernel_rfl) rfl #[.agg #[.int .i64 a0_0, .int .i64 a0_1]] (by rfl) rfl rfl (by (try simp only [lm_, lq_, lx_]); first | done | rfl | (simp only [ld_, lt_]; rfl)) ?_
        with_reducible refine (dur_Meter.calls a0_0 a0_1 t529 _ A16.out).mono ?_
        rintro e w49 ⟨rfl, hb⟩
        refine ⟨_, rfl, ?_⟩
        replace HO518 := sd_ (Kd.R_below (by (with_reducible repeat (first | apply Kd.R_alloc | apply Kd.R_drewN | apply Kd.R_drew)); exact HO518.out) hb)
        replace HO522 := sd_ (Kd.R_below (by (with_reducible repeat (first | apply Kd.R_alloc | apply Kd.R_drewN | apply Kd.R_drew)); exact HO522.out) hb)
        replace BK506 := kb_ BK506 hb
        replace BK507 := kb_ BK507 hb
        replace BK511 := kb_ BK511 hb
        replace BK515 := kb_ BK515 hb
        replace HB := hb_ HB (e_ GE506 (e_ GE507 (e_ GE511 (e_ GE515 e0_)))) hb
        (try clear hb)
        (try clear hb2)
        (try clear hk)
        (try clear hi)
        refine hK.out _ _ ⟨(kc_ BK511.out 0).trans rfl, (kc_ BK511.out 1).trans rfl, (kc_ BK515.out 0).trans rfl, (kc_ BK515.out 1).trans rfl, (kc_ BK506.out 0).trans rfl, (kc_ BK506.out 1).trans rfl⟩ (fun hHeld => ?_)
        clear hK K
        refine norm_ (a' := ?_) ?_ ?_
        rotate_left
        ·show Act.put _ (some 79) _ = _
         simp only [Act.put, ls_, lz_, lc_, i64_w, i32_w]
         rfl
        refine on_ (N := some 81) 32 (bz 39 8589934591) rfl rfl HT_ (by kernel_rfl) (by decide) (fun K hK => ?_)
        refine goes_ Tryz.func33 (by kernel_rfl) rfl #[.agg #[.int .i64 a0_0, .int .i64 a0_1]] (by rfl) rfl rfl (by (try simp only [lm_, lq_, lx_]); first | done | rfl | (simp only [ld_, lt_]; rfl)) ?_
        with_reducible refine (neumeref07_Meter.calls a0_0 a0_1 t530 _ A17.out).mono ?_
        rintro e w50 ⟨rfl, hb⟩
        refine ⟨_, rfl, ?_⟩
        replace HO518 := sd_ (Kd.R_below (by (with_reducible repeat (first | apply Kd.R_alloc | apply Kd.R_drewN | apply Kd.R_drew)); exact HO518.out) hb)
        replace HO522 := sd_ (Kd.R_below (by (with_reducible repeat (first | apply Kd.R_alloc | apply Kd.R_drewN | apply Kd.R_drew)); exact HO522.out) hb)
        replace BK506 := kb_ BK506 hb
        replace BK507 := kb_ BK507 hb
        replace BK511 := kb_ BK511 hb
        replace BK515 := kb_ BK515 hb
        replace HB := hb_ HB (e_ GE506 (e_ GE507 (e_ GE511 (e_ GE515 e0_)))) hb
        (try clear hb)
        (try clear hb2)
        (try clear hk)
        (try clear hi)
        refine hK.out _ _ ⟨(kc_ BK511.out 0).trans rfl, (kc_ BK511.out 1).trans rfl, (kc_ BK515.out 0).trans rfl, (kc_ BK515.out 1).trans rfl, (kc_ BK506.out 0).trans rfl, (kc_ BK506.out 1).trans rfl⟩ (fun hHeld => ?_)
        clear hK K
        refine norm_ (a' := ?_) ?_ ?_
        rotate_left
        ·show Act.put _ (some 81) _ = _
         simp only [Act.put, ls_, lz_, lc_, i64_w, i32_w]
         rfl
        refine pu_ (v := ?_) (a' := ?_) 33 82 (bz 39 17179869183) rfl rfl HT_ (by kernel_rfl) (fun _ _ _ h => h) (by rfl) ?_ ?_ ?_
        rotate_left; (intro w'; go_simp; with_reducible rfl); rotate_left; (simp only [Act.put, ls_, lz_, lc_, i64_w, i32_w]; rfl)
        refine pu_ (v := ?_) (a' := ?_) 34 83 (bz 39 34359738367) rfl rfl HT_ (by kernel_rfl) (fun _ _ _ h => h) (by rfl) ?_ ?_ ?_
        rotate_left; (intro w'; go_simp; with_reducible rfl); rotate_left; (simp only [Act.put, ls_, lz_, lc_, i64_w, i32_w]; rfl)
        refine pu_ (v := ?_) (a' := ?_) 35 84 (bz 39 68719476735) rfl rfl HT_ (by kernel_rfl) (fun _ _ _ h => h) (by rfl) ?_ ?_ ?_
        rotate_left; (intro w'; go_simp; with_reducible rfl); rotate_left; (simp only [Act.put, ls_, lz_, lc_, i64_w, i32_w]; rfl)
        refine on_ (N := some 85) 36 (bz 39 137438953471) rfl rfl HT_ (by kernel_rfl) (by decide) (fun K hK => ?_)
        refine goes_ Tryz.func5 (by kernel_rfl) rfl #[] (by rfl) rfl rfl (by (try simp only [lm_, lq_, lx_]); first | done | rfl | (simp only [ld_, lt_]; rfl)) ?_
        with_reducible refine (neumelaw07_heads.calls k  t531 _ ?side1 A19.out).mono ?_
        (case side1 => first | (with_reducible exact hE) | exact sd_ (LaidE.below hE.out (bb_ HB.out (e_ GE506 (e_ GE507 (e_ GE511 (e_ GE515 e0_)))))))
        rintro e w51 ⟨rfl, hb⟩
        refine ⟨_, rfl, ?_⟩
        replace HO518 := sd_ (Kd.R_below (by (with_reducible repeat (first | apply Kd.R_alloc | apply Kd.R_drewN | apply Kd.R_drew)); exact HO518.out) hb)
        replace HO522 := sd_ (Kd.R_below (by (with_reducible repeat (first | apply Kd.R_alloc | apply Kd.R_drewN | apply Kd.R_drew)); exact HO522.out) hb)
        replace BK506 := kb_ BK506 hb
        replace BK507 := kb_ BK507 hb
        replace BK511 := kb_ BK511 hb
        replace BK515 := kb_ BK515 hb
        replace HB := hb_ HB (e_ GE506 (e_ GE507 (e_ GE511 (e_ GE515 e0_)))) hb
        (try clear hb)
        (try clear hb2)
        (try clear hk)
        (try clear hi)
        refine hK.out _ _ ⟨(kc_ BK511.out 0).trans rfl, (kc_ BK511.out 1).trans rfl, (kc_ BK515.out 0).trans rfl, (kc_ BK515.out 1).trans rfl, (kc_ BK506.out 0).trans rfl, (kc_ BK506.out 1).trans rfl⟩ (fun hHeld => ?_)
        clear hK K
        refine norm_ (a' := ?_) ?_ ?_
        rotate_left
        ·show Act.put _ (some 85) _ = _
         simp only [Act.put, ls_, lz_, lc_, i64_w, i32_w]
         rfl
        refine pu_ (v := ?_) (a' := ?_) 37 86 (bz 39 274877906943) rfl rfl HT_ (by kernel_rfl) (fun _ _ _ h => h) (by rfl) ?_ ?_ ?_
        rotate_left; (intro w'; go_simp; with_reducible rfl); rotate_left; (simp only [Act.put, ls_, lz_, lc_, i64_w, i32_w]; rfl)
        refine pu_ (v := ?_) (a' := ?_) 38 4 (bz 39 549755813887) rfl rfl HT_ (by kernel_rfl) (fun _ _ _ h => h) (by rfl) ?_ ?_ ?_
        rotate_left; (intro w'; go_simp; with_reducible rfl); rotate_left; (simp only [Act.put, ls_, lz_, lc_, i64_w, i32_w]; rfl)
        refine done_ (done_of HT_.out (by kernel_rfl)) ?_
        try go_wp2
        go_ret
        exact ⟨by first | rfl | (simp [errW_none, errW_some] <;> rfl) | (simp [*, errW_none, errW_some] <;> rfl), by repeat (first | (with_reducible first | exact HB.out | apply ba_ | apply pd_ | apply d1_ | refine bs_ ?_ GE506.out | refine bs_ ?_ GE507.out | refine bs_ ?_ GE511.out | refine bs_ ?_ GE515.out) | exact HB.out)⟩
       ·rw [if_neg c18] at H
        have c18b0 : (t529 == t530) = false := by simpa using c18
        (try (have c18b1 : decide (t529 = t530) = false := by simpa using c18))
        (try (have c18b2 : (t529 == t530) = false := by simpa using c18))
        (try (have c18b3 : ¬ (t529 = t530) := by simpa using c18))
        clear c18
        exact absurd ((Option.some.inj H).trans hxt.out) (by decide)
      ·rw [if_neg c15] at H
       have c15b0 : (t525 == t527) = false := beq_eq_false_iff_ne.mpr c15
       have c15b1 : (t525 != t527) = true := bne_iff_ne.mpr c15
       exact absurd ((Option.some.inj H).trans hxt.out) (by decide)
     ·rw [if_neg c14] at H
      have c14b0 : (t524 == t526) = false := beq_eq_false_iff_ne.mpr c14
      have c14b1 : (t524 != t526) = true := bne_iff_ne.mpr c14
      exact absurd ((Option.some.inj H).trans hxt.out) (by decide)
    ·rw [if_neg c13] at H
     have c13b0 : (t519 == t523) = false := beq_eq_false_iff_ne.mpr c13
     have c13b1 : (t519 != t523) = true := bne_iff_ne.mpr c13
     exact absurd ((Option.some.inj H).trans hxt.out) (by decide)
   ·replace c12 := bf_ c12
    subst c12
    have H1 : (some false) = some r := by rw [if_neg (show ¬ (false = true) by decide)] at H; exact H
    clear H; have H := H1; clear H1
    exact absurd ((Option.some.inj H).trans hxt.out) (by decide)
  ·rw [if_neg c10] at H
   have c10b0 : (t510 == t514) = false := beq_eq_false_iff_ne.mpr c10
   have c10b1 : (t510 != t514) = true := bne_iff_ne.mpr c10
   exact absurd ((Option.some.inj H).trans hxt.out) (by decide)
 ·rw [if_neg c9] at H
  have c9b0 : (t508 == t512 && (t509 == t513)) = false := by simpa using c9
  (try (have c9b1 : decide (t508 = t512 && (t509 == t513)) = false := by simpa using c9))
  (try (have c9b2 : (t508 == t512 && (t509 == t513)) = false := by simpa using c9))
  (try (have c9b3 : ¬ (t508 = t512 && (t509 == t513)) := by simpa using c9))
  clear c9
  exact absurd ((Option.some.inj H).trans hxt.out) (by decide)

end Go.Proofs.YtdiccfonlojlfaaGreatDoor.P
