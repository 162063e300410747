-- Written by a program of this session (wip/tools/xprint.py, over the kit's print): Lean checks it.
import Derived.Test.YtcokemaiploejaaDoorPx0
import Derived.Test.YtcokemaiploejaaDoorPx2
import Derived.Test.YtcokemaiploejaaDoorPx5
import Derived.Test.YtcokemaiploejaaDoorPx6
import Derived.Test.YtcokemaiploejaaDoorPx10
import Derived.Test.YtcokemaiploejaaDoorPx11
import Derived.Test.YtcokemaiploejaaDoorPx13
import Derived.Test.YtcokemaiploejaaDoorPx15
import Derived.Test.YtcokemaiploejaaDoorPx17
import Derived.Test.YtcokemaiploejaaDoorPx18
namespace Go.Proofs.YtcokemaiploejaaDoor.P
open Go.RowKit Go.Proofs.YtcokemaiploejaaDoorW.PrintWords Go.Proofs.YtcokemaiploejaaDoorW.PrintLast Go.Proofs.YtcokemaiploejaaDoorW.PrintMore
attribute [local go_sem] max2_int min2_int max_two min_two max_three min_three max_four min_four   -- for this text's walks alone
set_option linter.unusedVariables false
set_option linter.unusedSimpArgs false

/-! ### neumelaw23_ChordTells: function 3 -/
def neumelaw23_ChordTells.j0 : Nat → List Int → List Int → Int → Bool → Bool → Bool → Option (Bool)
 | 0, _, _, _, _, _, _ => none
 | k + 1, x0, x1, x2, x3, x4, x34 => if x34 = true then ((neumelaw23_heads.f k).bind fun t465 => (some t465)) else ((chord_Sides.f k x0 x3).bind fun bt466 => ((neumeref23_Sides.f k x0 x3).bind fun bt470 => ((chord_Spots.f k x0 x2 x3 x4).bind fun bt474 => ((neumeref23_Spots.f k x0 x2 x3 x4).bind fun bt478 => ((chord_Stem.f x2 x3 x4).bind fun bt482 => ((neumeref23_Stem.f k x2 x3 x4).bind fun bt484 => ((chord_Boxes.f k x0 x1 x2 x4).bind fun bt486 => ((neumeref23_Boxes.f k x0 x1 x2 x4).bind fun bt490 => ((neumeref18_Numbers.f k bt466.1 bt470.1).bind fun t494 => (if t494 = true then (if bt466.2 = bt470.2 then ((neumeref18_Numbers.f k bt474.1 bt478.1).bind fun t495 => (if t495 = true then (if bt474.2 = bt478.2 then (if bt482.1 = bt484.1 then (if bt482.2 = bt484.2 then ((neumeref23_Same.f k bt486.1 bt490.1).bind fun t496 => (if t496 = true then (if bt486.2 = bt490.2 then ((neumelaw23_heads.f k).bind fun t497 => (some t497)) else (some false)) else (some false))) else (some false)) else (some false)) else (some false)) else (some false))) else (some false)) else (some false)))))))))))
def neumelaw23_ChordTells.f (k : Nat) (l0 : List Int) (l1 : List Int) (a2 : Int) (a3 : Bool) (a4 : Bool) : Option (Bool) := if (l0.length : Int) > 100 then (neumelaw23_ChordTells.j0 k l0 l1 a2 a3 a4 true) else (neumelaw23_ChordTells.j0 k l0 l1 a2 a3 a4 (decide ((l1.length : Int) > 100)))
theorem neumelaw23_ChordTells.mono_l : ∀ k, (∀ y0 y1 y2 y3 y4 y5, LeO (neumelaw23_ChordTells.j0 k y0 y1 y2 y3 y4 y5) (neumelaw23_ChordTells.j0 (k + 1) y0 y1 y2 y3 y4 y5))
 | 0 => fun _ _ _ _ _ _ r h => by simp [neumelaw23_ChordTells.j0] at h
 | k + 1 => by
  have ih0 := neumelaw23_ChordTells.mono_l k
  ·intro y0 y1 y2 y3 y4 y5
   unfold neumelaw23_ChordTells.j0
   repeat' first
   | (with_reducible exact ih0 _ _ _ _ _ _)
   | (with_reducible exact chord_Boxes.mono _ _ _ _ _)
   | (with_reducible exact chord_Sides.mono _ _ _)
   | (with_reducible exact chord_Spots.mono _ _ _ _ _)
   | (with_reducible exact neumelaw23_heads.mono _)
   | (with_reducible exact neumeref18_Numbers.mono _ _ _)
   | (with_reducible exact neumeref23_Boxes.mono _ _ _ _ _)
   | (with_reducible exact neumeref23_Same.mono _ _ _)
   | (with_reducible exact neumeref23_Sides.mono _ _ _)
   | (with_reducible exact neumeref23_Spots.mono _ _ _ _ _)
   | (with_reducible exact neumeref23_Stem.mono _ _ _ _)
   | (with_reducible exact LeO.refl _)
   | (with_reducible exact LeO.none _)
   | (with_reducible refine LeO.ite ?_ ?_)
   | (with_reducible refine LeO.bind ?_ (fun _ => ?_))
   | exact ih0 _ _ _ _ _ _
   | exact chord_Boxes.mono _ _ _ _ _
   | exact chord_Sides.mono _ _ _
   | exact chord_Spots.mono _ _ _ _ _
   | exact neumelaw23_heads.mono _
   | exact neumeref18_Numbers.mono _ _ _
   | exact neumeref23_Boxes.mono _ _ _ _ _
   | exact neumeref23_Same.mono _ _ _
   | exact neumeref23_Sides.mono _ _ _
   | exact neumeref23_Spots.mono _ _ _ _ _
   | exact neumeref23_Stem.mono _ _ _ _
   | exact LeO.none _
   | refine LeO.ite ?_ ?_
   | refine LeO.bind ?_ (fun _ => ?_)
theorem neumelaw23_ChordTells.mono : ∀ a0 a1 a2 a3 a4 k, LeO (neumelaw23_ChordTells.f k a0 a1 a2 a3 a4) (neumelaw23_ChordTells.f (k + 1) a0 a1 a2 a3 a4) := by
 intro a0 a1 a2 a3 a4 k
 have ih0 := neumelaw23_ChordTells.mono_l k
 unfold neumelaw23_ChordTells.f
 repeat' first
   | (with_reducible exact ih0 _ _ _ _ _ _)
   | (with_reducible exact chord_Boxes.mono _ _ _ _ _)
   | (with_reducible exact chord_Sides.mono _ _ _)
   | (with_reducible exact chord_Spots.mono _ _ _ _ _)
   | (with_reducible exact neumelaw23_heads.mono _)
   | (with_reducible exact neumeref18_Numbers.mono _ _ _)
   | (with_reducible exact neumeref23_Boxes.mono _ _ _ _ _)
   | (with_reducible exact neumeref23_Same.mono _ _ _)
   | (with_reducible exact neumeref23_Sides.mono _ _ _)
   | (with_reducible exact neumeref23_Spots.mono _ _ _ _ _)
   | (with_reducible exact neumeref23_Stem.mono _ _ _ _)
   | (with_reducible exact LeO.refl _)
   | (with_reducible exact LeO.none _)
   | (with_reducible refine LeO.ite ?_ ?_)
   | (with_reducible refine LeO.bind ?_ (fun _ => ?_))
   | exact ih0 _ _ _ _ _ _
   | exact chord_Boxes.mono _ _ _ _ _
   | exact chord_Sides.mono _ _ _
   | exact chord_Spots.mono _ _ _ _ _
   | exact neumelaw23_heads.mono _
   | exact neumeref18_Numbers.mono _ _ _
   | exact neumeref23_Boxes.mono _ _ _ _ _
   | exact neumeref23_Same.mono _ _ _
   | exact neumeref23_Sides.mono _ _ _
   | exact neumeref23_Spots.mono _ _ _ _ _
   | exact neumeref23_Stem.mono _ _ _ _
   | exact LeO.none _
   | refine LeO.ite ?_ ?_
   | refine LeO.bind ?_ (fun _ => ?_)
set_option maxHeartbeats 8000000 in
set_option maxRecDepth 100000 in
theorem neumelaw23_ChordTells.calls (k : Nat) (A0 : Option Addr) (c0 : Nat) (l0 : List Int) (A1 : Option Addr) (c1 : Nat) (l1 : List Int) (a2 : Int) (a3 : Bool) (a4 : Bool) (r : Bool) (w : World) (hr0 : Kd.C (Kd.int .i64) w A0 l0.length l0) (hc0 : l0.length ≤ c0) (hr1 : Kd.C (Kd.int .i64) w A1 l1.length l1) (hc1 : l1.length ≤ c1) (hE : Aside0 (LaidE w)) (hxt : Aside0 (r = true)) (h : neumelaw23_ChordTells.f k l0 l1 a2 a3 a4 = some r) :
  Calls Tryd.prog 3 #[.slice A0 l0.length c0, .slice A1 l1.length c1, .int .i64 a2, .bool a3, .bool a4] w fun e w' => e = .returned (.bool r) ∧ Below w.heap.size w w' := by
 have HR0 := sd_ hr0
 have HC0 := sd_ hc0
 clear hr0 hc0
 have HR1 := sd_ hr1
 have HC1 := sd_ hc1
 clear hr1 hc1
 have HB := sd_ (Below.refl w.heap.size w)
 have H : (if (l0.length : Int) > 100 then (neumelaw23_ChordTells.j0 k l0 l1 a2 a3 a4 true) else (neumelaw23_ChordTells.j0 k l0 l1 a2 a3 a4 (decide ((l1.length : Int) > 100)))) = some r := h
 clear h
 have HC6 := sd_ H
 clear H
 go_enter Tryd.func3, Tryd.ntmps3
 go_upto_region 1 with (fail)
 go_cut [34] (fun v34 wc => ∃ (kq : Nat) (x34_5 : Bool), v34 = .bool x34_5 ∧ Aside0 (neumelaw23_ChordTells.j0 kq l0 l1 a2 a3 a4 x34_5 = some r) ∧ Aside0 (kq ≤ k) ∧ Aside0 (Below w.heap.size w wc))
 case first =>
  have H := HC6.out
  clear HC6
  by_cases c7 : (l0.length : Int) > 100
  ·rw [if_pos c7] at H
   have c7b0 : decide (100 < (l0.length : Int)) = true := dt_ c7
   have c7b1 : decide (100 < l0.length) = true := dt_ (by omega)
   clear c7
   (first | rw [c7b0] | (simp only [i64_w, i32_w]; rw [c7b0]) | skip)
   have H' := sd_ H
   clear H
   go_wp2
   go_meet
   case rel => exact ⟨_, (true), (by first | rfl | (simp; done) | (simp [*]; done) | (simp [bne]; done)), H', ⟨by first | omega | exact Nat.le_refl _⟩, ⟨by repeat (first | (with_reducible first | exact HB.out | apply ba_ | apply pd_ | apply d1_) | exact HB.out)⟩⟩
  ·rw [if_neg c7] at H
   have c7b0 : decide (100 < (l0.length : Int)) = false := df_ c7
   have c7b1 : decide (100 < l0.length) = false := df_ (by omega)
   clear c7
   (first | rw [c7b0] | (simp only [i64_w, i32_w]; rw [c7b0]) | skip)
   have H' := sd_ H
   clear H
   go_wp2
   go_meet
   case rel => exact ⟨_, (decide ((l1.length : Int) > 100)), (by first | rfl | (simp; done) | (simp [*]; done) | (simp [bne]; done)), H', ⟨by first | omega | exact Nat.le_refl _⟩, ⟨by repeat (first | (with_reducible first | exact HB.out | apply ba_ | apply pd_ | apply d1_) | exact HB.out)⟩⟩
 case rest =>
  clear HC6
  try clear c1; try clear p2; try clear c3; try clear c7; try clear c7b0; try clear c7b1
  obtain ⟨kq, x34_5, rfl, HA, HJ5, HB⟩ := hcut
  cases kq with
  | zero => exact absurd HA.out (by simp [neumelaw23_ChordTells.j0])
  | succ kj5 =>
   have H := HA.out
   clear HA
   simp only [neumelaw23_ChordTells.j0] at H
   by_cases c8 : x34_5 = true
   ·subst c8
    have H1 : ((neumelaw23_heads.f kj5).bind fun t465 => (some t465)) = some r := by rw [if_pos rfl] at H; exact H
    clear H; have H := H1; clear H1
    replace H := ob_ H
    obtain ⟨t465, A90, H⟩ := H
    replace H : (some t465) = some r := H
    have A9 := sd_ A90
    clear A90
    obtain rfl := Option.some.inj H
    go_wp2_with (first | ((with_reducible refine gate_callee (f := 7) rfl ?_); refine goesL_ (some 35) rfl rfl Tryd.func7 (by kernel_rfl) rfl #[] rfl (by (try simp only [lm_, lq_, lx_]); first | done | rfl | (simp only [ld_, lt_]; rfl)) ?_; (with_reducible refine (neumelaw23_heads.calls kj5  t465 _ ?side1 A9.out).mono ?_); (case side1 => first | (with_reducible exact hE) | exact sd_ (LaidE.below hE.out (bb_ HB.out e0_))); rintro e w10 ⟨rfl, hb⟩; refine ⟨_, rfl, ?_⟩; replace HB := hb_ HB e0_ hb; (try clear hb); (try clear hb2); (try clear hk); (try clear hi)))
    go_ret
    exact ⟨by first | rfl | (simp [errW_none, errW_some] <;> rfl) | (simp [*, errW_none, errW_some] <;> rfl), by repeat (first | (with_reducible first | exact HB.out | apply ba_ | apply pd_ | apply d1_) | exact HB.out)⟩
   ·replace c8 := bf_ c8
    subst c8
    have H1 : ((chord_Sides.f kj5 l0 a3).bind fun bt466 => ((neumeref23_Sides.f kj5 l0 a3).bind fun bt470 => ((chord_Spots.f kj5 l0 a2 a3 a4).bind fun bt474 => ((neumeref23_Spots.f kj5 l0 a2 a3 a4).bind fun bt478 => ((chord_Stem.f a2 a3 a4).bind fun bt482 => ((neumeref23_Stem.f kj5 a2 a3 a4).bind fun bt484 => ((chord_Boxes.f kj5 l0 l1 a2 a4).bind fun bt486 => ((neumeref23_Boxes.f kj5 l0 l1 a2 a4).bind fun bt490 => ((neumeref18_Numbers.f kj5 bt466.1 bt470.1).bind fun t494 => (if t494 = true then (if bt466.2 = bt470.2 then ((neumeref18_Numbers.f kj5 bt474.1 bt478.1).bind fun t495 => (if t495 = true then (if bt474.2 = bt478.2 then (if bt482.1 = bt484.1 then (if bt482.2 = bt484.2 then ((neumeref23_Same.f kj5 bt486.1 bt490.1).bind fun t496 => (if t496 = true then (if bt486.2 = bt490.2 then ((neumelaw23_heads.f kj5).bind fun t497 => (some t497)) else (some false)) else (some false))) else (some false)) else (some false)) else (some false)) else (some false))) else (some false)) else (some false))))))))))) = some r := by rw [if_neg (show ¬ (false = true) by decide)] at H; exact H
    clear H; have H := H1; clear H1
    replace H := ob_ H
    obtain ⟨⟨t466, t467⟩, A110, H⟩ := H
    replace H : ((neumeref23_Sides.f kj5 l0 a3).bind fun bt470 => ((chord_Spots.f kj5 l0 a2 a3 a4).bind fun bt474 => ((neumeref23_Spots.f kj5 l0 a2 a3 a4).bind fun bt478 => ((chord_Stem.f a2 a3 a4).bind fun bt482 => ((neumeref23_Stem.f kj5 a2 a3 a4).bind fun bt484 => ((chord_Boxes.f kj5 l0 l1 a2 a4).bind fun bt486 => ((neumeref23_Boxes.f kj5 l0 l1 a2 a4).bind fun bt490 => ((neumeref18_Numbers.f kj5 t466 bt470.1).bind fun t494 => (if t494 = true then (if t467 = bt470.2 then ((neumeref18_Numbers.f kj5 bt474.1 bt478.1).bind fun t495 => (if t495 = true then (if bt474.2 = bt478.2 then (if bt482.1 = bt484.1 then (if bt482.2 = bt484.2 then ((neumeref23_Same.f kj5 bt486.1 bt490.1).bind fun t496 => (if t496 = true then (if bt486.2 = bt490.2 then ((neumelaw23_heads.f kj5).bind fun t497 => (some t497)) else (some false)) else (some false))) else (some false)) else (some false)) else (some false)) else (some false))) else (some false)) else (some false)))))))))) = some r := H
    have A11 := sd_ A110
    clear A110
    replace H := ob_ H
    obtain ⟨⟨t470, t471⟩, A120, H⟩ := H
    replace H : ((chord_Spots.f kj5 l0 a2 a3 a4).bind fun bt474 => ((neumeref23_Spots.f kj5 l0 a2 a3 a4).bind fun bt478 => ((chord_Stem.f a2 a3 a4).bind fun bt482 => ((neumeref23_Stem.f kj5 a2 a3 a4).bind fun bt484 => ((chord_Boxes.f kj5 l0 l1 a2 a4).bind fun bt486 => ((neumeref23_Boxes.f kj5 l0 l1 a2 a4).bind fun bt490 => ((neumeref18_Numbers.f kj5 t466 t470).bind fun t494 => (if t494 = true then (if t467 = t471 then ((neumeref18_Numbers.f kj5 bt474.1 bt478.1).bind fun t495 => (if t495 = true then (if bt474.2 = bt478.2 then (if bt482.1 = bt484.1 then (if bt482.2 = bt484.2 then ((neumeref23_Same.f kj5 bt486.1 bt490.1).bind fun t496 => (if t496 = true then (if bt486.2 = bt490.2 then ((neumelaw23_heads.f kj5).bind fun t497 => (some t497)) else (some false)) else (some false))) else (some false)) else (some false)) else (some false)) else (some false))) else (some false)) else (some false))))))))) = some r := H
    have A12 := sd_ A120
    clear A120
    replace H := ob_ H
    obtain ⟨⟨t474, t475⟩, A130, H⟩ := H
    replace H : ((neumeref23_Spots.f kj5 l0 a2 a3 a4).bind fun bt478 => ((chord_Stem.f a2 a3 a4).bind fun bt482 => ((neumeref23_Stem.f kj5 a2 a3 a4).bind fun bt484 => ((chord_Boxes.f kj5 l0 l1 a2 a4).bind fun bt486 => ((neumeref23_Boxes.f kj5 l0 l1 a2 a4).bind fun bt490 => ((neumeref18_Numbers.f kj5 t466 t470).bind fun t494 => (if t494 = true then (if t467 = t471 then ((neumeref18_Numbers.f kj5 t474 bt478.1).bind fun t495 => (if t495 = true then (if t475 = bt478.2 then (if bt482.1 = bt484.1 then (if bt482.2 = bt484.2 then ((neumeref23_Same.f kj5 bt486.1 bt490.1).bind fun t496 => (if t496 = true then (if bt486.2 = bt490.2 then ((neumelaw23_heads.f kj5).bind fun t497 => (some t497)) else (some false)) else (some false))) else (some false)) else (some false)) else (some false)) else (some false))) else (some false)) else (some false)))))))) = some r := H
    have A13 := sd_ A130
    clear A130
    replace H := ob_ H
    obtain ⟨⟨t478, t479⟩, A140, H⟩ := H
    replace H : ((chord_Stem.f a2 a3 a4).bind fun bt482 => ((neumeref23_Stem.f kj5 a2 a3 a4).bind fun bt484 => ((chord_Boxes.f kj5 l0 l1 a2 a4).bind fun bt486 => ((neumeref23_Boxes.f kj5 l0 l1 a2 a4).bind fun bt490 => ((neumeref18_Numbers.f kj5 t466 t470).bind fun t494 => (if t494 = true then (if t467 = t471 then ((neumeref18_Numbers.f kj5 t474 t478).bind fun t495 => (if t495 = true then (if t475 = t479 then (if bt482.1 = bt484.1 then (if bt482.2 = bt484.2 then ((neumeref23_Same.f kj5 bt486.1 bt490.1).bind fun t496 => (if t496 = true then (if bt486.2 = bt490.2 then ((neumelaw23_heads.f kj5).bind fun t497 => (some t497)) else (some false)) else (some false))) else (some false)) else (some false)) else (some false)) else (some false))) else (some false)) else (some false))))))) = some r := H
    have A14 := sd_ A140
    clear A140
    replace H := ob_ H
    obtain ⟨⟨t482, t483⟩, A150, H⟩ := H
    replace H : ((neumeref23_Stem.f kj5 a2 a3 a4).bind fun bt484 => ((chord_Boxes.f kj5 l0 l1 a2 a4).bind fun bt486 => ((neumeref23_Boxes.f kj5 l0 l1 a2 a4).bind fun bt490 => ((neumeref18_Numbers.f kj5 t466 t470).bind fun t494 => (if t494 = true then (if t467 = t471 then ((neumeref18_Numbers.f kj5 t474 t478).bind fun t495 => (if t495 = true then (if t475 = t479 then (if t482 = bt484.1 then (if t483 = bt484.2 then ((neumeref23_Same.f kj5 bt486.1 bt490.1).bind fun t496 => (if t496 = true then (if bt486.2 = bt490.2 then ((neumelaw23_heads.f kj5).bind fun t497 => (some t497)) else (some false)) else (some false))) else (some false)) else (some false)) else (some false)) else (some false))) else (some false)) else (some false)))))) = some r := H
    have A15 := sd_ A150
    clear A150
    replace H := ob_ H
    obtain ⟨⟨t484, t485⟩, A160, H⟩ := H
    replace H : ((chord_Boxes.f kj5 l0 l1 a2 a4).bind fun bt486 => ((neumeref23_Boxes.f kj5 l0 l1 a2 a4).bind fun bt490 => ((neumeref18_Numbers.f kj5 t466 t470).bind fun t494 => (if t494 = true then (if t467 = t471 then ((neumeref18_Numbers.f kj5 t474 t478).bind fun t495 => (if t495 = true then (if t475 = t479 then (if t482 = t484 then (if t483 = t485 then ((neumeref23_Same.f kj5 bt486.1 bt490.1).bind fun t496 => (if t496 = true then (if bt486.2 = bt490.2 then ((neumelaw23_heads.f kj5).bind fun t497 => (some t497)) else (some false)) else (some false))) else (some false)) else (some false)) else (some false)) else (some false))) else (some false)) else (some false))))) = some r := H
    have A16 := sd_ A160
    clear A160
    replace H := ob_ H
    obtain ⟨⟨t486, t487⟩, A170, H⟩ := H
    replace H : ((neumeref23_Boxes.f kj5 l0 l1 a2 a4).bind fun bt490 => ((neumeref18_Numbers.f kj5 t466 t470).bind fun t494 => (if t494 = true then (if t467 = t471 then ((neumeref18_Numbers.f kj5 t474 t478).bind fun t495 => (if t495 = true then (if t475 = t479 then (if t482 = t484 then (if t483 = t485 then ((neumeref23_Same.f kj5 t486 bt490.1).bind fun t496 => (if t496 = true then (if t487 = bt490.2 then ((neumelaw23_heads.f kj5).bind fun t497 => (some t497)) else (some false)) else (some false))) else (some false)) else (some false)) else (some false)) else (some false))) else (some false)) else (some false)))) = some r := H
    have A17 := sd_ A170
    clear A170
    replace H := ob_ H
    obtain ⟨⟨t490, t491⟩, A180, H⟩ := H
    replace H : ((neumeref18_Numbers.f kj5 t466 t470).bind fun t494 => (if t494 = true then (if t467 = t471 then ((neumeref18_Numbers.f kj5 t474 t478).bind fun t495 => (if t495 = true then (if t475 = t479 then (if t482 = t484 then (if t483 = t485 then ((neumeref23_Same.f kj5 t486 t490).bind fun t496 => (if t496 = true then (if t487 = t491 then ((neumelaw23_heads.f kj5).bind fun t497 => (some t497)) else (some false)) else (some false))) else (some false)) else (some false)) else (some false)) else (some false))) else (some false)) else (some false))) = some r := H
    have A18 := sd_ A180
    clear A180
    replace H := ob_ H
    obtain ⟨t494, A190, H⟩ := H
    replace H : (if t494 = true then (if t467 = t471 then ((neumeref18_Numbers.f kj5 t474 t478).bind fun t495 => (if t495 = true then (if t475 = t479 then (if t482 = t484 then (if t483 = t485 then ((neumeref23_Same.f kj5 t486 t490).bind fun t496 => (if t496 = true then (if t487 = t491 then ((neumelaw23_heads.f kj5).bind fun t497 => (some t497)) else (some false)) else (some false))) else (some false)) else (some false)) else (some false)) else (some false))) else (some false)) else (some false)) = some r := H
    have A19 := sd_ A190
    clear A190
    by_cases c20 : t494 = true
    ·subst c20
     have H1 : (if t467 = t471 then ((neumeref18_Numbers.f kj5 t474 t478).bind fun t495 => (if t495 = true then (if t475 = t479 then (if t482 = t484 then (if t483 = t485 then ((neumeref23_Same.f kj5 t486 t490).bind fun t496 => (if t496 = true then (if t487 = t491 then ((neumelaw23_heads.f kj5).bind fun t497 => (some t497)) else (some false)) else (some false))) else (some false)) else (some false)) else (some false)) else (some false))) else (some false)) = some r := by rw [if_pos rfl] at H; exact H
     clear H; have H := H1; clear H1
     by_cases c21 : t467 = t471
     ·rw [if_pos c21] at H
      have c21b0 : (t467 == t471) = true := beq_iff_eq.mpr c21
      have c21b1 : (t467 != t471) = false := bne_eq_false_iff_eq.mpr c21
      clear c21
      replace H := ob_ H
      obtain ⟨t495, A220, H⟩ := H
      replace H : (if t495 = true then (if t475 = t479 then (if t482 = t484 then (if t483 = t485 then ((neumeref23_Same.f kj5 t486 t490).bind fun t496 => (if t496 = true then (if t487 = t491 then ((neumelaw23_heads.f kj5).bind fun t497 => (some t497)) else (some false)) else (some false))) else (some false)) else (some false)) else (some false)) else (some false)) = some r := H
      have A22 := sd_ A220
      clear A220
      by_cases c23 : t495 = true
      ·subst c23
       have H1 : (if t475 = t479 then (if t482 = t484 then (if t483 = t485 then ((neumeref23_Same.f kj5 t486 t490).bind fun t496 => (if t496 = true then (if t487 = t491 then ((neumelaw23_heads.f kj5).bind fun t497 => (some t497)) else (some false)) else (some false))) else (some false)) else (some false)) else (some false)) = some r := by rw [if_pos rfl] at H; exact H
       clear H; have H := H1; clear H1
       by_cases c24 : t475 = t479
       ·rw [if_pos c24] at H
        have c24b0 : (t475 == t479) = true := beq_iff_eq.mpr c24
        have c24b1 : (t475 != t479) = false := bne_eq_false_iff_eq.mpr c24
        clear c24
        by_cases c25 : t482 = t484
        ·rw [if_pos c25] at H
         have c25b0 : (t482 == t484) = true := beq_iff_eq.mpr c25
         have c25b1 : (t482 != t484) = false := bne_eq_false_iff_eq.mpr c25
         clear c25
         by_cases c26 : t483 = t485
         ·rw [if_pos c26] at H
          have c26b0 : (t483 == t485) = true := beq_iff_eq.mpr c26
          have c26b1 : (t483 != t485) = false := bne_eq_false_iff_eq.mpr c26
          clear c26
          replace H := ob_ H
          obtain ⟨t496, A270, H⟩ := H
          replace H : (if t496 = true then (if t487 = t491 then ((neumelaw23_heads.f kj5).bind fun t497 => (some t497)) else (some false)) else (some false)) = some r := H
          have A27 := sd_ A270
          clear A270
          by_cases c28 : t496 = true
          ·subst c28
           have H1 : (if t487 = t491 then ((neumelaw23_heads.f kj5).bind fun t497 => (some t497)) else (some false)) = some r := by rw [if_pos rfl] at H; exact H
           clear H; have H := H1; clear H1
           by_cases c29 : t487 = t491
           ·rw [if_pos c29] at H
            have c29b0 : (t487 == t491) = true := beq_iff_eq.mpr c29
            have c29b1 : (t487 != t491) = false := bne_eq_false_iff_eq.mpr c29
            clear c29
            replace H := ob_ H
            obtain ⟨t497, A300, H⟩ := H
            replace H : (some t497) = some r := H
            have A30 := sd_ A300
            clear A300
            obtain rfl := Option.some.inj H
            go_wp2_with (first | ((with_reducible refine gate_callee (f := 8) rfl ?_); refine goesL_ (some 39) rfl rfl Tryd.func8 (by kernel_rfl) rfl #[.slice A0 l0.length c0, .bool a3] rfl (by (try simp only [lm_, lq_, lx_]); first | done | rfl | (simp only [ld_, lt_]; rfl)) ?_; (with_reducible refine (chord_Sides.calls kj5 _ _ l0 a3 t466 t467 _ ?side1 ?side2 A11.out).mono ?_); (case side1 => repeat (first | exact (Kd.C_below HR0.out HB.out) | (with_reducible refine Kd.C_alloc ?_ _) | (with_reducible refine Kd.C_drewN ?_ _) | (with_reducible refine Kd.C_drew ?_))); (case side2 => exact HC0.out); rintro e w31 ⟨v468, rfl, ho0, hb⟩; refine ⟨_, rfl, ?_⟩; have HO469 := sd_ (Kd.R_lower ho0 (bz_ (bb_ HB.out e0_))); replace HB := hb_ HB e0_ hb; (try clear hb); (try clear hb2); (try clear hk); (try clear hi); (try clear ho0)) | ((with_reducible refine gate_callee (f := 9) rfl ?_); refine goesL_ (some 45) rfl rfl Tryd.func9 (by kernel_rfl) rfl #[.slice A0 l0.length c0, .bool a3] rfl (by (try simp only [lm_, lq_, lx_]); first | done | rfl | (simp only [ld_, lt_]; rfl)) ?_; (with_reducible refine (neumeref23_Sides.calls kj5 _ _ l0 a3 t470 t471 _ ?side1 ?side2 A12.out).mono ?_); (case side1 => repeat (first | exact (Kd.C_below HR0.out HB.out) | (with_reducible refine Kd.C_alloc ?_ _) | (with_reducible refine Kd.C_drewN ?_ _) | (with_reducible refine Kd.C_drew ?_))); (case side2 => exact HC0.out); rintro e w32 ⟨v472, rfl, ho0, hb⟩; refine ⟨_, rfl, ?_⟩; have HO473 := sd_ (Kd.R_lower (Kd.R_new' ho0 (Kd.R_lt (by (with_reducible repeat (first | apply Kd.R_alloc | apply Kd.R_drewN | apply Kd.R_drew)); exact HO469.out))) (bz_ (bb_ HB.out e0_))); replace HO469 := sd_ (Kd.R_elder' (by (with_reducible repeat (first | apply Kd.R_alloc | apply Kd.R_drewN | apply Kd.R_drew)); exact HO469.out) (Kd.R_base ho0) hb); replace HB := hb_ HB e0_ hb; (try clear hb); (try clear hb2); (try clear hk); (try clear hi); (try clear ho0)) | ((with_reducible refine gate_callee (f := 10) rfl ?_); refine goesL_ (some 53) rfl rfl Tryd.func10 (by kernel_rfl) rfl #[.slice A0 l0.length c0, .int .i64 a2, .bool a3, .bool a4] rfl (by (try simp only [lm_, lq_, lx_]); first | done | rfl | (simp only [ld_, lt_]; rfl)) ?_; (with_reducible refine (chord_Spots.calls kj5 _ _ l0 a2 a3 a4 t474 t475 _ ?side1 ?side2 ?side3 A13.out).mono ?_); (case side1 => repeat (first | exact (Kd.C_below HR0.out HB.out) | (with_reducible refine Kd.C_alloc ?_ _) | (with_reducible refine Kd.C_drewN ?_ _) | (with_reducible refine Kd.C_drew ?_))); (case side2 => exact HC0.out); (case side3 => first | (with_reducible exact hE) | exact sd_ (LaidE.below hE.out (bb_ HB.out e0_))); rintro e w33 ⟨v476, rfl, ho0, hb⟩; refine ⟨_, rfl, ?_⟩; have HO477 := sd_ (Kd.R_lower (Kd.R_new' (Kd.R_new' ho0 (Kd.R_lt (by (with_reducible repeat (first | apply Kd.R_alloc | apply Kd.R_drewN | apply Kd.R_drew)); exact HO469.out))) (Kd.R_lt (by (with_reducible repeat (first | apply Kd.R_alloc | apply Kd.R_drewN | apply Kd.R_drew)); exact HO473.out))) (bz_ (bb_ HB.out e0_))); replace HO469 := sd_ (Kd.R_elder' (by (with_reducible repeat (first | apply Kd.R_alloc | apply Kd.R_drewN | apply Kd.R_drew)); exact HO469.out) (Kd.R_base ho0) hb); replace HO473 := sd_ (Kd.R_elder' (by (with_reducible repeat (first | apply Kd.R_alloc | apply Kd.R_drewN | apply Kd.R_drew)); exact HO473.out) (Kd.R_base ho0) hb); replace HB := hb_ HB e0_ hb; (try clear hb); (try clear hb2); (try clear hk); (try clear hi); (try clear ho0)) | ((with_reducible refine gate_callee (f := 11) rfl ?_); refine goesL_ (some 61) rfl rfl Tryd.func11 (by kernel_rfl) rfl #[.slice A0 l0.length c0, .int .i64 a2, .bool a3, .bool a4] rfl (by (try simp only [lm_, lq_, lx_]); first | done | rfl | (simp only [ld_, lt_]; rfl)) ?_; (with_reducible refine (neumeref23_Spots.calls kj5 _ _ l0 a2 a3 a4 t478 t479 _ ?side1 ?side2 A14.out).mono ?_); (case side1 => repeat (first | exact (Kd.C_below HR0.out HB.out) | (with_reducible refine Kd.C_alloc ?_ _) | (with_reducible refine Kd.C_drewN ?_ _) | (with_reducible refine Kd.C_drew ?_))); (case side2 => exact HC0.out); rintro e w34 ⟨v480, rfl, ho0, hb⟩; refine ⟨_, rfl, ?_⟩; have HO481 := sd_ (Kd.R_lower (Kd.R_new' (Kd.R_new' (Kd.R_new' ho0 (Kd.R_lt (by (with_reducible repeat (first | apply Kd.R_alloc | apply Kd.R_drewN | apply Kd.R_drew)); exact HO469.out))) (Kd.R_lt (by (with_reducible repeat (first | apply Kd.R_alloc | apply Kd.R_drewN | apply Kd.R_drew)); exact HO473.out))) (Kd.R_lt (by (with_reducible repeat (first | apply Kd.R_alloc | apply Kd.R_drewN | apply Kd.R_drew)); exact HO477.out))) (bz_ (bb_ HB.out e0_))); replace HO469 := sd_ (Kd.R_elder' (by (with_reducible repeat (first | apply Kd.R_alloc | apply Kd.R_drewN | apply Kd.R_drew)); exact HO469.out) (Kd.R_base ho0) hb); replace HO473 := sd_ (Kd.R_elder' (by (with_reducible repeat (first | apply Kd.R_alloc | apply Kd.R_drewN | apply Kd.R_drew)); exact HO473.out) (Kd.R_base ho0) hb); replace HO477 := sd_ (Kd.R_elder' (by (with_reducible repeat (first | apply Kd.R_alloc | apply Kd.R_drewN | apply Kd.R_drew)); exact HO477.out) (Kd.R_base ho0) hb); replace HB := hb_ HB e0_ hb; (try clear hb); (try clear hb2); (try clear hk); (try clear hi); (try clear ho0)) | ((with_reducible refine gate_callee (f := 12) rfl ?_); refine goesL_ (some 68) rfl rfl Tryd.func12 (by kernel_rfl) rfl #[.int .i64 a2, .bool a3, .bool a4] rfl (by (try simp only [lm_, lq_, lx_]); first | done | rfl | (simp only [ld_, lt_]; rfl)) ?_; (with_reducible refine (chord_Stem.calls a2 a3 a4 t482 t483 _ ?side1 A15.out).mono ?_); (case side1 => first | (with_reducible exact hE) | exact sd_ (LaidE.below hE.out (bb_ HB.out e0_))); rintro e w35 ⟨rfl, hb⟩; refine ⟨_, rfl, ?_⟩; replace HO469 := sd_ (Kd.R_below (by (with_reducible repeat (first | apply Kd.R_alloc | apply Kd.R_drewN | apply Kd.R_drew)); exact HO469.out) hb); replace HO473 := sd_ (Kd.R_below (by (with_reducible repeat (first | apply Kd.R_alloc | apply Kd.R_drewN | apply Kd.R_drew)); exact HO473.out) hb); replace HO477 := sd_ (Kd.R_below (by (with_reducible repeat (first | apply Kd.R_alloc | apply Kd.R_drewN | apply Kd.R_drew)); exact HO477.out) hb); replace HO481 := sd_ (Kd.R_below (by (with_reducible repeat (first | apply Kd.R_alloc | apply Kd.R_drewN | apply Kd.R_drew)); exact HO481.out) hb); replace HB := hb_ HB e0_ hb; (try clear hb); (try clear hb2); (try clear hk); (try clear hi)) | ((with_reducible refine gate_callee (f := 13) rfl ?_); refine goesL_ (some 75) rfl rfl Tryd.func13 (by kernel_rfl) rfl #[.int .i64 a2, .bool a3, .bool a4] rfl (by (try simp only [lm_, lq_, lx_]); first | done | rfl | (simp only [ld_, lt_]; rfl)) ?_; (with_reducible refine (neumeref23_Stem.calls kj5 a2 a3 a4 t484 t485 _ A16.out).mono ?_); rintro e w36 ⟨rfl, hb⟩; refine ⟨_, rfl, ?_⟩; replace HO469 := sd_ (Kd.R_below (by (with_reducible repeat (first | apply Kd.R_alloc | apply Kd.R_drewN | apply Kd.R_drew)); exact HO469.out) hb); replace HO473 := sd_ (Kd.R_below (by (with_reducible repeat (first | apply Kd.R_alloc | apply Kd.R_drewN | apply Kd.R_drew)); exact HO473.out) hb); replace HO477 := sd_ (Kd.R_below (by (with_reducible repeat (first | apply Kd.R_alloc | apply Kd.R_drewN | apply Kd.R_drew)); exact HO477.out) hb); replace HO481 := sd_ (Kd.R_below (by (with_reducible repeat (first | apply Kd.R_alloc | apply Kd.R_drewN | apply Kd.R_drew)); exact HO481.out) hb); replace HB := hb_ HB e0_ hb; (try clear hb); (try clear hb2); (try clear hk); (try clear hi)) | ((with_reducible refine gate_callee (f := 14) rfl ?_); refine goesL_ (some 83) rfl rfl Tryd.func14 (by kernel_rfl) rfl #[.slice A0 l0.length c0, .slice A1 l1.length c1, .int .i64 a2, .bool a4] rfl (by (try simp only [lm_, lq_, lx_]); first | done | rfl | (simp only [ld_, lt_]; rfl)) ?_; (with_reducible refine (chord_Boxes.calls kj5 _ _ l0 _ _ l1 a2 a4 t486 t487 _ ?side1 ?side2 ?side3 ?side4 ?side5 A17.out).mono ?_); (case side1 => repeat (first | exact (Kd.C_below HR0.out HB.out) | (with_reducible refine Kd.C_alloc ?_ _) | (with_reducible refine Kd.C_drewN ?_ _) | (with_reducible refine Kd.C_drew ?_))); (case side2 => exact HC0.out); (case side3 => repeat (first | exact (Kd.C_below HR1.out HB.out) | (with_reducible refine Kd.C_alloc ?_ _) | (with_reducible refine Kd.C_drewN ?_ _) | (with_reducible refine Kd.C_drew ?_))); (case side4 => exact HC1.out); (case side5 => first | (with_reducible exact hE) | exact sd_ (LaidE.below hE.out (bb_ HB.out e0_))); rintro e w37 ⟨v488, rfl, ho0, hb⟩; refine ⟨_, rfl, ?_⟩; have HO489 := sd_ (Kd.R_lower ho0 (bz_ (bb_ HB.out e0_))); replace HO469 := sd_ (Kd.R_below (by (with_reducible repeat (first | apply Kd.R_alloc | apply Kd.R_drewN | apply Kd.R_drew)); exact HO469.out) hb); replace HO473 := sd_ (Kd.R_below (by (with_reducible repeat (first | apply Kd.R_alloc | apply Kd.R_drewN | apply Kd.R_drew)); exact HO473.out) hb); replace HO477 := sd_ (Kd.R_below (by (with_reducible repeat (first | apply Kd.R_alloc | apply Kd.R_drewN | apply Kd.R_drew)); exact HO477.out) hb); replace HO481 := sd_ (Kd.R_below (by (with_reducible repeat (first | apply Kd.R_alloc | apply Kd.R_drewN | apply Kd.R_drew)); exact HO481.out) hb); replace HB := hb_ HB e0_ hb; (try clear hb); (try clear hb2); (try clear hk); (try clear hi); (try clear ho0)) | ((with_reducible refine gate_callee (f := 15) rfl ?_); refine goesL_ (some 91) rfl rfl Tryd.func15 (by kernel_rfl) rfl #[.slice A0 l0.length c0, .slice A1 l1.length c1, .int .i64 a2, .bool a4] rfl (by (try simp only [lm_, lq_, lx_]); first | done | rfl | (simp only [ld_, lt_]; rfl)) ?_; (with_reducible refine (neumeref23_Boxes.calls kj5 _ _ l0 _ _ l1 a2 a4 t490 t491 _ ?side1 ?side2 ?side3 ?side4 A18.out).mono ?_); (case side1 => repeat (first | exact (Kd.C_below HR0.out HB.out) | (with_reducible refine Kd.C_alloc ?_ _) | (with_reducible refine Kd.C_drewN ?_ _) | (with_reducible refine Kd.C_drew ?_))); (case side2 => exact HC0.out); (case side3 => repeat (first | exact (Kd.C_below HR1.out HB.out) | (with_reducible refine Kd.C_alloc ?_ _) | (with_reducible refine Kd.C_drewN ?_ _) | (with_reducible refine Kd.C_drew ?_))); (case side4 => exact HC1.out); rintro e w38 ⟨v492, rfl, ho0, hb⟩; refine ⟨_, rfl, ?_⟩; have HO493 := sd_ (Kd.R_lower (Kd.R_new' ho0 (Kd.R_lt (by (with_reducible repeat (first | apply Kd.R_alloc | apply Kd.R_drewN | apply Kd.R_drew)); exact HO489.out))) (bz_ (bb_ HB.out e0_))); replace HO469 := sd_ (Kd.R_below (by (with_reducible repeat (first | apply Kd.R_alloc | apply Kd.R_drewN | apply Kd.R_drew)); exact HO469.out) hb); replace HO473 := sd_ (Kd.R_below (by (with_reducible repeat (first | apply Kd.R_alloc | apply Kd.R_drewN | apply Kd.R_drew)); exact HO473.out) hb); replace HO477 := sd_ (Kd.R_below (by (with_reducible repeat (first | apply Kd.R_alloc | apply Kd.R_drewN | apply Kd.R_drew)); exact HO477.out) hb); replace HO481 := sd_ (Kd.R_below (by (with_reducible repeat (first | apply Kd.R_alloc | apply Kd.R_drewN | apply Kd.R_drew)); exact HO481.out) hb); replace HO489 := sd_ (Kd.R_elder' (by (with_reducible repeat (first | apply Kd.R_alloc | apply Kd.R_drewN | apply Kd.R_drew)); exact HO489.out) (Kd.R_base ho0) hb); replace HB := hb_ HB e0_ hb; (try clear hb); (try clear hb2); (try clear hk); (try clear hi); (try clear ho0); obtain ⟨Ao39, co39, eo39⟩ := Kd.R_slice HO469.out; subst eo39; obtain ⟨Ao40, co40, eo40⟩ := Kd.R_slice HO473.out; subst eo40) | ((with_reducible refine gate_callee (f := 16) rfl ?_); refine goesL_ (some 96) rfl rfl Tryd.func16 (by kernel_rfl) rfl #[.slice Ao39 t466.length co39, .slice Ao40 t470.length co40] rfl (by (try simp only [lm_, lq_, lx_]); first | done | rfl | (simp only [ld_, lt_]; rfl)) ?_; (with_reducible refine (neumeref18_Numbers.calls kj5 _ _ t466 _ _ t470 true _ ?side1 ?side2 ?side3 ?side4 A19.out).mono ?_); (case side1 => repeat (first | exact (Kd.R_reads' HO469.out).2.2 | (with_reducible refine Kd.C_alloc ?_ _) | (with_reducible refine Kd.C_drewN ?_ _) | (with_reducible refine Kd.C_drew ?_))); (case side2 => exact (Kd.R_reads' HO469.out).2.1); (case side3 => repeat (first | exact (Kd.R_reads' HO473.out).2.2 | (with_reducible refine Kd.C_alloc ?_ _) | (with_reducible refine Kd.C_drewN ?_ _) | (with_reducible refine Kd.C_drew ?_))); (case side4 => exact (Kd.R_reads' HO473.out).2.1); rintro e w' ⟨rfl, ⟨nd, rfl⟩⟩; refine ⟨_, rfl, ?_⟩; obtain ⟨Ao41, co41, eo41⟩ := Kd.R_slice HO477.out; subst eo41; obtain ⟨Ao42, co42, eo42⟩ := Kd.R_slice HO481.out; subst eo42) | (go_at_call 16; (with_reducible refine (neumeref18_Numbers.calls kj5 _ _ t474 _ _ t478 true _ ?side1 ?side2 ?side3 ?side4 A22.out).mono ?_); (case side1 => repeat (first | exact (Kd.R_reads' HO477.out).2.2 | (with_reducible refine Kd.C_alloc ?_ _) | (with_reducible refine Kd.C_drewN ?_ _) | (with_reducible refine Kd.C_drew ?_))); (case side2 => exact (Kd.R_reads' HO477.out).2.1); (case side3 => repeat (first | exact (Kd.R_reads' HO481.out).2.2 | (with_reducible refine Kd.C_alloc ?_ _) | (with_reducible refine Kd.C_drewN ?_ _) | (with_reducible refine Kd.C_drew ?_))); (case side4 => exact (Kd.R_reads' HO481.out).2.1); rintro e w' ⟨rfl, ⟨nd, rfl⟩⟩; obtain ⟨Ao43, co43, eo43⟩ := Kd.R_slice HO489.out; subst eo43; obtain ⟨Ao44, co44, eo44⟩ := Kd.R_slice HO493.out; subst eo44) | (go_at_call 17; (with_reducible refine (neumeref23_Same.calls kj5 _ _ t486 _ _ t490 true _ ?side1 ?side2 ?side3 ?side4 A27.out).mono ?_); (case side1 => repeat (first | exact (Kd.R_reads' HO489.out).2.2 | (with_reducible refine Kd.C_alloc ?_ _) | (with_reducible refine Kd.C_drewN ?_ _) | (with_reducible refine Kd.C_drew ?_))); (case side2 => exact (Kd.R_reads' HO489.out).2.1); (case side3 => repeat (first | exact (Kd.R_reads' HO493.out).2.2 | (with_reducible refine Kd.C_alloc ?_ _) | (with_reducible refine Kd.C_drewN ?_ _) | (with_reducible refine Kd.C_drew ?_))); (case side4 => exact (Kd.R_reads' HO493.out).2.1); rintro e w' ⟨rfl, ⟨nd, rfl⟩⟩) | (go_at_call 7; (with_reducible refine (neumelaw23_heads.calls kj5  t497 _ ?side1 A30.out).mono ?_); (case side1 => first | (with_reducible exact hE) | exact sd_ (LaidE.below hE.out (bb_ HB.out e0_))); rintro e w45 ⟨rfl, hb⟩; replace HO469 := sd_ (Kd.R_below (by (with_reducible repeat (first | apply Kd.R_alloc | apply Kd.R_drewN | apply Kd.R_drew)); exact HO469.out) hb); replace HO473 := sd_ (Kd.R_below (by (with_reducible repeat (first | apply Kd.R_alloc | apply Kd.R_drewN | apply Kd.R_drew)); exact HO473.out) hb); replace HO477 := sd_ (Kd.R_below (by (with_reducible repeat (first | apply Kd.R_alloc | apply Kd.R_drewN | apply Kd.R_drew)); exact HO477.out) hb); replace HO481 := sd_ (Kd.R_below (by (with_reducible repeat (first | apply Kd.R_alloc | apply Kd.R_drewN | apply Kd.R_drew)); exact HO481.out) hb); replace HO489 := sd_ (Kd.R_below (by (with_reducible repeat (first | apply Kd.R_alloc | apply Kd.R_drewN | apply Kd.R_drew)); exact HO489.out) hb); replace HO493 := sd_ (Kd.R_below (by (with_reducible repeat (first | apply Kd.R_alloc | apply Kd.R_drewN | apply Kd.R_drew)); exact HO493.out) hb); replace HB := hb_ HB e0_ hb; (try clear hb); (try clear hb2); (try clear hk); (try clear hi)))
            go_ret
            exact ⟨by first | rfl | (simp [errW_none, errW_some] <;> rfl) | (simp [*, errW_none, errW_some] <;> rfl), by repeat (first | (with_reducible first | exact HB.out | apply ba_ | apply pd_ | apply d1_) | exact HB.out)⟩
           ·rw [if_neg c29] at H
            have c29b0 : (t487 == t491) = false := beq_eq_false_iff_ne.mpr c29
            have c29b1 : (t487 != t491) = true := bne_iff_ne.mpr c29
            exact absurd ((Option.some.inj H).trans hxt.out) (by decide)
          ·replace c28 := bf_ c28
           subst c28
           have H1 : (some false) = some r := by rw [if_neg (show ¬ (false = true) by decide)] at H; exact H
           clear H; have H := H1; clear H1
           exact absurd ((Option.some.inj H).trans hxt.out) (by decide)
         ·rw [if_neg c26] at H
          have c26b0 : (t483 == t485) = false := beq_eq_false_iff_ne.mpr c26
          have c26b1 : (t483 != t485) = true := bne_iff_ne.mpr c26
          exact absurd ((Option.some.inj H).trans hxt.out) (by decide)
        ·rw [if_neg c25] at H
         have c25b0 : (t482 == t484) = false := beq_eq_false_iff_ne.mpr c25
         have c25b1 : (t482 != t484) = true := bne_iff_ne.mpr c25
         exact absurd ((Option.some.inj H).trans hxt.out) (by decide)
       ·rw [if_neg c24] at H
        have c24b0 : (t475 == t479) = false := beq_eq_false_iff_ne.mpr c24
        have c24b1 : (t475 != t479) = true := bne_iff_ne.mpr c24
        exact absurd ((Option.some.inj H).trans hxt.out) (by decide)
      ·replace c23 := bf_ c23
       subst c23
       have H1 : (some false) = some r := by rw [if_neg (show ¬ (false = true) by decide)] at H; exact H
       clear H; have H := H1; clear H1
       exact absurd ((Option.some.inj H).trans hxt.out) (by decide)
     ·rw [if_neg c21] at H
      have c21b0 : (t467 == t471) = false := beq_eq_false_iff_ne.mpr c21
      have c21b1 : (t467 != t471) = true := bne_iff_ne.mpr c21
      exact absurd ((Option.some.inj H).trans hxt.out) (by decide)
    ·replace c20 := bf_ c20
     subst c20
     have H1 : (some false) = some r := by rw [if_neg (show ¬ (false = true) by decide)] at H; exact H
     clear H; have H := H1; clear H1
     exact absurd ((Option.some.inj H).trans hxt.out) (by decide)

end Go.Proofs.YtcokemaiploejaaDoor.P
