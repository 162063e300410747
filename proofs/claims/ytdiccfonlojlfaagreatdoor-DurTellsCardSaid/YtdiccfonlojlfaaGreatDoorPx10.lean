-- Written by a program of this session (wip/tools/xprint.py, over the kit's print): Lean checks it.
import Derived.Test.YtdiccfonlojlfaaGreatDoorPx0
import Derived.Test.YtdiccfonlojlfaaGreatDoorPx1
import Derived.Test.YtdiccfonlojlfaaGreatDoorPx2
import Derived.Test.YtdiccfonlojlfaaGreatDoorPx3
import Derived.Test.YtdiccfonlojlfaaGreatDoorPx4
import Derived.Test.YtdiccfonlojlfaaGreatDoorPx6
import Derived.Test.YtdiccfonlojlfaaGreatDoorPx7
import Derived.Test.YtdiccfonlojlfaaGreatDoorPx9
namespace Go.Proofs.YtdiccfonlojlfaaGreatDoor.P
open Go.RowKit Go.Proofs.YtdiccfonlojlfaaGreatDoorW.PrintWords Go.Proofs.YtdiccfonlojlfaaGreatDoorW.PrintLast Go.Proofs.YtdiccfonlojlfaaGreatDoorW.PrintMore
attribute [local go_sem] max2_int min2_int max_two min_two max_three min_three max_four min_four   -- for this text's walks alone
set_option linter.unusedVariables false
set_option linter.unusedSimpArgs false

attribute [local go_sem high] eqA23 eqA25
/-! ### neumelaw07_heads: function 5 -/
def neumelaw07_heads.f (k : Nat)  : Option (Bool) := (dur_Parse.f k (⟨#[52, 46]⟩ : ByteArray)).bind fun bt301 => ((dur_Value.f k bt301.1 bt301.2.1).bind fun bt305 => ((dur_Of.f k bt305.1 bt305.2.1).bind fun bt309 => ((dur_Split.f k 5 8).bind fun bt313 => ((dur_Beats.f k 6 8).bind fun bt317 => ((dur_Beat.f k 6 8 1 2).bind fun bt321 => ((dur_Bar.f k 1 3).bind fun bt323 => (if bt301.2.2 = true then (if (bt305.1 == 3 && (bt305.2.1 == 8)) = true then (if bt305.2.2 = 0 then (if (bt309.1 == bt301.1 && (bt309.2.1 == bt301.2.1)) = true then (if bt309.2.2 = true then ((neumeref07_Same.f k bt313.1 (([(⟨1, 0⟩ : S23), (⟨3, 0⟩ : S23)] : List (S23)))).bind fun t330 => (if t330 = true then (if bt313.2 = true then ((neumeref07_Rats.f k bt317.1 (([(⟨0, 1⟩ : S25), (⟨3, 8⟩ : S25)] : List (S25)))).bind fun t334 => (if t334 = true then (if bt317.2 = 0 then (if bt321.1 = 1 then (if bt321.2 = 0 then (if bt323.2.2 = 2 then ((dur_Name.f bt301.1 bt301.2.1).bind fun t335 => (if t335.toList = ([52, 46] : List UInt8) then ((dur_Head.f bt301.1 bt301.2.1).bind fun t336 => (if t336 = 4 then ((dur_Rest.f bt301.1 bt301.2.1).bind fun t337 => (if t337 = 8 then ((dur_Flags.f 5 0).bind fun t338 => (if t338 = 3 then ((dur_Check.f bt301.1 bt301.2.1).bind fun t339 => (if t339 = true then ((dur_Meter.f 3 4).bind fun t340 => (some t340)) else (some false))) else (some false))) else (some false))) else (some false))) else (some false))) else (some false)) else (some false)) else (some false)) else (some false)) else (some false))) else (some false)) else (some false))) else (some false)) else (some false)) else (some false)) else (some false)) else (some false))))))))
theorem neumelaw07_heads.mono : ∀ k, LeO (neumelaw07_heads.f k ) (neumelaw07_heads.f (k + 1) ) := by
 intro  k
 unfold neumelaw07_heads.f
 repeat' first
   | (with_reducible exact dur_Bar.mono _ _ _)
   | (with_reducible exact dur_Beat.mono _ _ _ _ _)
   | (with_reducible exact dur_Beats.mono _ _ _)
   | (with_reducible exact dur_Of.mono _ _ _)
   | (with_reducible exact dur_Parse.mono _ _)
   | (with_reducible exact dur_Split.mono _ _ _)
   | (with_reducible exact dur_Value.mono _ _ _)
   | (with_reducible exact neumeref07_Rats.mono _ _ _)
   | (with_reducible exact neumeref07_Same.mono _ _ _)
   | (with_reducible exact LeO.refl _)
   | (with_reducible exact LeO.none _)
   | (with_reducible refine LeO.ite ?_ ?_)
   | (with_reducible refine LeO.bind ?_ (fun _ => ?_))
   | exact dur_Bar.mono _ _ _
   | exact dur_Beat.mono _ _ _ _ _
   | exact dur_Beats.mono _ _ _
   | exact dur_Of.mono _ _ _
   | exact dur_Parse.mono _ _
   | exact dur_Split.mono _ _ _
   | exact dur_Value.mono _ _ _
   | exact neumeref07_Rats.mono _ _ _
   | exact neumeref07_Same.mono _ _ _
   | exact LeO.none _
   | refine LeO.ite ?_ ?_
   | refine LeO.bind ?_ (fun _ => ?_)
set_option maxHeartbeats 8000000 in
set_option maxRecDepth 100000 in
theorem neumelaw07_heads.callsT (k : Nat)  (r : Bool) (w : World) (hE : Aside0 (LaidE w)) (hxt : Aside0 (r = true)) (h : neumelaw07_heads.f k  = some r) :
  Calls Tryz.prog 5 #[] w fun e w' => e = .returned (.bool r) ∧ Below w.heap.size w w' := by
 have hu23 := Tryz.underlying23
 have hu25 := Tryz.underlying25
 have hu45 := Tryz.underlying45
 have HB := sd_ (Below.refl w.heap.size w)
 have H : ((dur_Parse.f k (⟨#[52, 46]⟩ : ByteArray)).bind fun bt301 => ((dur_Value.f k bt301.1 bt301.2.1).bind fun bt305 => ((dur_Of.f k bt305.1 bt305.2.1).bind fun bt309 => ((dur_Split.f k 5 8).bind fun bt313 => ((dur_Beats.f k 6 8).bind fun bt317 => ((dur_Beat.f k 6 8 1 2).bind fun bt321 => ((dur_Bar.f k 1 3).bind fun bt323 => (if bt301.2.2 = true then (if (bt305.1 == 3 && (bt305.2.1 == 8)) = true then (if bt305.2.2 = 0 then (if (bt309.1 == bt301.1 && (bt309.2.1 == bt301.2.1)) = true then (if bt309.2.2 = true then ((neumeref07_Same.f k bt313.1 (([(⟨1, 0⟩ : S23), (⟨3, 0⟩ : S23)] : List (S23)))).bind fun t330 => (if t330 = true then (if bt313.2 = true then ((neumeref07_Rats.f k bt317.1 (([(⟨0, 1⟩ : S25), (⟨3, 8⟩ : S25)] : List (S25)))).bind fun t334 => (if t334 = true then (if bt317.2 = 0 then (if bt321.1 = 1 then (if bt321.2 = 0 then (if bt323.2.2 = 2 then ((dur_Name.f bt301.1 bt301.2.1).bind fun t335 => (if t335.toList = ([52, 46] : List UInt8) then ((dur_Head.f bt301.1 bt301.2.1).bind fun t336 => (if t336 = 4 then ((dur_Rest.f bt301.1 bt301.2.1).bind fun t337 => (if t337 = 8 then ((dur_Flags.f 5 0).bind fun t338 => (if t338 = 3 then ((dur_Check.f bt301.1 bt301.2.1).bind fun t339 => (if t339 = true then ((dur_Meter.f 3 4).bind fun t340 => (some t340)) else (some false))) else (some false))) else (some false))) else (some false))) else (some false))) else (some false)) else (some false)) else (some false)) else (some false)) else (some false))) else (some false)) else (some false))) else (some false)) else (some false)) else (some false)) else (some false)) else (some false))))))))) = some r := h
 clear h
 replace H := ob_ H
 obtain ⟨⟨t301, t302, t303⟩, A10, H⟩ := H
 replace H : ((dur_Value.f k t301 t302).bind fun bt305 => ((dur_Of.f k bt305.1 bt305.2.1).bind fun bt309 => ((dur_Split.f k 5 8).bind fun bt313 => ((dur_Beats.f k 6 8).bind fun bt317 => ((dur_Beat.f k 6 8 1 2).bind fun bt321 => ((dur_Bar.f k 1 3).bind fun bt323 => (if t303 = true then (if (bt305.1 == 3 && (bt305.2.1 == 8)) = true then (if bt305.2.2 = 0 then (if (bt309.1 == t301 && (bt309.2.1 == t302)) = true then (if bt309.2.2 = true then ((neumeref07_Same.f k bt313.1 (([(⟨1, 0⟩ : S23), (⟨3, 0⟩ : S23)] : List (S23)))).bind fun t330 => (if t330 = true then (if bt313.2 = true then ((neumeref07_Rats.f k bt317.1 (([(⟨0, 1⟩ : S25), (⟨3, 8⟩ : S25)] : List (S25)))).bind fun t334 => (if t334 = true then (if bt317.2 = 0 then (if bt321.1 = 1 then (if bt321.2 = 0 then (if bt323.2.2 = 2 then ((dur_Name.f t301 t302).bind fun t335 => (if t335.toList = ([52, 46] : List UInt8) then ((dur_Head.f t301 t302).bind fun t336 => (if t336 = 4 then ((dur_Rest.f t301 t302).bind fun t337 => (if t337 = 8 then ((dur_Flags.f 5 0).bind fun t338 => (if t338 = 3 then ((dur_Check.f t301 t302).bind fun t339 => (if t339 = true then ((dur_Meter.f 3 4).bind fun t340 => (some t340)) else (some false))) else (some false))) else (some false))) else (some false))) else (some false))) else (some false)) else (some false)) else (some false)) else (some false)) else (some false))) else (some false)) else (some false))) else (some false)) else (some false)) else (some false)) else (some false)) else (some false)))))))) = some r := H
 have A1 := sd_ A10
 clear A10
 replace H := ob_ H
 obtain ⟨⟨t305, t306, t307⟩, A20, H⟩ := H
 replace H : ((dur_Of.f k t305 t306).bind fun bt309 => ((dur_Split.f k 5 8).bind fun bt313 => ((dur_Beats.f k 6 8).bind fun bt317 => ((dur_Beat.f k 6 8 1 2).bind fun bt321 => ((dur_Bar.f k 1 3).bind fun bt323 => (if t303 = true then (if (t305 == 3 && (t306 == 8)) = true then (if t307 = 0 then (if (bt309.1 == t301 && (bt309.2.1 == t302)) = true then (if bt309.2.2 = true then ((neumeref07_Same.f k bt313.1 (([(⟨1, 0⟩ : S23), (⟨3, 0⟩ : S23)] : List (S23)))).bind fun t330 => (if t330 = true then (if bt313.2 = true then ((neumeref07_Rats.f k bt317.1 (([(⟨0, 1⟩ : S25), (⟨3, 8⟩ : S25)] : List (S25)))).bind fun t334 => (if t334 = true then (if bt317.2 = 0 then (if bt321.1 = 1 then (if bt321.2 = 0 then (if bt323.2.2 = 2 then ((dur_Name.f t301 t302).bind fun t335 => (if t335.toList = ([52, 46] : List UInt8) then ((dur_Head.f t301 t302).bind fun t336 => (if t336 = 4 then ((dur_Rest.f t301 t302).bind fun t337 => (if t337 = 8 then ((dur_Flags.f 5 0).bind fun t338 => (if t338 = 3 then ((dur_Check.f t301 t302).bind fun t339 => (if t339 = true then ((dur_Meter.f 3 4).bind fun t340 => (some t340)) else (some false))) else (some false))) else (some false))) else (some false))) else (some false))) else (some false)) else (some false)) else (some false)) else (some false)) else (some false))) else (some false)) else (some false))) else (some false)) else (some false)) else (some false)) else (some false)) else (some false))))))) = some r := H
 have A2 := sd_ A20
 clear A20
 replace H := ob_ H
 obtain ⟨⟨t309, t310, t311⟩, A30, H⟩ := H
 replace H : ((dur_Split.f k 5 8).bind fun bt313 => ((dur_Beats.f k 6 8).bind fun bt317 => ((dur_Beat.f k 6 8 1 2).bind fun bt321 => ((dur_Bar.f k 1 3).bind fun bt323 => (if t303 = true then (if (t305 == 3 && (t306 == 8)) = true then (if t307 = 0 then (if (t309 == t301 && (t310 == t302)) = true then (if t311 = true then ((neumeref07_Same.f k bt313.1 (([(⟨1, 0⟩ : S23), (⟨3, 0⟩ : S23)] : List (S23)))).bind fun t330 => (if t330 = true then (if bt313.2 = true then ((neumeref07_Rats.f k bt317.1 (([(⟨0, 1⟩ : S25), (⟨3, 8⟩ : S25)] : List (S25)))).bind fun t334 => (if t334 = true then (if bt317.2 = 0 then (if bt321.1 = 1 then (if bt321.2 = 0 then (if bt323.2.2 = 2 then ((dur_Name.f t301 t302).bind fun t335 => (if t335.toList = ([52, 46] : List UInt8) then ((dur_Head.f t301 t302).bind fun t336 => (if t336 = 4 then ((dur_Rest.f t301 t302).bind fun t337 => (if t337 = 8 then ((dur_Flags.f 5 0).bind fun t338 => (if t338 = 3 then ((dur_Check.f t301 t302).bind fun t339 => (if t339 = true then ((dur_Meter.f 3 4).bind fun t340 => (some t340)) else (some false))) else (some false))) else (some false))) else (some false))) else (some false))) else (some false)) else (some false)) else (some false)) else (some false)) else (some false))) else (some false)) else (some false))) else (some false)) else (some false)) else (some false)) else (some false)) else (some false)))))) = some r := H
 have A3 := sd_ A30
 clear A30
 replace H := ob_ H
 obtain ⟨⟨t313, t316⟩, A40, H⟩ := H
 replace H : ((dur_Beats.f k 6 8).bind fun bt317 => ((dur_Beat.f k 6 8 1 2).bind fun bt321 => ((dur_Bar.f k 1 3).bind fun bt323 => (if t303 = true then (if (t305 == 3 && (t306 == 8)) = true then (if t307 = 0 then (if (t309 == t301 && (t310 == t302)) = true then (if t311 = true then ((neumeref07_Same.f k t313 (([(⟨1, 0⟩ : S23), (⟨3, 0⟩ : S23)] : List (S23)))).bind fun t330 => (if t330 = true then (if t316 = true then ((neumeref07_Rats.f k bt317.1 (([(⟨0, 1⟩ : S25), (⟨3, 8⟩ : S25)] : List (S25)))).bind fun t334 => (if t334 = true then (if bt317.2 = 0 then (if bt321.1 = 1 then (if bt321.2 = 0 then (if bt323.2.2 = 2 then ((dur_Name.f t301 t302).bind fun t335 => (if t335.toList = ([52, 46] : List UInt8) then ((dur_Head.f t301 t302).bind fun t336 => (if t336 = 4 then ((dur_Rest.f t301 t302).bind fun t337 => (if t337 = 8 then ((dur_Flags.f 5 0).bind fun t338 => (if t338 = 3 then ((dur_Check.f t301 t302).bind fun t339 => (if t339 = true then ((dur_Meter.f 3 4).bind fun t340 => (some t340)) else (some false))) else (some false))) else (some false))) else (some false))) else (some false))) else (some false)) else (some false)) else (some false)) else (some false)) else (some false))) else (some false)) else (some false))) else (some false)) else (some false)) else (some false)) else (some false)) else (some false))))) = some r := H
 have A4 := sd_ A40
 clear A40
 replace H := ob_ H
 obtain ⟨⟨t317, t320⟩, A50, H⟩ := H
 replace H : ((dur_Beat.f k 6 8 1 2).bind fun bt321 => ((dur_Bar.f k 1 3).bind fun bt323 => (if t303 = true then (if (t305 == 3 && (t306 == 8)) = true then (if t307 = 0 then (if (t309 == t301 && (t310 == t302)) = true then (if t311 = true then ((neumeref07_Same.f k t313 (([(⟨1, 0⟩ : S23), (⟨3, 0⟩ : S23)] : List (S23)))).bind fun t330 => (if t330 = true then (if t316 = true then ((neumeref07_Rats.f k t317 (([(⟨0, 1⟩ : S25), (⟨3, 8⟩ : S25)] : List (S25)))).bind fun t334 => (if t334 = true then (if t320 = 0 then (if bt321.1 = 1 then (if bt321.2 = 0 then (if bt323.2.2 = 2 then ((dur_Name.f t301 t302).bind fun t335 => (if t335.toList = ([52, 46] : List UInt8) then ((dur_Head.f t301 t302).bind fun t336 => (if t336 = 4 then ((dur_Rest.f t301 t302).bind fun t337 => (if t337 = 8 then ((dur_Flags.f 5 0).bind fun t338 => (if t338 = 3 then ((dur_Check.f t301 t302).bind fun t339 => (if t339 = true then ((dur_Meter.f 3 4).bind fun t340 => (some t340)) else (some false))) else (some false))) else (some false))) else (some false))) else (some false))) else (some false)) else (some false)) else (some false)) else (some false)) else (some false))) else (some false)) else (some false))) else (some false)) else (some false)) else (some false)) else (some false)) else (some false)))) = some r := H
 have A5 := sd_ A50
 clear A50
 replace H := ob_ H
 obtain ⟨⟨t321, t322⟩, A60, H⟩ := H
 replace H : ((dur_Bar.f k 1 3).bind fun bt323 => (if t303 = true then (if (t305 == 3 && (t306 == 8)) = true then (if t307 = 0 then (if (t309 == t301 && (t310 == t302)) = true then (if t311 = true then ((neumeref07_Same.f k t313 (([(⟨1, 0⟩ : S23), (⟨3, 0⟩ : S23)] : List (S23)))).bind fun t330 => (if t330 = true then (if t316 = true then ((neumeref07_Rats.f k t317 (([(⟨0, 1⟩ : S25), (⟨3, 8⟩ : S25)] : List (S25)))).bind fun t334 => (if t334 = true then (if t320 = 0 then (if t321 = 1 then (if t322 = 0 then (if bt323.2.2 = 2 then ((dur_Name.f t301 t302).bind fun t335 => (if t335.toList = ([52, 46] : List UInt8) then ((dur_Head.f t301 t302).bind fun t336 => (if t336 = 4 then ((dur_Rest.f t301 t302).bind fun t337 => (if t337 = 8 then ((dur_Flags.f 5 0).bind fun t338 => (if t338 = 3 then ((dur_Check.f t301 t302).bind fun t339 => (if t339 = true then ((dur_Meter.f 3 4).bind fun t340 => (some t340)) else (some false))) else (some false))) else (some false))) else (some false))) else (some false))) else (some false)) else (some false)) else (some false)) else (some false)) else (some false))) else (some false)) else (some false))) else (some false)) else (some false)) else (some false)) else (some false)) else (some false))) = some r := H
 have A6 := sd_ A60
 clear A60
 replace H := ob_ H
 obtain ⟨⟨t323, t324, t325⟩, A70, H⟩ := H
 replace H : (if t303 = true then (if (t305 == 3 && (t306 == 8)) = true then (if t307 = 0 then (if (t309 == t301 && (t310 == t302)) = true then (if t311 = true then ((neumeref07_Same.f k t313 (([(⟨1, 0⟩ : S23), (⟨3, 0⟩ : S23)] : List (S23)))).bind fun t330 => (if t330 = true then (if t316 = true then ((neumeref07_Rats.f k t317 (([(⟨0, 1⟩ : S25), (⟨3, 8⟩ : S25)] : List (S25)))).bind fun t334 => (if t334 = true then (if t320 = 0 then (if t321 = 1 then (if t322 = 0 then (if t325 = 2 then ((dur_Name.f t301 t302).bind fun t335 => (if t335.toList = ([52, 46] : List UInt8) then ((dur_Head.f t301 t302).bind fun t336 => (if t336 = 4 then ((dur_Rest.f t301 t302).bind fun t337 => (if t337 = 8 then ((dur_Flags.f 5 0).bind fun t338 => (if t338 = 3 then ((dur_Check.f t301 t302).bind fun t339 => (if t339 = true then ((dur_Meter.f 3 4).bind fun t340 => (some t340)) else (some false))) else (some false))) else (some false))) else (some false))) else (some false))) else (some false)) else (some false)) else (some false)) else (some false)) else (some false))) else (some false)) else (some false))) else (some false)) else (some false)) else (some false)) else (some false)) else (some false)) = some r := H
 have A7 := sd_ A70
 clear A70
 by_cases c8 : t303 = true
 ·subst c8
  have H1 : (if (t305 == 3 && (t306 == 8)) = true then (if t307 = 0 then (if (t309 == t301 && (t310 == t302)) = true then (if t311 = true then ((neumeref07_Same.f k t313 (([(⟨1, 0⟩ : S23), (⟨3, 0⟩ : S23)] : List (S23)))).bind fun t330 => (if t330 = true then (if t316 = true then ((neumeref07_Rats.f k t317 (([(⟨0, 1⟩ : S25), (⟨3, 8⟩ : S25)] : List (S25)))).bind fun t334 => (if t334 = true then (if t320 = 0 then (if t321 = 1 then (if t322 = 0 then (if t325 = 2 then ((dur_Name.f t301 t302).bind fun t335 => (if t335.toList = ([52, 46] : List UInt8) then ((dur_Head.f t301 t302).bind fun t336 => (if t336 = 4 then ((dur_Rest.f t301 t302).bind fun t337 => (if t337 = 8 then ((dur_Flags.f 5 0).bind fun t338 => (if t338 = 3 then ((dur_Check.f t301 t302).bind fun t339 => (if t339 = true then ((dur_Meter.f 3 4).bind fun t340 => (some t340)) else (some false))) else (some false))) else (some false))) else (some false))) else (some false))) else (some false)) else (some false)) else (some false)) else (some false)) else (some false))) else (some false)) else (some false))) else (some false)) else (some false)) else (some false)) else (some false)) = some r := by rw [if_pos rfl] at H; exact H
  clear H; have H := H1; clear H1
  by_cases c9 : (t305 == 3 && (t306 == 8)) = true
  ·rw [if_pos c9] at H
   have c9b0 : (t305 == 3 && (t306 == 8)) = true := c9
   (try (have c9b1 : decide (t305 = 3 && (t306 == 8)) = true := by simpa using c9))
   (try (have c9b2 : (t305 == 3 && (t306 == 8)) = true := by simpa using c9))
   clear c9
   by_cases c10 : t307 = 0
   ·rw [if_pos c10] at H
    have c10b0 : (t307 == 0) = true := beq_iff_eq.mpr c10
    have c10b1 : (t307 != 0) = false := bne_eq_false_iff_eq.mpr c10
    clear c10
    by_cases c11 : (t309 == t301 && (t310 == t302)) = true
    ·rw [if_pos c11] at H
     have c11b0 : (t309 == t301 && (t310 == t302)) = true := c11
     (try (have c11b1 : decide (t309 = t301 && (t310 == t302)) = true := by simpa using c11))
     (try (have c11b2 : (t309 == t301 && (t310 == t302)) = true := by simpa using c11))
     clear c11
     by_cases c12 : t311 = true
     ·subst c12
      have H1 : ((neumeref07_Same.f k t313 (([(⟨1, 0⟩ : S23), (⟨3, 0⟩ : S23)] : List (S23)))).bind fun t330 => (if t330 = true then (if t316 = true then ((neumeref07_Rats.f k t317 (([(⟨0, 1⟩ : S25), (⟨3, 8⟩ : S25)] : List (S25)))).bind fun t334 => (if t334 = true then (if t320 = 0 then (if t321 = 1 then (if t322 = 0 then (if t325 = 2 then ((dur_Name.f t301 t302).bind fun t335 => (if t335.toList = ([52, 46] : List UInt8) then ((dur_Head.f t301 t302).bind fun t336 => (if t336 = 4 then ((dur_Rest.f t301 t302).bind fun t337 => (if t337 = 8 then ((dur_Flags.f 5 0).bind fun t338 => (if t338 = 3 then ((dur_Check.f t301 t302).bind fun t339 => (if t339 = true then ((dur_Meter.f 3 4).bind fun t340 => (some t340)) else (some false))) else (some false))) else (some false))) else (some false))) else (some false))) else (some false)) else (some false)) else (some false)) else (some false)) else (some false))) else (some false)) else (some false))) = some r := by rw [if_pos rfl] at H; exact H
      clear H; have H := H1; clear H1
      obtain ⟨y327, hy327⟩ : ∃ y_ : List (S23), y_ = (([(⟨1, 0⟩ : S23), (⟨3, 0⟩ : S23)] : List (S23))) := ⟨_, rfl⟩
      replace H : ((neumeref07_Same.f k t313 y327).bind fun t330 => (if t330 = true then (if t316 = true then ((neumeref07_Rats.f k t317 (([(⟨0, 1⟩ : S25), (⟨3, 8⟩ : S25)] : List (S25)))).bind fun t334 => (if t334 = true then (if t320 = 0 then (if t321 = 1 then (if t322 = 0 then (if t325 = 2 then ((dur_Name.f t301 t302).bind fun t335 => (if t335.toList = ([52, 46] : List UInt8) then ((dur_Head.f t301 t302).bind fun t336 => (if t336 = 4 then ((dur_Rest.f t301 t302).bind fun t337 => (if t337 = 8 then ((dur_Flags.f 5 0).bind fun t338 => (if t338 = 3 then ((dur_Check.f t301 t302).bind fun t339 => (if t339 = true then ((dur_Meter.f 3 4).bind fun t340 => (some t340)) else (some false))) else (some false))) else (some false))) else (some false))) else (some false))) else (some false)) else (some false)) else (some false)) else (some false)) else (some false))) else (some false)) else (some false))) = some r := by first | (rw [hy327]; with_reducible exact H) | (have H2_ := (Option.bind_some _ _).symm.trans H; rw [hy327]; with_reducible exact H2_) | (have H2_ := (Option.bind_some _ _).symm.trans H; with_reducible exact H2_) | with_reducible exact H | (rw [hy327]; exact H) | exact H
      have Ny327 := sd_ hy327
      clear hy327
      replace H := ob_ H
      obtain ⟨t330, A130, H⟩ := H
      replace H : (if t330 = true then (if t316 = true then ((neumeref07_Rats.f k t317 (([(⟨0, 1⟩ : S25), (⟨3, 8⟩ : S25)] : List (S25)))).bind fun t334 => (if t334 = true then (if t320 = 0 then (if t321 = 1 then (if t322 = 0 then (if t325 = 2 then ((dur_Name.f t301 t302).bind fun t335 => (if t335.toList = ([52, 46] : List UInt8) then ((dur_Head.f t301 t302).bind fun t336 => (if t336 = 4 then ((dur_Rest.f t301 t302).bind fun t337 => (if t337 = 8 then ((dur_Flags.f 5 0).bind fun t338 => (if t338 = 3 then ((dur_Check.f t301 t302).bind fun t339 => (if t339 = true then ((dur_Meter.f 3 4).bind fun t340 => (some t340)) else (some false))) else (some false))) else (some false))) else (some false))) else (some false))) else (some false)) else (some false)) else (some false)) else (some false)) else (some false))) else (some false)) else (some false)) = some r := H
      have A13 := sd_ A130
      clear A130
      by_cases c14 : t330 = true
      ·subst c14
       have H1 : (if t316 = true then ((neumeref07_Rats.f k t317 (([(⟨0, 1⟩ : S25), (⟨3, 8⟩ : S25)] : List (S25)))).bind fun t334 => (if t334 = true then (if t320 = 0 then (if t321 = 1 then (if t322 = 0 then (if t325 = 2 then ((dur_Name.f t301 t302).bind fun t335 => (if t335.toList = ([52, 46] : List UInt8) then ((dur_Head.f t301 t302).bind fun t336 => (if t336 = 4 then ((dur_Rest.f t301 t302).bind fun t337 => (if t337 = 8 then ((dur_Flags.f 5 0).bind fun t338 => (if t338 = 3 then ((dur_Check.f t301 t302).bind fun t339 => (if t339 = true then ((dur_Meter.f 3 4).bind fun t340 => (some t340)) else (some false))) else (some false))) else (some false))) else (some false))) else (some false))) else (some false)) else (some false)) else (some false)) else (some false)) else (some false))) else (some false)) = some r := by rw [if_pos rfl] at H; exact H
       clear H; have H := H1; clear H1
       by_cases c15 : t316 = true
       ·subst c15
        have H1 : ((neumeref07_Rats.f k t317 (([(⟨0, 1⟩ : S25), (⟨3, 8⟩ : S25)] : List (S25)))).bind fun t334 => (if t334 = true then (if t320 = 0 then (if t321 = 1 then (if t322 = 0 then (if t325 = 2 then ((dur_Name.f t301 t302).bind fun t335 => (if t335.toList = ([52, 46] : List UInt8) then ((dur_Head.f t301 t302).bind fun t336 => (if t336 = 4 then ((dur_Rest.f t301 t302).bind fun t337 => (if t337 = 8 then ((dur_Flags.f 5 0).bind fun t338 => (if t338 = 3 then ((dur_Check.f t301 t302).bind fun t339 => (if t339 = true then ((dur_Meter.f 3 4).bind fun t340 => (some t340)) else (some false))) else (some false))) else (some false))) else (some false))) else (some false))) else (some false)) else (some false)) else (some false)) else (some false)) else (some false))) = some r := by rw [if_pos rfl] at H; exact H
        clear H; have H := H1; clear H1
        obtain ⟨y331, hy331⟩ : ∃ y_ : List (S25), y_ = (([(⟨0, 1⟩ : S25), (⟨3, 8⟩ : S25)] : List (S25))) := ⟨_, rfl⟩
        replace H : ((neumeref07_Rats.f k t317 y331).bind fun t334 => (if t334 = true then (if t320 = 0 then (if t321 = 1 then (if t322 = 0 then (if t325 = 2 then ((dur_Name.f t301 t302).bind fun t335 => (if t335.toList = ([52, 46] : List UInt8) then ((dur_Head.f t301 t302).bind fun t336 => (if t336 = 4 then ((dur_Rest.f t301 t302).bind fun t337 => (if t337 = 8 then ((dur_Flags.f 5 0).bind fun t338 => (if t338 = 3 then ((dur_Check.f t301 t302).bind fun t339 => (if t339 = true then ((dur_Meter.f 3 4).bind fun t340 => (some t340)) else (some false))) else (some false))) else (some false))) else (some false))) else (some false))) else (some false)) else (some false)) else (some false)) else (some false)) else (some false))) = some r := by first | (rw [hy331]; with_reducible exact H) | (have H2_ := (Option.bind_some _ _).symm.trans H; rw [hy331]; with_reducible exact H2_) | (have H2_ := (Option.bind_some _ _).symm.trans H; with_reducible exact H2_) | with_reducible exact H | (rw [hy331]; exact H) | exact H
        have Ny331 := sd_ hy331
        clear hy331
        replace H := ob_ H
        obtain ⟨t334, A160, H⟩ := H
        replace H : (if t334 = true then (if t320 = 0 then (if t321 = 1 then (if t322 = 0 then (if t325 = 2 then ((dur_Name.f t301 t302).bind fun t335 => (if t335.toList = ([52, 46] : List UInt8) then ((dur_Head.f t301 t302).bind fun t336 => (if t336 = 4 then ((dur_Rest.f t301 t302).bind fun t337 => (if t337 = 8 then ((dur_Flags.f 5 0).bind fun t338 => (if t338 = 3 then ((dur_Check.f t301 t302).bind fun t339 => (if t339 = true then ((dur_Meter.f 3 4).bind fun t340 => (some t340)) else (some false))) else (some false))) else (some false))) else (some false))) else (some false))) else (some false)) else (some false)) else (some false)) else (some false)) else (some false)) = some r := H
        have A16 := sd_ A160
        clear A160
        by_cases c17 : t334 = true
        ·subst c17
         have H1 : (if t320 = 0 then (if t321 = 1 then (if t322 = 0 then (if t325 = 2 then ((dur_Name.f t301 t302).bind fun t335 => (if t335.toList = ([52, 46] : List UInt8) then ((dur_Head.f t301 t302).bind fun t336 => (if t336 = 4 then ((dur_Rest.f t301 t302).bind fun t337 => (if t337 = 8 then ((dur_Flags.f 5 0).bind fun t338 => (if t338 = 3 then ((dur_Check.f t301 t302).bind fun t339 => (if t339 = true then ((dur_Meter.f 3 4).bind fun t340 => (some t340)) else (some false))) else (some false))) else (some false))) else (some false))) else (some false))) else (some false)) else (some false)) else (some false)) else (some false)) = some r := by rw [if_pos rfl] at H; exact H
         clear H; have H := H1; clear H1
         by_cases c18 : t320 = 0
         ·rw [if_pos c18] at H
          have c18b0 : (t320 == 0) = true := beq_iff_eq.mpr c18
          have c18b1 : (t320 != 0) = false := bne_eq_false_iff_eq.mpr c18
          clear c18
          by_cases c19 : t321 = 1
          ·rw [if_pos c19] at H
           have c19b0 : (t321 == 1) = true := beq_iff_eq.mpr c19
           have c19b1 : (t321 != 1) = false := bne_eq_false_iff_eq.mpr c19
           clear c19
           by_cases c20 : t322 = 0
           ·rw [if_pos c20] at H
            have c20b0 : (t322 == 0) = true := beq_iff_eq.mpr c20
            have c20b1 : (t322 != 0) = false := bne_eq_false_iff_eq.mpr c20
            clear c20
            by_cases c21 : t325 = 2
            ·rw [if_pos c21] at H
             have c21b0 : (t325 == 2) = true := beq_iff_eq.mpr c21
             have c21b1 : (t325 != 2) = false := bne_eq_false_iff_eq.mpr c21
             clear c21
             replace H := ob_ H
             obtain ⟨t335, A220, H⟩ := H
             replace H : (if t335.toList = ([52, 46] : List UInt8) then ((dur_Head.f t301 t302).bind fun t336 => (if t336 = 4 then ((dur_Rest.f t301 t302).bind fun t337 => (if t337 = 8 then ((dur_Flags.f 5 0).bind fun t338 => (if t338 = 3 then ((dur_Check.f t301 t302).bind fun t339 => (if t339 = true then ((dur_Meter.f 3 4).bind fun t340 => (some t340)) else (some false))) else (some false))) else (some false))) else (some false))) else (some false)) = some r := H
             have A22 := sd_ A220
             clear A220
             by_cases c23 : t335.toList = ([52, 46] : List UInt8)
             ·rw [if_pos c23] at H
              have c23b0 : (t335.toList == ([52, 46] : List UInt8)) = true := beq_iff_eq.mpr c23
              have c23b1 : (t335.toList != ([52, 46] : List UInt8)) = false := bne_eq_false_iff_eq.mpr c23
              clear c23
              replace H := ob_ H
              obtain ⟨t336, A240, H⟩ := H
              replace H : (if t336 = 4 then ((dur_Rest.f t301 t302).bind fun t337 => (if t337 = 8 then ((dur_Flags.f 5 0).bind fun t338 => (if t338 = 3 then ((dur_Check.f t301 t302).bind fun t339 => (if t339 = true then ((dur_Meter.f 3 4).bind fun t340 => (some t340)) else (some false))) else (some false))) else (some false))) else (some false)) = some r := H
              have A24 := sd_ A240
              clear A240
              by_cases c25 : t336 = 4
              ·rw [if_pos c25] at H
               have c25b0 : (t336 == 4) = true := beq_iff_eq.mpr c25
               have c25b1 : (t336 != 4) = false := bne_eq_false_iff_eq.mpr c25
               clear c25
               replace H := ob_ H
               obtain ⟨t337, A260, H⟩ := H
               replace H : (if t337 = 8 then ((dur_Flags.f 5 0).bind fun t338 => (if t338 = 3 then ((dur_Check.f t301 t302).bind fun t339 => (if t339 = true then ((dur_Meter.f 3 4).bind fun t340 => (some t340)) else (some false))) else (some false))) else (some false)) = some r := H
               have A26 := sd_ A260
               clear A260
               by_cases c27 : t337 = 8
               ·rw [if_pos c27] at H
                have c27b0 : (t337 == 8) = true := beq_iff_eq.mpr c27
                have c27b1 : (t337 != 8) = false := bne_eq_false_iff_eq.mpr c27
                clear c27
                replace H := ob_ H
                obtain ⟨t338, A280, H⟩ := H
                replace H : (if t338 = 3 then ((dur_Check.f t301 t302).bind fun t339 => (if t339 = true then ((dur_Meter.f 3 4).bind fun t340 => (some t340)) else (some false))) else (some false)) = some r := H
                have A28 := sd_ A280
                clear A280
                by_cases c29 : t338 = 3
                ·rw [if_pos c29] at H
                 have c29b0 : (t338 == 3) = true := beq_iff_eq.mpr c29
                 have c29b1 : (t338 != 3) = false := bne_eq_false_iff_eq.mpr c29
                 clear c29
                 replace H := ob_ H
                 obtain ⟨t339, A300, H⟩ := H
                 replace H : (if t339 = true then ((dur_Meter.f 3 4).bind fun t340 => (some t340)) else (some false)) = some r := H
                 have A30 := sd_ A300
                 clear A300
                 by_cases c31 : t339 = true
                 ·subst c31
                  have H1 : ((dur_Meter.f 3 4).bind fun t340 => (some t340)) = some r := by rw [if_pos rfl] at H; exact H
                  clear H; have H := H1; clear H1
                  replace H := ob_ H
                  obtain ⟨t340, A320, H⟩ := H
                  replace H : (some t340) = some r := H
                  have A32 := sd_ A320
                  clear A320
                  obtain rfl := Option.some.inj H
                  go_enter Tryz.func5, Tryz.ntmps5
                  (try simp only [List.append_eq, List.cons_append, List.nil_append])
                  go_wp2_with (first | ((with_reducible refine gate_callee (f := 8) rfl ?_); refine goesL_ (some 16) rfl rfl Tryz.func8 (by kernel_rfl) rfl #[.string (⟨#[52, 46]⟩ : ByteArray)] rfl (by (try simp only [lm_, lq_, lx_]); first | done | rfl | (simp only [ld_, lt_]; rfl)) ?_; (with_reducible refine (dur_Parse.calls k (⟨#[52, 46]⟩ : ByteArray) t301 t302 true _ A1.out).mono ?_); rintro e w33 ⟨rfl, hb⟩; refine ⟨_, rfl, ?_⟩; replace HB := hb_ HB e0_ hb; (try clear hb); (try clear hb2); (try clear hk); (try clear hi)) | ((with_reducible refine gate_dst (N := 1) rfl ?_); (try (refine gate_guard (by rfl) ?_; dsimp only)); refine box_event ?hg (N := 1) ?hd (cs := #[.int .i64 0, .int .i64 0]) (t := 23) ?hr ?_; (case hd => rfl); (case hg => rfl); (case hr => first | (go_simp; done) | (go_simp; rfl)); intro gb304 hg w34 hbox hb; have BK304 := sd_ hbox; have GW304 := gw_ HB e0_ hg; have GE304 := GW304; replace HB := hb_ HB e0_ hb; clear hb hbox hg; have hcz35_0 : w34.cell? ⟨gb304, 0, none⟩ = some (.int .i64 0) := (kc_ BK304.out 0).trans rfl; have hcz35_1 : w34.cell? ⟨gb304, 1, none⟩ = some (.int .i64 0) := (kc_ BK304.out 1).trans rfl; have hfz35_0 := kf_ BK304.out 0; have hfz35_1 := kf_ BK304.out 1) | ((with_reducible refine gate_callee (f := 6) rfl ?_); refine goesL_ (some 21) rfl rfl Tryz.func6 (by kernel_rfl) rfl #[.agg #[.int .i64 t301, .int .i64 t302]] rfl (by (try simp only [lm_, lq_, lx_]); first | done | rfl | (simp only [ld_, lt_]; rfl)) ?_; (with_reducible refine (dur_Value.calls k t301 t302 t305 t306 t307 _ ?side1 A2.out).mono ?_); (case side1 => first | (with_reducible exact hE) | exact sd_ (LaidE.below hE.out (bb_ HB.out (e_ GE304 e0_)))); rintro e w36 ⟨rfl, hb⟩; refine ⟨_, rfl, ?_⟩; replace BK304 := sd_ (blk_below (g := gb304) (o := .cells #[.int .i64 t301, .int .i64 t302] 23 (0, 0)) (by (with_reducible repeat first | apply kn_ | apply kd_ | apply ka_); refine blk_put (cs := #[.int .i64 t301, .int .i64 0]) ?_ 1 _ rfl; (with_reducible repeat first | apply kn_ | apply kd_ | apply ka_); refine blk_put (cs := #[.int .i64 0, .int .i64 0]) ?_ 0 _ rfl; (with_reducible repeat first | apply kn_ | apply kd_ | apply ka_); exact BK304.out) hb); replace HB := hb_ HB (e_ GE304 e0_) hb; (try clear hb); (try clear hb2); (try clear hk); (try clear hi)) | ((with_reducible refine gate_dst (N := 3) rfl ?_); (try (refine gate_guard (by rfl) ?_; dsimp only)); refine box_event ?hg (N := 3) ?hd (cs := #[.int .i64 0, .int .i64 0]) (t := 25) ?hr ?_; (case hd => rfl); (case hg => rfl); (case hr => first | (go_simp; done) | (go_simp; rfl)); intro gb308 hg w37 hbox hb; have BK308 := sd_ hbox; have GW308 := gw_ HB (e_ GE304 e0_) hg; have GE308 := GW308; have NB304_308 := nb_ BK304 hg; have NB308_304 := sy_ NB304_308; replace BK304 := kb_ BK304 hb; replace HB := hb_ HB (e_ GE304 e0_) hb; clear hb hbox hg; have hnb38 := NB308_304.out; have hnc38 := NB304_308.out; have hcz39_0 : w37.cell? ⟨gb308, 0, none⟩ = some (.int .i64 0) := (kc_ BK308.out 0).trans rfl; have hcz39_1 : w37.cell? ⟨gb308, 1, none⟩ = some (.int .i64 0) := (kc_ BK308.out 1).trans rfl; have hfz39_0 := kf_ BK308.out 0; have hfz39_1 := kf_ BK308.out 1) | ((with_reducible refine gate_callee (f := 10) rfl ?_); refine goesL_ (some 26) rfl rfl Tryz.func10 (by kernel_rfl) rfl #[.agg #[.int .i64 t305, .int .i64 t306]] rfl (by (try simp only [lm_, lq_, lx_]); first | done | rfl | (simp only [ld_, lt_]; rfl)) ?_; (with_reducible refine (dur_Of.calls k t305 t306 t309 t310 true _ ?side1 A3.out).mono ?_); (case side1 => first | (with_reducible exact hE) | exact sd_ (LaidE.below hE.out (bb_ HB.out (e_ GE304 (e_ GE308 e0_))))); rintro e w40 ⟨rfl, hb⟩; refine ⟨_, rfl, ?_⟩; replace BK304 := sd_ (blk_below (g := gb304) (o := .cells #[.int .i64 t301, .int .i64 t302] 23 (0, 0)) (by (with_reducible repeat first | apply kn_ | apply kd_ | apply ka_); refine blk_far ?_ NB304_308.out _; (with_reducible repeat first | apply kn_ | apply kd_ | apply ka_); refine blk_far ?_ NB304_308.out _; (with_reducible repeat first | apply kn_ | apply kd_ | apply ka_); exact BK304.out) hb); replace BK308 := sd_ (blk_below (g := gb308) (o := .cells #[.int .i64 t305, .int .i64 t306] 25 (0, 0)) (by (with_reducible repeat first | apply kn_ | apply kd_ | apply ka_); refine blk_put (cs := #[.int .i64 t305, .int .i64 0]) ?_ 1 _ rfl; (with_reducible repeat first | apply kn_ | apply kd_ | apply ka_); refine blk_put (cs := #[.int .i64 0, .int .i64 0]) ?_ 0 _ rfl; (with_reducible repeat first | apply kn_ | apply kd_ | apply ka_); exact BK308.out) hb); replace HB := hb_ HB (e_ GE304 (e_ GE308 e0_)) hb; (try clear hb); (try clear hb2); (try clear hk); (try clear hi)) | ((with_reducible refine gate_dst (N := 5) rfl ?_); (try (refine gate_guard (by rfl) ?_; dsimp only)); refine box_event ?hg (N := 5) ?hd (cs := #[.int .i64 0, .int .i64 0]) (t := 23) ?hr ?_; (case hd => rfl); (case hg => rfl); (case hr => first | (go_simp; done) | (go_simp; rfl)); intro gb312 hg w41 hbox hb; have BK312 := sd_ hbox; have GW312 := gw_ HB (e_ GE304 (e_ GE308 e0_)) hg; have GE312 := GW312; have NB304_312 := nb_ BK304 hg; have NB312_304 := sy_ NB304_312; have NB308_312 := nb_ BK308 hg; have NB312_308 := sy_ NB308_312; replace BK304 := kb_ BK304 hb; replace BK308 := kb_ BK308 hb; replace HB := hb_ HB (e_ GE304 (e_ GE308 e0_)) hb; clear hb hbox hg; have hnb42 := NB312_304.out; have hnc42 := NB304_312.out; have hnb43 := NB312_308.out; have hnc43 := NB308_312.out; have hcz44_0 : w41.cell? ⟨gb312, 0, none⟩ = some (.int .i64 0) := (kc_ BK312.out 0).trans rfl; have hcz44_1 : w41.cell? ⟨gb312, 1, none⟩ = some (.int .i64 0) := (kc_ BK312.out 1).trans rfl; have hfz44_0 := kf_ BK312.out 0; have hfz44_1 := kf_ BK312.out 1) | ((with_reducible refine gate_callee (f := 12) rfl ?_); refine goesL_ (some 31) rfl rfl Tryz.func12 (by kernel_rfl) rfl #[.agg #[.int .i64 5, .int .i64 8]] rfl (by (try simp only [lm_, lq_, lx_]); first | done | rfl | (simp only [ld_, lt_]; rfl)) ?_; (with_reducible refine (dur_Split.calls k 5 8 t313 true _ ?side1 A4.out).mono ?_); (case side1 => first | (with_reducible exact hE) | exact sd_ (LaidE.below hE.out (bb_ HB.out (e_ GE304 (e_ GE308 (e_ GE312 e0_)))))); rintro e w45 ⟨v314, rfl, ho0, hb⟩; refine ⟨_, rfl, ?_⟩; have HO315 := sd_ (Kd.R_lower (Kd.R_newB (Kd.R_newB ho0 (g := gb304) (o := .cells #[.int .i64 t301, .int .i64 t302] 23 (0, 0)) (by (with_reducible repeat first | apply kn_ | apply kd_ | apply ka_); refine blk_far ?_ NB304_312.out _; (with_reducible repeat first | apply kn_ | apply kd_ | apply ka_); refine blk_far ?_ NB304_312.out _; (with_reducible repeat first | apply kn_ | apply kd_ | apply ka_); exact BK304.out)) (g := gb312) (o := .cells #[.int .i64 t309, .int .i64 t310] 23 (0, 0)) (by (with_reducible repeat first | apply kn_ | apply kd_ | apply ka_); refine blk_put (cs := #[.int .i64 t309, .int .i64 0]) ?_ 1 _ rfl; (with_reducible repeat first | apply kn_ | apply kd_ | apply ka_); refine blk_put (cs := #[.int .i64 0, .int .i64 0]) ?_ 0 _ rfl; (with_reducible repeat first | apply kn_ | apply kd_ | apply ka_); exact BK312.out)) (bz_ (bb_ HB.out (e_ GE304 (e_ GE308 (e_ GE312 e0_)))))); replace BK304 := sd_ (blk_below (g := gb304) (o := .cells #[.int .i64 t301, .int .i64 t302] 23 (0, 0)) (by (with_reducible repeat first | apply kn_ | apply kd_ | apply ka_); refine blk_far ?_ NB304_312.out _; (with_reducible repeat first | apply kn_ | apply kd_ | apply ka_); refine blk_far ?_ NB304_312.out _; (with_reducible repeat first | apply kn_ | apply kd_ | apply ka_); exact BK304.out) hb); replace BK308 := sd_ (blk_below (g := gb308) (o := .cells #[.int .i64 t305, .int .i64 t306] 25 (0, 0)) (by (with_reducible repeat first | apply kn_ | apply kd_ | apply ka_); refine blk_far ?_ NB308_312.out _; (with_reducible repeat first | apply kn_ | apply kd_ | apply ka_); refine blk_far ?_ NB308_312.out _; (with_reducible repeat first | apply kn_ | apply kd_ | apply ka_); exact BK308.out) hb); replace BK312 := sd_ (blk_below (g := gb312) (o := .cells #[.int .i64 t309, .int .i64 t310] 23 (0, 0)) (by (with_reducible repeat first | apply kn_ | apply kd_ | apply ka_); refine blk_put (cs := #[.int .i64 t309, .int .i64 0]) ?_ 1 _ rfl; (with_reducible repeat first | apply kn_ | apply kd_ | apply ka_); refine blk_put (cs := #[.int .i64 0, .int .i64 0]) ?_ 0 _ rfl; (with_reducible repeat first | apply kn_ | apply kd_ | apply ka_); exact BK312.out) hb); replace HB := hb_ HB (e_ GE304 (e_ GE308 (e_ GE312 e0_))) hb; (try clear hb); (try clear hb2); (try clear hk); (try clear hi); (try clear ho0)) | ((with_reducible refine gate_callee (f := 27) rfl ?_); refine goesL_ (some 36) rfl rfl Tryz.func27 (by kernel_rfl) rfl #[.agg #[.int .i64 6, .int .i64 8]] rfl (by (try simp only [lm_, lq_, lx_]); first | done | rfl | (simp only [ld_, lt_]; rfl)) ?_; (with_reducible refine (dur_Beats.calls k 6 8 t317 t320 _ ?side1 A5.out).mono ?_); (case side1 => first | (with_reducible exact hE) | exact sd_ (LaidE.below hE.out (bb_ HB.out (e_ GE304 (e_ GE308 (e_ GE312 e0_)))))); rintro e w46 ⟨v318, rfl, ho0, hb⟩; refine ⟨_, rfl, ?_⟩; have HO319 := sd_ (Kd.R_lower (Kd.R_newB ho0 (kk_ BK308.out)) (bz_ (bb_ HB.out (e_ GE304 (e_ GE308 (e_ GE312 e0_)))))); replace HO315 := sd_ (Kd.R_below (by (with_reducible repeat (first | apply Kd.R_alloc | apply Kd.R_drewN | apply Kd.R_drew)); exact HO315.out) hb); replace BK304 := kb_ BK304 hb; replace BK308 := kb_ BK308 hb; replace BK312 := kb_ BK312 hb; replace HB := hb_ HB (e_ GE304 (e_ GE308 (e_ GE312 e0_))) hb; (try clear hb); (try clear hb2); (try clear hk); (try clear hi); (try clear ho0)) | ((with_reducible refine gate_callee (f := 29) rfl ?_); refine goesL_ (some 42) rfl rfl Tryz.func29 (by kernel_rfl) rfl #[.agg #[.int .i64 6, .int .i64 8], .agg #[.int .i64 1, .int .i64 2]] rfl (by (try simp only [lm_, lq_, lx_]); first | done | rfl | (simp only [ld_, lt_]; rfl)) ?_; (with_reducible refine (dur_Beat.calls k 6 8 1 2 t321 t322 _ ?side1 A6.out).mono ?_); (case side1 => first | (with_reducible exact hE) | exact sd_ (LaidE.below hE.out (bb_ HB.out (e_ GE304 (e_ GE308 (e_ GE312 e0_)))))); rintro e w47 ⟨rfl, hb⟩; refine ⟨_, rfl, ?_⟩; replace HO315 := sd_ (Kd.R_below (by (with_reducible repeat (first | apply Kd.R_alloc | apply Kd.R_drewN | apply Kd.R_drew)); exact HO315.out) hb); replace HO319 := sd_ (Kd.R_below (by (with_reducible repeat (first | apply Kd.R_alloc | apply Kd.R_drewN | apply Kd.R_drew)); exact HO319.out) hb); replace BK304 := kb_ BK304 hb; replace BK308 := kb_ BK308 hb; replace BK312 := kb_ BK312 hb; replace HB := hb_ HB (e_ GE304 (e_ GE308 (e_ GE312 e0_))) hb; (try clear hb); (try clear hb2); (try clear hk); (try clear hi)) | ((with_reducible refine gate_callee (f := 25) rfl ?_); refine goesL_ (some 47) rfl rfl Tryz.func25 (by kernel_rfl) rfl #[.agg #[.int .i64 1, .int .i64 3]] rfl (by (try simp only [lm_, lq_, lx_]); first | done | rfl | (simp only [ld_, lt_]; rfl)) ?_; (with_reducible refine (dur_Bar.calls k 1 3 t323 t324 t325 _ ?side1 A7.out).mono ?_); (case side1 => first | (with_reducible exact hE) | exact sd_ (LaidE.below hE.out (bb_ HB.out (e_ GE304 (e_ GE308 (e_ GE312 e0_)))))); rintro e w48 ⟨rfl, hb⟩; refine ⟨_, rfl, ?_⟩; replace HO315 := sd_ (Kd.R_below (by (with_reducible repeat (first | apply Kd.R_alloc | apply Kd.R_drewN | apply Kd.R_drew)); exact HO315.out) hb); replace HO319 := sd_ (Kd.R_below (by (with_reducible repeat (first | apply Kd.R_alloc | apply Kd.R_drewN | apply Kd.R_drew)); exact HO319.out) hb); replace BK304 := kb_ BK304 hb; replace BK308 := kb_ BK308 hb; replace BK312 := kb_ BK312 hb; replace HB := hb_ HB (e_ GE304 (e_ GE308 (e_ GE312 e0_))) hb; (try clear hb); (try clear hb2); (try clear hk); (try clear hi)) | ((with_reducible refine gate_dst (N := 13) rfl ?_); (try (refine gate_guard (by rfl) ?_; dsimp only)); refine box_event ?hg (N := 13) ?hd (cs := #[.int .i64 0, .int .i64 0]) (t := 25) ?hr ?_; (case hd => rfl); (case hg => rfl); (case hr => first | (go_simp; done) | (go_simp; rfl)); intro gb326 hg w49 hbox hb; have BK326 := sd_ hbox; have GW326 := gw_ HB (e_ GE304 (e_ GE308 (e_ GE312 e0_))) hg; have GE326 := GW326; have NB304_326 := nb_ BK304 hg; have NB326_304 := sy_ NB304_326; have NB308_326 := nb_ BK308 hg; have NB326_308 := sy_ NB308_326; have NB312_326 := nb_ BK312 hg; have NB326_312 := sy_ NB312_326; replace HO315 := sd_ (Kd.R_below (by (with_reducible repeat (first | apply Kd.R_alloc | apply Kd.R_drewN | apply Kd.R_drew)); exact HO315.out) hb); replace HO319 := sd_ (Kd.R_below (Kd.R_elderB (by (with_reducible repeat (first | apply Kd.R_alloc | apply Kd.R_drewN | apply Kd.R_drew)); exact HO319.out) gb326 (Nat.le_of_eq hg.symm)) hb); replace BK304 := kb_ BK304 hb; replace BK308 := kb_ BK308 hb; replace BK312 := kb_ BK312 hb; replace HB := hb_ HB (e_ GE304 (e_ GE308 (e_ GE312 e0_))) hb; clear hb hbox hg; have hnb50 := NB326_304.out; have hnc50 := NB304_326.out; have hnb51 := NB326_308.out; have hnc51 := NB308_326.out; have hnb52 := NB326_312.out; have hnc52 := NB312_326.out; have hcz53_0 : w49.cell? ⟨gb326, 0, none⟩ = some (.int .i64 0) := (kc_ BK326.out 0).trans rfl; have hcz53_1 : w49.cell? ⟨gb326, 1, none⟩ = some (.int .i64 0) := (kc_ BK326.out 1).trans rfl; have hfz53_0 := kf_ BK326.out 0; have hfz53_1 := kf_ BK326.out 1; have hcz54_0 : w49.cell? ⟨gb308, 0, none⟩ = some (.int .i64 t305) := (kc_ BK308.out 0).trans rfl; have hcz54_1 : w49.cell? ⟨gb308, 1, none⟩ = some (.int .i64 t306) := (kc_ BK308.out 1).trans rfl; have hfz54_0 := kf_ BK308.out 0; have hfz54_1 := kf_ BK308.out 1; have hcz55_0 : w49.cell? ⟨gb312, 0, none⟩ = some (.int .i64 t309) := (kc_ BK312.out 0).trans rfl; have hcz55_1 : w49.cell? ⟨gb312, 1, none⟩ = some (.int .i64 t310) := (kc_ BK312.out 1).trans rfl; have hfz55_0 := kf_ BK312.out 0; have hfz55_1 := kf_ BK312.out 1; have hcz56_0 : w49.cell? ⟨gb304, 0, none⟩ = some (.int .i64 t301) := (kc_ BK304.out 0).trans rfl; have hcz56_1 : w49.cell? ⟨gb304, 1, none⟩ = some (.int .i64 t302) := (kc_ BK304.out 1).trans rfl; have hfz56_0 := kf_ BK304.out 0; have hfz56_1 := kf_ BK304.out 1) | ((with_reducible refine gate_dst (N := 72) rfl ?_); (try (refine gate_guard (by rfl) ?_; dsimp only)); refine Kd.R_lit k23 _ 23 ?hg (N := 72) ?hd (xs := ([(⟨1, 0⟩ : S23), (⟨3, 0⟩ : S23)] : List (S23))) (inner := [.int .i64 1, .int .i64 0, .int .i64 3, .int .i64 0]) (ok := fun _ => True) (okp := fun _ => True) ?hr ?hp (fun _ hk => hk) trivial (Below.refl _ _) (Nat.le_refl _) (by simp) ?_; (case hd => rfl); (case hg => rfl); (case hr => first | (go_simp; done) | (go_simp; rfl)); (case hp => exact (Reps.c2 (show Kd.M k23 _ _ _ (⟨1, 0⟩ : S23) [.int .i64 1, .int .i64 0] from (k23_mkM _ _ _ (⟨1, 0⟩ : S23) )) (Reps.c2 (show Kd.M k23 _ _ _ (⟨3, 0⟩ : S23) [.int .i64 3, .int .i64 0] from (k23_mkM _ _ _ (⟨3, 0⟩ : S23) )) (Reps.none _ _)))); intro v328 w57 ho58 hb hg_ hnew_; clear hg_ hnew_; (first | rw [← Ny327.out] at ho58 | (simp only [Int.reduceToNat] at ho58; rw [← Ny327.out] at ho58)); have n0_ := sd_ (Kd.R_elder' (by (with_reducible repeat (first | apply Kd.R_alloc | apply Kd.R_drewN | apply Kd.R_drew)); exact (Kd.R_mono (Kd.R_far (p := ⟨gb326, 1, none⟩) (Kd.R_far (p := ⟨gb326, 0, none⟩) (Kd.R_types HO315.out BK326.out (by decide)) (fun _ hk => hk.2) (.int .i64 t323)) (fun _ hk => hk.2) (.int .i64 t324)) (fun _ h_ => h_.1))) (Kd.R_base ho58) hb); have n1_ := sd_ (Kd.R_below (by (with_reducible repeat (first | apply Kd.R_alloc | apply Kd.R_drewN | apply Kd.R_drew)); exact (Kd.R_mono (Kd.R_far (p := ⟨gb326, 1, none⟩) (Kd.R_far (p := ⟨gb326, 0, none⟩) (Kd.R_mono HO319.out (fun k_ hk => (⟨hk, hk.2⟩ : _ ∧ k_ ≠ gb326))) (fun _ hk => hk.2) (.int .i64 t323)) (fun _ hk => hk.2) (.int .i64 t324)) (fun _ h_ => h_.1))) hb); have n2_ := sd_ (Kd.R_lower (Kd.R_newB (Kd.R_newB (Kd.R_new' ho58 (Kd.R_lt (by (with_reducible repeat (first | apply Kd.R_alloc | apply Kd.R_drewN | apply Kd.R_drew)); exact (Kd.R_mono (Kd.R_far (p := ⟨gb326, 1, none⟩) (Kd.R_far (p := ⟨gb326, 0, none⟩) (Kd.R_types HO315.out BK326.out (by decide)) (fun _ hk => hk.2) (.int .i64 t323)) (fun _ hk => hk.2) (.int .i64 t324)) (fun _ h_ => h_.1))))) (g := gb304) (o := .cells #[.int .i64 t301, .int .i64 t302] 23 (0, 0)) (by (with_reducible repeat first | apply kn_ | apply kd_ | apply ka_); refine blk_far ?_ NB304_326.out _; (with_reducible repeat first | apply kn_ | apply kd_ | apply ka_); refine blk_far ?_ NB304_326.out _; (with_reducible repeat first | apply kn_ | apply kd_ | apply ka_); exact BK304.out)) (g := gb312) (o := .cells #[.int .i64 t309, .int .i64 t310] 23 (0, 0)) (by (with_reducible repeat first | apply kn_ | apply kd_ | apply ka_); refine blk_far ?_ NB312_326.out _; (with_reducible repeat first | apply kn_ | apply kd_ | apply ka_); refine blk_far ?_ NB312_326.out _; (with_reducible repeat first | apply kn_ | apply kd_ | apply ka_); exact BK312.out)) (bz_ (bb_ HB.out (e_ GE304 (e_ GE308 (e_ GE312 (e_ GE326 e0_))))))); have n3_ := sd_ (blk_below (g := gb304) (o := .cells #[.int .i64 t301, .int .i64 t302] 23 (0, 0)) (by (with_reducible repeat first | apply kn_ | apply kd_ | apply ka_); refine blk_far ?_ NB304_326.out _; (with_reducible repeat first | apply kn_ | apply kd_ | apply ka_); refine blk_far ?_ NB304_326.out _; (with_reducible repeat first | apply kn_ | apply kd_ | apply ka_); exact BK304.out) hb); have n4_ := sd_ (blk_below (g := gb308) (o := .cells #[.int .i64 t305, .int .i64 t306] 25 (0, 0)) (by (with_reducible repeat first | apply kn_ | apply kd_ | apply ka_); refine blk_far ?_ NB308_326.out _; (with_reducible repeat first | apply kn_ | apply kd_ | apply ka_); refine blk_far ?_ NB308_326.out _; (with_reducible repeat first | apply kn_ | apply kd_ | apply ka_); exact BK308.out) hb); have n5_ := sd_ (blk_below (g := gb312) (o := .cells #[.int .i64 t309, .int .i64 t310] 23 (0, 0)) (by (with_reducible repeat first | apply kn_ | apply kd_ | apply ka_); refine blk_far ?_ NB312_326.out _; (with_reducible repeat first | apply kn_ | apply kd_ | apply ka_); refine blk_far ?_ NB312_326.out _; (with_reducible repeat first | apply kn_ | apply kd_ | apply ka_); exact BK312.out) hb); have n6_ := sd_ (blk_below (g := gb326) (o := .cells #[.int .i64 t323, .int .i64 t324] 25 (0, 0)) (by (with_reducible repeat first | apply kn_ | apply kd_ | apply ka_); refine blk_put (cs := #[.int .i64 t323, .int .i64 0]) ?_ 1 _ rfl; (with_reducible repeat first | apply kn_ | apply kd_ | apply ka_); refine blk_put (cs := #[.int .i64 0, .int .i64 0]) ?_ 0 _ rfl; (with_reducible repeat first | apply kn_ | apply kd_ | apply ka_); exact BK326.out) hb); have n7_ := hb_ HB (e_ GE304 (e_ GE308 (e_ GE312 (e_ GE326 e0_)))) hb; clear HO315; clear HO319; clear BK304; clear BK308; clear BK312; clear BK326; clear HB; have HO315 := n0_; have HO319 := n1_; have HO329 := n2_; have BK304 := n3_; have BK308 := n4_; have BK312 := n5_; have BK326 := n6_; have HB := n7_; clear n0_ n1_ n2_ n3_ n4_ n5_ n6_ n7_; clear hb ho58; obtain ⟨Ao59, co59, eo59⟩ := Kd.R_slice HO315.out; subst eo59; obtain ⟨Ao60, co60, eo60⟩ := Kd.R_slice HO329.out; subst eo60) | (go_at_call 14; (with_reducible refine (neumeref07_Same.calls k _ _ t313 _ _ y327 true _ ?side1 ?side2 ?side3 ?side4 A13.out).mono ?_); (case side1 => repeat (first | exact (Kd.R_reads' HO315.out).2.2 | (with_reducible refine Kd.C_alloc ?_ _) | (with_reducible refine Kd.C_drewN ?_ _) | (with_reducible refine Kd.C_drew ?_))); (case side2 => exact (Kd.R_reads' HO315.out).2.1); (case side3 => repeat (first | exact (Kd.R_reads' HO329.out).2.2 | (with_reducible refine Kd.C_alloc ?_ _) | (with_reducible refine Kd.C_drewN ?_ _) | (with_reducible refine Kd.C_drew ?_))); (case side4 => exact (Kd.R_reads' HO329.out).2.1); rintro e w' ⟨rfl, ⟨nd, rfl⟩⟩) | ((with_reducible refine gate_dst (N := 82) rfl ?_); (try (refine gate_guard (by rfl) ?_; dsimp only)); refine Kd.R_lit k25 _ 25 ?hg (N := 82) ?hd (xs := ([(⟨0, 1⟩ : S25), (⟨3, 8⟩ : S25)] : List (S25))) (inner := [.int .i64 0, .int .i64 1, .int .i64 3, .int .i64 8]) (ok := fun _ => True) (okp := fun _ => True) ?hr ?hp (fun _ hk => hk) trivial (Below.refl _ _) (Nat.le_refl _) (by simp) ?_; (case hd => rfl); (case hg => rfl); (case hr => first | (go_simp; done) | (go_simp; rfl)); (case hp => exact (Reps.c2 (show Kd.M k25 _ _ _ (⟨0, 1⟩ : S25) [.int .i64 0, .int .i64 1] from (k25_mkM _ _ _ (⟨0, 1⟩ : S25) )) (Reps.c2 (show Kd.M k25 _ _ _ (⟨3, 8⟩ : S25) [.int .i64 3, .int .i64 8] from (k25_mkM _ _ _ (⟨3, 8⟩ : S25) )) (Reps.none _ _)))); intro v332 w61 ho62 hb hg_ hnew_; clear hg_ hnew_; (first | rw [← Ny331.out] at ho62 | (simp only [Int.reduceToNat] at ho62; rw [← Ny331.out] at ho62)); have HO333 := sd_ (Kd.R_lower (Kd.R_newB (Kd.R_newB (Kd.R_new' ho62 (Kd.R_lt (by (with_reducible repeat (first | apply Kd.R_alloc | apply Kd.R_drewN | apply Kd.R_drew)); exact HO319.out))) (kk_ BK308.out)) (kk_ BK326.out)) (bz_ (bb_ HB.out (e_ GE304 (e_ GE308 (e_ GE312 (e_ GE326 e0_))))))); replace HO315 := sd_ (Kd.R_below (by (with_reducible repeat (first | apply Kd.R_alloc | apply Kd.R_drewN | apply Kd.R_drew)); exact HO315.out) hb); replace HO319 := sd_ (Kd.R_elder' (by (with_reducible repeat (first | apply Kd.R_alloc | apply Kd.R_drewN | apply Kd.R_drew)); exact HO319.out) (Kd.R_base ho62) hb); replace HO329 := sd_ (Kd.R_below (by (with_reducible repeat (first | apply Kd.R_alloc | apply Kd.R_drewN | apply Kd.R_drew)); exact HO329.out) hb); replace BK304 := kb_ BK304 hb; replace BK308 := kb_ BK308 hb; replace BK312 := kb_ BK312 hb; replace BK326 := kb_ BK326 hb; replace HB := hb_ HB (e_ GE304 (e_ GE308 (e_ GE312 (e_ GE326 e0_)))) hb; clear hb ho62; obtain ⟨Ao63, co63, eo63⟩ := Kd.R_slice HO319.out; subst eo63; obtain ⟨Ao64, co64, eo64⟩ := Kd.R_slice HO333.out; subst eo64) | (go_at_call 31; (with_reducible refine (neumeref07_Rats.calls k _ _ t317 _ _ y331 true _ ?side1 ?side2 ?side3 ?side4 A16.out).mono ?_); (case side1 => repeat (first | exact (Kd.R_reads' HO319.out).2.2 | (with_reducible refine Kd.C_alloc ?_ _) | (with_reducible refine Kd.C_drewN ?_ _) | (with_reducible refine Kd.C_drew ?_))); (case side2 => exact (Kd.R_reads' HO319.out).2.1); (case side3 => repeat (first | exact (Kd.R_reads' HO333.out).2.2 | (with_reducible refine Kd.C_alloc ?_ _) | (with_reducible refine Kd.C_drewN ?_ _) | (with_reducible refine Kd.C_drew ?_))); (case side4 => exact (Kd.R_reads' HO333.out).2.1); rintro e w' ⟨rfl, ⟨nd, rfl⟩⟩; have hcz65_0 : w61.cell? ⟨gb304, 0, none⟩ = some (.int .i64 t301) := (kc_ BK304.out 0).trans rfl; have hcz65_1 : w61.cell? ⟨gb304, 1, none⟩ = some (.int .i64 t302) := (kc_ BK304.out 1).trans rfl; have hfz65_0 := kf_ BK304.out 0; have hfz65_1 := kf_ BK304.out 1) | (go_at_call 17; (with_reducible refine (dur_Name.calls t301 t302 t335 _ A22.out).mono ?_); rintro e w66 ⟨rfl, hb⟩; replace HO315 := sd_ (Kd.R_below (by (with_reducible repeat (first | apply Kd.R_alloc | apply Kd.R_drewN | apply Kd.R_drew)); exact HO315.out) hb); replace HO319 := sd_ (Kd.R_below (by (with_reducible repeat (first | apply Kd.R_alloc | apply Kd.R_drewN | apply Kd.R_drew)); exact HO319.out) hb); replace HO329 := sd_ (Kd.R_below (by (with_reducible repeat (first | apply Kd.R_alloc | apply Kd.R_drewN | apply Kd.R_drew)); exact HO329.out) hb); replace HO333 := sd_ (Kd.R_below (by (with_reducible repeat (first | apply Kd.R_alloc | apply Kd.R_drewN | apply Kd.R_drew)); exact HO333.out) hb); replace BK304 := kb_ BK304 hb; replace BK308 := kb_ BK308 hb; replace BK312 := kb_ BK312 hb; replace BK326 := kb_ BK326 hb; replace HB := hb_ HB (e_ GE304 (e_ GE308 (e_ GE312 (e_ GE326 e0_)))) hb; (try clear hb); (try clear hb2); (try clear hk); (try clear hi); have hcz67_0 : w66.cell? ⟨gb304, 0, none⟩ = some (.int .i64 t301) := (kc_ BK304.out 0).trans rfl; have hcz67_1 : w66.cell? ⟨gb304, 1, none⟩ = some (.int .i64 t302) := (kc_ BK304.out 1).trans rfl; have hfz67_0 := kf_ BK304.out 0; have hfz67_1 := kf_ BK304.out 1) | (go_at_call 19; (with_reducible refine (dur_Head.calls t301 t302 t336 _ A24.out).mono ?_); rintro e w68 ⟨rfl, hb⟩; replace HO315 := sd_ (Kd.R_below (by (with_reducible repeat (first | apply Kd.R_alloc | apply Kd.R_drewN | apply Kd.R_drew)); exact HO315.out) hb); replace HO319 := sd_ (Kd.R_below (by (with_reducible repeat (first | apply Kd.R_alloc | apply Kd.R_drewN | apply Kd.R_drew)); exact HO319.out) hb); replace HO329 := sd_ (Kd.R_below (by (with_reducible repeat (first | apply Kd.R_alloc | apply Kd.R_drewN | apply Kd.R_drew)); exact HO329.out) hb); replace HO333 := sd_ (Kd.R_below (by (with_reducible repeat (first | apply Kd.R_alloc | apply Kd.R_drewN | apply Kd.R_drew)); exact HO333.out) hb); replace BK304 := kb_ BK304 hb; replace BK308 := kb_ BK308 hb; replace BK312 := kb_ BK312 hb; replace BK326 := kb_ BK326 hb; replace HB := hb_ HB (e_ GE304 (e_ GE308 (e_ GE312 (e_ GE326 e0_)))) hb; (try clear hb); (try clear hb2); (try clear hk); (try clear hi); have hcz69_0 : w68.cell? ⟨gb304, 0, none⟩ = some (.int .i64 t301) := (kc_ BK304.out 0).trans rfl; have hcz69_1 : w68.cell? ⟨gb304, 1, none⟩ = some (.int .i64 t302) := (kc_ BK304.out 1).trans rfl; have hfz69_0 := kf_ BK304.out 0; have hfz69_1 := kf_ BK304.out 1) | (go_at_call 21; (with_reducible refine (dur_Rest.calls t301 t302 t337 _ A26.out).mono ?_); rintro e w70 ⟨rfl, hb⟩; replace HO315 := sd_ (Kd.R_below (by (with_reducible repeat (first | apply Kd.R_alloc | apply Kd.R_drewN | apply Kd.R_drew)); exact HO315.out) hb); replace HO319 := sd_ (Kd.R_below (by (with_reducible repeat (first | apply Kd.R_alloc | apply Kd.R_drewN | apply Kd.R_drew)); exact HO319.out) hb); replace HO329 := sd_ (Kd.R_below (by (with_reducible repeat (first | apply Kd.R_alloc | apply Kd.R_drewN | apply Kd.R_drew)); exact HO329.out) hb); replace HO333 := sd_ (Kd.R_below (by (with_reducible repeat (first | apply Kd.R_alloc | apply Kd.R_drewN | apply Kd.R_drew)); exact HO333.out) hb); replace BK304 := kb_ BK304 hb; replace BK308 := kb_ BK308 hb; replace BK312 := kb_ BK312 hb; replace BK326 := kb_ BK326 hb; replace HB := hb_ HB (e_ GE304 (e_ GE308 (e_ GE312 (e_ GE326 e0_)))) hb; (try clear hb); (try clear hb2); (try clear hk); (try clear hi)) | (go_at_call 23; (with_reducible refine (dur_Flags.calls 5 0 t338 _ A28.out).mono ?_); rintro e w71 ⟨rfl, hb⟩; replace HO315 := sd_ (Kd.R_below (by (with_reducible repeat (first | apply Kd.R_alloc | apply Kd.R_drewN | apply Kd.R_drew)); exact HO315.out) hb); replace HO319 := sd_ (Kd.R_below (by (with_reducible repeat (first | apply Kd.R_alloc | apply Kd.R_drewN | apply Kd.R_drew)); exact HO319.out) hb); replace HO329 := sd_ (Kd.R_below (by (with_reducible repeat (first | apply Kd.R_alloc | apply Kd.R_drewN | apply Kd.R_drew)); exact HO329.out) hb); replace HO333 := sd_ (Kd.R_below (by (with_reducible repeat (first | apply Kd.R_alloc | apply Kd.R_drewN | apply Kd.R_drew)); exact HO333.out) hb); replace BK304 := kb_ BK304 hb; replace BK308 := kb_ BK308 hb; replace BK312 := kb_ BK312 hb; replace BK326 := kb_ BK326 hb; replace HB := hb_ HB (e_ GE304 (e_ GE308 (e_ GE312 (e_ GE326 e0_)))) hb; (try clear hb); (try clear hb2); (try clear hk); (try clear hi); have hcz72_0 : w71.cell? ⟨gb304, 0, none⟩ = some (.int .i64 t301) := (kc_ BK304.out 0).trans rfl; have hcz72_1 : w71.cell? ⟨gb304, 1, none⟩ = some (.int .i64 t302) := (kc_ BK304.out 1).trans rfl; have hfz72_0 := kf_ BK304.out 0; have hfz72_1 := kf_ BK304.out 1) | (go_at_call 15; (with_reducible refine (dur_Check.calls t301 t302 true _ A30.out).mono ?_); rintro e w73 ⟨rfl, hb⟩; replace HO315 := sd_ (Kd.R_below (by (with_reducible repeat (first | apply Kd.R_alloc | apply Kd.R_drewN | apply Kd.R_drew)); exact HO315.out) hb); replace HO319 := sd_ (Kd.R_below (by (with_reducible repeat (first | apply Kd.R_alloc | apply Kd.R_drewN | apply Kd.R_drew)); exact HO319.out) hb); replace HO329 := sd_ (Kd.R_below (by (with_reducible repeat (first | apply Kd.R_alloc | apply Kd.R_drewN | apply Kd.R_drew)); exact HO329.out) hb); replace HO333 := sd_ (Kd.R_below (by (with_reducible repeat (first | apply Kd.R_alloc | apply Kd.R_drewN | apply Kd.R_drew)); exact HO333.out) hb); replace BK304 := kb_ BK304 hb; replace BK308 := kb_ BK308 hb; replace BK312 := kb_ BK312 hb; replace BK326 := kb_ BK326 hb; replace HB := hb_ HB (e_ GE304 (e_ GE308 (e_ GE312 (e_ GE326 e0_)))) hb; (try clear hb); (try clear hb2); (try clear hk); (try clear hi)) | (go_at_call 32; (with_reducible refine (dur_Meter.calls 3 4 t340 _ A32.out).mono ?_); rintro e w74 ⟨rfl, hb⟩; replace HO315 := sd_ (Kd.R_below (by (with_reducible repeat (first | apply Kd.R_alloc | apply Kd.R_drewN | apply Kd.R_drew)); exact HO315.out) hb); replace HO319 := sd_ (Kd.R_below (by (with_reducible repeat (first | apply Kd.R_alloc | apply Kd.R_drewN | apply Kd.R_drew)); exact HO319.out) hb); replace HO329 := sd_ (Kd.R_below (by (with_reducible repeat (first | apply Kd.R_alloc | apply Kd.R_drewN | apply Kd.R_drew)); exact HO329.out) hb); replace HO333 := sd_ (Kd.R_below (by (with_reducible repeat (first | apply Kd.R_alloc | apply Kd.R_drewN | apply Kd.R_drew)); exact HO333.out) hb); replace BK304 := kb_ BK304 hb; replace BK308 := kb_ BK308 hb; replace BK312 := kb_ BK312 hb; replace BK326 := kb_ BK326 hb; replace HB := hb_ HB (e_ GE304 (e_ GE308 (e_ GE312 (e_ GE326 e0_)))) hb; (try clear hb); (try clear hb2); (try clear hk); (try clear hi)))
                  go_ret
                  exact ⟨by first | rfl | (simp [errW_none, errW_some] <;> rfl) | (simp [*, errW_none, errW_some] <;> rfl), by repeat (first | (with_reducible first | exact HB.out | apply ba_ | apply pd_ | apply d1_ | refine bs_ ?_ GE304.out | refine bs_ ?_ GE308.out | refine bs_ ?_ GE312.out | refine bs_ ?_ GE326.out) | exact HB.out)⟩
                 ·replace c31 := bf_ c31
                  subst c31
                  have H1 : (some false) = some r := by rw [if_neg (show ¬ (false = true) by decide)] at H; exact H
                  clear H; have H := H1; clear H1
                  exact absurd ((Option.some.inj H).trans hxt.out) (by decide)
                ·rw [if_neg c29] at H
                 have c29b0 : (t338 == 3) = false := beq_eq_false_iff_ne.mpr c29
                 have c29b1 : (t338 != 3) = true := bne_iff_ne.mpr c29
                 exact absurd ((Option.some.inj H).trans hxt.out) (by decide)
               ·rw [if_neg c27] at H
                have c27b0 : (t337 == 8) = false := beq_eq_false_iff_ne.mpr c27
                have c27b1 : (t337 != 8) = true := bne_iff_ne.mpr c27
                exact absurd ((Option.some.inj H).trans hxt.out) (by decide)
              ·rw [if_neg c25] at H
               have c25b0 : (t336 == 4) = false := beq_eq_false_iff_ne.mpr c25
               have c25b1 : (t336 != 4) = true := bne_iff_ne.mpr c25
               exact absurd ((Option.some.inj H).trans hxt.out) (by decide)
             ·rw [if_neg c23] at H
              have c23b0 : (t335.toList == ([52, 46] : List UInt8)) = false := beq_eq_false_iff_ne.mpr c23
              have c23b1 : (t335.toList != ([52, 46] : List UInt8)) = true := bne_iff_ne.mpr c23
              exact absurd ((Option.some.inj H).trans hxt.out) (by decide)
            ·rw [if_neg c21] at H
             have c21b0 : (t325 == 2) = false := beq_eq_false_iff_ne.mpr c21
             have c21b1 : (t325 != 2) = true := bne_iff_ne.mpr c21
             exact absurd ((Option.some.inj H).trans hxt.out) (by decide)
           ·rw [if_neg c20] at H
            have c20b0 : (t322 == 0) = false := beq_eq_false_iff_ne.mpr c20
            have c20b1 : (t322 != 0) = true := bne_iff_ne.mpr c20
            exact absurd ((Option.some.inj H).trans hxt.out) (by decide)
          ·rw [if_neg c19] at H
           have c19b0 : (t321 == 1) = false := beq_eq_false_iff_ne.mpr c19
           have c19b1 : (t321 != 1) = true := bne_iff_ne.mpr c19
           exact absurd ((Option.some.inj H).trans hxt.out) (by decide)
         ·rw [if_neg c18] at H
          have c18b0 : (t320 == 0) = false := beq_eq_false_iff_ne.mpr c18
          have c18b1 : (t320 != 0) = true := bne_iff_ne.mpr c18
          exact absurd ((Option.some.inj H).trans hxt.out) (by decide)
        ·replace c17 := bf_ c17
         subst c17
         have H1 : (some false) = some r := by rw [if_neg (show ¬ (false = true) by decide)] at H; exact H
         clear H; have H := H1; clear H1
         exact absurd ((Option.some.inj H).trans hxt.out) (by decide)
       ·replace c15 := bf_ c15
        subst c15
        have H1 : (some false) = some r := by rw [if_neg (show ¬ (false = true) by decide)] at H; exact H
        clear H; have H := H1; clear H1
        exact absurd ((Option.some.inj H).trans hxt.out) (by decide)
      ·replace c14 := bf_ c14
       subst c14
       have H1 : (some false) = some r := by rw [if_neg (show ¬ (false = true) by decide)] at H; exact H
       clear H; have H := H1; clear H1
       exact absurd ((Option.some.inj H).trans hxt.out) (by decide)
     ·replace c12 := bf_ c12
      subst c12
      have H1 : (some false) = some r := by rw [if_neg (show ¬ (false = true) by decide)] at H; exact H
      clear H; have H := H1; clear H1
      exact absurd ((Option.some.inj H).trans hxt.out) (by decide)
    ·rw [if_neg c11] at H
     have c11b0 : (t309 == t301 && (t310 == t302)) = false := by simpa using c11
     (try (have c11b1 : decide (t309 = t301 && (t310 == t302)) = false := by simpa using c11))
     (try (have c11b2 : (t309 == t301 && (t310 == t302)) = false := by simpa using c11))
     (try (have c11b3 : ¬ (t309 = t301 && (t310 == t302)) := by simpa using c11))
     clear c11
     exact absurd ((Option.some.inj H).trans hxt.out) (by decide)
   ·rw [if_neg c10] at H
    have c10b0 : (t307 == 0) = false := beq_eq_false_iff_ne.mpr c10
    have c10b1 : (t307 != 0) = true := bne_iff_ne.mpr c10
    exact absurd ((Option.some.inj H).trans hxt.out) (by decide)
  ·rw [if_neg c9] at H
   have c9b0 : (t305 == 3 && (t306 == 8)) = false := by simpa using c9
   (try (have c9b1 : decide (t305 = 3 && (t306 == 8)) = false := by simpa using c9))
   (try (have c9b2 : (t305 == 3 && (t306 == 8)) = false := by simpa using c9))
   (try (have c9b3 : ¬ (t305 = 3 && (t306 == 8)) := by simpa using c9))
   clear c9
   exact absurd ((Option.some.inj H).trans hxt.out) (by decide)
 ·replace c8 := bf_ c8
  subst c8
  have H1 : (some false) = some r := by rw [if_neg (show ¬ (false = true) by decide)] at H; exact H
  clear H; have H := H1; clear H1
  exact absurd ((Option.some.inj H).trans hxt.out) (by decide)
theorem neumelaw07_heads.at : neumelaw07_heads.f 60 = some true := by decide +kernel
theorem neumelaw07_heads.is : ∀ k r, neumelaw07_heads.f k = some r → r = true := by
 intro k r h
 exact Option.some.inj ((at_rounds neumelaw07_heads.mono (Nat.le_max_left k 60) h).symm.trans (at_rounds neumelaw07_heads.mono (Nat.le_max_right k 60) neumelaw07_heads.at))
theorem neumelaw07_heads.calls (k : Nat)  (r : Bool) (w : World) (hE : Aside0 (LaidE w)) (h : neumelaw07_heads.f k  = some r) :
  Calls Tryz.prog 5 #[] w fun e w' => e = .returned (.bool r) ∧ Below w.heap.size w w' := neumelaw07_heads.callsT k r w hE ⟨neumelaw07_heads.is k r h⟩ h

/-! ### neumeref02_gcd: function 69 -/
def neumeref02_gcd.l0 : Nat → Int → Int → Option (Int)
 | 0, _, _ => none
 | k + 1, x0, x1 => if x1 = 0 then (some x0) else (neumeref02_gcd.l0 k x1 (Int.tmod x0 x1))
def neumeref02_gcd.f (k : Nat) (a0 : Int) (a1 : Int) : Option (Int) := neumeref02_gcd.l0 k a0 a1
theorem neumeref02_gcd.mono_l : ∀ k, (∀ y0 y1, LeO (neumeref02_gcd.l0 k y0 y1) (neumeref02_gcd.l0 (k + 1) y0 y1))
 | 0 => fun _ _ r h => by simp [neumeref02_gcd.l0] at h
 | k + 1 => by
  have ih0 := neumeref02_gcd.mono_l k
  ·intro y0 y1
   unfold neumeref02_gcd.l0
   repeat' first
   | (with_reducible exact ih0 _ _)
   | (with_reducible exact LeO.refl _)
   | (with_reducible exact LeO.none _)
   | (with_reducible refine LeO.ite ?_ ?_)
   | (with_reducible refine LeO.bind ?_ (fun _ => ?_))
   | exact ih0 _ _
   | exact LeO.none _
   | refine LeO.ite ?_ ?_
   | refine LeO.bind ?_ (fun _ => ?_)
theorem neumeref02_gcd.mono : ∀ a0 a1 k, LeO (neumeref02_gcd.f k a0 a1) (neumeref02_gcd.f (k + 1) a0 a1) := by
 intro a0 a1 k
 have ih0 := neumeref02_gcd.mono_l k
 unfold neumeref02_gcd.f
 repeat' first
   | (with_reducible exact ih0 _ _)
   | (with_reducible exact LeO.refl _)
   | (with_reducible exact LeO.none _)
   | (with_reducible refine LeO.ite ?_ ?_)
   | (with_reducible refine LeO.bind ?_ (fun _ => ?_))
   | exact ih0 _ _
   | exact LeO.none _
   | refine LeO.ite ?_ ?_
   | refine LeO.bind ?_ (fun _ => ?_)
set_option maxHeartbeats 8000000 in
set_option maxRecDepth 100000 in
theorem neumeref02_gcd.calls (k : Nat) (a0 : Int) (a1 : Int) (r : Int) (w : World) (h : neumeref02_gcd.f k a0 a1 = some r) :
  Calls Tryz.prog 69 #[.int .i64 a0, .int .i64 a1] w fun e w' => e = .returned (.int .i64 r) ∧ Drawn0 w w' := by
 have H : (neumeref02_gcd.l0 k a0 a1) = some r := h
 clear h
 have H' := sd_ H
 clear H
 go_enter Tryz.func69, Tryz.ntmps69
 go_wp2
 repeat (go_quiet (fail); try go_wp2)
 go_loopg [0, 1] k (fun kq v0 v1 w' => ∃ (x0_1 : Int) (x1_1 : Int), v0 = .int .i64 x0_1 ∧ v1 = .int .i64 x1_1 ∧ Aside0 (neumeref02_gcd.l0 kq x0_1 x1_1 = some r) ∧ Aside0 (kq ≤ k) ∧ Drawn0 w w')
 case atStart => exact ⟨(a0), (a1), (by first | rfl | (simp; done) | (simp [*]; done) | (simp [bne]; done)), (by first | rfl | (simp; done) | (simp [*]; done) | (simp [bne]; done)), H', ⟨Nat.le_refl _⟩, by repeat (first | exact Drawn0.refl _ | apply Drawn0.step)⟩
 case round =>
  clear H'
  try clear p2
  obtain ⟨x0_1, x1_1, rfl, rfl, HA, HK1, ⟨m1, rfl⟩⟩ := hrel
  cases gk with
  | zero => exact absurd HA.out (by simp [neumeref02_gcd.l0])
  | succ k1 =>
   have H := HA.out
   clear HA
   simp only [neumeref02_gcd.l0] at H
   by_cases c3 : x1_1 = 0
   ·rw [if_pos c3] at H
    have c3b0 : (x1_1 == 0) = true := beq_iff_eq.mpr c3
    have c3b1 : (x1_1 != 0) = false := bne_eq_false_iff_eq.mpr c3
    clear c3
    obtain rfl := Option.some.inj H
    go_wp2
    repeat (go_quiet (fail); try go_wp2)
    go_ret
    exact ⟨by first | rfl | (simp; done) | (simp [*]; done), by repeat (first | exact Drawn0.refl _ | apply Drawn0.step)⟩
   ·rw [if_neg c3] at H
    have c3b0 : (x1_1 == 0) = false := beq_eq_false_iff_ne.mpr c3
    have c3b1 : (x1_1 != 0) = true := bne_iff_ne.mpr c3
    have H' := sd_ H
    clear H
    go_wp2
    repeat (go_quiet (fail); try go_wp2)
    go_roundg k1
    case measure => have := HK1.out; omega
    case rel => exact ⟨(x1_1), (Int.tmod x0_1 x1_1), (by first | rfl | (simp; done) | (simp [*]; done) | (simp [bne]; done)), (by first | rfl | (simp; done) | (simp [*]; done) | (simp [bne]; done)), H', ⟨by have := HK1.out; omega⟩, by repeat (first | exact Drawn0.refl _ | apply Drawn0.step)⟩

/-! ### neumeref02_abs: function 70 -/
def neumeref02_abs.f (a0 : Int) : Option (Int) := some (mx a0 (wrap64 (-a0)))
set_option maxHeartbeats 8000000 in
set_option maxRecDepth 100000 in
theorem neumeref02_abs.calls (a0 : Int) (r : Int) (w : World) (h : neumeref02_abs.f a0 = some r) :
  Calls Tryz.prog 70 #[.int .i64 a0] w fun e w' => e = .returned (.int .i64 r) ∧ Below w.heap.size w w' := by
 have HB := sd_ (Below.refl w.heap.size w)
 have H : (some (mx a0 (wrap64 (-a0)))) = some r := h
 clear h
 obtain ⟨ji2, hji2⟩ : ∃ j_ : Int, (mx a0 (wrap64 (-a0))) = j_ := ⟨_, rfl⟩
 replace H : (some ji2) = some r := by first | (rw [hji2] at H; exact H) | (simp only [hji2] at H ⊢; exact H)
 have hji2_ : (if a0 < (wrap64 (-a0)) then (wrap64 (-a0)) else a0) = ji2 := hji2
 obtain rfl := Option.some.inj H
 go_enter Tryz.func70, Tryz.ntmps70
 go_wp2
 go_ret
 exact ⟨by first | rfl | (simp [errW_none, errW_some] <;> rfl) | (simp only [← hji2]; first | rfl | (simp [errW_none, errW_some] <;> rfl)) | (simp [*, errW_none, errW_some] <;> rfl), by repeat (first | (with_reducible first | exact HB.out | apply ba_ | apply pd_ | apply d1_) | exact HB.out)⟩

end Go.Proofs.YtdiccfonlojlfaaGreatDoor.P
