-- Written by a program of this session (wip/tools/xprint.py, over the kit's print): Lean checks it.
import Derived.Test.YtcokemaiploejaaDoorPx0
namespace Go.Proofs.YtcokemaiploejaaDoor.P
open Go.RowKit Go.Proofs.YtcokemaiploejaaDoorW.PrintWords Go.Proofs.YtcokemaiploejaaDoorW.PrintLast Go.Proofs.YtcokemaiploejaaDoorW.PrintMore
attribute [local go_sem] max2_int min2_int max_two min_two max_three min_three max_four min_four   -- for this text's walks alone
set_option linter.unusedVariables false
set_option linter.unusedSimpArgs false

/-! ### neumeref17_Fits: function 33 -/
def neumeref17_Fits.l0 : Nat → List Int → Int → Option (Bool)
 | 0, _, _ => none
 | k + 1, x0, x3 => if x3 < (x0.length : Int) then (if 0 ≤ x3 then (if (rd x0 x3) < (-200) then (some false) else (if (rd x0 x3) > 200 then (some false) else (neumeref17_Fits.l0 k x0 (wrap64 (x3 + 1))))) else (none)) else (if (x0.length : Int) ≥ 1 then (some (decide ((x0.length : Int) ≤ 16))) else (some false))
def neumeref17_Fits.f (k : Nat) (l0 : List Int) : Option (Bool) := neumeref17_Fits.l0 k l0 0
theorem neumeref17_Fits.mono_l : ∀ k, (∀ y0 y1, LeO (neumeref17_Fits.l0 k y0 y1) (neumeref17_Fits.l0 (k + 1) y0 y1))
 | 0 => fun _ _ r h => by simp [neumeref17_Fits.l0] at h
 | k + 1 => by
  have ih0 := neumeref17_Fits.mono_l k
  ·intro y0 y1
   unfold neumeref17_Fits.l0
   repeat' first
   | (with_reducible exact ih0 _ _)
   | (with_reducible exact LeO.refl _)
   | (with_reducible exact LeO.none _)
   | (with_reducible refine LeO.ite ?_ ?_)
   | (with_reducible refine LeO.bind ?_ (fun _ => ?_))
   | exact ih0 _ _
   | exact LeO.none _
   | refine LeO.ite ?_ ?_
   | refine LeO.bind ?_ (fun _ => ?_)
theorem neumeref17_Fits.mono : ∀ a0 k, LeO (neumeref17_Fits.f k a0) (neumeref17_Fits.f (k + 1) a0) := by
 intro a0 k
 have ih0 := neumeref17_Fits.mono_l k
 unfold neumeref17_Fits.f
 repeat' first
   | (with_reducible exact ih0 _ _)
   | (with_reducible exact LeO.refl _)
   | (with_reducible exact LeO.none _)
   | (with_reducible refine LeO.ite ?_ ?_)
   | (with_reducible refine LeO.bind ?_ (fun _ => ?_))
   | exact ih0 _ _
   | exact LeO.none _
   | refine LeO.ite ?_ ?_
   | refine LeO.bind ?_ (fun _ => ?_)
set_option maxHeartbeats 8000000 in
set_option maxRecDepth 100000 in
theorem neumeref17_Fits.calls (k : Nat) (A0 : Option Addr) (c0 : Nat) (l0 : List Int) (r : Bool) (w : World) (hr0 : Kd.C (Kd.int .i64) w A0 l0.length l0) (hc0 : l0.length ≤ c0) (h : neumeref17_Fits.f k l0 = some r) :
  Calls Tryd.prog 33 #[.slice A0 l0.length c0] w fun e w' => e = .returned (.bool r) ∧ Drawn0 w w' := by
 have HR0 := sd_ hr0
 have HC0 := sd_ hc0
 clear hr0 hc0
 have H : (neumeref17_Fits.l0 k l0 0) = some r := h
 clear h
 have H' := sd_ H
 clear H
 go_enter Tryd.func33, Tryd.ntmps33
 go_wp2
 go_loopg [3] k (fun kq v3 w' => ∃ (x3_1 : Int), v3 = .int .i64 x3_1 ∧ Aside0 (neumeref17_Fits.l0 kq l0 x3_1 = some r) ∧ Aside0 (kq ≤ k) ∧ Drawn0 w w')
 case atStart => exact ⟨(0), (by first | rfl | (simp; done) | (simp [*]; done) | (simp [bne]; done)), H', ⟨Nat.le_refl _⟩, by repeat (first | exact Drawn0.refl _ | apply Drawn0.step)⟩
 case round =>
  clear H'
  obtain ⟨x3_1, rfl, HA, HK1, ⟨m1, rfl⟩⟩ := hrel
  cases gk with
  | zero => exact absurd HA.out (by simp [neumeref17_Fits.l0])
  | succ k1 =>
   have H := HA.out
   clear HA
   simp only [neumeref17_Fits.l0] at H
   by_cases c2 : x3_1 < (l0.length : Int)
   ·rw [if_pos c2] at H
    have c2b0 : decide (x3_1 < (l0.length : Int)) = true := dt_ c2
    clear c2
    by_cases c3 : 0 ≤ x3_1
    ·rw [if_pos c3] at H
     have c3b0 : decide (0 ≤ x3_1) = true := dt_ c3
     clear c3
     by_cases c4 : (rd l0 x3_1) < (-200)
     ·rw [if_pos c4] at H
      have c4b0 : decide ((rd l0 x3_1) < (-200)) = true := dt_ c4
      clear c4
      obtain rfl := Option.some.inj H
      have p256 : 0 ≤ (x3_1 : Int) := od_ (by first | (with_reducible assumption) | assumption)
      have q256 : x3_1 < (l0.length : Int) := od_ (by first | (with_reducible assumption) | assumption)
      obtain ⟨ad256, e256, hx256_0⟩ := Kd.at_int HR0.out x3_1 p256 q256
      cases e256
      replace p256 := eq_true p256
      replace q256 := eq_true q256
      go_wp2
      go_ret
      exact ⟨by first | rfl | (simp; done) | (simp [*]; done), by repeat (first | exact Drawn0.refl _ | apply Drawn0.step)⟩
     ·rw [if_neg c4] at H
      have c4b0 : decide ((rd l0 x3_1) < (-200)) = false := df_ c4
      clear c4
      by_cases c5 : (rd l0 x3_1) > 200
      ·rw [if_pos c5] at H
       have c5b0 : decide (200 < (rd l0 x3_1)) = true := dt_ c5
       clear c5
       obtain rfl := Option.some.inj H
       have p256 : 0 ≤ (x3_1 : Int) := od_ (by first | (with_reducible assumption) | assumption)
       have q256 : x3_1 < (l0.length : Int) := od_ (by first | (with_reducible assumption) | assumption)
       obtain ⟨ad256, e256, hx256_0⟩ := Kd.at_int HR0.out x3_1 p256 q256
       cases e256
       replace p256 := eq_true p256
       replace q256 := eq_true q256
       have p257 : 0 ≤ (x3_1 : Int) := od_ (by first | (with_reducible assumption) | assumption)
       have q257 : x3_1 < (l0.length : Int) := od_ (by first | (with_reducible assumption) | assumption)
       obtain ⟨ad257, e257, hx257_0⟩ := Kd.at_int HR0.out x3_1 p257 q257
       obtain rfl : ad256 = ad257 := (by injection e257)
       replace p257 := eq_true p257
       replace q257 := eq_true q257
       go_wp2
       go_ret
       exact ⟨by first | rfl | (simp; done) | (simp [*]; done), by repeat (first | exact Drawn0.refl _ | apply Drawn0.step)⟩
      ·rw [if_neg c5] at H
       have c5b0 : decide (200 < (rd l0 x3_1)) = false := df_ c5
       clear c5
       have H' := sd_ H
       clear H
       have p256 : 0 ≤ (x3_1 : Int) := od_ (by first | (with_reducible assumption) | assumption)
       have q256 : x3_1 < (l0.length : Int) := od_ (by first | (with_reducible assumption) | assumption)
       obtain ⟨ad256, e256, hx256_0⟩ := Kd.at_int HR0.out x3_1 p256 q256
       cases e256
       replace p256 := eq_true p256
       replace q256 := eq_true q256
       have p257 : 0 ≤ (x3_1 : Int) := od_ (by first | (with_reducible assumption) | assumption)
       have q257 : x3_1 < (l0.length : Int) := od_ (by first | (with_reducible assumption) | assumption)
       obtain ⟨ad257, e257, hx257_0⟩ := Kd.at_int HR0.out x3_1 p257 q257
       obtain rfl : ad256 = ad257 := (by injection e257)
       replace p257 := eq_true p257
       replace q257 := eq_true q257
       go_wp2
       go_roundg k1
       case measure => have := HK1.out; omega
       case rel => exact ⟨(wrap64 (x3_1 + 1)), (by first | rfl | (simp; done) | (simp [*]; done) | (simp [bne]; done)), H', ⟨by have := HK1.out; omega⟩, by repeat (first | exact Drawn0.refl _ | apply Drawn0.step)⟩
    ·rw [if_neg c3] at H
     exact absurd H (by simp)
   ·rw [if_neg c2] at H
    have c2b0 : decide (x3_1 < (l0.length : Int)) = false := df_ c2
    clear c2
    by_cases c6 : (l0.length : Int) ≥ 1
    ·rw [if_pos c6] at H
     have c6b0 : decide (1 ≤ (l0.length : Int)) = true := dt_ c6
     have c6b1 : decide (1 ≤ l0.length) = true := dt_ (by omega)
     clear c6
     obtain rfl := Option.some.inj H
     go_wp2
     go_ret
     exact ⟨by first | rfl | (simp; done) | (simp [*]; done), by repeat (first | exact Drawn0.refl _ | apply Drawn0.step)⟩
    ·rw [if_neg c6] at H
     have c6b0 : decide (1 ≤ (l0.length : Int)) = false := df_ c6
     have c6b1 : decide (1 ≤ l0.length) = false := df_ (by omega)
     clear c6
     obtain rfl := Option.some.inj H
     go_wp2
     go_ret
     exact ⟨by first | rfl | (simp; done) | (simp [*]; done), by repeat (first | exact Drawn0.refl _ | apply Drawn0.step)⟩

/-! ### neumeref23_fits: function 23 -/
def neumeref23_fits.l0 : Nat → List Int → Int → Option (Bool)
 | 0, _, _ => none
 | k + 1, x0, x3 => if x3 < (x0.length : Int) then (if 0 ≤ x3 then (if 0 ≤ (wrap64 (x3 - 1)) then (if (wrap64 (x3 - 1)) < (x0.length : Int) then (if (rd x0 x3) < (rd x0 (wrap64 (x3 - 1))) then (some false) else (neumeref23_fits.l0 k x0 (wrap64 (x3 + 1)))) else (none)) else (none)) else (none)) else (some true)
def neumeref23_fits.f (k : Nat) (l0 : List Int) : Option (Bool) := (neumeref17_Fits.f k l0).bind fun t258 => (if t258 = true then (neumeref23_fits.l0 k l0 1) else (some false))
theorem neumeref23_fits.mono_l : ∀ k, (∀ y0 y1, LeO (neumeref23_fits.l0 k y0 y1) (neumeref23_fits.l0 (k + 1) y0 y1))
 | 0 => fun _ _ r h => by simp [neumeref23_fits.l0] at h
 | k + 1 => by
  have ih0 := neumeref23_fits.mono_l k
  ·intro y0 y1
   unfold neumeref23_fits.l0
   repeat' first
   | (with_reducible exact ih0 _ _)
   | (with_reducible exact neumeref17_Fits.mono _ _)
   | (with_reducible exact LeO.refl _)
   | (with_reducible exact LeO.none _)
   | (with_reducible refine LeO.ite ?_ ?_)
   | (with_reducible refine LeO.bind ?_ (fun _ => ?_))
   | exact ih0 _ _
   | exact neumeref17_Fits.mono _ _
   | exact LeO.none _
   | refine LeO.ite ?_ ?_
   | refine LeO.bind ?_ (fun _ => ?_)
theorem neumeref23_fits.mono : ∀ a0 k, LeO (neumeref23_fits.f k a0) (neumeref23_fits.f (k + 1) a0) := by
 intro a0 k
 have ih0 := neumeref23_fits.mono_l k
 unfold neumeref23_fits.f
 repeat' first
   | (with_reducible exact ih0 _ _)
   | (with_reducible exact neumeref17_Fits.mono _ _)
   | (with_reducible exact LeO.refl _)
   | (with_reducible exact LeO.none _)
   | (with_reducible refine LeO.ite ?_ ?_)
   | (with_reducible refine LeO.bind ?_ (fun _ => ?_))
   | exact ih0 _ _
   | exact neumeref17_Fits.mono _ _
   | exact LeO.none _
   | refine LeO.ite ?_ ?_
   | refine LeO.bind ?_ (fun _ => ?_)
set_option maxHeartbeats 8000000 in
set_option maxRecDepth 100000 in
theorem neumeref23_fits.calls (k : Nat) (A0 : Option Addr) (c0 : Nat) (l0 : List Int) (r : Bool) (w : World) (hr0 : Kd.C (Kd.int .i64) w A0 l0.length l0) (hc0 : l0.length ≤ c0) (h : neumeref23_fits.f k l0 = some r) :
  Calls Tryd.prog 23 #[.slice A0 l0.length c0] w fun e w' => e = .returned (.bool r) ∧ Drawn0 w w' := by
 have HR0 := sd_ hr0
 have HC0 := sd_ hc0
 clear hr0 hc0
 have H : ((neumeref17_Fits.f k l0).bind fun t258 => (if t258 = true then (neumeref23_fits.l0 k l0 1) else (some false))) = some r := h
 clear h
 replace H := ob_ H
 obtain ⟨t258, A20, H⟩ := H
 replace H : (if t258 = true then (neumeref23_fits.l0 k l0 1) else (some false)) = some r := H
 have A2 := sd_ A20
 clear A20
 by_cases c3 : t258 = true
 ·subst c3
  have H1 : (neumeref23_fits.l0 k l0 1) = some r := by rw [if_pos rfl] at H; exact H
  clear H; have H := H1; clear H1
  have H' := sd_ H
  clear H
  go_enter Tryd.func23, Tryd.ntmps23
  go_wp2_with (first | (go_at_call 33; (with_reducible refine (neumeref17_Fits.calls k _ _ l0 true _ ?side1 ?side2 A2.out).mono ?_); (case side1 => repeat (first | exact HR0.out | (with_reducible refine Kd.C_alloc ?_ _) | (with_reducible refine Kd.C_drewN ?_ _) | (with_reducible refine Kd.C_drew ?_))); (case side2 => exact HC0.out); rintro e w' ⟨rfl, ⟨nd, rfl⟩⟩; (try first | exact ⟨rfl, _, World.drewN_drewN _ _ _⟩ | exact ⟨rfl, _, Eq.trans (World.drewN_drewN _ _ _) (congrArg (World.drewN _) (Nat.add_assoc _ _ _))⟩)))
  repeat (go_quiet (first | (go_at_call 33; (with_reducible refine (neumeref17_Fits.calls k _ _ l0 true _ ?side1 ?side2 A2.out).mono ?_); (case side1 => repeat (first | exact HR0.out | (with_reducible refine Kd.C_alloc ?_ _) | (with_reducible refine Kd.C_drewN ?_ _) | (with_reducible refine Kd.C_drew ?_))); (case side2 => exact HC0.out); rintro e w' ⟨rfl, ⟨nd, rfl⟩⟩; (try first | exact ⟨rfl, _, World.drewN_drewN _ _ _⟩ | exact ⟨rfl, _, Eq.trans (World.drewN_drewN _ _ _) (congrArg (World.drewN _) (Nat.add_assoc _ _ _))⟩))); try go_wp2_with (first | (go_at_call 33; (with_reducible refine (neumeref17_Fits.calls k _ _ l0 true _ ?side1 ?side2 A2.out).mono ?_); (case side1 => repeat (first | exact HR0.out | (with_reducible refine Kd.C_alloc ?_ _) | (with_reducible refine Kd.C_drewN ?_ _) | (with_reducible refine Kd.C_drew ?_))); (case side2 => exact HC0.out); rintro e w' ⟨rfl, ⟨nd, rfl⟩⟩; (try first | exact ⟨rfl, _, World.drewN_drewN _ _ _⟩ | exact ⟨rfl, _, Eq.trans (World.drewN_drewN _ _ _) (congrArg (World.drewN _) (Nat.add_assoc _ _ _))⟩))))
  go_loopg [3] k (fun kq v3 w' => ∃ (x3_1 : Int), v3 = .int .i64 x3_1 ∧ Aside0 (neumeref23_fits.l0 kq l0 x3_1 = some r) ∧ Aside0 (kq ≤ k) ∧ Drawn0 w w')
  case atStart => exact ⟨(1), (by first | rfl | (simp; done) | (simp [*]; done) | (simp [bne]; done)), H', ⟨Nat.le_refl _⟩, by repeat (first | exact Drawn0.refl _ | apply Drawn0.step)⟩
  case round =>
   clear H'
   try clear c2; try clear p2; try clear c3
   obtain ⟨x3_1, rfl, HA, HK1, ⟨m1, rfl⟩⟩ := hrel
   cases gk with
   | zero => exact absurd HA.out (by simp [neumeref23_fits.l0])
   | succ k1 =>
    have H := HA.out
    clear HA
    simp only [neumeref23_fits.l0] at H
    by_cases c4 : x3_1 < (l0.length : Int)
    ·rw [if_pos c4] at H
     have c4b0 : decide (x3_1 < (l0.length : Int)) = true := dt_ c4
     clear c4
     by_cases c5 : 0 ≤ x3_1
     ·rw [if_pos c5] at H
      have c5b0 : decide (0 ≤ x3_1) = true := dt_ c5
      clear c5
      obtain ⟨ji6, hji6⟩ : ∃ j_ : Int, (wrap64 (x3_1 - 1)) = j_ := ⟨_, rfl⟩
      replace H : (if 0 ≤ (ji6) then (if (ji6) < (l0.length : Int) then (if (rd l0 x3_1) < (rd l0 (ji6)) then (some false) else (neumeref23_fits.l0 k1 l0 (wrap64 (x3_1 + 1)))) else (none)) else (none)) = some r := by first | (rw [hji6] at H; exact H) | (simp only [hji6] at H ⊢; exact H)
      have hji6w : (IntKind.i64.wrap (x3_1 - 1)) = ji6 := (i64_w _).trans hji6
      by_cases c7 : 0 ≤ (ji6)
      ·rw [if_pos c7] at H
       have c7b0 : decide (0 ≤ (ji6)) = true := dt_ c7
       clear c7
       by_cases c8 : (ji6) < (l0.length : Int)
       ·rw [if_pos c8] at H
        have c8b0 : decide ((ji6) < (l0.length : Int)) = true := dt_ c8
        clear c8
        by_cases c9 : (rd l0 x3_1) < (rd l0 (ji6))
        ·rw [if_pos c9] at H
         have c9b0 : decide ((rd l0 x3_1) < (rd l0 (ji6))) = true := dt_ c9
         clear c9
         obtain rfl := Option.some.inj H
         have p259 : 0 ≤ (x3_1 : Int) := od_ (by first | (with_reducible assumption) | assumption)
         have q259 : x3_1 < (l0.length : Int) := od_ (by first | (with_reducible assumption) | assumption)
         obtain ⟨ad259, e259, hx259_0⟩ := Kd.at_int HR0.out x3_1 p259 q259
         cases e259
         replace p259 := eq_true p259
         replace q259 := eq_true q259
         have p260 : 0 ≤ ((ji6) : Int) := od_ (by first | (with_reducible assumption) | assumption)
         have q260 : (ji6) < (l0.length : Int) := od_ (by first | (with_reducible assumption) | assumption)
         obtain ⟨ad260, e260, hx260_0⟩ := Kd.at_int HR0.out (ji6) p260 q260
         obtain rfl : ad259 = ad260 := (by injection e260)
         replace p260 := eq_true p260
         replace q260 := eq_true q260
         go_wp2
         repeat (go_quiet (fail); try go_wp2)
         go_ret
         exact ⟨by first | rfl | (simp; done) | (simp only [← hji6] <;> (first | rfl | simp)) | (simp [*]; done), by repeat (first | exact Drawn0.refl _ | apply Drawn0.step)⟩
        ·rw [if_neg c9] at H
         have c9b0 : decide ((rd l0 x3_1) < (rd l0 (ji6))) = false := df_ c9
         clear c9
         have H' := sd_ H
         clear H
         have p259 : 0 ≤ (x3_1 : Int) := od_ (by first | (with_reducible assumption) | assumption)
         have q259 : x3_1 < (l0.length : Int) := od_ (by first | (with_reducible assumption) | assumption)
         obtain ⟨ad259, e259, hx259_0⟩ := Kd.at_int HR0.out x3_1 p259 q259
         cases e259
         replace p259 := eq_true p259
         replace q259 := eq_true q259
         have p260 : 0 ≤ ((ji6) : Int) := od_ (by first | (with_reducible assumption) | assumption)
         have q260 : (ji6) < (l0.length : Int) := od_ (by first | (with_reducible assumption) | assumption)
         obtain ⟨ad260, e260, hx260_0⟩ := Kd.at_int HR0.out (ji6) p260 q260
         obtain rfl : ad259 = ad260 := (by injection e260)
         replace p260 := eq_true p260
         replace q260 := eq_true q260
         go_wp2
         repeat (go_quiet (fail); try go_wp2)
         go_roundg k1
         case measure => have := HK1.out; omega
         case rel => exact ⟨(wrap64 (x3_1 + 1)), (by first | rfl | (simp; done) | (simp [*]; done) | (simp [bne]; done)), H', ⟨by have := HK1.out; omega⟩, by repeat (first | exact Drawn0.refl _ | apply Drawn0.step)⟩
       ·rw [if_neg c8] at H
        exact absurd H (by simp)
      ·rw [if_neg c7] at H
       exact absurd H (by simp)
     ·rw [if_neg c5] at H
      exact absurd H (by simp)
    ·rw [if_neg c4] at H
     have c4b0 : decide (x3_1 < (l0.length : Int)) = false := df_ c4
     clear c4
     obtain rfl := Option.some.inj H
     go_wp2
     repeat (go_quiet (fail); try go_wp2)
     go_ret
     exact ⟨by first | rfl | (simp; done) | (simp [*]; done), by repeat (first | exact Drawn0.refl _ | apply Drawn0.step)⟩
 ·replace c3 := bf_ c3
  subst c3
  have H1 : (some false) = some r := by rw [if_neg (show ¬ (false = true) by decide)] at H; exact H
  clear H; have H := H1; clear H1
  obtain rfl := Option.some.inj H
  go_enter Tryd.func23, Tryd.ntmps23
  go_wp2_with (first | (go_at_call 33; (with_reducible refine (neumeref17_Fits.calls k _ _ l0 false _ ?side1 ?side2 A2.out).mono ?_); (case side1 => repeat (first | exact HR0.out | (with_reducible refine Kd.C_alloc ?_ _) | (with_reducible refine Kd.C_drewN ?_ _) | (with_reducible refine Kd.C_drew ?_))); (case side2 => exact HC0.out); rintro e w' ⟨rfl, ⟨nd, rfl⟩⟩; (try first | exact ⟨rfl, _, World.drewN_drewN _ _ _⟩ | exact ⟨rfl, _, Eq.trans (World.drewN_drewN _ _ _) (congrArg (World.drewN _) (Nat.add_assoc _ _ _))⟩)))
  repeat (go_quiet (first | (go_at_call 33; (with_reducible refine (neumeref17_Fits.calls k _ _ l0 false _ ?side1 ?side2 A2.out).mono ?_); (case side1 => repeat (first | exact HR0.out | (with_reducible refine Kd.C_alloc ?_ _) | (with_reducible refine Kd.C_drewN ?_ _) | (with_reducible refine Kd.C_drew ?_))); (case side2 => exact HC0.out); rintro e w' ⟨rfl, ⟨nd, rfl⟩⟩; (try first | exact ⟨rfl, _, World.drewN_drewN _ _ _⟩ | exact ⟨rfl, _, Eq.trans (World.drewN_drewN _ _ _) (congrArg (World.drewN _) (Nat.add_assoc _ _ _))⟩))); try go_wp2_with (first | (go_at_call 33; (with_reducible refine (neumeref17_Fits.calls k _ _ l0 false _ ?side1 ?side2 A2.out).mono ?_); (case side1 => repeat (first | exact HR0.out | (with_reducible refine Kd.C_alloc ?_ _) | (with_reducible refine Kd.C_drewN ?_ _) | (with_reducible refine Kd.C_drew ?_))); (case side2 => exact HC0.out); rintro e w' ⟨rfl, ⟨nd, rfl⟩⟩; (try first | exact ⟨rfl, _, World.drewN_drewN _ _ _⟩ | exact ⟨rfl, _, Eq.trans (World.drewN_drewN _ _ _) (congrArg (World.drewN _) (Nat.add_assoc _ _ _))⟩))))
  go_ret
  exact ⟨by first | rfl | (simp; done) | (simp [*]; done), by repeat (first | exact Drawn0.refl _ | apply Drawn0.step)⟩

/-! ### neumeref23_Sides: function 9 -/
def neumeref23_Sides.l0 : Nat → List Int → Bool → Int → List Int → Int → Option (List Int × Int)
 | 0, _, _, _, _, _ => none
 | k + 1, x0, x1, x6, x7, x8 => if x8 < x6 then (if x1 = true then (if 0 ≤ x8 then (if x8 < (x0.length : Int) then (if 0 ≤ (wrap64 (x8 - 1)) then (if (wrap64 (x8 - 1)) < (x0.length : Int) then (if (wrap64 ((rd x0 x8) - (rd x0 (wrap64 (x8 - 1))))) ≤ 1 then (if (wrap64 ((rd x0 x8) - (rd x0 (wrap64 (x8 - 1))))) ≥ (-1) then (if (wrap64 (x8 - 1)) < (x7.length : Int) then (if (rd x7 (wrap64 (x8 - 1))) = 0 then (if x8 < (x7.length : Int) then (neumeref23_Sides.l0 k x0 x1 x6 (x7.set (x8 : Int).toNat 1) (wrap64 (x8 + 1))) else (none)) else (neumeref23_Sides.l0 k x0 x1 x6 x7 (wrap64 (x8 + 1)))) else (none)) else (neumeref23_Sides.l0 k x0 x1 x6 x7 (wrap64 (x8 + 1)))) else (neumeref23_Sides.l0 k x0 x1 x6 x7 (wrap64 (x8 + 1)))) else (none)) else (none)) else (none)) else (none)) else (if 0 ≤ (wrap64 ((wrap64 (x6 - 1)) - x8)) then (if (wrap64 ((wrap64 (x6 - 1)) - x8)) < (x0.length : Int) then (if 0 ≤ (wrap64 (x6 - x8)) then (if (wrap64 (x6 - x8)) < (x0.length : Int) then (if (wrap64 ((rd x0 (wrap64 ((wrap64 (x6 - 1)) - x8))) - (rd x0 (wrap64 (x6 - x8))))) ≤ 1 then (if (wrap64 ((rd x0 (wrap64 ((wrap64 (x6 - 1)) - x8))) - (rd x0 (wrap64 (x6 - x8))))) ≥ (-1) then (if (wrap64 (x6 - x8)) < (x7.length : Int) then (if (rd x7 (wrap64 (x6 - x8))) = 0 then (if (wrap64 ((wrap64 (x6 - 1)) - x8)) < (x7.length : Int) then (neumeref23_Sides.l0 k x0 x1 x6 (x7.set ((wrap64 ((wrap64 (x6 - 1)) - x8)) : Int).toNat 1) (wrap64 (x8 + 1))) else (none)) else (neumeref23_Sides.l0 k x0 x1 x6 x7 (wrap64 (x8 + 1)))) else (none)) else (neumeref23_Sides.l0 k x0 x1 x6 x7 (wrap64 (x8 + 1)))) else (neumeref23_Sides.l0 k x0 x1 x6 x7 (wrap64 (x8 + 1)))) else (none)) else (none)) else (none)) else (none))) else (some (x7, 0))
def neumeref23_Sides.f (k : Nat) (l0 : List Int) (a1 : Bool) : Option (List Int × Int) := (neumeref23_fits.f k l0).bind fun t261 => (if t261 = true then (if 0 ≤ (l0.length : Int) then (if ((l0.length : Int) : Int).toNat ≤ 35184372088832 then (neumeref23_Sides.l0 k l0 a1 (l0.length : Int) (List.replicate ((l0.length : Int) : Int).toNat 0) 1) else (none)) else (none)) else (some (([] : List Int), 2)))
theorem neumeref23_Sides.mono_l : ∀ k, (∀ y0 y1 y2 y3 y4, LeO (neumeref23_Sides.l0 k y0 y1 y2 y3 y4) (neumeref23_Sides.l0 (k + 1) y0 y1 y2 y3 y4))
 | 0 => fun _ _ _ _ _ r h => by simp [neumeref23_Sides.l0] at h
 | k + 1 => by
  have ih0 := neumeref23_Sides.mono_l k
  ·intro y0 y1 y2 y3 y4
   unfold neumeref23_Sides.l0
   repeat' first
   | (with_reducible exact ih0 _ _ _ _ _)
   | (with_reducible exact neumeref23_fits.mono _ _)
   | (with_reducible exact LeO.refl _)
   | (with_reducible exact LeO.none _)
   | (with_reducible refine LeO.ite ?_ ?_)
   | (with_reducible refine LeO.bind ?_ (fun _ => ?_))
   | exact ih0 _ _ _ _ _
   | exact neumeref23_fits.mono _ _
   | exact LeO.none _
   | refine LeO.ite ?_ ?_
   | refine LeO.bind ?_ (fun _ => ?_)
theorem neumeref23_Sides.mono : ∀ a0 a1 k, LeO (neumeref23_Sides.f k a0 a1) (neumeref23_Sides.f (k + 1) a0 a1) := by
 intro a0 a1 k
 have ih0 := neumeref23_Sides.mono_l k
 unfold neumeref23_Sides.f
 repeat' first
   | (with_reducible exact ih0 _ _ _ _ _)
   | (with_reducible exact neumeref23_fits.mono _ _)
   | (with_reducible exact LeO.refl _)
   | (with_reducible exact LeO.none _)
   | (with_reducible refine LeO.ite ?_ ?_)
   | (with_reducible refine LeO.bind ?_ (fun _ => ?_))
   | exact ih0 _ _ _ _ _
   | exact neumeref23_fits.mono _ _
   | exact LeO.none _
   | refine LeO.ite ?_ ?_
   | refine LeO.bind ?_ (fun _ => ?_)
set_option maxHeartbeats 8000000 in
set_option maxRecDepth 100000 in
theorem neumeref23_Sides.calls (k : Nat) (A0 : Option Addr) (c0 : Nat) (l0 : List Int) (a1 : Bool) (r1 : List Int) (r2 : Int) (w : World) (hr0 : Kd.C (Kd.int .i64) w A0 l0.length l0) (hc0 : l0.length ≤ c0) (h : neumeref23_Sides.f k l0 a1 = some (r1, r2)) :
  Calls Tryd.prog 9 #[.slice A0 l0.length c0, .bool a1] w fun e w' => ∃ v0_ : Value, e = .returned (.tuple #[v0_, .int .i64 r2]) ∧ Kd.R (Kd.int .i64) 3 w' w.heap.size (fun _ => True) v0_ r1 ∧ Below w.heap.size w w' := by
 have HR0 := sd_ hr0
 have HC0 := sd_ hc0
 clear hr0 hc0
 have HB := sd_ (Below.refl w.heap.size w)
 have H : ((neumeref23_fits.f k l0).bind fun t261 => (if t261 = true then (if 0 ≤ (l0.length : Int) then (if ((l0.length : Int) : Int).toNat ≤ 35184372088832 then (neumeref23_Sides.l0 k l0 a1 (l0.length : Int) (List.replicate ((l0.length : Int) : Int).toNat 0) 1) else (none)) else (none)) else (some (([] : List Int), 2)))) = some (r1, r2) := h
 clear h
 replace H := ob_ H
 obtain ⟨t261, A30, H⟩ := H
 replace H : (if t261 = true then (if 0 ≤ (l0.length : Int) then (if ((l0.length : Int) : Int).toNat ≤ 35184372088832 then (neumeref23_Sides.l0 k l0 a1 (l0.length : Int) (List.replicate ((l0.length : Int) : Int).toNat 0) 1) else (none)) else (none)) else (some (([] : List Int), 2))) = some (r1, r2) := H
 have A3 := sd_ A30
 clear A30
 by_cases c4 : t261 = true
 ·subst c4
  have H1 : (if 0 ≤ (l0.length : Int) then (if ((l0.length : Int) : Int).toNat ≤ 35184372088832 then (neumeref23_Sides.l0 k l0 a1 (l0.length : Int) (List.replicate ((l0.length : Int) : Int).toNat 0) 1) else (none)) else (none)) = some (r1, r2) := by rw [if_pos rfl] at H; exact H
  clear H; have H := H1; clear H1
  by_cases c5 : 0 ≤ (l0.length : Int)
  ·rw [if_pos c5] at H
   have c5b0 := eq_true c5
   have c5b1 : decide (0 ≤ (l0.length : Int)) = true := dt_ c5
   clear c5
   by_cases c6 : ((l0.length : Int) : Int).toNat ≤ 35184372088832
   ·rw [if_pos c6] at H
    have c6b0 := eq_true c6
    have c6b1 : decide (((l0.length : Int) : Int).toNat ≤ 35184372088832) = true := dt_ c6
    clear c6
    obtain ⟨y262, hy262⟩ : ∃ y_ : List Int, y_ = (List.replicate ((l0.length : Int) : Int).toNat 0) := ⟨_, rfl⟩
    replace H : (neumeref23_Sides.l0 k l0 a1 (l0.length : Int) y262 1) = some (r1, r2) := by first | (rw [hy262]; with_reducible exact H) | (have H2_ := (Option.bind_some _ _).symm.trans H; rw [hy262]; with_reducible exact H2_) | (have H2_ := (Option.bind_some _ _).symm.trans H; with_reducible exact H2_) | with_reducible exact H | (rw [hy262]; exact H) | exact H
    have Ny262 := sd_ hy262
    clear hy262
    have H' := sd_ H
    clear H
    go_enter Tryd.func9, Tryd.ntmps9
    go_wp2_with (first | (go_at_call 23; (with_reducible refine (neumeref23_fits.calls k _ _ l0 true _ ?side1 ?side2 A3.out).mono ?_); (case side1 => repeat (first | exact HR0.out | (with_reducible refine Kd.C_alloc ?_ _) | (with_reducible refine Kd.C_drewN ?_ _) | (with_reducible refine Kd.C_drew ?_))); (case side2 => exact HC0.out); rintro e w' ⟨rfl, ⟨nd, rfl⟩⟩; (try first | exact ⟨rfl, _, World.drewN_drewN _ _ _⟩ | exact ⟨rfl, _, Eq.trans (World.drewN_drewN _ _ _) (congrArg (World.drewN _) (Nat.add_assoc _ _ _))⟩)) | ((with_reducible refine gate_dst (N := 18) rfl ?_); refine Kd.R_make (Kd.int .i64) _ 3 rfl (N := 18) rfl 22 _ _ rfl (l0.length : Int) rfl rfl Tryd.underlying22 (.int .i64 0) 8 info3 rfl (by decide) (by omega) 0 (ok := fun _ => True) (okp := fun _ => True) rfl (fun _ hk => hk) trivial (od_ (by first | (with_reducible assumption) | assumption)) (Nat.le_trans (Nat.mul_le_mul_right _ (od_ (by first | (with_reducible assumption) | assumption) : (l0.length : Int).toNat ≤ 35184372088832)) (by omega)) (Below.refl _ _) (Nat.le_refl _) ?_; intro v263 w7 ho8 hb hg_ hnew_; clear hg_ hnew_; (first | rw [← Ny262.out] at ho8 | (simp only [Int.reduceToNat] at ho8; rw [← Ny262.out] at ho8)); have HO264 := sd_ (Kd.R_lower ho8 (bz_ (bb_ HB.out e0_))); replace HB := hb_ HB e0_ hb; clear hb ho8))
    repeat (go_quiet (first | (go_at_call 23; (with_reducible refine (neumeref23_fits.calls k _ _ l0 true _ ?side1 ?side2 A3.out).mono ?_); (case side1 => repeat (first | exact HR0.out | (with_reducible refine Kd.C_alloc ?_ _) | (with_reducible refine Kd.C_drewN ?_ _) | (with_reducible refine Kd.C_drew ?_))); (case side2 => exact HC0.out); rintro e w' ⟨rfl, ⟨nd, rfl⟩⟩; (try first | exact ⟨rfl, _, World.drewN_drewN _ _ _⟩ | exact ⟨rfl, _, Eq.trans (World.drewN_drewN _ _ _) (congrArg (World.drewN _) (Nat.add_assoc _ _ _))⟩)) | ((with_reducible refine gate_dst (N := 18) rfl ?_); refine Kd.R_make (Kd.int .i64) _ 3 rfl (N := 18) rfl 22 _ _ rfl (l0.length : Int) rfl rfl Tryd.underlying22 (.int .i64 0) 8 info3 rfl (by decide) (by omega) 0 (ok := fun _ => True) (okp := fun _ => True) rfl (fun _ hk => hk) trivial (od_ (by first | (with_reducible assumption) | assumption)) (Nat.le_trans (Nat.mul_le_mul_right _ (od_ (by first | (with_reducible assumption) | assumption) : (l0.length : Int).toNat ≤ 35184372088832)) (by omega)) (Below.refl _ _) (Nat.le_refl _) ?_; intro v263 w7 ho8 hb hg_ hnew_; clear hg_ hnew_; (first | rw [← Ny262.out] at ho8 | (simp only [Int.reduceToNat] at ho8; rw [← Ny262.out] at ho8)); have HO264 := sd_ (Kd.R_lower ho8 (bz_ (bb_ HB.out e0_))); replace HB := hb_ HB e0_ hb; clear hb ho8)); try go_wp2_with (first | (go_at_call 23; (with_reducible refine (neumeref23_fits.calls k _ _ l0 true _ ?side1 ?side2 A3.out).mono ?_); (case side1 => repeat (first | exact HR0.out | (with_reducible refine Kd.C_alloc ?_ _) | (with_reducible refine Kd.C_drewN ?_ _) | (with_reducible refine Kd.C_drew ?_))); (case side2 => exact HC0.out); rintro e w' ⟨rfl, ⟨nd, rfl⟩⟩; (try first | exact ⟨rfl, _, World.drewN_drewN _ _ _⟩ | exact ⟨rfl, _, Eq.trans (World.drewN_drewN _ _ _) (congrArg (World.drewN _) (Nat.add_assoc _ _ _))⟩)) | ((with_reducible refine gate_dst (N := 18) rfl ?_); refine Kd.R_make (Kd.int .i64) _ 3 rfl (N := 18) rfl 22 _ _ rfl (l0.length : Int) rfl rfl Tryd.underlying22 (.int .i64 0) 8 info3 rfl (by decide) (by omega) 0 (ok := fun _ => True) (okp := fun _ => True) rfl (fun _ hk => hk) trivial (od_ (by first | (with_reducible assumption) | assumption)) (Nat.le_trans (Nat.mul_le_mul_right _ (od_ (by first | (with_reducible assumption) | assumption) : (l0.length : Int).toNat ≤ 35184372088832)) (by omega)) (Below.refl _ _) (Nat.le_refl _) ?_; intro v263 w7 ho8 hb hg_ hnew_; clear hg_ hnew_; (first | rw [← Ny262.out] at ho8 | (simp only [Int.reduceToNat] at ho8; rw [← Ny262.out] at ho8)); have HO264 := sd_ (Kd.R_lower ho8 (bz_ (bb_ HB.out e0_))); replace HB := hb_ HB e0_ hb; clear hb ho8)))
    go_loopg [8] k (fun kq v8 w' => ∃ (x7_1 : List Int) (x8_1 : Int), v8 = .int .i64 x8_1 ∧ Aside0 (neumeref23_Sides.l0 kq l0 a1 (l0.length : Int) x7_1 x8_1 = some (r1, r2)) ∧ Aside0 (kq ≤ k) ∧ Aside0 (Kd.R (Kd.int .i64) 3 w' w.heap.size (fun _ => True) v263 x7_1) ∧ Aside0 (Below w.heap.size w w'))
    case atStart => exact ⟨(y262), (1), (by first | rfl | (simp; done) | (simp [*]; done) | (simp [bne]; done)), H', ⟨Nat.le_refl _⟩, ⟨by (with_reducible repeat (first | apply Kd.R_alloc | apply Kd.R_drewN | apply Kd.R_drew)); exact HO264.out⟩, ⟨by repeat (first | (with_reducible first | exact HB.out | apply ba_ | apply pd_ | apply d1_) | exact HB.out)⟩⟩
    case round =>
     clear H'
     try clear p2; try clear c4; try clear c5; try clear c5b0; try clear c5b1; try clear c6; try clear c6b0; try clear c6b1
     obtain ⟨x7_1, x8_1, rfl, HA, HK1, HO_7, HB⟩ := hrel
     cases gk with
     | zero => exact absurd HA.out (by simp [neumeref23_Sides.l0])
     | succ k1 =>
      have H := HA.out
      clear HA
      simp only [neumeref23_Sides.l0] at H
      by_cases c9 : x8_1 < (l0.length : Int)
      ·rw [if_pos c9] at H
       have c9b0 : decide (x8_1 < (l0.length : Int)) = true := dt_ c9
       clear c9
       by_cases c10 : a1 = true
       ·subst c10
        have H1 : (if 0 ≤ x8_1 then (if x8_1 < (l0.length : Int) then (if 0 ≤ (wrap64 (x8_1 - 1)) then (if (wrap64 (x8_1 - 1)) < (l0.length : Int) then (if (wrap64 ((rd l0 x8_1) - (rd l0 (wrap64 (x8_1 - 1))))) ≤ 1 then (if (wrap64 ((rd l0 x8_1) - (rd l0 (wrap64 (x8_1 - 1))))) ≥ (-1) then (if (wrap64 (x8_1 - 1)) < (x7_1.length : Int) then (if (rd x7_1 (wrap64 (x8_1 - 1))) = 0 then (if x8_1 < (x7_1.length : Int) then (neumeref23_Sides.l0 k1 l0 true (l0.length : Int) (x7_1.set (x8_1 : Int).toNat 1) (wrap64 (x8_1 + 1))) else (none)) else (neumeref23_Sides.l0 k1 l0 true (l0.length : Int) x7_1 (wrap64 (x8_1 + 1)))) else (none)) else (neumeref23_Sides.l0 k1 l0 true (l0.length : Int) x7_1 (wrap64 (x8_1 + 1)))) else (neumeref23_Sides.l0 k1 l0 true (l0.length : Int) x7_1 (wrap64 (x8_1 + 1)))) else (none)) else (none)) else (none)) else (none)) = some (r1, r2) := by rw [if_pos rfl] at H; exact H
        clear H; have H := H1; clear H1
        by_cases c11 : 0 ≤ x8_1
        ·rw [if_pos c11] at H
         have c11b0 : decide (0 ≤ x8_1) = true := dt_ c11
         clear c11
         by_cases c12 : x8_1 < (l0.length : Int)
         ·rw [if_pos c12] at H
          have c12b0 : decide (x8_1 < (l0.length : Int)) = true := dt_ c12
          clear c12
          obtain ⟨ji13, hji13⟩ : ∃ j_ : Int, (wrap64 (x8_1 - 1)) = j_ := ⟨_, rfl⟩
          replace H : (if 0 ≤ (ji13) then (if (ji13) < (l0.length : Int) then (if (wrap64 ((rd l0 x8_1) - (rd l0 (ji13)))) ≤ 1 then (if (wrap64 ((rd l0 x8_1) - (rd l0 (ji13)))) ≥ (-1) then (if (ji13) < (x7_1.length : Int) then (if (rd x7_1 (ji13)) = 0 then (if x8_1 < (x7_1.length : Int) then (neumeref23_Sides.l0 k1 l0 true (l0.length : Int) (x7_1.set (x8_1 : Int).toNat 1) (wrap64 (x8_1 + 1))) else (none)) else (neumeref23_Sides.l0 k1 l0 true (l0.length : Int) x7_1 (wrap64 (x8_1 + 1)))) else (none)) else (neumeref23_Sides.l0 k1 l0 true (l0.length : Int) x7_1 (wrap64 (x8_1 + 1)))) else (neumeref23_Sides.l0 k1 l0 true (l0.length : Int) x7_1 (wrap64 (x8_1 + 1)))) else (none)) else (none)) = some (r1, r2) := by first | (rw [hji13] at H; exact H) | (simp only [hji13] at H ⊢; exact H)
          have hji13w : (IntKind.i64.wrap (x8_1 - 1)) = ji13 := (i64_w _).trans hji13
          by_cases c14 : 0 ≤ (ji13)
          ·rw [if_pos c14] at H
           have c14b0 : decide (0 ≤ (ji13)) = true := dt_ c14
           clear c14
           by_cases c15 : (ji13) < (l0.length : Int)
           ·rw [if_pos c15] at H
            have c15b0 : decide ((ji13) < (l0.length : Int)) = true := dt_ c15
            clear c15
            by_cases c16 : (wrap64 ((rd l0 x8_1) - (rd l0 (ji13)))) ≤ 1
            ·rw [if_pos c16] at H
             have c16b0 : decide ((wrap64 ((rd l0 x8_1) - (rd l0 (ji13)))) ≤ 1) = true := dt_ c16
             clear c16
             by_cases c17 : (wrap64 ((rd l0 x8_1) - (rd l0 (ji13)))) ≥ (-1)
             ·rw [if_pos c17] at H
              have c17b0 : decide ((-1) ≤ (wrap64 ((rd l0 x8_1) - (rd l0 (ji13))))) = true := dt_ c17
              clear c17
              by_cases c18 : (ji13) < (x7_1.length : Int)
              ·rw [if_pos c18] at H
               have c18b0 : decide ((ji13) < (x7_1.length : Int)) = true := dt_ c18
               clear c18
               by_cases c19 : (rd x7_1 (ji13)) = 0
               ·rw [if_pos c19] at H
                have c19b0 : ((rd x7_1 (ji13)) == 0) = true := beq_iff_eq.mpr c19
                have c19b1 : ((rd x7_1 (ji13)) != 0) = false := bne_eq_false_iff_eq.mpr c19
                clear c19
                by_cases c20 : x8_1 < (x7_1.length : Int)
                ·rw [if_pos c20] at H
                 have c20b0 : decide (x8_1 < (x7_1.length : Int)) = true := dt_ c20
                 clear c20
                 obtain ⟨y268, hy268⟩ : ∃ y_ : List Int, y_ = (x7_1.set (x8_1 : Int).toNat 1) := ⟨_, rfl⟩
                 replace H : (neumeref23_Sides.l0 k1 l0 true (l0.length : Int) y268 (wrap64 (x8_1 + 1))) = some (r1, r2) := by first | (rw [hy268]; with_reducible exact H) | (have H2_ := (Option.bind_some _ _).symm.trans H; rw [hy268]; with_reducible exact H2_) | (have H2_ := (Option.bind_some _ _).symm.trans H; with_reducible exact H2_) | with_reducible exact H | (rw [hy268]; exact H) | exact H
                 have Ny268 := sd_ hy268
                 clear hy268
                 have H' := sd_ H
                 clear H
                 have p265 : 0 ≤ (x8_1 : Int) := od_ (by first | (with_reducible assumption) | assumption)
                 have q265 : x8_1 < (l0.length : Int) := od_ (by first | (with_reducible assumption) | assumption)
                 obtain ⟨ad265, e265, hx265_0⟩ := Kd.at_int HR0.out x8_1 p265 q265
                 cases e265
                 replace hx265_0 := (HB.out.cell (wb_ w _ hx265_0)).trans hx265_0
                 replace p265 := eq_true p265
                 replace q265 := eq_true q265
                 have p266 : 0 ≤ ((ji13) : Int) := od_ (by first | (with_reducible assumption) | assumption)
                 have q266 : (ji13) < (l0.length : Int) := od_ (by first | (with_reducible assumption) | assumption)
                 obtain ⟨ad266, e266, hx266_0⟩ := Kd.at_int HR0.out (ji13) p266 q266
                 obtain rfl : ad265 = ad266 := (by injection e266)
                 replace hx266_0 := (HB.out.cell (wb_ w _ hx266_0)).trans hx266_0
                 replace p266 := eq_true p266
                 replace q266 := eq_true q266
                 obtain ⟨Ao22, co22, eo22⟩ := Kd.R_slice HO_7.out
                 subst eo22
                 have p267 : 0 ≤ ((ji13) : Int) := od_ (by first | (with_reducible assumption) | assumption)
                 have q267 : (ji13) < (x7_1.length : Int) := od_ (by first | (with_reducible assumption) | assumption)
                 obtain ⟨ad267, e267, hx267_0⟩ := Kd.at_int (Kd.R_reads' HO_7.out).2.2 (ji13) p267 q267
                 cases e267
                 replace p267 := eq_true p267
                 replace q267 := eq_true q267
                 have p21 : 0 ≤ (x8_1 : Int) := od_ (by first | (with_reducible assumption) | assumption)
                 have q21 : (x8_1 : Int) < ((x7_1.length : Int) : Int) := od_ (by first | (with_reducible assumption) | assumption)
                 obtain ⟨go21, co21, eo21, gb21, gl21, cl21, HG21⟩ := Kd.R_form HO_7.out (by omega)
                 (first | cases eo21 | (injection eo21 with ea_ en_ ec_; (first | subst ea_ | (injection ea_ with ea_; subst ea_)); subst ec_; clear en_))
                 have GB21 := sd_ gb21
                 have GG21 := sd_ HG21
                 clear gb21 gl21 HG21
                 (first | simp only [add_plain] at hx267_0 | skip)
                 obtain ⟨hx21_0, hf21_0⟩ := Kd.R_celln 0 HO_7.out (x8_1 : Int) p21 q21
                 replace p21 := eq_true p21
                 replace q21 := eq_true q21
                 have HP23 := Kd.R_putg HO_7.out (x8_1 : Int) 1
                 go_wp2_with (first | ((with_reducible refine gate_store (t := 3) (p := 60) rfl ?_); (try (rw [drewN_self wr]; generalize hq_ : World.drewN wr _ = wr; have n0_ := sd_ (Kd.R_at hq_ HO_7.out); have n1_ := sd_ (below_at hq_ HB.out); clear hq_ HO_7 HB; have HO_7 := n0_; have HB := n1_; clear n0_ n1_; (try (have HP23 := Kd.R_putg HO_7.out (x8_1 : Int) 1)); (try (obtain ⟨hx21_0, hf21_0⟩ := Kd.R_celln 0 HO_7.out (x8_1 : Int) (of_eq_true p21) (of_eq_true q21))))); refine store_event (t := 3) (p := 60) (v := ?vo_w24) (w1 := (wr.setCell ⟨go21, (x8_1 : Int).toNat, none⟩ (.int .i64 1))) ?hg ?ho ?hn ?hr ?_; (case ho => rfl); (case hg => rfl); (case hn => rfl); (case hr => first | (go_simp; done) | (go_simp; rfl)); intro w24 hw; have hg : wr.grownBy w24 (some go21) := (by rw [hw]; exact HP23.2); have hp_ : Kd.R (Kd.int .i64) 3 w24 w.heap.size (fun _ => True) (.slice (some ⟨go21, 0, none⟩) x7_1.length co22) y268 := (by rw [hw, Ny268.out]; exact HP23.1); clear HP23; replace HO_7 := sd_ (hp_); replace HB := sd_ ((by rw [hw]; exact bs_ (HB.out) GB21.out : Below w.heap.size w w24)); clear hg hw hp_))
                 repeat (go_quiet (first | ((with_reducible refine gate_store (t := 3) (p := 60) rfl ?_); (try (rw [drewN_self wr]; generalize hq_ : World.drewN wr _ = wr; have n0_ := sd_ (Kd.R_at hq_ HO_7.out); have n1_ := sd_ (below_at hq_ HB.out); clear hq_ HO_7 HB; have HO_7 := n0_; have HB := n1_; clear n0_ n1_; (try (have HP23 := Kd.R_putg HO_7.out (x8_1 : Int) 1)); (try (obtain ⟨hx21_0, hf21_0⟩ := Kd.R_celln 0 HO_7.out (x8_1 : Int) (of_eq_true p21) (of_eq_true q21))))); refine store_event (t := 3) (p := 60) (v := ?vo_w24) (w1 := (wr.setCell ⟨go21, (x8_1 : Int).toNat, none⟩ (.int .i64 1))) ?hg ?ho ?hn ?hr ?_; (case ho => rfl); (case hg => rfl); (case hn => rfl); (case hr => first | (go_simp; done) | (go_simp; rfl)); intro w24 hw; have hg : wr.grownBy w24 (some go21) := (by rw [hw]; exact HP23.2); have hp_ : Kd.R (Kd.int .i64) 3 w24 w.heap.size (fun _ => True) (.slice (some ⟨go21, 0, none⟩) x7_1.length co22) y268 := (by rw [hw, Ny268.out]; exact HP23.1); clear HP23; replace HO_7 := sd_ (hp_); replace HB := sd_ ((by rw [hw]; exact bs_ (HB.out) GB21.out : Below w.heap.size w w24)); clear hg hw hp_)); try go_wp2_with (first | ((with_reducible refine gate_store (t := 3) (p := 60) rfl ?_); (try (rw [drewN_self wr]; generalize hq_ : World.drewN wr _ = wr; have n0_ := sd_ (Kd.R_at hq_ HO_7.out); have n1_ := sd_ (below_at hq_ HB.out); clear hq_ HO_7 HB; have HO_7 := n0_; have HB := n1_; clear n0_ n1_; (try (have HP23 := Kd.R_putg HO_7.out (x8_1 : Int) 1)); (try (obtain ⟨hx21_0, hf21_0⟩ := Kd.R_celln 0 HO_7.out (x8_1 : Int) (of_eq_true p21) (of_eq_true q21))))); refine store_event (t := 3) (p := 60) (v := ?vo_w24) (w1 := (wr.setCell ⟨go21, (x8_1 : Int).toNat, none⟩ (.int .i64 1))) ?hg ?ho ?hn ?hr ?_; (case ho => rfl); (case hg => rfl); (case hn => rfl); (case hr => first | (go_simp; done) | (go_simp; rfl)); intro w24 hw; have hg : wr.grownBy w24 (some go21) := (by rw [hw]; exact HP23.2); have hp_ : Kd.R (Kd.int .i64) 3 w24 w.heap.size (fun _ => True) (.slice (some ⟨go21, 0, none⟩) x7_1.length co22) y268 := (by rw [hw, Ny268.out]; exact HP23.1); clear HP23; replace HO_7 := sd_ (hp_); replace HB := sd_ ((by rw [hw]; exact bs_ (HB.out) GB21.out : Below w.heap.size w w24)); clear hg hw hp_)))
                 go_roundg k1
                 case measure => have := HK1.out; omega
                 case rel => exact ⟨(y268), (wrap64 (x8_1 + 1)), (by first | rfl | (simp; done) | (simp [*]; done) | (simp [bne]; done)), H', ⟨by have := HK1.out; omega⟩, ⟨by (with_reducible repeat (first | apply Kd.R_alloc | apply Kd.R_drewN | apply Kd.R_drew)); exact HO_7.out⟩, ⟨by repeat (first | (with_reducible first | exact HB.out | apply ba_ | apply pd_ | apply d1_) | exact HB.out)⟩⟩
                ·rw [if_neg c20] at H
                 exact absurd H (by simp)
               ·rw [if_neg c19] at H
                have c19b0 : ((rd x7_1 (ji13)) == 0) = false := beq_eq_false_iff_ne.mpr c19
                have c19b1 : ((rd x7_1 (ji13)) != 0) = true := bne_iff_ne.mpr c19
                have H' := sd_ H
                clear H
                have p265 : 0 ≤ (x8_1 : Int) := od_ (by first | (with_reducible assumption) | assumption)
                have q265 : x8_1 < (l0.length : Int) := od_ (by first | (with_reducible assumption) | assumption)
                obtain ⟨ad265, e265, hx265_0⟩ := Kd.at_int HR0.out x8_1 p265 q265
                cases e265
                replace hx265_0 := (HB.out.cell (wb_ w _ hx265_0)).trans hx265_0
                replace p265 := eq_true p265
                replace q265 := eq_true q265
                have p266 : 0 ≤ ((ji13) : Int) := od_ (by first | (with_reducible assumption) | assumption)
                have q266 : (ji13) < (l0.length : Int) := od_ (by first | (with_reducible assumption) | assumption)
                obtain ⟨ad266, e266, hx266_0⟩ := Kd.at_int HR0.out (ji13) p266 q266
                obtain rfl : ad265 = ad266 := (by injection e266)
                replace hx266_0 := (HB.out.cell (wb_ w _ hx266_0)).trans hx266_0
                replace p266 := eq_true p266
                replace q266 := eq_true q266
                obtain ⟨Ao25, co25, eo25⟩ := Kd.R_slice HO_7.out
                subst eo25
                have p267 : 0 ≤ ((ji13) : Int) := od_ (by first | (with_reducible assumption) | assumption)
                have q267 : (ji13) < (x7_1.length : Int) := od_ (by first | (with_reducible assumption) | assumption)
                obtain ⟨ad267, e267, hx267_0⟩ := Kd.at_int (Kd.R_reads' HO_7.out).2.2 (ji13) p267 q267
                cases e267
                replace p267 := eq_true p267
                replace q267 := eq_true q267
                go_wp2
                repeat (go_quiet (fail); try go_wp2)
                go_roundg k1
                case measure => have := HK1.out; omega
                case rel => exact ⟨(x7_1), (wrap64 (x8_1 + 1)), (by first | rfl | (simp; done) | (simp [*]; done) | (simp [bne]; done)), H', ⟨by have := HK1.out; omega⟩, ⟨by (with_reducible repeat (first | apply Kd.R_alloc | apply Kd.R_drewN | apply Kd.R_drew)); exact HO_7.out⟩, ⟨by repeat (first | (with_reducible first | exact HB.out | apply ba_ | apply pd_ | apply d1_) | exact HB.out)⟩⟩
              ·rw [if_neg c18] at H
               exact absurd H (by simp)
             ·rw [if_neg c17] at H
              have c17b0 : decide ((-1) ≤ (wrap64 ((rd l0 x8_1) - (rd l0 (ji13))))) = false := df_ c17
              clear c17
              have H' := sd_ H
              clear H
              have p265 : 0 ≤ (x8_1 : Int) := od_ (by first | (with_reducible assumption) | assumption)
              have q265 : x8_1 < (l0.length : Int) := od_ (by first | (with_reducible assumption) | assumption)
              obtain ⟨ad265, e265, hx265_0⟩ := Kd.at_int HR0.out x8_1 p265 q265
              cases e265
              replace hx265_0 := (HB.out.cell (wb_ w _ hx265_0)).trans hx265_0
              replace p265 := eq_true p265
              replace q265 := eq_true q265
              have p266 : 0 ≤ ((ji13) : Int) := od_ (by first | (with_reducible assumption) | assumption)
              have q266 : (ji13) < (l0.length : Int) := od_ (by first | (with_reducible assumption) | assumption)
              obtain ⟨ad266, e266, hx266_0⟩ := Kd.at_int HR0.out (ji13) p266 q266
              obtain rfl : ad265 = ad266 := (by injection e266)
              replace hx266_0 := (HB.out.cell (wb_ w _ hx266_0)).trans hx266_0
              replace p266 := eq_true p266
              replace q266 := eq_true q266
              go_wp2
              repeat (go_quiet (fail); try go_wp2)
              go_roundg k1
              case measure => have := HK1.out; omega
              case rel => exact ⟨(x7_1), (wrap64 (x8_1 + 1)), (by first | rfl | (simp; done) | (simp [*]; done) | (simp [bne]; done)), H', ⟨by have := HK1.out; omega⟩, ⟨by (with_reducible repeat (first | apply Kd.R_alloc | apply Kd.R_drewN | apply Kd.R_drew)); exact HO_7.out⟩, ⟨by repeat (first | (with_reducible first | exact HB.out | apply ba_ | apply pd_ | apply d1_) | exact HB.out)⟩⟩
            ·rw [if_neg c16] at H
             have c16b0 : decide ((wrap64 ((rd l0 x8_1) - (rd l0 (ji13)))) ≤ 1) = false := df_ c16
             clear c16
             have H' := sd_ H
             clear H
             have p265 : 0 ≤ (x8_1 : Int) := od_ (by first | (with_reducible assumption) | assumption)
             have q265 : x8_1 < (l0.length : Int) := od_ (by first | (with_reducible assumption) | assumption)
             obtain ⟨ad265, e265, hx265_0⟩ := Kd.at_int HR0.out x8_1 p265 q265
             cases e265
             replace hx265_0 := (HB.out.cell (wb_ w _ hx265_0)).trans hx265_0
             replace p265 := eq_true p265
             replace q265 := eq_true q265
             have p266 : 0 ≤ ((ji13) : Int) := od_ (by first | (with_reducible assumption) | assumption)
             have q266 : (ji13) < (l0.length : Int) := od_ (by first | (with_reducible assumption) | assumption)
             obtain ⟨ad266, e266, hx266_0⟩ := Kd.at_int HR0.out (ji13) p266 q266
             obtain rfl : ad265 = ad266 := (by injection e266)
             replace hx266_0 := (HB.out.cell (wb_ w _ hx266_0)).trans hx266_0
             replace p266 := eq_true p266
             replace q266 := eq_true q266
             go_wp2
             repeat (go_quiet (fail); try go_wp2)
             go_roundg k1
             case measure => have := HK1.out; omega
             case rel => exact ⟨(x7_1), (wrap64 (x8_1 + 1)), (by first | rfl | (simp; done) | (simp [*]; done) | (simp [bne]; done)), H', ⟨by have := HK1.out; omega⟩, ⟨by (with_reducible repeat (first | apply Kd.R_alloc | apply Kd.R_drewN | apply Kd.R_drew)); exact HO_7.out⟩, ⟨by repeat (first | (with_reducible first | exact HB.out | apply ba_ | apply pd_ | apply d1_) | exact HB.out)⟩⟩
           ·rw [if_neg c15] at H
            exact absurd H (by simp)
          ·rw [if_neg c14] at H
           exact absurd H (by simp)
         ·rw [if_neg c12] at H
          exact absurd H (by simp)
        ·rw [if_neg c11] at H
         exact absurd H (by simp)
       ·replace c10 := bf_ c10
        subst c10
        have H1 : (if 0 ≤ (wrap64 ((wrap64 ((l0.length : Int) - 1)) - x8_1)) then (if (wrap64 ((wrap64 ((l0.length : Int) - 1)) - x8_1)) < (l0.length : Int) then (if 0 ≤ (wrap64 ((l0.length : Int) - x8_1)) then (if (wrap64 ((l0.length : Int) - x8_1)) < (l0.length : Int) then (if (wrap64 ((rd l0 (wrap64 ((wrap64 ((l0.length : Int) - 1)) - x8_1))) - (rd l0 (wrap64 ((l0.length : Int) - x8_1))))) ≤ 1 then (if (wrap64 ((rd l0 (wrap64 ((wrap64 ((l0.length : Int) - 1)) - x8_1))) - (rd l0 (wrap64 ((l0.length : Int) - x8_1))))) ≥ (-1) then (if (wrap64 ((l0.length : Int) - x8_1)) < (x7_1.length : Int) then (if (rd x7_1 (wrap64 ((l0.length : Int) - x8_1))) = 0 then (if (wrap64 ((wrap64 ((l0.length : Int) - 1)) - x8_1)) < (x7_1.length : Int) then (neumeref23_Sides.l0 k1 l0 false (l0.length : Int) (x7_1.set ((wrap64 ((wrap64 ((l0.length : Int) - 1)) - x8_1)) : Int).toNat 1) (wrap64 (x8_1 + 1))) else (none)) else (neumeref23_Sides.l0 k1 l0 false (l0.length : Int) x7_1 (wrap64 (x8_1 + 1)))) else (none)) else (neumeref23_Sides.l0 k1 l0 false (l0.length : Int) x7_1 (wrap64 (x8_1 + 1)))) else (neumeref23_Sides.l0 k1 l0 false (l0.length : Int) x7_1 (wrap64 (x8_1 + 1)))) else (none)) else (none)) else (none)) else (none)) = some (r1, r2) := by rw [if_neg (show ¬ (false = true) by decide)] at H; exact H
        clear H; have H := H1; clear H1
        obtain ⟨ji26, hji26⟩ : ∃ j_ : Int, (wrap64 ((wrap64 ((l0.length : Int) - 1)) - x8_1)) = j_ := ⟨_, rfl⟩
        replace H : (if 0 ≤ (ji26) then (if (ji26) < (l0.length : Int) then (if 0 ≤ (wrap64 ((l0.length : Int) - x8_1)) then (if (wrap64 ((l0.length : Int) - x8_1)) < (l0.length : Int) then (if (wrap64 ((rd l0 (ji26)) - (rd l0 (wrap64 ((l0.length : Int) - x8_1))))) ≤ 1 then (if (wrap64 ((rd l0 (ji26)) - (rd l0 (wrap64 ((l0.length : Int) - x8_1))))) ≥ (-1) then (if (wrap64 ((l0.length : Int) - x8_1)) < (x7_1.length : Int) then (if (rd x7_1 (wrap64 ((l0.length : Int) - x8_1))) = 0 then (if (ji26) < (x7_1.length : Int) then (neumeref23_Sides.l0 k1 l0 false (l0.length : Int) (x7_1.set ((ji26) : Int).toNat 1) (wrap64 (x8_1 + 1))) else (none)) else (neumeref23_Sides.l0 k1 l0 false (l0.length : Int) x7_1 (wrap64 (x8_1 + 1)))) else (none)) else (neumeref23_Sides.l0 k1 l0 false (l0.length : Int) x7_1 (wrap64 (x8_1 + 1)))) else (neumeref23_Sides.l0 k1 l0 false (l0.length : Int) x7_1 (wrap64 (x8_1 + 1)))) else (none)) else (none)) else (none)) else (none)) = some (r1, r2) := by first | (rw [hji26] at H; exact H) | (simp only [hji26] at H ⊢; exact H)
        have hji26w : (IntKind.i64.wrap ((wrap64 ((l0.length : Int) - 1)) - x8_1)) = ji26 := (i64_w _).trans hji26
        by_cases c27 : 0 ≤ (ji26)
        ·rw [if_pos c27] at H
         have c27b0 : decide (0 ≤ (ji26)) = true := dt_ c27
         clear c27
         by_cases c28 : (ji26) < (l0.length : Int)
         ·rw [if_pos c28] at H
          have c28b0 : decide ((ji26) < (l0.length : Int)) = true := dt_ c28
          clear c28
          obtain ⟨ji29, hji29⟩ : ∃ j_ : Int, (wrap64 ((l0.length : Int) - x8_1)) = j_ := ⟨_, rfl⟩
          replace H : (if 0 ≤ (ji29) then (if (ji29) < (l0.length : Int) then (if (wrap64 ((rd l0 (ji26)) - (rd l0 (ji29)))) ≤ 1 then (if (wrap64 ((rd l0 (ji26)) - (rd l0 (ji29)))) ≥ (-1) then (if (ji29) < (x7_1.length : Int) then (if (rd x7_1 (ji29)) = 0 then (if (ji26) < (x7_1.length : Int) then (neumeref23_Sides.l0 k1 l0 false (l0.length : Int) (x7_1.set ((ji26) : Int).toNat 1) (wrap64 (x8_1 + 1))) else (none)) else (neumeref23_Sides.l0 k1 l0 false (l0.length : Int) x7_1 (wrap64 (x8_1 + 1)))) else (none)) else (neumeref23_Sides.l0 k1 l0 false (l0.length : Int) x7_1 (wrap64 (x8_1 + 1)))) else (neumeref23_Sides.l0 k1 l0 false (l0.length : Int) x7_1 (wrap64 (x8_1 + 1)))) else (none)) else (none)) = some (r1, r2) := by first | (rw [hji29] at H; exact H) | (simp only [hji29] at H ⊢; exact H)
          have hji29w : (IntKind.i64.wrap ((l0.length : Int) - x8_1)) = ji29 := (i64_w _).trans hji29
          by_cases c30 : 0 ≤ (ji29)
          ·rw [if_pos c30] at H
           have c30b0 : decide (0 ≤ (ji29)) = true := dt_ c30
           clear c30
           by_cases c31 : (ji29) < (l0.length : Int)
           ·rw [if_pos c31] at H
            have c31b0 : decide ((ji29) < (l0.length : Int)) = true := dt_ c31
            clear c31
            by_cases c32 : (wrap64 ((rd l0 (ji26)) - (rd l0 (ji29)))) ≤ 1
            ·rw [if_pos c32] at H
             have c32b0 : decide ((wrap64 ((rd l0 (ji26)) - (rd l0 (ji29)))) ≤ 1) = true := dt_ c32
             clear c32
             by_cases c33 : (wrap64 ((rd l0 (ji26)) - (rd l0 (ji29)))) ≥ (-1)
             ·rw [if_pos c33] at H
              have c33b0 : decide ((-1) ≤ (wrap64 ((rd l0 (ji26)) - (rd l0 (ji29))))) = true := dt_ c33
              clear c33
              by_cases c34 : (ji29) < (x7_1.length : Int)
              ·rw [if_pos c34] at H
               have c34b0 : decide ((ji29) < (x7_1.length : Int)) = true := dt_ c34
               clear c34
               by_cases c35 : (rd x7_1 (ji29)) = 0
               ·rw [if_pos c35] at H
                have c35b0 : ((rd x7_1 (ji29)) == 0) = true := beq_iff_eq.mpr c35
                have c35b1 : ((rd x7_1 (ji29)) != 0) = false := bne_eq_false_iff_eq.mpr c35
                clear c35
                by_cases c36 : (ji26) < (x7_1.length : Int)
                ·rw [if_pos c36] at H
                 have c36b0 : decide ((ji26) < (x7_1.length : Int)) = true := dt_ c36
                 clear c36
                 obtain ⟨y272, hy272⟩ : ∃ y_ : List Int, y_ = (x7_1.set ((ji26) : Int).toNat 1) := ⟨_, rfl⟩
                 replace H : (neumeref23_Sides.l0 k1 l0 false (l0.length : Int) y272 (wrap64 (x8_1 + 1))) = some (r1, r2) := by first | (rw [hy272]; with_reducible exact H) | (have H2_ := (Option.bind_some _ _).symm.trans H; rw [hy272]; with_reducible exact H2_) | (have H2_ := (Option.bind_some _ _).symm.trans H; with_reducible exact H2_) | with_reducible exact H | (rw [hy272]; exact H) | exact H
                 have Ny272 := sd_ hy272
                 clear hy272
                 have H' := sd_ H
                 clear H
                 have p269 : 0 ≤ ((ji26) : Int) := od_ (by first | (with_reducible assumption) | assumption)
                 have q269 : (ji26) < (l0.length : Int) := od_ (by first | (with_reducible assumption) | assumption)
                 obtain ⟨ad269, e269, hx269_0⟩ := Kd.at_int HR0.out (ji26) p269 q269
                 cases e269
                 replace hx269_0 := (HB.out.cell (wb_ w _ hx269_0)).trans hx269_0
                 replace p269 := eq_true p269
                 replace q269 := eq_true q269
                 have p270 : 0 ≤ ((ji29) : Int) := od_ (by first | (with_reducible assumption) | assumption)
                 have q270 : (ji29) < (l0.length : Int) := od_ (by first | (with_reducible assumption) | assumption)
                 obtain ⟨ad270, e270, hx270_0⟩ := Kd.at_int HR0.out (ji29) p270 q270
                 obtain rfl : ad269 = ad270 := (by injection e270)
                 replace hx270_0 := (HB.out.cell (wb_ w _ hx270_0)).trans hx270_0
                 replace p270 := eq_true p270
                 replace q270 := eq_true q270
                 obtain ⟨Ao38, co38, eo38⟩ := Kd.R_slice HO_7.out
                 subst eo38
                 have p271 : 0 ≤ ((ji29) : Int) := od_ (by first | (with_reducible assumption) | assumption)
                 have q271 : (ji29) < (x7_1.length : Int) := od_ (by first | (with_reducible assumption) | assumption)
                 obtain ⟨ad271, e271, hx271_0⟩ := Kd.at_int (Kd.R_reads' HO_7.out).2.2 (ji29) p271 q271
                 cases e271
                 replace p271 := eq_true p271
                 replace q271 := eq_true q271
                 have p37 : 0 ≤ ((ji26) : Int) := od_ (by first | (with_reducible assumption) | assumption)
                 have q37 : ((ji26) : Int) < ((x7_1.length : Int) : Int) := od_ (by first | (with_reducible assumption) | assumption)
                 obtain ⟨go37, co37, eo37, gb37, gl37, cl37, HG37⟩ := Kd.R_form HO_7.out (by omega)
                 (first | cases eo37 | (injection eo37 with ea_ en_ ec_; (first | subst ea_ | (injection ea_ with ea_; subst ea_)); subst ec_; clear en_))
                 have GB37 := sd_ gb37
                 have GG37 := sd_ HG37
                 clear gb37 gl37 HG37
                 (first | simp only [add_plain] at hx271_0 | skip)
                 obtain ⟨hx37_0, hf37_0⟩ := Kd.R_celln 0 HO_7.out ((ji26) : Int) p37 q37
                 replace p37 := eq_true p37
                 replace q37 := eq_true q37
                 have HP39 := Kd.R_putg HO_7.out ((ji26) : Int) 1
                 go_wp2_with (first | ((with_reducible refine gate_store (t := 3) (p := 60) rfl ?_); (try (rw [drewN_self wr]; generalize hq_ : World.drewN wr _ = wr; have n0_ := sd_ (Kd.R_at hq_ HO_7.out); have n1_ := sd_ (below_at hq_ HB.out); clear hq_ HO_7 HB; have HO_7 := n0_; have HB := n1_; clear n0_ n1_; (try (have HP39 := Kd.R_putg HO_7.out ((ji26) : Int) 1)); (try (obtain ⟨hx37_0, hf37_0⟩ := Kd.R_celln 0 HO_7.out ((ji26) : Int) (of_eq_true p37) (of_eq_true q37))))); refine store_event (t := 3) (p := 60) (v := ?vo_w40) (w1 := (wr.setCell ⟨go37, ((ji26) : Int).toNat, none⟩ (.int .i64 1))) ?hg ?ho ?hn ?hr ?_; (case ho => rfl); (case hg => rfl); (case hn => rfl); (case hr => first | (go_simp; done) | (go_simp; rfl)); intro w40 hw; have hg : wr.grownBy w40 (some go37) := (by rw [hw]; exact HP39.2); have hp_ : Kd.R (Kd.int .i64) 3 w40 w.heap.size (fun _ => True) (.slice (some ⟨go37, 0, none⟩) x7_1.length co38) y272 := (by rw [hw, Ny272.out]; exact HP39.1); clear HP39; replace HO_7 := sd_ (hp_); replace HB := sd_ ((by rw [hw]; exact bs_ (HB.out) GB37.out : Below w.heap.size w w40)); clear hg hw hp_))
                 repeat (go_quiet (first | ((with_reducible refine gate_store (t := 3) (p := 60) rfl ?_); (try (rw [drewN_self wr]; generalize hq_ : World.drewN wr _ = wr; have n0_ := sd_ (Kd.R_at hq_ HO_7.out); have n1_ := sd_ (below_at hq_ HB.out); clear hq_ HO_7 HB; have HO_7 := n0_; have HB := n1_; clear n0_ n1_; (try (have HP39 := Kd.R_putg HO_7.out ((ji26) : Int) 1)); (try (obtain ⟨hx37_0, hf37_0⟩ := Kd.R_celln 0 HO_7.out ((ji26) : Int) (of_eq_true p37) (of_eq_true q37))))); refine store_event (t := 3) (p := 60) (v := ?vo_w40) (w1 := (wr.setCell ⟨go37, ((ji26) : Int).toNat, none⟩ (.int .i64 1))) ?hg ?ho ?hn ?hr ?_; (case ho => rfl); (case hg => rfl); (case hn => rfl); (case hr => first | (go_simp; done) | (go_simp; rfl)); intro w40 hw; have hg : wr.grownBy w40 (some go37) := (by rw [hw]; exact HP39.2); have hp_ : Kd.R (Kd.int .i64) 3 w40 w.heap.size (fun _ => True) (.slice (some ⟨go37, 0, none⟩) x7_1.length co38) y272 := (by rw [hw, Ny272.out]; exact HP39.1); clear HP39; replace HO_7 := sd_ (hp_); replace HB := sd_ ((by rw [hw]; exact bs_ (HB.out) GB37.out : Below w.heap.size w w40)); clear hg hw hp_)); try go_wp2_with (first | ((with_reducible refine gate_store (t := 3) (p := 60) rfl ?_); (try (rw [drewN_self wr]; generalize hq_ : World.drewN wr _ = wr; have n0_ := sd_ (Kd.R_at hq_ HO_7.out); have n1_ := sd_ (below_at hq_ HB.out); clear hq_ HO_7 HB; have HO_7 := n0_; have HB := n1_; clear n0_ n1_; (try (have HP39 := Kd.R_putg HO_7.out ((ji26) : Int) 1)); (try (obtain ⟨hx37_0, hf37_0⟩ := Kd.R_celln 0 HO_7.out ((ji26) : Int) (of_eq_true p37) (of_eq_true q37))))); refine store_event (t := 3) (p := 60) (v := ?vo_w40) (w1 := (wr.setCell ⟨go37, ((ji26) : Int).toNat, none⟩ (.int .i64 1))) ?hg ?ho ?hn ?hr ?_; (case ho => rfl); (case hg => rfl); (case hn => rfl); (case hr => first | (go_simp; done) | (go_simp; rfl)); intro w40 hw; have hg : wr.grownBy w40 (some go37) := (by rw [hw]; exact HP39.2); have hp_ : Kd.R (Kd.int .i64) 3 w40 w.heap.size (fun _ => True) (.slice (some ⟨go37, 0, none⟩) x7_1.length co38) y272 := (by rw [hw, Ny272.out]; exact HP39.1); clear HP39; replace HO_7 := sd_ (hp_); replace HB := sd_ ((by rw [hw]; exact bs_ (HB.out) GB37.out : Below w.heap.size w w40)); clear hg hw hp_)))
                 go_roundg k1
                 case measure => have := HK1.out; omega
                 case rel => exact ⟨(y272), (wrap64 (x8_1 + 1)), (by first | rfl | (simp; done) | (simp [*]; done) | (simp [bne]; done)), H', ⟨by have := HK1.out; omega⟩, ⟨by (with_reducible repeat (first | apply Kd.R_alloc | apply Kd.R_drewN | apply Kd.R_drew)); exact HO_7.out⟩, ⟨by repeat (first | (with_reducible first | exact HB.out | apply ba_ | apply pd_ | apply d1_) | exact HB.out)⟩⟩
                ·rw [if_neg c36] at H
                 exact absurd H (by simp)
               ·rw [if_neg c35] at H
                have c35b0 : ((rd x7_1 (ji29)) == 0) = false := beq_eq_false_iff_ne.mpr c35
                have c35b1 : ((rd x7_1 (ji29)) != 0) = true := bne_iff_ne.mpr c35
                have H' := sd_ H
                clear H
                have p269 : 0 ≤ ((ji26) : Int) := od_ (by first | (with_reducible assumption) | assumption)
                have q269 : (ji26) < (l0.length : Int) := od_ (by first | (with_reducible assumption) | assumption)
                obtain ⟨ad269, e269, hx269_0⟩ := Kd.at_int HR0.out (ji26) p269 q269
                cases e269
                replace hx269_0 := (HB.out.cell (wb_ w _ hx269_0)).trans hx269_0
                replace p269 := eq_true p269
                replace q269 := eq_true q269
                have p270 : 0 ≤ ((ji29) : Int) := od_ (by first | (with_reducible assumption) | assumption)
                have q270 : (ji29) < (l0.length : Int) := od_ (by first | (with_reducible assumption) | assumption)
                obtain ⟨ad270, e270, hx270_0⟩ := Kd.at_int HR0.out (ji29) p270 q270
                obtain rfl : ad269 = ad270 := (by injection e270)
                replace hx270_0 := (HB.out.cell (wb_ w _ hx270_0)).trans hx270_0
                replace p270 := eq_true p270
                replace q270 := eq_true q270
                obtain ⟨Ao41, co41, eo41⟩ := Kd.R_slice HO_7.out
                subst eo41
                have p271 : 0 ≤ ((ji29) : Int) := od_ (by first | (with_reducible assumption) | assumption)
                have q271 : (ji29) < (x7_1.length : Int) := od_ (by first | (with_reducible assumption) | assumption)
                obtain ⟨ad271, e271, hx271_0⟩ := Kd.at_int (Kd.R_reads' HO_7.out).2.2 (ji29) p271 q271
                cases e271
                replace p271 := eq_true p271
                replace q271 := eq_true q271
                go_wp2
                repeat (go_quiet (fail); try go_wp2)
                go_roundg k1
                case measure => have := HK1.out; omega
                case rel => exact ⟨(x7_1), (wrap64 (x8_1 + 1)), (by first | rfl | (simp; done) | (simp [*]; done) | (simp [bne]; done)), H', ⟨by have := HK1.out; omega⟩, ⟨by (with_reducible repeat (first | apply Kd.R_alloc | apply Kd.R_drewN | apply Kd.R_drew)); exact HO_7.out⟩, ⟨by repeat (first | (with_reducible first | exact HB.out | apply ba_ | apply pd_ | apply d1_) | exact HB.out)⟩⟩
              ·rw [if_neg c34] at H
               exact absurd H (by simp)
             ·rw [if_neg c33] at H
              have c33b0 : decide ((-1) ≤ (wrap64 ((rd l0 (ji26)) - (rd l0 (ji29))))) = false := df_ c33
              clear c33
              have H' := sd_ H
              clear H
              have p269 : 0 ≤ ((ji26) : Int) := od_ (by first | (with_reducible assumption) | assumption)
              have q269 : (ji26) < (l0.length : Int) := od_ (by first | (with_reducible assumption) | assumption)
              obtain ⟨ad269, e269, hx269_0⟩ := Kd.at_int HR0.out (ji26) p269 q269
              cases e269
              replace hx269_0 := (HB.out.cell (wb_ w _ hx269_0)).trans hx269_0
              replace p269 := eq_true p269
              replace q269 := eq_true q269
              have p270 : 0 ≤ ((ji29) : Int) := od_ (by first | (with_reducible assumption) | assumption)
              have q270 : (ji29) < (l0.length : Int) := od_ (by first | (with_reducible assumption) | assumption)
              obtain ⟨ad270, e270, hx270_0⟩ := Kd.at_int HR0.out (ji29) p270 q270
              obtain rfl : ad269 = ad270 := (by injection e270)
              replace hx270_0 := (HB.out.cell (wb_ w _ hx270_0)).trans hx270_0
              replace p270 := eq_true p270
              replace q270 := eq_true q270
              go_wp2
              repeat (go_quiet (fail); try go_wp2)
              go_roundg k1
              case measure => have := HK1.out; omega
              case rel => exact ⟨(x7_1), (wrap64 (x8_1 + 1)), (by first | rfl | (simp; done) | (simp [*]; done) | (simp [bne]; done)), H', ⟨by have := HK1.out; omega⟩, ⟨by (with_reducible repeat (first | apply Kd.R_alloc | apply Kd.R_drewN | apply Kd.R_drew)); exact HO_7.out⟩, ⟨by repeat (first | (with_reducible first | exact HB.out | apply ba_ | apply pd_ | apply d1_) | exact HB.out)⟩⟩
            ·rw [if_neg c32] at H
             have c32b0 : decide ((wrap64 ((rd l0 (ji26)) - (rd l0 (ji29)))) ≤ 1) = false := df_ c32
             clear c32
             have H' := sd_ H
             clear H
             have p269 : 0 ≤ ((ji26) : Int) := od_ (by first | (with_reducible assumption) | assumption)
             have q269 : (ji26) < (l0.length : Int) := od_ (by first | (with_reducible assumption) | assumption)
             obtain ⟨ad269, e269, hx269_0⟩ := Kd.at_int HR0.out (ji26) p269 q269
             cases e269
             replace hx269_0 := (HB.out.cell (wb_ w _ hx269_0)).trans hx269_0
             replace p269 := eq_true p269
             replace q269 := eq_true q269
             have p270 : 0 ≤ ((ji29) : Int) := od_ (by first | (with_reducible assumption) | assumption)
             have q270 : (ji29) < (l0.length : Int) := od_ (by first | (with_reducible assumption) | assumption)
             obtain ⟨ad270, e270, hx270_0⟩ := Kd.at_int HR0.out (ji29) p270 q270
             obtain rfl : ad269 = ad270 := (by injection e270)
             replace hx270_0 := (HB.out.cell (wb_ w _ hx270_0)).trans hx270_0
             replace p270 := eq_true p270
             replace q270 := eq_true q270
             go_wp2
             repeat (go_quiet (fail); try go_wp2)
             go_roundg k1
             case measure => have := HK1.out; omega
             case rel => exact ⟨(x7_1), (wrap64 (x8_1 + 1)), (by first | rfl | (simp; done) | (simp [*]; done) | (simp [bne]; done)), H', ⟨by have := HK1.out; omega⟩, ⟨by (with_reducible repeat (first | apply Kd.R_alloc | apply Kd.R_drewN | apply Kd.R_drew)); exact HO_7.out⟩, ⟨by repeat (first | (with_reducible first | exact HB.out | apply ba_ | apply pd_ | apply d1_) | exact HB.out)⟩⟩
           ·rw [if_neg c31] at H
            exact absurd H (by simp)
          ·rw [if_neg c30] at H
           exact absurd H (by simp)
         ·rw [if_neg c28] at H
          exact absurd H (by simp)
        ·rw [if_neg c27] at H
         exact absurd H (by simp)
      ·rw [if_neg c9] at H
       have c9b0 : decide (x8_1 < (l0.length : Int)) = false := df_ c9
       clear c9
       simp only [Option.some.injEq, Prod.mk.injEq] at H
       obtain ⟨rfl, rfl⟩ := H
       go_wp2
       repeat (go_quiet (fail); try go_wp2)
       go_ret2
       exact ⟨_, by first | rfl | (simp [errW_none, errW_some] <;> rfl) | (simp [*, errW_none, errW_some] <;> rfl), by (with_reducible repeat (first | apply Kd.R_alloc | apply Kd.R_drewN | apply Kd.R_drew)); exact HO_7.out, by repeat (first | (with_reducible first | exact HB.out | apply ba_ | apply pd_ | apply d1_) | exact HB.out)⟩
   ·rw [if_neg c6] at H
    exact absurd H (by simp)
  ·rw [if_neg c5] at H
   exact absurd H (by simp)
 ·replace c4 := bf_ c4
  subst c4
  have H1 : (some (([] : List Int), 2)) = some (r1, r2) := by rw [if_neg (show ¬ (false = true) by decide)] at H; exact H
  clear H; have H := H1; clear H1
  simp only [Option.some.injEq, Prod.mk.injEq] at H
  obtain ⟨rfl, rfl⟩ := H
  go_enter Tryd.func9, Tryd.ntmps9
  go_wp2_with (first | (go_at_call 23; (with_reducible refine (neumeref23_fits.calls k _ _ l0 false _ ?side1 ?side2 A3.out).mono ?_); (case side1 => repeat (first | exact HR0.out | (with_reducible refine Kd.C_alloc ?_ _) | (with_reducible refine Kd.C_drewN ?_ _) | (with_reducible refine Kd.C_drew ?_))); (case side2 => exact HC0.out); rintro e w' ⟨rfl, ⟨nd, rfl⟩⟩; (try first | exact ⟨rfl, _, World.drewN_drewN _ _ _⟩ | exact ⟨rfl, _, Eq.trans (World.drewN_drewN _ _ _) (congrArg (World.drewN _) (Nat.add_assoc _ _ _))⟩)))
  repeat (go_quiet (first | (go_at_call 23; (with_reducible refine (neumeref23_fits.calls k _ _ l0 false _ ?side1 ?side2 A3.out).mono ?_); (case side1 => repeat (first | exact HR0.out | (with_reducible refine Kd.C_alloc ?_ _) | (with_reducible refine Kd.C_drewN ?_ _) | (with_reducible refine Kd.C_drew ?_))); (case side2 => exact HC0.out); rintro e w' ⟨rfl, ⟨nd, rfl⟩⟩; (try first | exact ⟨rfl, _, World.drewN_drewN _ _ _⟩ | exact ⟨rfl, _, Eq.trans (World.drewN_drewN _ _ _) (congrArg (World.drewN _) (Nat.add_assoc _ _ _))⟩))); try go_wp2_with (first | (go_at_call 23; (with_reducible refine (neumeref23_fits.calls k _ _ l0 false _ ?side1 ?side2 A3.out).mono ?_); (case side1 => repeat (first | exact HR0.out | (with_reducible refine Kd.C_alloc ?_ _) | (with_reducible refine Kd.C_drewN ?_ _) | (with_reducible refine Kd.C_drew ?_))); (case side2 => exact HC0.out); rintro e w' ⟨rfl, ⟨nd, rfl⟩⟩; (try first | exact ⟨rfl, _, World.drewN_drewN _ _ _⟩ | exact ⟨rfl, _, Eq.trans (World.drewN_drewN _ _ _) (congrArg (World.drewN _) (Nat.add_assoc _ _ _))⟩))))
  go_ret2
  exact ⟨_, by first | rfl | (simp [errW_none, errW_some] <;> rfl) | (simp [*, errW_none, errW_some] <;> rfl), by first | exact Kd.R_nil _ _ _ _ _ | exact Kd.N_nil _ _ _ _ _ | exact Kd.V_nil _ _ _ _ _ | exact Kd.Q_nil _ _ _ _ _ | exact Kd.S_nil _ _ _ _ _, by repeat (first | (with_reducible first | exact HB.out | apply ba_ | apply pd_ | apply d1_) | exact HB.out)⟩

/-! ### neumeref23_head: function 26 -/
def neumeref23_head.f (a0 : Int) : Option (Bool) := if a0 ≥ 1 then (some (decide (a0 ≤ 4))) else (some false)
set_option maxHeartbeats 8000000 in
set_option maxRecDepth 100000 in
theorem neumeref23_head.calls (a0 : Int) (r : Bool) (w : World) (h : neumeref23_head.f a0 = some r) :
  Calls Tryd.prog 26 #[.int .i64 a0] w fun e w' => e = .returned (.bool r) ∧ Drawn0 w w' := by
 have H : (if a0 ≥ 1 then (some (decide (a0 ≤ 4))) else (some false)) = some r := h
 clear h
 by_cases c2 : a0 ≥ 1
 ·rw [if_pos c2] at H
  have c2b0 : decide (1 ≤ a0) = true := dt_ c2
  clear c2
  obtain rfl := Option.some.inj H
  go_enter Tryd.func26, Tryd.ntmps26
  go_wp2
  go_ret
  exact ⟨by first | rfl | (simp; done) | (simp [*]; done), by repeat (first | exact Drawn0.refl _ | apply Drawn0.step)⟩
 ·rw [if_neg c2] at H
  have c2b0 : decide (1 ≤ a0) = false := df_ c2
  clear c2
  obtain rfl := Option.some.inj H
  go_enter Tryd.func26, Tryd.ntmps26
  go_wp2
  go_ret
  exact ⟨by first | rfl | (simp; done) | (simp [*]; done), by repeat (first | exact Drawn0.refl _ | apply Drawn0.step)⟩

/-! ### neumeref05_Known: function 39 -/
def neumeref05_Known.f (a0 : Int) : Option (Bool) := if a0 ≥ 1 then (some (decide (a0 ≤ 47))) else (some false)
set_option maxHeartbeats 8000000 in
set_option maxRecDepth 100000 in
theorem neumeref05_Known.calls (a0 : Int) (r : Bool) (w : World) (h : neumeref05_Known.f a0 = some r) :
  Calls Tryd.prog 39 #[.int .i64 a0] w fun e w' => e = .returned (.bool r) ∧ Drawn0 w w' := by
 have H : (if a0 ≥ 1 then (some (decide (a0 ≤ 47))) else (some false)) = some r := h
 clear h
 by_cases c2 : a0 ≥ 1
 ·rw [if_pos c2] at H
  have c2b0 : decide (1 ≤ a0) = true := dt_ c2
  clear c2
  obtain rfl := Option.some.inj H
  go_enter Tryd.func39, Tryd.ntmps39
  go_wp2
  go_ret
  exact ⟨by first | rfl | (simp; done) | (simp [*]; done), by repeat (first | exact Drawn0.refl _ | apply Drawn0.step)⟩
 ·rw [if_neg c2] at H
  have c2b0 : decide (1 ≤ a0) = false := df_ c2
  clear c2
  obtain rfl := Option.some.inj H
  go_enter Tryd.func39, Tryd.ntmps39
  go_wp2
  go_ret
  exact ⟨by first | rfl | (simp; done) | (simp [*]; done), by repeat (first | exact Drawn0.refl _ | apply Drawn0.step)⟩

/-! ### neumeref05_box: function 41 -/
def neumeref05_box.f (a0 : Int) (a1 : Int) (a2 : Int) (a3 : Int) : Option (Int × Int × Int × Int) := some (a0, a1, a2, a3)
set_option maxHeartbeats 8000000 in
set_option maxRecDepth 100000 in
theorem neumeref05_box.calls (a0 : Int) (a1 : Int) (a2 : Int) (a3 : Int) (r1 : Int) (r2 : Int) (r3 : Int) (r4 : Int) (w : World) (h : neumeref05_box.f a0 a1 a2 a3 = some (r1, r2, r3, r4)) :
  Calls Tryd.prog 41 #[.int .i64 a0, .int .i64 a1, .int .i64 a2, .int .i64 a3] w fun e w' => e = .returned (.agg #[.int .i64 r1, .int .i64 r2, .int .i64 r3, .int .i64 r4]) ∧ Below w.heap.size w w' := by
 have hu46 := Tryd.underlying46
 have HB := sd_ (Below.refl w.heap.size w)
 have H : (some (a0, a1, a2, a3)) = some (r1, r2, r3, r4) := h
 clear h
 simp only [Option.some.injEq, Prod.mk.injEq] at H
 obtain ⟨rfl, rfl, rfl, rfl⟩ := H
 go_enter Tryd.func41, Tryd.ntmps41
 go_wp2_with (first | ((with_reducible refine gate_dst (N := 8) rfl ?_); refine box_event ?hg (N := 8) ?hd (cs := #[.int .i64 0, .int .i64 0, .int .i64 0, .int .i64 0]) (t := 46) ?hr ?_; (case hd => rfl); (case hg => rfl); (case hr => first | (go_simp; done) | (go_simp; rfl)); intro gb273 hg w5 hbox hb; have BK273 := sd_ hbox; have GW273 := gw_ HB e0_ hg; have GE273 := GW273; replace HB := hb_ HB e0_ hb; clear hb hbox hg; have hcz6_0 : w5.cell? ⟨gb273, 0, none⟩ = some (.int .i64 0) := (kc_ BK273.out 0).trans rfl; have hcz6_1 : w5.cell? ⟨gb273, 1, none⟩ = some (.int .i64 0) := (kc_ BK273.out 1).trans rfl; have hcz6_2 : w5.cell? ⟨gb273, 2, none⟩ = some (.int .i64 0) := (kc_ BK273.out 2).trans rfl; have hcz6_3 : w5.cell? ⟨gb273, 3, none⟩ = some (.int .i64 0) := (kc_ BK273.out 3).trans rfl; have hfz6_0 := kf_ BK273.out 0; have hfz6_1 := kf_ BK273.out 1; have hfz6_2 := kf_ BK273.out 2; have hfz6_3 := kf_ BK273.out 3))
 refine bodyPost_ret (results_cell_row rfl _ _ gb273 46 #[.int .i64 a0, .int .i64 a1, .int .i64 a2, .int .i64 a3] (0, 0) _ rfl (by (with_reducible repeat first | apply kn_ | apply kd_ | apply ka_); refine blk_put (cs := #[.int .i64 a0, .int .i64 a1, .int .i64 a2, .int .i64 0]) ?_ 3 _ rfl; (with_reducible repeat first | apply kn_ | apply kd_ | apply ka_); refine blk_put (cs := #[.int .i64 a0, .int .i64 a1, .int .i64 0, .int .i64 0]) ?_ 2 _ rfl; (with_reducible repeat first | apply kn_ | apply kd_ | apply ka_); refine blk_put (cs := #[.int .i64 a0, .int .i64 0, .int .i64 0, .int .i64 0]) ?_ 1 _ rfl; (with_reducible repeat first | apply kn_ | apply kd_ | apply ka_); refine blk_put (cs := #[.int .i64 0, .int .i64 0, .int .i64 0, .int .i64 0]) ?_ 0 _ rfl; (with_reducible repeat first | apply kn_ | apply kd_ | apply ka_); exact BK273.out) Tryd.underlying46 rfl (by kernel_rfl)) rfl ?_
 exact ⟨by first | rfl | (simp [errW_none, errW_some] <;> rfl) | (simp [*, errW_none, errW_some] <;> rfl), by repeat (first | (with_reducible first | exact HB.out | apply ba_ | apply pd_ | apply d1_ | refine bs_ ?_ GE273.out) | exact HB.out)⟩

end Go.Proofs.YtcokemaiploejaaDoor.P
