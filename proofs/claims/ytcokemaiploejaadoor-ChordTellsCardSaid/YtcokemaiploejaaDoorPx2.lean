-- Written by a program of this session (wip/tools/xprint.py, over the kit's print): Lean checks it.
import Derived.Test.YtcokemaiploejaaDoorPx0
namespace Go.Proofs.YtcokemaiploejaaDoor.P
open Go.RowKit Go.Proofs.YtcokemaiploejaaDoorW.PrintWords Go.Proofs.YtcokemaiploejaaDoorW.PrintLast Go.Proofs.YtcokemaiploejaaDoorW.PrintMore
attribute [local go_sem] max2_int min2_int max_two min_two max_three min_three max_four min_four   -- for this text's walks alone
set_option linter.unusedVariables false
set_option linter.unusedSimpArgs false

/-! ### cmp_isNaN_int: function 56 -/
def cmp_isNaN_int.f (a0 : Int) : Option (Bool) := some (a0 != a0)
set_option maxHeartbeats 8000000 in
set_option maxRecDepth 100000 in
theorem cmp_isNaN_int.calls (a0 : Int) (r : Bool) (w : World) (h : cmp_isNaN_int.f a0 = some r) :
  Calls Tryd.prog 56 #[.int .i64 a0] w fun e w' => e = .returned (.bool r) ∧ Drawn0 w w' := by
 have H : (some (a0 != a0)) = some r := h
 clear h
 obtain rfl := Option.some.inj H
 go_enter Tryd.func56, Tryd.ntmps56
 go_wp2
 go_ret
 exact ⟨by first | rfl | (simp; done) | (simp [*]; done), by repeat (first | exact Drawn0.refl _ | apply Drawn0.step)⟩

/-! ### cmp_Less_int: function 44 -/
def cmp_Less_int.f (a0 : Int) (a1 : Int) : Option (Bool) := (cmp_isNaN_int.f a0).bind fun t101 => (if t101 = true then ((cmp_isNaN_int.f a1).bind fun t102 => (if t102 = true then (some (decide (a0 < a1))) else (some true))) else (some (decide (a0 < a1))))
set_option maxHeartbeats 8000000 in
set_option maxRecDepth 100000 in
theorem cmp_Less_int.calls (a0 : Int) (a1 : Int) (r : Bool) (w : World) (h : cmp_Less_int.f a0 a1 = some r) :
  Calls Tryd.prog 44 #[.int .i64 a0, .int .i64 a1] w fun e w' => e = .returned (.bool r) ∧ Drawn0 w w' := by
 have H : ((cmp_isNaN_int.f a0).bind fun t101 => (if t101 = true then ((cmp_isNaN_int.f a1).bind fun t102 => (if t102 = true then (some (decide (a0 < a1))) else (some true))) else (some (decide (a0 < a1))))) = some r := h
 clear h
 replace H := ob_ H
 obtain ⟨t101, A30, H⟩ := H
 replace H : (if t101 = true then ((cmp_isNaN_int.f a1).bind fun t102 => (if t102 = true then (some (decide (a0 < a1))) else (some true))) else (some (decide (a0 < a1)))) = some r := H
 have A3 := sd_ A30
 clear A30
 by_cases c4 : t101 = true
 ·subst c4
  have H1 : ((cmp_isNaN_int.f a1).bind fun t102 => (if t102 = true then (some (decide (a0 < a1))) else (some true))) = some r := by rw [if_pos rfl] at H; exact H
  clear H; have H := H1; clear H1
  replace H := ob_ H
  obtain ⟨t102, A50, H⟩ := H
  replace H : (if t102 = true then (some (decide (a0 < a1))) else (some true)) = some r := H
  have A5 := sd_ A50
  clear A50
  by_cases c6 : t102 = true
  ·subst c6
   have H1 : (some (decide (a0 < a1))) = some r := by rw [if_pos rfl] at H; exact H
   clear H; have H := H1; clear H1
   obtain rfl := Option.some.inj H
   go_enter Tryd.func44, Tryd.ntmps44
   go_wp2_with (first | ((with_reducible refine gate_callee (f := 56) rfl ?_); refine goesL_ (some 6) rfl rfl Tryd.func56 (by kernel_rfl) rfl #[.int .i64 a0] rfl (by (try simp only [lm_, lq_, lx_]); first | done | rfl | (simp only [ld_, lt_]; rfl)) ?_; (with_reducible refine (cmp_isNaN_int.calls a0 true _ A3.out).mono ?_); rintro e w' ⟨rfl, ⟨nd, rfl⟩⟩; refine ⟨_, rfl, ?_⟩) | (go_at_call 56; (with_reducible refine (cmp_isNaN_int.calls a1 true _ A5.out).mono ?_); rintro e w' ⟨rfl, ⟨nd, rfl⟩⟩))
   go_ret
   exact ⟨by first | rfl | (simp; done) | (simp [*]; done), by repeat (first | exact Drawn0.refl _ | apply Drawn0.step)⟩
  ·replace c6 := bf_ c6
   subst c6
   have H1 : (some true) = some r := by rw [if_neg (show ¬ (false = true) by decide)] at H; exact H
   clear H; have H := H1; clear H1
   obtain rfl := Option.some.inj H
   go_enter Tryd.func44, Tryd.ntmps44
   go_wp2_with (first | ((with_reducible refine gate_callee (f := 56) rfl ?_); refine goesL_ (some 6) rfl rfl Tryd.func56 (by kernel_rfl) rfl #[.int .i64 a0] rfl (by (try simp only [lm_, lq_, lx_]); first | done | rfl | (simp only [ld_, lt_]; rfl)) ?_; (with_reducible refine (cmp_isNaN_int.calls a0 true _ A3.out).mono ?_); rintro e w' ⟨rfl, ⟨nd, rfl⟩⟩; refine ⟨_, rfl, ?_⟩) | (go_at_call 56; (with_reducible refine (cmp_isNaN_int.calls a1 false _ A5.out).mono ?_); rintro e w' ⟨rfl, ⟨nd, rfl⟩⟩))
   go_ret
   exact ⟨by first | rfl | (simp; done) | (simp [*]; done), by repeat (first | exact Drawn0.refl _ | apply Drawn0.step)⟩
 ·replace c4 := bf_ c4
  subst c4
  have H1 : (some (decide (a0 < a1))) = some r := by rw [if_neg (show ¬ (false = true) by decide)] at H; exact H
  clear H; have H := H1; clear H1
  obtain rfl := Option.some.inj H
  go_enter Tryd.func44, Tryd.ntmps44
  go_wp2_with (first | ((with_reducible refine gate_callee (f := 56) rfl ?_); refine goesL_ (some 6) rfl rfl Tryd.func56 (by kernel_rfl) rfl #[.int .i64 a0] rfl (by (try simp only [lm_, lq_, lx_]); first | done | rfl | (simp only [ld_, lt_]; rfl)) ?_; (with_reducible refine (cmp_isNaN_int.calls a0 false _ A3.out).mono ?_); rintro e w' ⟨rfl, ⟨nd, rfl⟩⟩; refine ⟨_, rfl, ?_⟩))
  go_ret
  exact ⟨by first | rfl | (simp; done) | (simp [*]; done), by repeat (first | exact Drawn0.refl _ | apply Drawn0.step)⟩

/-! ### slices_IsSorted_int_int: function 32 -/
def slices_IsSorted_int_int.l0 : Nat → List Int → Int → Option (Bool)
 | 0, _, _ => none
 | k + 1, x0, x3 => if x3 > 0 then (if 0 ≤ x3 then (if x3 < (x0.length : Int) then (if 0 ≤ (wrap64 (x3 - 1)) then (if (wrap64 (x3 - 1)) < (x0.length : Int) then ((cmp_Less_int.f (rd x0 x3) (rd x0 (wrap64 (x3 - 1)))).bind fun t105 => (if t105 = true then (some false) else (slices_IsSorted_int_int.l0 k x0 (wrap64 (x3 - 1))))) else (none)) else (none)) else (none)) else (none)) else (some true)
def slices_IsSorted_int_int.f (k : Nat) (l0 : List Int) : Option (Bool) := slices_IsSorted_int_int.l0 k l0 (wrap64 ((l0.length : Int) - 1))
theorem slices_IsSorted_int_int.mono_l : ∀ k, (∀ y0 y1, LeO (slices_IsSorted_int_int.l0 k y0 y1) (slices_IsSorted_int_int.l0 (k + 1) y0 y1))
 | 0 => fun _ _ r h => by simp [slices_IsSorted_int_int.l0] at h
 | k + 1 => by
  have ih0 := slices_IsSorted_int_int.mono_l k
  ·intro y0 y1
   unfold slices_IsSorted_int_int.l0
   repeat' first
   | (with_reducible exact ih0 _ _)
   | (with_reducible exact LeO.refl _)
   | (with_reducible exact LeO.none _)
   | (with_reducible refine LeO.ite ?_ ?_)
   | (with_reducible refine LeO.bind ?_ (fun _ => ?_))
   | exact ih0 _ _
   | exact LeO.none _
   | refine LeO.ite ?_ ?_
   | refine LeO.bind ?_ (fun _ => ?_)
theorem slices_IsSorted_int_int.mono : ∀ a0 k, LeO (slices_IsSorted_int_int.f k a0) (slices_IsSorted_int_int.f (k + 1) a0) := by
 intro a0 k
 have ih0 := slices_IsSorted_int_int.mono_l k
 unfold slices_IsSorted_int_int.f
 repeat' first
   | (with_reducible exact ih0 _ _)
   | (with_reducible exact LeO.refl _)
   | (with_reducible exact LeO.none _)
   | (with_reducible refine LeO.ite ?_ ?_)
   | (with_reducible refine LeO.bind ?_ (fun _ => ?_))
   | exact ih0 _ _
   | exact LeO.none _
   | refine LeO.ite ?_ ?_
   | refine LeO.bind ?_ (fun _ => ?_)
set_option maxHeartbeats 8000000 in
set_option maxRecDepth 100000 in
theorem slices_IsSorted_int_int.calls (k : Nat) (A0 : Option Addr) (c0 : Nat) (l0 : List Int) (r : Bool) (w : World) (hr0 : Kd.C (Kd.int .i64) w A0 l0.length l0) (hc0 : l0.length ≤ c0) (h : slices_IsSorted_int_int.f k l0 = some r) :
  Calls Tryd.prog 32 #[.slice A0 l0.length c0] w fun e w' => e = .returned (.bool r) ∧ Drawn0 w w' := by
 have HR0 := sd_ hr0
 have HC0 := sd_ hc0
 clear hr0 hc0
 have H : (slices_IsSorted_int_int.l0 k l0 (wrap64 ((l0.length : Int) - 1))) = some r := h
 clear h
 have H' := sd_ H
 clear H
 go_enter Tryd.func32, Tryd.ntmps32
 go_wp2
 repeat (go_quiet (fail); try go_wp2)
 go_loopg [3] k (fun kq v3 w' => ∃ (x3_1 : Int), v3 = .int .i64 x3_1 ∧ Aside0 (slices_IsSorted_int_int.l0 kq l0 x3_1 = some r) ∧ Aside0 (kq ≤ k) ∧ Drawn0 w w')
 case atStart => exact ⟨(wrap64 ((l0.length : Int) - 1)), (by first | rfl | (simp; done) | (simp [*]; done) | (simp [bne]; done)), H', ⟨Nat.le_refl _⟩, by repeat (first | exact Drawn0.refl _ | apply Drawn0.step)⟩
 case round =>
  clear H'
  obtain ⟨x3_1, rfl, HA, HK1, ⟨m1, rfl⟩⟩ := hrel
  cases gk with
  | zero => exact absurd HA.out (by simp [slices_IsSorted_int_int.l0])
  | succ k1 =>
   have H := HA.out
   clear HA
   simp only [slices_IsSorted_int_int.l0] at H
   by_cases c2 : x3_1 > 0
   ·rw [if_pos c2] at H
    have c2b0 : decide (0 < x3_1) = true := dt_ c2
    clear c2
    by_cases c3 : 0 ≤ x3_1
    ·rw [if_pos c3] at H
     have c3b0 : decide (0 ≤ x3_1) = true := dt_ c3
     clear c3
     by_cases c4 : x3_1 < (l0.length : Int)
     ·rw [if_pos c4] at H
      have c4b0 : decide (x3_1 < (l0.length : Int)) = true := dt_ c4
      clear c4
      obtain ⟨ji5, hji5⟩ : ∃ j_ : Int, (wrap64 (x3_1 - 1)) = j_ := ⟨_, rfl⟩
      replace H : (if 0 ≤ (ji5) then (if (ji5) < (l0.length : Int) then ((cmp_Less_int.f (rd l0 x3_1) (rd l0 (ji5))).bind fun t105 => (if t105 = true then (some false) else (slices_IsSorted_int_int.l0 k1 l0 ji5))) else (none)) else (none)) = some r := by first | (rw [hji5] at H; exact H) | (simp only [hji5] at H ⊢; exact H)
      have hji5w : (IntKind.i64.wrap (x3_1 - 1)) = ji5 := (i64_w _).trans hji5
      by_cases c6 : 0 ≤ (ji5)
      ·rw [if_pos c6] at H
       have c6b0 : decide (0 ≤ (ji5)) = true := dt_ c6
       clear c6
       by_cases c7 : (ji5) < (l0.length : Int)
       ·rw [if_pos c7] at H
        have c7b0 : decide ((ji5) < (l0.length : Int)) = true := dt_ c7
        clear c7
        replace H := ob_ H
        obtain ⟨t105, A80, H⟩ := H
        replace H : (if t105 = true then (some false) else (slices_IsSorted_int_int.l0 k1 l0 ji5)) = some r := H
        have A8 := sd_ A80
        clear A80
        by_cases c9 : t105 = true
        ·subst c9
         have H1 : (some false) = some r := by rw [if_pos rfl] at H; exact H
         clear H; have H := H1; clear H1
         obtain rfl := Option.some.inj H
         have p103 : 0 ≤ (x3_1 : Int) := od_ (by first | (with_reducible assumption) | assumption)
         have q103 : x3_1 < (l0.length : Int) := od_ (by first | (with_reducible assumption) | assumption)
         obtain ⟨ad103, e103, hx103_0⟩ := Kd.at_int HR0.out x3_1 p103 q103
         cases e103
         replace p103 := eq_true p103
         replace q103 := eq_true q103
         have p104 : 0 ≤ ((ji5) : Int) := od_ (by first | (with_reducible assumption) | assumption)
         have q104 : (ji5) < (l0.length : Int) := od_ (by first | (with_reducible assumption) | assumption)
         obtain ⟨ad104, e104, hx104_0⟩ := Kd.at_int HR0.out (ji5) p104 q104
         obtain rfl : ad103 = ad104 := (by injection e104)
         replace p104 := eq_true p104
         replace q104 := eq_true q104
         go_wp2_with (first | (go_at_call 44; (with_reducible refine (cmp_Less_int.calls (rd l0 x3_1) (rd l0 (ji5)) true _ A8.out).mono ?_); rintro e w' ⟨rfl, ⟨nd, rfl⟩⟩; (try first | exact ⟨rfl, _, World.drewN_drewN _ _ _⟩ | exact ⟨rfl, _, Eq.trans (World.drewN_drewN _ _ _) (congrArg (World.drewN _) (Nat.add_assoc _ _ _))⟩)))
         repeat (go_quiet (first | (go_at_call 44; (with_reducible refine (cmp_Less_int.calls (rd l0 x3_1) (rd l0 (ji5)) true _ A8.out).mono ?_); rintro e w' ⟨rfl, ⟨nd, rfl⟩⟩; (try first | exact ⟨rfl, _, World.drewN_drewN _ _ _⟩ | exact ⟨rfl, _, Eq.trans (World.drewN_drewN _ _ _) (congrArg (World.drewN _) (Nat.add_assoc _ _ _))⟩))); try go_wp2_with (first | (go_at_call 44; (with_reducible refine (cmp_Less_int.calls (rd l0 x3_1) (rd l0 (ji5)) true _ A8.out).mono ?_); rintro e w' ⟨rfl, ⟨nd, rfl⟩⟩; (try first | exact ⟨rfl, _, World.drewN_drewN _ _ _⟩ | exact ⟨rfl, _, Eq.trans (World.drewN_drewN _ _ _) (congrArg (World.drewN _) (Nat.add_assoc _ _ _))⟩))))
         go_ret
         exact ⟨by first | rfl | (simp; done) | (simp only [← hji5] <;> (first | rfl | simp)) | (simp [*]; done), by repeat (first | exact Drawn0.refl _ | apply Drawn0.step)⟩
        ·replace c9 := bf_ c9
         subst c9
         have H1 : (slices_IsSorted_int_int.l0 k1 l0 ji5) = some r := by rw [if_neg (show ¬ (false = true) by decide)] at H; exact H
         clear H; have H := H1; clear H1
         have H' := sd_ H
         clear H
         have p103 : 0 ≤ (x3_1 : Int) := od_ (by first | (with_reducible assumption) | assumption)
         have q103 : x3_1 < (l0.length : Int) := od_ (by first | (with_reducible assumption) | assumption)
         obtain ⟨ad103, e103, hx103_0⟩ := Kd.at_int HR0.out x3_1 p103 q103
         cases e103
         replace p103 := eq_true p103
         replace q103 := eq_true q103
         have p104 : 0 ≤ ((ji5) : Int) := od_ (by first | (with_reducible assumption) | assumption)
         have q104 : (ji5) < (l0.length : Int) := od_ (by first | (with_reducible assumption) | assumption)
         obtain ⟨ad104, e104, hx104_0⟩ := Kd.at_int HR0.out (ji5) p104 q104
         obtain rfl : ad103 = ad104 := (by injection e104)
         replace p104 := eq_true p104
         replace q104 := eq_true q104
         go_wp2_with (first | (go_at_call 44; (with_reducible refine (cmp_Less_int.calls (rd l0 x3_1) (rd l0 (ji5)) false _ A8.out).mono ?_); rintro e w' ⟨rfl, ⟨nd, rfl⟩⟩; (try first | exact ⟨rfl, _, World.drewN_drewN _ _ _⟩ | exact ⟨rfl, _, Eq.trans (World.drewN_drewN _ _ _) (congrArg (World.drewN _) (Nat.add_assoc _ _ _))⟩)))
         repeat (go_quiet (first | (go_at_call 44; (with_reducible refine (cmp_Less_int.calls (rd l0 x3_1) (rd l0 (ji5)) false _ A8.out).mono ?_); rintro e w' ⟨rfl, ⟨nd, rfl⟩⟩; (try first | exact ⟨rfl, _, World.drewN_drewN _ _ _⟩ | exact ⟨rfl, _, Eq.trans (World.drewN_drewN _ _ _) (congrArg (World.drewN _) (Nat.add_assoc _ _ _))⟩))); try go_wp2_with (first | (go_at_call 44; (with_reducible refine (cmp_Less_int.calls (rd l0 x3_1) (rd l0 (ji5)) false _ A8.out).mono ?_); rintro e w' ⟨rfl, ⟨nd, rfl⟩⟩; (try first | exact ⟨rfl, _, World.drewN_drewN _ _ _⟩ | exact ⟨rfl, _, Eq.trans (World.drewN_drewN _ _ _) (congrArg (World.drewN _) (Nat.add_assoc _ _ _))⟩))))
         go_roundg k1
         case measure => have := HK1.out; omega
         case rel => exact ⟨(ji5), (by first | rfl | (simp; done) | (simp only [← hji5] <;> (first | rfl | simp)) | (simp [*]; done)), H', ⟨by have := HK1.out; omega⟩, by repeat (first | exact Drawn0.refl _ | apply Drawn0.step)⟩
       ·rw [if_neg c7] at H
        exact absurd H (by simp)
      ·rw [if_neg c6] at H
       exact absurd H (by simp)
     ·rw [if_neg c4] at H
      exact absurd H (by simp)
    ·rw [if_neg c3] at H
     exact absurd H (by simp)
   ·rw [if_neg c2] at H
    have c2b0 : decide (0 < x3_1) = false := df_ c2
    clear c2
    obtain rfl := Option.some.inj H
    go_wp2
    repeat (go_quiet (fail); try go_wp2)
    go_ret
    exact ⟨by first | rfl | (simp; done) | (simp [*]; done), by repeat (first | exact Drawn0.refl _ | apply Drawn0.step)⟩

/-! ### chord_fits: function 19 -/
def chord_fits.f (k : Nat) (l0 : List Int) : Option (Bool) := if (l0.length : Int) < 1 then (some false) else (if (l0.length : Int) > 16 then (some false) else ((slices_IsSorted_int_int.f k l0).bind fun t106 => (if t106 = true then (if 0 < (l0.length : Int) then (if (rd l0 0) ≥ (-200) then (if 0 ≤ (wrap64 ((l0.length : Int) - 1)) then (if (wrap64 ((l0.length : Int) - 1)) < (l0.length : Int) then (some (decide ((rd l0 (wrap64 ((l0.length : Int) - 1))) ≤ 200))) else (none)) else (none)) else (some false)) else (none)) else (some false))))
theorem chord_fits.mono : ∀ a0 k, LeO (chord_fits.f k a0) (chord_fits.f (k + 1) a0) := by
 intro a0 k
 unfold chord_fits.f
 repeat' first
   | (with_reducible exact slices_IsSorted_int_int.mono _ _)
   | (with_reducible exact LeO.refl _)
   | (with_reducible exact LeO.none _)
   | (with_reducible refine LeO.ite ?_ ?_)
   | (with_reducible refine LeO.bind ?_ (fun _ => ?_))
   | exact slices_IsSorted_int_int.mono _ _
   | exact LeO.none _
   | refine LeO.ite ?_ ?_
   | refine LeO.bind ?_ (fun _ => ?_)
set_option maxHeartbeats 8000000 in
set_option maxRecDepth 100000 in
theorem chord_fits.calls (k : Nat) (A0 : Option Addr) (c0 : Nat) (l0 : List Int) (r : Bool) (w : World) (hr0 : Kd.C (Kd.int .i64) w A0 l0.length l0) (hc0 : l0.length ≤ c0) (h : chord_fits.f k l0 = some r) :
  Calls Tryd.prog 19 #[.slice A0 l0.length c0] w fun e w' => e = .returned (.bool r) ∧ Drawn0 w w' := by
 have HR0 := sd_ hr0
 have HC0 := sd_ hc0
 clear hr0 hc0
 have H : (if (l0.length : Int) < 1 then (some false) else (if (l0.length : Int) > 16 then (some false) else ((slices_IsSorted_int_int.f k l0).bind fun t106 => (if t106 = true then (if 0 < (l0.length : Int) then (if (rd l0 0) ≥ (-200) then (if 0 ≤ (wrap64 ((l0.length : Int) - 1)) then (if (wrap64 ((l0.length : Int) - 1)) < (l0.length : Int) then (some (decide ((rd l0 (wrap64 ((l0.length : Int) - 1))) ≤ 200))) else (none)) else (none)) else (some false)) else (none)) else (some false))))) = some r := h
 clear h
 by_cases c2 : (l0.length : Int) < 1
 ·rw [if_pos c2] at H
  have c2b0 : decide ((l0.length : Int) < 1) = true := dt_ c2
  have c2b1 : decide (l0.length < 1) = true := dt_ (by omega)
  clear c2
  obtain rfl := Option.some.inj H
  go_enter Tryd.func19, Tryd.ntmps19
  go_wp2
  go_ret
  exact ⟨by first | rfl | (simp; done) | (simp [*]; done), by repeat (first | exact Drawn0.refl _ | apply Drawn0.step)⟩
 ·rw [if_neg c2] at H
  have c2b0 : decide ((l0.length : Int) < 1) = false := df_ c2
  have c2b1 : decide (l0.length < 1) = false := df_ (by omega)
  clear c2
  by_cases c3 : (l0.length : Int) > 16
  ·rw [if_pos c3] at H
   have c3b0 : decide (16 < (l0.length : Int)) = true := dt_ c3
   have c3b1 : decide (16 < l0.length) = true := dt_ (by omega)
   clear c3
   obtain rfl := Option.some.inj H
   go_enter Tryd.func19, Tryd.ntmps19
   go_wp2
   go_ret
   exact ⟨by first | rfl | (simp; done) | (simp [*]; done), by repeat (first | exact Drawn0.refl _ | apply Drawn0.step)⟩
  ·rw [if_neg c3] at H
   have c3b0 : decide (16 < (l0.length : Int)) = false := df_ c3
   have c3b1 : decide (16 < l0.length) = false := df_ (by omega)
   clear c3
   replace H := ob_ H
   obtain ⟨t106, A40, H⟩ := H
   replace H : (if t106 = true then (if 0 < (l0.length : Int) then (if (rd l0 0) ≥ (-200) then (if 0 ≤ (wrap64 ((l0.length : Int) - 1)) then (if (wrap64 ((l0.length : Int) - 1)) < (l0.length : Int) then (some (decide ((rd l0 (wrap64 ((l0.length : Int) - 1))) ≤ 200))) else (none)) else (none)) else (some false)) else (none)) else (some false)) = some r := H
   have A4 := sd_ A40
   clear A40
   by_cases c5 : t106 = true
   ·subst c5
    have H1 : (if 0 < (l0.length : Int) then (if (rd l0 0) ≥ (-200) then (if 0 ≤ (wrap64 ((l0.length : Int) - 1)) then (if (wrap64 ((l0.length : Int) - 1)) < (l0.length : Int) then (some (decide ((rd l0 (wrap64 ((l0.length : Int) - 1))) ≤ 200))) else (none)) else (none)) else (some false)) else (none)) = some r := by rw [if_pos rfl] at H; exact H
    clear H; have H := H1; clear H1
    by_cases c6 : 0 < (l0.length : Int)
    ·rw [if_pos c6] at H
     have c6b0 : decide (0 < (l0.length : Int)) = true := dt_ c6
     have c6b1 : decide (0 < l0.length) = true := dt_ (by omega)
     clear c6
     by_cases c7 : (rd l0 0) ≥ (-200)
     ·rw [if_pos c7] at H
      have c7b0 : decide ((-200) ≤ (rd l0 0)) = true := dt_ c7
      clear c7
      obtain ⟨ji8, hji8⟩ : ∃ j_ : Int, (wrap64 ((l0.length : Int) - 1)) = j_ := ⟨_, rfl⟩
      replace H : (if 0 ≤ (ji8) then (if (ji8) < (l0.length : Int) then (some (decide ((rd l0 (ji8)) ≤ 200))) else (none)) else (none)) = some r := by first | (rw [hji8] at H; exact H) | (simp only [hji8] at H ⊢; exact H)
      (try rw [hji8] at A4)
      have hji8w : (IntKind.i64.wrap ((l0.length : Int) - 1)) = ji8 := (i64_w _).trans hji8
      by_cases c9 : 0 ≤ (ji8)
      ·rw [if_pos c9] at H
       have c9b0 : decide (0 ≤ (ji8)) = true := dt_ c9
       clear c9
       by_cases c10 : (ji8) < (l0.length : Int)
       ·rw [if_pos c10] at H
        have c10b0 : decide ((ji8) < (l0.length : Int)) = true := dt_ c10
        clear c10
        obtain rfl := Option.some.inj H
        go_enter Tryd.func19, Tryd.ntmps19
        go_wp2_with (first | (go_at_call 32; (with_reducible refine (slices_IsSorted_int_int.calls k _ _ l0 true _ ?side1 ?side2 A4.out).mono ?_); (case side1 => repeat (first | exact HR0.out | (with_reducible refine Kd.C_alloc ?_ _) | (with_reducible refine Kd.C_drewN ?_ _) | (with_reducible refine Kd.C_drew ?_))); (case side2 => exact HC0.out); rintro e w' ⟨rfl, ⟨nd, rfl⟩⟩; have p107 : 0 ≤ (0 : Int) := (by omega); have q107 : 0 < (l0.length : Int) := od_ (by first | (with_reducible assumption) | assumption); obtain ⟨ad107, e107, hx107_0⟩ := Kd.at_int HR0.out 0 p107 q107; cases e107; have qi107 : (0 < l0.length) = True := eq_true (by omega); (try rw [show ((0 : Int)).toNat = 0 from rfl] at hx107_0); (try rw [Addr.add_zero'] at hx107_0); replace p107 := eq_true p107; replace q107 := eq_true q107; have p108 : 0 ≤ ((ji8) : Int) := od_ (by first | (with_reducible assumption) | assumption); have q108 : (ji8) < (l0.length : Int) := od_ (by first | (with_reducible assumption) | assumption); obtain ⟨ad108, e108, hx108_0⟩ := Kd.at_int HR0.out (ji8) p108 q108; obtain rfl : ad107 = ad108 := (by injection e108); replace p108 := eq_true p108; replace q108 := eq_true q108))
        go_ret
        exact ⟨by first | rfl | (simp; done) | (simp only [← hji8] <;> (first | rfl | simp)) | (simp [*]; done), by repeat (first | exact Drawn0.refl _ | apply Drawn0.step)⟩
       ·rw [if_neg c10] at H
        exact absurd H (by simp)
      ·rw [if_neg c9] at H
       exact absurd H (by simp)
     ·rw [if_neg c7] at H
      have c7b0 : decide ((-200) ≤ (rd l0 0)) = false := df_ c7
      clear c7
      obtain rfl := Option.some.inj H
      go_enter Tryd.func19, Tryd.ntmps19
      go_wp2_with (first | (go_at_call 32; (with_reducible refine (slices_IsSorted_int_int.calls k _ _ l0 true _ ?side1 ?side2 A4.out).mono ?_); (case side1 => repeat (first | exact HR0.out | (with_reducible refine Kd.C_alloc ?_ _) | (with_reducible refine Kd.C_drewN ?_ _) | (with_reducible refine Kd.C_drew ?_))); (case side2 => exact HC0.out); rintro e w' ⟨rfl, ⟨nd, rfl⟩⟩; have p107 : 0 ≤ (0 : Int) := (by omega); have q107 : 0 < (l0.length : Int) := od_ (by first | (with_reducible assumption) | assumption); obtain ⟨ad107, e107, hx107_0⟩ := Kd.at_int HR0.out 0 p107 q107; cases e107; have qi107 : (0 < l0.length) = True := eq_true (by omega); (try rw [show ((0 : Int)).toNat = 0 from rfl] at hx107_0); (try rw [Addr.add_zero'] at hx107_0); replace p107 := eq_true p107; replace q107 := eq_true q107))
      go_ret
      exact ⟨by first | rfl | (simp; done) | (simp [*]; done), by repeat (first | exact Drawn0.refl _ | apply Drawn0.step)⟩
    ·rw [if_neg c6] at H
     exact absurd H (by simp)
   ·replace c5 := bf_ c5
    subst c5
    have H1 : (some false) = some r := by rw [if_neg (show ¬ (false = true) by decide)] at H; exact H
    clear H; have H := H1; clear H1
    obtain rfl := Option.some.inj H
    go_enter Tryd.func19, Tryd.ntmps19
    go_wp2_with (first | (go_at_call 32; (with_reducible refine (slices_IsSorted_int_int.calls k _ _ l0 false _ ?side1 ?side2 A4.out).mono ?_); (case side1 => repeat (first | exact HR0.out | (with_reducible refine Kd.C_alloc ?_ _) | (with_reducible refine Kd.C_drewN ?_ _) | (with_reducible refine Kd.C_drew ?_))); (case side2 => exact HC0.out); rintro e w' ⟨rfl, ⟨nd, rfl⟩⟩))
    go_ret
    exact ⟨by first | rfl | (simp; done) | (simp [*]; done), by repeat (first | exact Drawn0.refl _ | apply Drawn0.step)⟩

/-! ### chord_Sides: function 8 -/
section
open Go.Sort
theorem cell_plain {w : World} {ad : Addr} {v : Value} (h : w.cell? ad = some v) : ∃ b o, ad = ⟨b, o, none⟩ := by
 obtain ⟨b, o, s⟩ := ad
 unfold World.cell? at h
 split at h
 ·split at h
  ·cases h
  ·rename_i hs
   cases s with
   | none => exact ⟨b, o, rfl⟩
   | some x => simp at hs
 ·cases h
/-- The cells of an argument. -/
theorem arg_cells {w : World} {A0 : Option Addr} {l0 : List Int} (h : Kd.C (Kd.int .i64) w A0 l0.length l0) (hp : 0 < l0.length) : ∃ b o, A0 = some ⟨b, o, none⟩ ∧ ∀ j, j < l0.length → w.cell? ⟨b, o + j, none⟩ = some (.int .i64 (l0.getD j 0)) := by
 obtain ⟨ad, e, hc⟩ := Kd.at_int h (0 : Int) (by omega) (by omega)
 obtain ⟨b, o, rfl⟩ : ∃ b o, ad = ⟨b, o, none⟩ := by
  rw [show ((0 : Int)).toNat = 0 from rfl, Addr.add_zero'] at hc
  exact cell_plain hc
 refine ⟨b, o, e, fun j hj => ?_⟩
 obtain ⟨ad2, e2, hc2⟩ := Kd.at_int h (j : Int) (by omega) (by omega)
 rw [e] at e2
 cases e2
 have q := hc2
 rw [Int.toNat_natCast, show (Addr.add ⟨b, o, none⟩ j) = ⟨b, o + j, none⟩ by simp [Addr.add]] at q
 rw [q]
 unfold Go.Proofs.YtcokemaiploejaaDoorW.PrintWords.rd
 rw [Int.toNat_natCast]
theorem sort_below {w W W' : World} {g : Nat} (h : Below w.heap.size w W) (hg : W.grownBy W' (some g)) (hb : w.heap.size ≤ g) : Below w.heap.size w W' :=
 ⟨hg.os.trans h.os, hg.tape.trans h.tape, hg.output.trans h.output, Nat.le_trans h.size hg.size, fun i hi => (hg.block i (nl_ hi h.size) (by intro q; injection q with q; omega)).trans (h.block i hi)⟩
theorem nums_set' (k : IntKind) (l : List Int) (j : Nat) (v : Int) : (nums k l).toArray.setIfInBounds j (.int k v) = (nums k (l.set j v)).toArray := by
 simp [nums, List.map_set]
theorem made_nums' (m : Nat) : madeCells #[Value.int .i64 0] m = (nums .i64 (List.replicate m 0)).toArray := by
 apply Array.ext
 ·simp [nums, madeCells]
 ·intro i h1 h2
  simp [nums, madeCells, Nat.mod_one]
theorem R_of_blk' {w : World} {g base : Nat} {k : IntKind} {e : TypeId} {l : List Int} (h : w.heap[g]? = some (.cells (nums k l).toArray e (0, 0))) (hb : base ≤ g) (hl : l.length ≤ 9223372036854775807) : Kd.R (Kd.int k) e w base (fun _ => True) (.slice (some ⟨g, 0, none⟩) l.length l.length) l :=
 Kd.R_of_own ⟨by simp [encs], .inr ⟨g, l.length, (nums k l).toArray, rfl, hb, h, Nat.le_refl _, by simpa [maxLen] using hl, by simp [nums], by simp [nums, encs, List.take_of_length_le]⟩⟩ (fun _ _ => trivial)
/-- Is the head on the other side? -/
def side_o (ah : Int) (ot so : Bool) (p : Int) : Bool := so && !ot && decide (-1 ≤ wrap64 (p - ah)) && decide (wrap64 (p - ah) ≤ 1)
def sides_l : List Int → Int → Bool → Bool → List Int
 | [], _, _, _ => []
 | p :: r, ah, ot, so => (if side_o ah ot so p = true then 1 else 0) :: sides_l r p (side_o ah ot so p) true
def chord_Sides.f (k : Nat) (l0 : List Int) (up : Bool) : Option (List Int × Int) := (chord_fits.f k l0).bind fun t => if t = true then some (if up = true then sides_l l0 0 false false else (sides_l l0.reverse 0 false false).reverse, 0) else some ([], 2)
theorem chord_Sides.mono : ∀ l0 up k, LeO (chord_Sides.f k l0 up) (chord_Sides.f (k + 1) l0 up) := by
 intro l0 up k
 unfold chord_Sides.f
 exact LeO.bind (chord_fits.mono l0 k) (fun _ => LeO.refl _)
theorem sides_length : ∀ (l : List Int) (ah : Int) (ot so : Bool), (sides_l l ah ot so).length = l.length
 | [], _, _, _ => rfl
 | p :: r, ah, ot, so => by simp [sides_l, sides_length r]
/-- What the sorter's block holds. -/
def SB (w : World) (gs : Nat) (ah : Int) (ot so : Bool) : Prop := w.heap[gs]? = some (.cells #[.int .i64 ah, .bool ot, .bool so] 55 (0, 0))
def sw (w : World) (gs : Nat) (p : Int) (o : Bool) : World := ((w.setCell ⟨gs, 1, none⟩ (.bool o)).setCell ⟨gs, 0, none⟩ (.int .i64 p)).setCell ⟨gs, 2, none⟩ (.bool true)
theorem SB.sw {w : World} {gs : Nat} {ah : Int} {ot so : Bool} (h : SB w gs ah ot so) (p : Int) (o : Bool) : SB (sw w gs p o) gs p o true := by
 have h1 := blk_set h 1 (.bool o)
 have h2 := blk_set h1 0 (.int .i64 p)
 exact blk_set h2 2 (.bool true)
theorem sw_far {w : World} {gs g : Nat} {t : TypeId} {cs : Array Value} (h : w.heap[g]? = some (.cells cs t (0, 0))) (hn : g ≠ gs) (p : Int) (o : Bool) : (sw w gs p o).heap[g]? = some (.cells cs t (0, 0)) :=
 blk_far (blk_far (blk_far h (p := ⟨gs, 1, none⟩) hn _) (p := ⟨gs, 0, none⟩) hn _) (p := ⟨gs, 2, none⟩) hn _
theorem sw_below {w v : World} {gs : Nat} (h : Below w.heap.size w v) (hg : w.heap.size ≤ gs) (p : Int) (o : Bool) : Below w.heap.size w (sw v gs p o) := bs_ (bs_ (bs_ h hg) hg) hg
set_option maxHeartbeats 4000000 in
set_option maxRecDepth 100000 in
theorem side.calls (gs : Nat) (ah p : Int) (ot so : Bool) (w : World) (h : SB w gs ah ot so) :
  Calls Tryd.prog 22 #[.pointer (some ⟨gs, 0, none⟩), .int .i64 p] w fun e w' => e = .returned (.int .i64 (if side_o ah ot so p = true then 1 else 0)) ∧ w' = sw w gs p (side_o ah ot so p) := by
 have c0 : w.cell? ⟨gs, 0, none⟩ = some (.int .i64 ah) := (kc_ h 0).trans rfl
 have c1 : w.cell? ⟨gs, 1, none⟩ = some (.bool ot) := (kc_ h 1).trans rfl
 have c2 : w.cell? ⟨gs, 2, none⟩ = some (.bool so) := (kc_ h 2).trans rfl
 have f0 := kf_ h 0
 have f1 := kf_ h 1
 have f2 := kf_ h 2
 clear h
 obtain ⟨d, hd⟩ : ∃ d, wrap64 (p - ah) = d := ⟨_, rfl⟩
 have HO : ∃ o, side_o ah ot so p = o := ⟨_, rfl⟩
 obtain ⟨o, ho⟩ := HO
 have E := sd_ (show (so && !ot && decide (-1 ≤ d) && decide (d ≤ 1)) = o by rw [← ho, ← hd]; rfl)
 rw [ho]
 clear ho
 by_cases g1 : so = true
 ·by_cases g2 : ot = true
  ·obtain rfl : o = false := by rw [← E.out, g1, g2]; rfl
   subst g1; subst g2
   go_enter Tryd.func22, Tryd.ntmps22
   go_wp2
   go_ret
   exact ⟨rfl, rfl⟩
  ·obtain rfl := bf_ g2
   subst g1
   by_cases g3 : -1 ≤ d
   ·by_cases g4 : d ≤ 1
    ·obtain rfl : o = true := by rw [← E.out, dt_ g3, dt_ g4]; rfl
     go_enter Tryd.func22, Tryd.ntmps22
     go_wp2
     go_ret
     exact ⟨rfl, rfl⟩
    ·obtain rfl : o = false := by rw [← E.out, df_ g4]; simp
     go_enter Tryd.func22, Tryd.ntmps22
     go_wp2
     go_ret
     exact ⟨rfl, rfl⟩
   ·obtain rfl : o = false := by rw [← E.out, df_ g3]; simp
    go_enter Tryd.func22, Tryd.ntmps22
    go_wp2
    go_ret
    exact ⟨rfl, rfl⟩
 ·obtain rfl := bf_ g1
  obtain rfl : o = false := by rw [← E.out]; simp
  go_enter Tryd.func22, Tryd.ntmps22
  go_wp2
  go_ret
  exact ⟨rfl, rfl⟩
/-- How all lies in the loop: the order's cells, the sorter, what is told so far. -/
structure SW (w : World) (gs go gx : Nat) (q : List Int) (cur : Array Value) (ah : Int) (ot so : Bool) (out : List Int) (W : World) : Prop where
 zs : w.heap.size ≤ gs
 zo : w.heap.size ≤ go
 zx : w.heap.size ≤ gx
 n1 : go ≠ gs
 n2 : gx ≠ gs
 n3 : gx ≠ go
 hs : SB W gs ah ot so
 ho : W.heap[go]? = some (.cells cur 3 (0, 0))
 hc : ∀ j, j < q.length → cur[j]? = some (.int .i64 (q.getD j 0))
 hx : W.heap[gx]? = some (.cells (nums .i64 out).toArray 3 (0, 0))
 hB : Below w.heap.size w W
theorem SW.step {w : World} {gs go gx : Nat} {q : List Int} {cur : Array Value} {ah : Int} {ot so : Bool} {out : List Int} {W : World} (h : SW w gs go gx q cur ah ot so out W) (p : Int) (o : Bool) (i : Nat) (v : Int) : SW w gs go gx q cur p o true (out.set i v) ((sw W gs p o).setCell ⟨gx, i, none⟩ (.int .i64 v)) :=
 ⟨h.zs, h.zo, h.zx, h.n1, h.n2, h.n3, blk_far (h.hs.sw p o) (p := ⟨gx, i, none⟩) (Ne.symm h.n2) _, blk_far (sw_far h.ho h.n1 p o) (p := ⟨gx, i, none⟩) (Ne.symm h.n3) _, h.hc, by rw [← nums_set']; exact blk_set (sw_far h.hx h.n2 p o) i _, bs_ (sw_below h.hB h.zs p o) h.zx⟩
/-- What is told when i are done. -/
def outS (q : List Int) (i : Nat) : List Int := (sides_l q 0 false false).take i ++ List.replicate (q.length - i) 0
theorem outS_succ {q : List Int} {i : Nat} (h : i < q.length) : (outS q i).set i ((sides_l q 0 false false).getD i 0) = outS q (i + 1) := by
 unfold outS
 have hl := sides_length q 0 false false
 have e : (sides_l q 0 false false).getD i 0 = (sides_l q 0 false false)[i]'(by omega) := by rw [List.getD_eq_getElem?_getD, List.getElem?_eq_getElem (by omega)]; rfl
 rw [e]
 apply List.ext_getElem?
 intro j
 by_cases c : i = j
 ·subst c
  rw [List.getElem?_set_self (by simp; omega), List.getElem?_append_left (by simp; omega), List.getElem?_take_of_lt (by omega), List.getElem?_eq_getElem (by omega)]
 ·rw [List.getElem?_set_ne c]
  by_cases c2 : j < i
  ·rw [List.getElem?_append_left (by simp; omega), List.getElem?_append_left (by simp; omega), List.getElem?_take_of_lt c2, List.getElem?_take_of_lt (by omega)]
  ·rw [List.getElem?_append_right (by simp; omega), List.getElem?_append_right (by simp; omega), List.getElem?_replicate, List.getElem?_replicate]
   simp only [lt_]
   by_cases c3 : j < q.length
   ·rw [if_pos (by omega), if_pos (by omega)]
   ·rw [if_neg (by omega), if_neg (by omega)]
theorem outS_length {q : List Int} {i : Nat} (h : i ≤ q.length) : (outS q i).length = q.length := by
 unfold outS
 have hl := sides_length q 0 false false
 simp
 omega
theorem outS_all (q : List Int) : outS q q.length = sides_l q 0 false false := by
 unfold outS
 rw [Nat.sub_self, List.take_of_length_le (by rw [sides_length]; exact Nat.le_refl _)]
 simp
/-- The sorter's state behind i heads. -/
def stS (q : List Int) : Nat → Int × Bool × Bool
 | 0 => (0, false, false)
 | i + 1 => (q.getD i 0, side_o (stS q i).1 (stS q i).2.1 (stS q i).2.2 (q.getD i 0), true)
theorem sides_at : ∀ (q : List Int) (ah : Int) (ot so : Bool) (f : Nat → Int × Bool × Bool), f 0 = (ah, ot, so) → (∀ i, f (i + 1) = (q.getD i 0, side_o (f i).1 (f i).2.1 (f i).2.2 (q.getD i 0), true)) → ∀ i, i < q.length → (sides_l q ah ot so).getD i 0 = if side_o (f i).1 (f i).2.1 (f i).2.2 (q.getD i 0) = true then 1 else 0
 | [], _, _, _, _, _, _, i, h => absurd h (Nat.not_lt_zero _)
 | p :: r, ah, ot, so, f, h0, hs, 0, _ => by rw [h0]; rfl
 | p :: r, ah, ot, so, f, h0, hs, i + 1, h => by
  have := sides_at r p (side_o ah ot so p) true (fun j => f (j + 1)) (by have := hs 0; rw [h0] at this; exact this) (fun j => hs (j + 1)) i (by simpa using h)
  exact this
theorem fits_len {k : Nat} {l : List Int} (h : chord_fits.f k l = some true) : 1 ≤ l.length ∧ l.length ≤ 16 := by
 unfold chord_fits.f at h
 by_cases c1 : (l.length : Int) < 1
 ·rw [if_pos c1] at h; simp at h
 ·by_cases c2 : (l.length : Int) > 16
  ·rw [if_neg c1, if_pos c2] at h; simp at h
  ·omega
set_option maxHeartbeats 8000000 in
set_option maxRecDepth 100000 in
theorem chord_Sides.calls (k : Nat) (A0 : Option Addr) (c0 : Nat) (l0 : List Int) (a1 : Bool) (r1 : List Int) (r2 : Int) (w : World) (hr0 : Kd.C (Kd.int .i64) w A0 l0.length l0) (hc0 : l0.length ≤ c0) (h : chord_Sides.f k l0 a1 = some (r1, r2)) :
  Calls Tryd.prog 8 #[.slice A0 l0.length c0, .bool a1] w fun e w' => ∃ v0_ : Value, e = .returned (.tuple #[v0_, .int .i64 r2]) ∧ Kd.R (Kd.int .i64) 3 w' w.heap.size (fun _ => True) v0_ r1 ∧ Below w.heap.size w w' := by
 unfold chord_Sides.f at h
 obtain ⟨t, ht, h⟩ := ob_ h
 have HR0 := sd_ hr0
 have HC0 := sd_ hc0
 have A2 := sd_ ht
 clear hr0 hc0 ht
 by_cases c : t = true
 rotate_left
 ·obtain rfl := bf_ c
  obtain ⟨rfl, rfl⟩ : [] = r1 ∧ 2 = r2 := by simpa using h
  go_enter Tryd.func8, Tryd.ntmps8
  go_wp2_with (go_at_call 19; refine (chord_fits.calls k _ _ l0 false _ HR0.out HC0.out A2.out).mono ?_; rintro e w1 ⟨rfl, hd⟩; have hb := Drawn0.below hd)
  go_ret2
  exact ⟨_, rfl, Kd.R_nil _ _ _ _ _, hb⟩
 ·subst c
  rw [if_pos rfl] at h
  have hln := fits_len A2.out
  obtain ⟨b, o, rfl, hcells⟩ := arg_cells HR0.out (by omega)
  have HL := sd_ hln
  have HQ := sd_ hcells
  clear hln hcells
  have hbox := fun (w : World) => (blk_new w (.cells #[.int .i64 0, .bool false, .bool false] 55))
  rcases Bool.eq_false_or_eq_true a1 with ha | ha
  ·subst ha
   obtain ⟨rfl, rfl⟩ : sides_l l0 0 false false = r1 ∧ 0 = r2 := by simpa using h
   clear h
   go_enter Tryd.func8, Tryd.ntmps8
   go_upto_region 3 with (go_at_call 19; refine (chord_fits.calls k _ _ l0 true _ HR0.out HC0.out A2.out).mono ?_; rintro e w1 ⟨rfl, hd1⟩; have hb1 := Drawn0.below hd1)
   go_upto_region 6 with (go_at_call 20; refine (Tryd.slices_Clone_int b o l0.length c0 l0 _ (Nat.le_refl _) (by have := HL.out; omega) (fun j hj => (pw_cell_below hb1 (HQ.out j hj)))).mono ?_; rintro e w2 ⟨v, rfl, hown, hnn, hb2⟩)
   rw [List.take_length] at hown
   obtain ⟨hol, ho2⟩ := hown
   rcases ho2 with ⟨q1, _⟩ | ⟨go, cap, cur, rfl, hgo, hhe, hcl, hcm, hcs, htk⟩
   ·exact absurd q1 hnn
   have hB2 : Below w.heap.size w w2 := bt_ hb1 hb2
   have hgw : w.heap.size ≤ go := Nat.le_trans hb1.size hgo
   rw [Nat.mul_one] at htk hcs
   rw [show (l0.map (Value.int .i64)).length = l0.length by simp] at hol
   have hhe3 := hhe
   have hB3 := hB2
   have htk3 : cur.toList.take l0.length = l0.map (Value.int .i64) := by simpa using htk
   clear hhe htk hB2
   generalize w2 = W4 at hhe3 hB3 ⊢
   generalize cur = cur4 at hhe3 htk3
   have hcm4 : ∀ j, j < (l0).length → cur4[j]? = some (.int .i64 ((l0).getD j 0)) := by
    intro j hj
    have e1 : (cur4.toList.take (l0).length)[j]? = ((l0).map (Value.int .i64))[j]? := by rw [htk3]
    rw [List.getElem?_take_of_lt hj, Array.getElem?_toList] at e1
    rw [e1, List.getElem?_map, List.getElem?_eq_getElem hj, List.getD_eq_getElem?_getD, List.getElem?_eq_getElem hj]
    rfl
   have HC4 := sd_ hcm4
   have HHE := sd_ (And.intro hhe3 (And.intro hB3 hgw))
   clear hcm4 htk3 hhe3 hB3
   try clear hol; try clear hnn; try clear hgo; try clear hb2; try clear hb1; try clear hd1; try clear hbox; try clear hB2; try clear hcs; try clear hcl; try clear hcm; try clear htk; try clear hhe
   have hmk := print_make (P := Tryd.prog) 22 3 .i64 8 Tryd.underlying22 info3 (by decide) l0.length (by have := HL.out; omega)
   go_upto_region 8 with (fail)
   have D0 : SW w W4.heap.size go (W4.heap.size + 1) (l0) cur4 0 false false (outS (l0) 0) ((W4.alloc (.cells #[.int .i64 0, .bool false, .bool false] 55)).alloc (.cells (madeCells #[.int .i64 0] l0.length) 3)) := by
    obtain ⟨u1, u2, u3⟩ := HHE.out
    have lg := blk_lt u1
    have s1 : (W4.alloc (.cells #[.int .i64 0, .bool false, .bool false] 55)).heap.size = W4.heap.size + 1 := by simp
    have n1 := blk_new (W4.alloc (.cells #[.int .i64 0, .bool false, .bool false] 55)) (.cells (madeCells #[.int .i64 0] l0.length) 3)
    rw [s1, made_nums'] at n1
    have hz := u2.size
    rw [made_nums']
    refine ⟨hz, u3, by omega, by omega, by omega, by omega, ka_ (blk_new _ _) _, ka_ (ka_ u1 _) _, HC4.out, ?_, ba_ (ba_ u2 _) _⟩
    rw [n1]
    unfold outS
    rw [List.take_zero, List.nil_append, Nat.sub_zero, show (l0).length = l0.length by simp]
   have HD0 := sd_ D0
   clear D0 HHE hmk
   generalize ((W4.alloc (.cells #[.int .i64 0, .bool false, .bool false] 55)).alloc (.cells (madeCells #[.int .i64 0] l0.length) 3)) = W7 at HD0 ⊢
   generalize W4.heap.size + 1 = gx at HD0 ⊢
   generalize W4.heap.size = gs at HD0 ⊢
   go_wp2
   go_loopg [28] l0.length (fun kq v28 wr => ∃ i : Nat, v28 = .int .i64 i ∧ Aside0 (kq + i = l0.length ∧ SW w gs go gx (l0) cur4 (stS (l0) i).1 (stS (l0) i).2.1 (stS (l0) i).2.2 (outS (l0) i) wr))
   case atStart => exact ⟨0, rfl, ⟨by omega, HD0.out⟩⟩
   case round =>
    obtain ⟨i, rfl, hA⟩ := hrel
    clear HD0
    have hi : i ≤ l0.length := by have := hA.out.1; omega
    have hlb := HL.out.2
    by_cases hlt : i < l0.length
    ·obtain ⟨k1, rfl⟩ : ∃ k1, gk = k1 + 1 := ⟨gk - 1, by have := hA.out.1; omega⟩
     obtain ⟨q1, q2⟩ := hA.out
     have hiq : i < (l0).length := by rw [show (l0).length = l0.length by simp]; exact hlt
     have HS2 := sd_ (outS_succ (q := l0) hiq)
     rw [sides_at (l0) 0 false false (stS (l0)) rfl (fun j => rfl) i hiq] at HS2
     have HST := sd_ (show stS (l0) (i + 1) = ((l0).getD i 0, side_o (stS (l0) i).1 (stS (l0) i).2.1 (stS (l0) i).2.2 ((l0).getD i 0), true) from rfl)
     obtain ⟨p, hp⟩ : ∃ p, (l0).getD i 0 = p := ⟨_, rfl⟩
     have hc : wr.cell? ⟨go, i, none⟩ = some (.int .i64 p) := (kc_ q2.ho i).trans ((HC4.out i hiq).trans (by rw [hp]))
     rw [hp] at HS2 HST
     have HSD := sd_ (side.calls gs (stS (l0) i).1 p (stS (l0) i).2.1 (stS (l0) i).2.2 wr q2.hs)
     have HN := sd_ (q2.step p (side_o (stS (l0) i).1 (stS (l0) i).2.1 (stS (l0) i).2.2 p) i (if side_o (stS (l0) i).1 (stS (l0) i).2.1 (stS (l0) i).2.2 p = true then 1 else 0))
     obtain ⟨sd, hsd⟩ : ∃ sd, side_o (stS (l0) i).1 (stS (l0) i).2.1 (stS (l0) i).2.2 p = sd := ⟨_, rfl⟩
     have hx2 := sw_far q2.hx q2.n2 p sd
     rw [hsd] at HS2 HST HSD HN
     obtain ⟨v, hv⟩ : ∃ v : Int, (if sd = true then 1 else 0) = v := ⟨_, rfl⟩
     rw [hv] at HS2 HSD HN
     have hll : (outS (l0) i).length = l0.length := by rw [outS_length (by omega), show (l0).length = l0.length by simp]
     obtain ⟨u0, hu0⟩ : ∃ u, (sw wr gs p sd).cell? ⟨gx, i, none⟩ = some u := ⟨_, (kc_ hx2 i).trans (Array.getElem?_eq_getElem (by rw [List.size_toArray, nums_length, hll]; exact hlt))⟩
     have hf0 := kf_ hx2 i
     have HI := sd_ q1
     clear hA q1 q2 hsd hv hp hx2 hi hiq
     go_wp2_with (go_at_call 22; refine HSD.out.mono ?_; rintro e w3 ⟨rfl, rfl⟩)
     go_roundg k1
     case measure => omega
     case rel =>
      refine ⟨i + 1, by go_num, ⟨by have := HI.out; omega, ?_⟩⟩
      rw [HST.out, ← HS2.out]
      exact HN.out
    ·have him : i = l0.length := by omega
     subst him
     obtain ⟨_, q2⟩ := hA.out
     have hfin := q2.hx
     have hBf := q2.hB
     have hzx := q2.zx
     rw [← show (l0).length = l0.length by simp, outS_all] at hfin
     have HF := sd_ (And.intro hfin (And.intro hBf hzx))
     clear hA q2 hfin hBf hzx hi
     go_wp2
     go_ret2
     obtain ⟨hfin, hBf, hzx⟩ := HF.out
     refine ⟨_, rfl, ?_, hBf⟩
     have hsl := sides_length l0 0 false false
     have := R_of_blk' (base := w.heap.size) hfin hzx (by omega)
     rw [hsl] at this
     exact this
  ·subst ha
   obtain ⟨rfl, rfl⟩ : (sides_l l0.reverse 0 false false).reverse = r1 ∧ 0 = r2 := by simpa using h
   clear h
   go_enter Tryd.func8, Tryd.ntmps8
   go_upto_region 3 with (go_at_call 19; refine (chord_fits.calls k _ _ l0 true _ HR0.out HC0.out A2.out).mono ?_; rintro e w1 ⟨rfl, hd1⟩; have hb1 := Drawn0.below hd1)
   go_upto_if 17 with (go_at_call 20; refine (Tryd.slices_Clone_int b o l0.length c0 l0 _ (Nat.le_refl _) (by have := HL.out; omega) (fun j hj => (pw_cell_below hb1 (HQ.out j hj)))).mono ?_; rintro e w2 ⟨v, rfl, hown, hnn, hb2⟩)
   rw [List.take_length] at hown
   obtain ⟨hol, ho2⟩ := hown
   rcases ho2 with ⟨q1, _⟩ | ⟨go, cap, cur, rfl, hgo, hhe, hcl, hcm, hcs, htk⟩
   ·exact absurd q1 hnn
   have hB2 : Below w.heap.size w w2 := bt_ hb1 hb2
   have hgw : w.heap.size ≤ go := Nat.le_trans hb1.size hgo
   rw [Nat.mul_one] at htk hcs
   rw [show (l0.map (Value.int .i64)).length = l0.length by simp] at hol
   have HH := sd_ (holds_of_blockI (ss := l0) hhe (by simpa using htk))
   have HS := sd_ (And.intro hhe (And.intro htk (And.intro hcs (And.intro hB2 (And.intro hgw hcl)))))
   clear hhe htk hcs hB2 hgw hcl hcm hol hgo hb2 hb1 hd1 hnn hbox
   go_upto_region 6 with (go_at_call 21; refine (Tryd.slices_Reverse_int go 0 cap l0 _ HH.out (by have := HL.out; omega)).mono ?_; rintro e w3 ⟨rfl, n3, rfl⟩)
   obtain ⟨hhe, htk, hcs, hB2, hgw, hcl⟩ := HS.out
   have hhe3 := heap_sortedI (n := n3) (os := #[]) l0.reverse.toArray hhe
   have hB3 : Below w.heap.size w (grow (putRow (Value.int .i64) (Sort.ahead w2 n3) go 0 l0.reverse.toArray) #[]) := sort_below hB2 (grownBy_sortedI _) hgw
   rw [grow_empty] at hhe3 hB3
   have htk3 := take_putCellsI cur l0.reverse (by rw [List.length_reverse]; omega)
   clear hhe htk HH
   generalize putRow (Value.int .i64) (Sort.ahead w2 n3) go 0 l0.reverse.toArray = W4 at hhe3 hB3 ⊢
   generalize putCells (Value.int .i64) 0 l0.reverse.toArray cur = cur4 at hhe3 htk3
   have hcm4 : ∀ j, j < (l0.reverse).length → cur4[j]? = some (.int .i64 ((l0.reverse).getD j 0)) := by
    intro j hj
    have e1 : (cur4.toList.take (l0.reverse).length)[j]? = ((l0.reverse).map (Value.int .i64))[j]? := by rw [htk3]
    rw [List.getElem?_take_of_lt hj, Array.getElem?_toList] at e1
    rw [e1, List.getElem?_map, List.getElem?_eq_getElem hj, List.getD_eq_getElem?_getD, List.getElem?_eq_getElem hj]
    rfl
   have HC4 := sd_ hcm4
   have HHE := sd_ (And.intro hhe3 (And.intro hB3 hgw))
   clear hcm4 htk3 hhe3 hB3
   try clear hol; try clear hnn; try clear hgo; try clear hb2; try clear hb1; try clear hd1; try clear hbox; try clear hB2; try clear hcs; try clear hcl; try clear hcm; try clear htk; try clear hhe
   have hmk := print_make (P := Tryd.prog) 22 3 .i64 8 Tryd.underlying22 info3 (by decide) l0.length (by have := HL.out; omega)
   go_upto_region 8 with (fail)
   have D0 : SW w W4.heap.size go (W4.heap.size + 1) (l0.reverse) cur4 0 false false (outS (l0.reverse) 0) ((W4.alloc (.cells #[.int .i64 0, .bool false, .bool false] 55)).alloc (.cells (madeCells #[.int .i64 0] l0.length) 3)) := by
    obtain ⟨u1, u2, u3⟩ := HHE.out
    have lg := blk_lt u1
    have s1 : (W4.alloc (.cells #[.int .i64 0, .bool false, .bool false] 55)).heap.size = W4.heap.size + 1 := by simp
    have n1 := blk_new (W4.alloc (.cells #[.int .i64 0, .bool false, .bool false] 55)) (.cells (madeCells #[.int .i64 0] l0.length) 3)
    rw [s1, made_nums'] at n1
    have hz := u2.size
    rw [made_nums']
    refine ⟨hz, u3, by omega, by omega, by omega, by omega, ka_ (blk_new _ _) _, ka_ (ka_ u1 _) _, HC4.out, ?_, ba_ (ba_ u2 _) _⟩
    rw [n1]
    unfold outS
    rw [List.take_zero, List.nil_append, Nat.sub_zero, show (l0.reverse).length = l0.length by simp]
   have HD0 := sd_ D0
   clear D0 HHE hmk
   generalize ((W4.alloc (.cells #[.int .i64 0, .bool false, .bool false] 55)).alloc (.cells (madeCells #[.int .i64 0] l0.length) 3)) = W7 at HD0 ⊢
   generalize W4.heap.size + 1 = gx at HD0 ⊢
   generalize W4.heap.size = gs at HD0 ⊢
   go_wp2
   go_loopg [28] l0.length (fun kq v28 wr => ∃ i : Nat, v28 = .int .i64 i ∧ Aside0 (kq + i = l0.length ∧ SW w gs go gx (l0.reverse) cur4 (stS (l0.reverse) i).1 (stS (l0.reverse) i).2.1 (stS (l0.reverse) i).2.2 (outS (l0.reverse) i) wr))
   case atStart => exact ⟨0, rfl, ⟨by omega, HD0.out⟩⟩
   case round =>
    obtain ⟨i, rfl, hA⟩ := hrel
    clear HD0
    have hi : i ≤ l0.length := by have := hA.out.1; omega
    have hlb := HL.out.2
    by_cases hlt : i < l0.length
    ·obtain ⟨k1, rfl⟩ : ∃ k1, gk = k1 + 1 := ⟨gk - 1, by have := hA.out.1; omega⟩
     obtain ⟨q1, q2⟩ := hA.out
     have hiq : i < (l0.reverse).length := by rw [show (l0.reverse).length = l0.length by simp]; exact hlt
     have HS2 := sd_ (outS_succ (q := l0.reverse) hiq)
     rw [sides_at (l0.reverse) 0 false false (stS (l0.reverse)) rfl (fun j => rfl) i hiq] at HS2
     have HST := sd_ (show stS (l0.reverse) (i + 1) = ((l0.reverse).getD i 0, side_o (stS (l0.reverse) i).1 (stS (l0.reverse) i).2.1 (stS (l0.reverse) i).2.2 ((l0.reverse).getD i 0), true) from rfl)
     obtain ⟨p, hp⟩ : ∃ p, (l0.reverse).getD i 0 = p := ⟨_, rfl⟩
     have hc : wr.cell? ⟨go, i, none⟩ = some (.int .i64 p) := (kc_ q2.ho i).trans ((HC4.out i hiq).trans (by rw [hp]))
     rw [hp] at HS2 HST
     have HSD := sd_ (side.calls gs (stS (l0.reverse) i).1 p (stS (l0.reverse) i).2.1 (stS (l0.reverse) i).2.2 wr q2.hs)
     have HN := sd_ (q2.step p (side_o (stS (l0.reverse) i).1 (stS (l0.reverse) i).2.1 (stS (l0.reverse) i).2.2 p) i (if side_o (stS (l0.reverse) i).1 (stS (l0.reverse) i).2.1 (stS (l0.reverse) i).2.2 p = true then 1 else 0))
     obtain ⟨sd, hsd⟩ : ∃ sd, side_o (stS (l0.reverse) i).1 (stS (l0.reverse) i).2.1 (stS (l0.reverse) i).2.2 p = sd := ⟨_, rfl⟩
     have hx2 := sw_far q2.hx q2.n2 p sd
     rw [hsd] at HS2 HST HSD HN
     obtain ⟨v, hv⟩ : ∃ v : Int, (if sd = true then 1 else 0) = v := ⟨_, rfl⟩
     rw [hv] at HS2 HSD HN
     have hll : (outS (l0.reverse) i).length = l0.length := by rw [outS_length (by omega), show (l0.reverse).length = l0.length by simp]
     obtain ⟨u0, hu0⟩ : ∃ u, (sw wr gs p sd).cell? ⟨gx, i, none⟩ = some u := ⟨_, (kc_ hx2 i).trans (Array.getElem?_eq_getElem (by rw [List.size_toArray, nums_length, hll]; exact hlt))⟩
     have hf0 := kf_ hx2 i
     have HI := sd_ q1
     clear hA q1 q2 hsd hv hp hx2 hi hiq
     go_wp2_with (go_at_call 22; refine HSD.out.mono ?_; rintro e w3 ⟨rfl, rfl⟩)
     go_roundg k1
     case measure => omega
     case rel =>
      refine ⟨i + 1, by go_num, ⟨by have := HI.out; omega, ?_⟩⟩
      rw [HST.out, ← HS2.out]
      exact HN.out
    ·have him : i = l0.length := by omega
     subst him
     obtain ⟨_, q2⟩ := hA.out
     have hfin := q2.hx
     have hBf := q2.hB
     have hzx := q2.zx
     rw [← show (l0.reverse).length = l0.length by simp, outS_all] at hfin
     have HF := sd_ (And.intro hfin (And.intro hBf hzx))
     clear hA q2 hfin hBf hzx hi
     have hsl : (sides_l l0.reverse 0 false false).length = l0.length := by rw [sides_length, List.length_reverse]
     have HH2 : Aside0 (Holds (Value.int .i64) wr gx 0 (sides_l l0.reverse 0 false false).toArray) := ⟨holds_of_blockI HF.out.1 (by simp [nums, List.take_of_length_le])⟩
     have hrv := sd_ (Tryd.slices_Reverse_int gx 0 l0.length (sides_l l0.reverse 0 false false) wr HH2.out (by omega))
     rw [hsl] at hrv
     go_wp2_with (go_at_call 21; refine hrv.out.mono ?_; rintro e w9 ⟨rfl, n9, rfl⟩)
     go_ret2
     obtain ⟨hfin, hBf, hzx⟩ := HF.out
     have hh9 := heap_sortedI (n := n9) (os := #[]) (sides_l l0.reverse 0 false false).reverse.toArray hfin
     have hB9 : Below w.heap.size w (grow (putRow (Value.int .i64) (Sort.ahead wr n9) gx 0 (sides_l l0.reverse 0 false false).reverse.toArray) #[]) := sort_below hBf (grownBy_sortedI _) hzx
     rw [grow_empty] at hh9 hB9
     have e9 : putCells (Value.int .i64) 0 (sides_l l0.reverse 0 false false).reverse.toArray (nums .i64 (sides_l l0.reverse 0 false false)).toArray = (nums .i64 (sides_l l0.reverse 0 false false).reverse).toArray := by
      have := take_putCellsI (nums .i64 (sides_l l0.reverse 0 false false)).toArray (sides_l l0.reverse 0 false false).reverse (by simp [nums])
      apply Array.toList_inj.1
      rw [List.take_of_length_le (by simp [putCells, nums])] at this
      rw [this]
      rfl
     rw [e9] at hh9
     refine ⟨_, rfl, ?_, hB9⟩
     have := R_of_blk' (base := w.heap.size) hh9 hzx (by rw [List.length_reverse]; omega)
     rw [List.length_reverse, hsl] at this
     exact this
end

/-! ### chord_head: function 24 -/
def chord_head.f (a0 : Int) : Option (Bool) := if a0 ≥ 1 then (some (decide (a0 ≤ 4))) else (some false)
set_option maxHeartbeats 8000000 in
set_option maxRecDepth 100000 in
theorem chord_head.calls (a0 : Int) (r : Bool) (w : World) (h : chord_head.f a0 = some r) :
  Calls Tryd.prog 24 #[.int .i64 a0] w fun e w' => e = .returned (.bool r) ∧ Drawn0 w w' := by
 have H : (if a0 ≥ 1 then (some (decide (a0 ≤ 4))) else (some false)) = some r := h
 clear h
 by_cases c2 : a0 ≥ 1
 ·rw [if_pos c2] at H
  have c2b0 : decide (1 ≤ a0) = true := dt_ c2
  clear c2
  obtain rfl := Option.some.inj H
  go_enter Tryd.func24, Tryd.ntmps24
  go_wp2
  go_ret
  exact ⟨by first | rfl | (simp; done) | (simp [*]; done), by repeat (first | exact Drawn0.refl _ | apply Drawn0.step)⟩
 ·rw [if_neg c2] at H
  have c2b0 : decide (1 ≤ a0) = false := df_ c2
  clear c2
  obtain rfl := Option.some.inj H
  go_enter Tryd.func24, Tryd.ntmps24
  go_wp2
  go_ret
  exact ⟨by first | rfl | (simp; done) | (simp [*]; done), by repeat (first | exact Drawn0.refl _ | apply Drawn0.step)⟩

/-! ### glyph_Known: function 34 -/
def glyph_Known.f (a0 : Int) : Option (Bool) := if a0 ≥ 1 then (some (decide (a0 ≤ 47))) else (some false)
set_option maxHeartbeats 8000000 in
set_option maxRecDepth 100000 in
theorem glyph_Known.calls (a0 : Int) (r : Bool) (w : World) (h : glyph_Known.f a0 = some r) :
  Calls Tryd.prog 34 #[.int .i64 a0] w fun e w' => e = .returned (.bool r) ∧ Drawn0 w w' := by
 have H : (if a0 ≥ 1 then (some (decide (a0 ≤ 47))) else (some false)) = some r := h
 clear h
 by_cases c2 : a0 ≥ 1
 ·rw [if_pos c2] at H
  have c2b0 : decide (1 ≤ a0) = true := dt_ c2
  clear c2
  obtain rfl := Option.some.inj H
  go_enter Tryd.func34, Tryd.ntmps34
  go_wp2
  go_ret
  exact ⟨by first | rfl | (simp; done) | (simp [*]; done), by repeat (first | exact Drawn0.refl _ | apply Drawn0.step)⟩
 ·rw [if_neg c2] at H
  have c2b0 : decide (1 ≤ a0) = false := df_ c2
  clear c2
  obtain rfl := Option.some.inj H
  go_enter Tryd.func34, Tryd.ntmps34
  go_wp2
  go_ret
  exact ⟨by first | rfl | (simp; done) | (simp [*]; done), by repeat (first | exact Drawn0.refl _ | apply Drawn0.step)⟩

end Go.Proofs.YtcokemaiploejaaDoor.P
