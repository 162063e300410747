-- Written by a program of this session (wip/tools/xprint.py, over the kit's print): Lean checks it.
import Derived.Test.YtbmdbkjmleimmaaPx0
namespace Go.Proofs.Ytbmdbkjmleimmaa.P
open Go.RowKit Go.Proofs.YtbmdbkjmleimmaaW.PrintWords Go.Proofs.YtbmdbkjmleimmaaW.PrintLast Go.Proofs.YtbmdbkjmleimmaaW.PrintMore
attribute [local go_sem] max2_int min2_int max_two min_two max_three min_three max_four min_four   -- for this text's walks alone
set_option linter.unusedVariables false
set_option linter.unusedSimpArgs false

/-! ### slope_close: function 20 -/
def slope_close.f (a0 : Int) : Option (Bool) := if a0 ≥ (-1073741824) then (some (decide (a0 ≤ 1073741824))) else (some false)
set_option maxHeartbeats 8000000 in
set_option maxRecDepth 100000 in
theorem slope_close.calls (a0 : Int) (r : Bool) (w : World) (h : slope_close.f a0 = some r) :
  Calls Try.prog 20 #[.int .i64 a0] w fun e w' => e = .returned (.bool r) ∧ Drawn0 w w' := by
 have H : (if a0 ≥ (-1073741824) then (some (decide (a0 ≤ 1073741824))) else (some false)) = some r := h
 clear h
 by_cases c2 : a0 ≥ (-1073741824)
 ·rw [if_pos c2] at H
  have c2b0 : decide ((-1073741824) ≤ a0) = true := dt_ c2
  clear c2
  obtain rfl := Option.some.inj H
  go_enter Try.func20, Try.ntmps20
  go_wp2
  go_ret
  exact ⟨by first | rfl | (simp; done) | (simp [*]; done), by repeat (first | exact Drawn0.refl _ | apply Drawn0.step)⟩
 ·rw [if_neg c2] at H
  have c2b0 : decide ((-1073741824) ≤ a0) = false := df_ c2
  clear c2
  obtain rfl := Option.some.inj H
  go_enter Try.func20, Try.ntmps20
  go_wp2
  go_ret
  exact ⟨by first | rfl | (simp; done) | (simp [*]; done), by repeat (first | exact Drawn0.refl _ | apply Drawn0.step)⟩

/-! ### slope_fits: function 12 -/
mutual
def slope_fits.j0 : Nat → List Int → List Int → Bool → Option (Bool)
 | 0, _, _, _ => none
 | k + 1, x0, x1, x21 => if x21 = true then (some false) else (slope_fits.l0 k x0 x1 x0 (x0.length : Int) 0)
def slope_fits.l0 : Nat → List Int → List Int → List Int → Int → Int → Option (Bool)
 | 0, _, _, _, _, _ => none
 | k + 1, x0, x1, x22, x23, x24 => if x24 < x23 then (if 0 ≤ x24 then (if x24 < (x22.length : Int) then ((slope_close.f (rd x22 x24)).bind fun t102 => (if t102 = true then (if x24 < (x1.length : Int) then ((slope_close.f (rd x1 x24)).bind fun t104 => (if t104 = true then (if x24 > 0 then (if 0 ≤ (wrap64 (x24 - 1)) then (if (wrap64 (x24 - 1)) < (x0.length : Int) then (if (rd x22 x24) ≤ (rd x0 (wrap64 (x24 - 1))) then (some false) else (slope_fits.l0 k x0 x1 x22 x23 (wrap64 (x24 + 1)))) else (none)) else (none)) else (slope_fits.l0 k x0 x1 x22 x23 (wrap64 (x24 + 1)))) else (some false))) else (none)) else (some false))) else (none)) else (none)) else (some true)
end
def slope_fits.f (k : Nat) (l0 : List Int) (l1 : List Int) : Option (Bool) := if (l0.length : Int) = (l1.length : Int) then (if (l0.length : Int) < 2 then (slope_fits.j0 k l0 l1 true) else (slope_fits.j0 k l0 l1 (decide ((l0.length : Int) > 4096)))) else (slope_fits.j0 k l0 l1 true)
theorem slope_fits.mono_l : ∀ k, (∀ y0 y1 y2, LeO (slope_fits.j0 k y0 y1 y2) (slope_fits.j0 (k + 1) y0 y1 y2)) ∧ (∀ y0 y1 y2 y3 y4, LeO (slope_fits.l0 k y0 y1 y2 y3 y4) (slope_fits.l0 (k + 1) y0 y1 y2 y3 y4))
 | 0 => ⟨fun _ _ _ r h => by simp [slope_fits.j0] at h, fun _ _ _ _ _ r h => by simp [slope_fits.l0] at h⟩
 | k + 1 => by
  obtain ⟨ih0, ih1⟩ := slope_fits.mono_l k
  refine ⟨?_, ?_⟩
  ·intro y0 y1 y2
   unfold slope_fits.j0
   repeat' first
   | (with_reducible exact ih0 _ _ _)
   | (with_reducible exact ih1 _ _ _ _ _)
   | (with_reducible exact LeO.refl _)
   | (with_reducible exact LeO.none _)
   | (with_reducible refine LeO.ite ?_ ?_)
   | (with_reducible refine LeO.bind ?_ (fun _ => ?_))
   | exact ih0 _ _ _
   | exact ih1 _ _ _ _ _
   | exact LeO.none _
   | refine LeO.ite ?_ ?_
   | refine LeO.bind ?_ (fun _ => ?_)
  ·intro y0 y1 y2 y3 y4
   unfold slope_fits.l0
   repeat' first
   | (with_reducible exact ih0 _ _ _)
   | (with_reducible exact ih1 _ _ _ _ _)
   | (with_reducible exact LeO.refl _)
   | (with_reducible exact LeO.none _)
   | (with_reducible refine LeO.ite ?_ ?_)
   | (with_reducible refine LeO.bind ?_ (fun _ => ?_))
   | exact ih0 _ _ _
   | exact ih1 _ _ _ _ _
   | exact LeO.none _
   | refine LeO.ite ?_ ?_
   | refine LeO.bind ?_ (fun _ => ?_)
theorem slope_fits.mono : ∀ a0 a1 k, LeO (slope_fits.f k a0 a1) (slope_fits.f (k + 1) a0 a1) := by
 intro a0 a1 k
 obtain ⟨ih0, ih1⟩ := slope_fits.mono_l k
 unfold slope_fits.f
 repeat' first
   | (with_reducible exact ih0 _ _ _)
   | (with_reducible exact ih1 _ _ _ _ _)
   | (with_reducible exact LeO.refl _)
   | (with_reducible exact LeO.none _)
   | (with_reducible refine LeO.ite ?_ ?_)
   | (with_reducible refine LeO.bind ?_ (fun _ => ?_))
   | exact ih0 _ _ _
   | exact ih1 _ _ _ _ _
   | exact LeO.none _
   | refine LeO.ite ?_ ?_
   | refine LeO.bind ?_ (fun _ => ?_)
set_option maxHeartbeats 8000000 in
set_option maxRecDepth 100000 in
theorem slope_fits.calls (k : Nat) (A0 : Option Addr) (c0 : Nat) (l0 : List Int) (A1 : Option Addr) (c1 : Nat) (l1 : List Int) (r : Bool) (w : World) (hr0 : Kd.C (Kd.int .i64) w A0 l0.length l0) (hc0 : l0.length ≤ c0) (hr1 : Kd.C (Kd.int .i64) w A1 l1.length l1) (hc1 : l1.length ≤ c1) (h : slope_fits.f k l0 l1 = some r) :
  Calls Try.prog 12 #[.slice A0 l0.length c0, .slice A1 l1.length c1] w fun e w' => e = .returned (.bool r) ∧ Drawn0 w w' := by
 have HR0 := sd_ hr0
 have HC0 := sd_ hc0
 clear hr0 hc0
 have HR1 := sd_ hr1
 have HC1 := sd_ hc1
 clear hr1 hc1
 have H : (if (l0.length : Int) = (l1.length : Int) then (if (l0.length : Int) < 2 then (slope_fits.j0 k l0 l1 true) else (slope_fits.j0 k l0 l1 (decide ((l0.length : Int) > 4096)))) else (slope_fits.j0 k l0 l1 true)) = some r := h
 clear h
 have HC3 := sd_ H
 clear H
 go_enter Try.func12, Try.ntmps12
 go_upto_region 1 with (fail)
 go_cut [21] (fun v21 wc => ∃ (kq : Nat) (x21_2 : Bool), v21 = .bool x21_2 ∧ Aside0 (slope_fits.j0 kq l0 l1 x21_2 = some r) ∧ Aside0 (kq ≤ k) ∧ Drawn0 w wc)
 case first =>
  have H := HC3.out
  clear HC3
  by_cases c4 : (l0.length : Int) = (l1.length : Int)
  ·rw [if_pos c4] at H
   have c4b0 : ((l0.length : Int) == (l1.length : Int)) = true := beq_iff_eq.mpr c4
   have c4b1 : ((l0.length : Int) != (l1.length : Int)) = false := bne_eq_false_iff_eq.mpr c4
   have c4b2 : (l0.length == l1.length) = true := by first | simpa using c4 | (simp at c4 ⊢; omega)
   clear c4
   (first | rw [c4b0] | (simp only [i64_w, i32_w]; rw [c4b0]) | skip)
   by_cases c5 : (l0.length : Int) < 2
   ·rw [if_pos c5] at H
    have c5b0 : decide ((l0.length : Int) < 2) = true := dt_ c5
    have c5b1 : decide (l0.length < 2) = true := dt_ (by omega)
    clear c5
    have H' := sd_ H
    clear H
    go_wp2
    go_meet
    case rel => exact ⟨_, (true), (by first | rfl | (simp; done) | (simp [*]; done)), H', ⟨by first | omega | exact Nat.le_refl _⟩, by repeat (first | exact Drawn0.refl _ | apply Drawn0.step)⟩
   ·rw [if_neg c5] at H
    have c5b0 : decide ((l0.length : Int) < 2) = false := df_ c5
    have c5b1 : decide (l0.length < 2) = false := df_ (by omega)
    clear c5
    have H' := sd_ H
    clear H
    go_wp2
    go_meet
    case rel => exact ⟨_, (decide ((l0.length : Int) > 4096)), (by first | rfl | (simp; done) | (simp [*]; done)), H', ⟨by first | omega | exact Nat.le_refl _⟩, by repeat (first | exact Drawn0.refl _ | apply Drawn0.step)⟩
  ·rw [if_neg c4] at H
   have c4b0 : ((l0.length : Int) == (l1.length : Int)) = false := beq_eq_false_iff_ne.mpr c4
   have c4b1 : ((l0.length : Int) != (l1.length : Int)) = true := bne_iff_ne.mpr c4
   have c4b2 : (l0.length == l1.length) = false := by first | simpa using c4 | (simp at c4 ⊢; omega)
   (first | rw [c4b0] | (simp only [i64_w, i32_w]; rw [c4b0]) | skip)
   have H' := sd_ H
   clear H
   go_wp2
   go_meet
   case rel => exact ⟨_, (true), (by first | rfl | (simp; done) | (simp [*]; done)), H', ⟨by first | omega | exact Nat.le_refl _⟩, by repeat (first | exact Drawn0.refl _ | apply Drawn0.step)⟩
 case rest =>
  clear HC3
  try clear c1; try clear p2; try clear c4; try clear c4b0; try clear c4b1; try clear c4b2; try clear c5; try clear c5b0; try clear c5b1
  obtain ⟨kq, x21_2, rfl, HA, HJ2, ⟨mc2, rfl⟩⟩ := hcut
  cases kq with
  | zero => exact absurd HA.out (by simp [slope_fits.j0])
  | succ kj2 =>
   have H := HA.out
   clear HA
   simp only [slope_fits.j0] at H
   by_cases c6 : x21_2 = true
   ·subst c6
    have H1 : (some false) = some r := by rw [if_pos rfl] at H; exact H
    clear H; have H := H1; clear H1
    obtain rfl := Option.some.inj H
    go_wp2
    go_ret
    exact ⟨by first | rfl | (simp; done) | (simp [*]; done), by repeat (first | exact Drawn0.refl _ | apply Drawn0.step)⟩
   ·replace c6 := bf_ c6
    subst c6
    have H1 : (slope_fits.l0 kj2 l0 l1 l0 (l0.length : Int) 0) = some r := by rw [if_neg (show ¬ (false = true) by decide)] at H; exact H
    clear H; have H := H1; clear H1
    have H' := sd_ H
    clear H
    go_wp2
    go_loopg [24] kj2 (fun kq v24 w' => ∃ (x24_2 : Int), v24 = .int .i64 x24_2 ∧ Aside0 (slope_fits.l0 kq l0 l1 l0 (l0.length : Int) x24_2 = some r) ∧ Aside0 (kq ≤ kj2) ∧ Drawn0 w w')
    case atStart => exact ⟨(0), (by first | rfl | (simp; done) | (simp [*]; done)), H', ⟨Nat.le_refl _⟩, by repeat (first | exact Drawn0.refl _ | apply Drawn0.step)⟩
    case round =>
     clear H'
     try clear c1; try clear c2; try clear p2; try clear c4; try clear c4b0; try clear c4b1; try clear c4b2; try clear c5; try clear c5b0; try clear c5b1; try clear c6; try clear p2
     obtain ⟨x24_2, rfl, HA, HK2, ⟨m2, rfl⟩⟩ := hrel
     cases gk with
     | zero => exact absurd HA.out (by simp [slope_fits.l0])
     | succ k2 =>
      have H := HA.out
      clear HA
      simp only [slope_fits.l0] at H
      by_cases c7 : x24_2 < (l0.length : Int)
      ·rw [if_pos c7] at H
       have c7b0 : decide (x24_2 < (l0.length : Int)) = true := dt_ c7
       clear c7
       by_cases c8 : 0 ≤ x24_2
       ·rw [if_pos c8] at H
        have c8b0 : decide (0 ≤ x24_2) = true := dt_ c8
        clear c8
        by_cases c9 : x24_2 < (l0.length : Int)
        ·rw [if_pos c9] at H
         have c9b0 : decide (x24_2 < (l0.length : Int)) = true := dt_ c9
         clear c9
         replace H := ob_ H
         obtain ⟨t102, A100, H⟩ := H
         replace H : (if t102 = true then (if x24_2 < (l1.length : Int) then ((slope_close.f (rd l1 x24_2)).bind fun t104 => (if t104 = true then (if x24_2 > 0 then (if 0 ≤ (wrap64 (x24_2 - 1)) then (if (wrap64 (x24_2 - 1)) < (l0.length : Int) then (if (rd l0 x24_2) ≤ (rd l0 (wrap64 (x24_2 - 1))) then (some false) else (slope_fits.l0 k2 l0 l1 l0 (l0.length : Int) (wrap64 (x24_2 + 1)))) else (none)) else (none)) else (slope_fits.l0 k2 l0 l1 l0 (l0.length : Int) (wrap64 (x24_2 + 1)))) else (some false))) else (none)) else (some false)) = some r := H
         have A10 := sd_ A100
         clear A100
         by_cases c11 : t102 = true
         ·subst c11
          have H1 : (if x24_2 < (l1.length : Int) then ((slope_close.f (rd l1 x24_2)).bind fun t104 => (if t104 = true then (if x24_2 > 0 then (if 0 ≤ (wrap64 (x24_2 - 1)) then (if (wrap64 (x24_2 - 1)) < (l0.length : Int) then (if (rd l0 x24_2) ≤ (rd l0 (wrap64 (x24_2 - 1))) then (some false) else (slope_fits.l0 k2 l0 l1 l0 (l0.length : Int) (wrap64 (x24_2 + 1)))) else (none)) else (none)) else (slope_fits.l0 k2 l0 l1 l0 (l0.length : Int) (wrap64 (x24_2 + 1)))) else (some false))) else (none)) = some r := by rw [if_pos rfl] at H; exact H
          clear H; have H := H1; clear H1
          by_cases c12 : x24_2 < (l1.length : Int)
          ·rw [if_pos c12] at H
           have c12b0 : decide (x24_2 < (l1.length : Int)) = true := dt_ c12
           clear c12
           replace H := ob_ H
           obtain ⟨t104, A130, H⟩ := H
           replace H : (if t104 = true then (if x24_2 > 0 then (if 0 ≤ (wrap64 (x24_2 - 1)) then (if (wrap64 (x24_2 - 1)) < (l0.length : Int) then (if (rd l0 x24_2) ≤ (rd l0 (wrap64 (x24_2 - 1))) then (some false) else (slope_fits.l0 k2 l0 l1 l0 (l0.length : Int) (wrap64 (x24_2 + 1)))) else (none)) else (none)) else (slope_fits.l0 k2 l0 l1 l0 (l0.length : Int) (wrap64 (x24_2 + 1)))) else (some false)) = some r := H
           have A13 := sd_ A130
           clear A130
           by_cases c14 : t104 = true
           ·subst c14
            have H1 : (if x24_2 > 0 then (if 0 ≤ (wrap64 (x24_2 - 1)) then (if (wrap64 (x24_2 - 1)) < (l0.length : Int) then (if (rd l0 x24_2) ≤ (rd l0 (wrap64 (x24_2 - 1))) then (some false) else (slope_fits.l0 k2 l0 l1 l0 (l0.length : Int) (wrap64 (x24_2 + 1)))) else (none)) else (none)) else (slope_fits.l0 k2 l0 l1 l0 (l0.length : Int) (wrap64 (x24_2 + 1)))) = some r := by rw [if_pos rfl] at H; exact H
            clear H; have H := H1; clear H1
            by_cases c15 : x24_2 > 0
            ·rw [if_pos c15] at H
             have c15b0 : decide (0 < x24_2) = true := dt_ c15
             clear c15
             obtain ⟨ji16, hji16⟩ : ∃ j_ : Int, (wrap64 (x24_2 - 1)) = j_ := ⟨_, rfl⟩
             replace H : (if 0 ≤ (ji16) then (if (ji16) < (l0.length : Int) then (if (rd l0 x24_2) ≤ (rd l0 (ji16)) then (some false) else (slope_fits.l0 k2 l0 l1 l0 (l0.length : Int) (wrap64 (x24_2 + 1)))) else (none)) else (none)) = some r := by first | (rw [hji16] at H; exact H) | (simp only [hji16] at H ⊢; exact H)
             (try rw [hji16] at A10)
             (try rw [hji16] at A13)
             have hji16w : (IntKind.i64.wrap (x24_2 - 1)) = ji16 := (i64_w _).trans hji16
             by_cases c17 : 0 ≤ (ji16)
             ·rw [if_pos c17] at H
              have c17b0 : decide (0 ≤ (ji16)) = true := dt_ c17
              clear c17
              by_cases c18 : (ji16) < (l0.length : Int)
              ·rw [if_pos c18] at H
               have c18b0 : decide ((ji16) < (l0.length : Int)) = true := dt_ c18
               clear c18
               by_cases c19 : (rd l0 x24_2) ≤ (rd l0 (ji16))
               ·rw [if_pos c19] at H
                have c19b0 : decide ((rd l0 x24_2) ≤ (rd l0 (ji16))) = true := dt_ c19
                clear c19
                obtain rfl := Option.some.inj H
                have p101 : 0 ≤ (x24_2 : Int) := od_ (by first | (with_reducible assumption) | assumption)
                have q101 : x24_2 < (l0.length : Int) := od_ (by first | (with_reducible assumption) | assumption)
                obtain ⟨ad101, e101, hx101_0⟩ := Kd.at_int HR0.out x24_2 p101 q101
                cases e101
                replace p101 := eq_true p101
                replace q101 := eq_true q101
                go_wp2_with (first | ((with_reducible refine gate_callee (f := 20) rfl ?_); refine goesL_ (some 30) rfl rfl Try.func20 (by kernel_rfl) rfl #[.int .i64 (rd l0 x24_2)] rfl (by (try simp only [lm_, lq_, lx_]); first | done | rfl | (simp only [ld_, lt_]; rfl)) ?_; (with_reducible refine (slope_close.calls (rd l0 x24_2) true _ A10.out).mono ?_); rintro e w' ⟨rfl, ⟨nd, rfl⟩⟩; refine ⟨_, rfl, ?_⟩; have p103 : 0 ≤ (x24_2 : Int) := od_ (by first | (with_reducible assumption) | assumption); have q103 : x24_2 < (l1.length : Int) := od_ (by first | (with_reducible assumption) | assumption); obtain ⟨ad103, e103, hx103_0⟩ := Kd.at_int HR1.out x24_2 p103 q103; cases e103; replace p103 := eq_true p103; replace q103 := eq_true q103) | (go_at_call 20; (with_reducible refine (slope_close.calls (rd l1 x24_2) true _ A13.out).mono ?_); rintro e w' ⟨rfl, ⟨nd, rfl⟩⟩; have p105 : 0 ≤ ((ji16) : Int) := od_ (by first | (with_reducible assumption) | assumption); have q105 : (ji16) < (l0.length : Int) := od_ (by first | (with_reducible assumption) | assumption); obtain ⟨ad105, e105, hx105_0⟩ := Kd.at_int HR0.out (ji16) p105 q105; obtain rfl : ad101 = ad105 := (by injection e105); replace p105 := eq_true p105; replace q105 := eq_true q105))
                go_ret
                exact ⟨by first | rfl | (simp; done) | (simp only [← hji16] <;> (first | rfl | simp)) | (simp [*]; done), by repeat (first | exact Drawn0.refl _ | apply Drawn0.step)⟩
               ·rw [if_neg c19] at H
                have c19b0 : decide ((rd l0 x24_2) ≤ (rd l0 (ji16))) = false := df_ c19
                clear c19
                have H' := sd_ H
                clear H
                have p101 : 0 ≤ (x24_2 : Int) := od_ (by first | (with_reducible assumption) | assumption)
                have q101 : x24_2 < (l0.length : Int) := od_ (by first | (with_reducible assumption) | assumption)
                obtain ⟨ad101, e101, hx101_0⟩ := Kd.at_int HR0.out x24_2 p101 q101
                cases e101
                replace p101 := eq_true p101
                replace q101 := eq_true q101
                go_wp2_with (first | ((with_reducible refine gate_callee (f := 20) rfl ?_); refine goesL_ (some 30) rfl rfl Try.func20 (by kernel_rfl) rfl #[.int .i64 (rd l0 x24_2)] rfl (by (try simp only [lm_, lq_, lx_]); first | done | rfl | (simp only [ld_, lt_]; rfl)) ?_; (with_reducible refine (slope_close.calls (rd l0 x24_2) true _ A10.out).mono ?_); rintro e w' ⟨rfl, ⟨nd, rfl⟩⟩; refine ⟨_, rfl, ?_⟩; have p103 : 0 ≤ (x24_2 : Int) := od_ (by first | (with_reducible assumption) | assumption); have q103 : x24_2 < (l1.length : Int) := od_ (by first | (with_reducible assumption) | assumption); obtain ⟨ad103, e103, hx103_0⟩ := Kd.at_int HR1.out x24_2 p103 q103; cases e103; replace p103 := eq_true p103; replace q103 := eq_true q103) | (go_at_call 20; (with_reducible refine (slope_close.calls (rd l1 x24_2) true _ A13.out).mono ?_); rintro e w' ⟨rfl, ⟨nd, rfl⟩⟩; have p105 : 0 ≤ ((ji16) : Int) := od_ (by first | (with_reducible assumption) | assumption); have q105 : (ji16) < (l0.length : Int) := od_ (by first | (with_reducible assumption) | assumption); obtain ⟨ad105, e105, hx105_0⟩ := Kd.at_int HR0.out (ji16) p105 q105; obtain rfl : ad101 = ad105 := (by injection e105); replace p105 := eq_true p105; replace q105 := eq_true q105))
                go_roundg k2
                case measure => have := HJ2.out; have := HK2.out; omega
                case rel => exact ⟨(wrap64 (x24_2 + 1)), (by first | rfl | (simp; done) | (simp [*]; done)), H', ⟨by have := HJ2.out; have := HK2.out; omega⟩, by repeat (first | exact Drawn0.refl _ | apply Drawn0.step)⟩
              ·rw [if_neg c18] at H
               exact absurd H (by simp)
             ·rw [if_neg c17] at H
              exact absurd H (by simp)
            ·rw [if_neg c15] at H
             have c15b0 : decide (0 < x24_2) = false := df_ c15
             clear c15
             have H' := sd_ H
             clear H
             have p101 : 0 ≤ (x24_2 : Int) := od_ (by first | (with_reducible assumption) | assumption)
             have q101 : x24_2 < (l0.length : Int) := od_ (by first | (with_reducible assumption) | assumption)
             obtain ⟨ad101, e101, hx101_0⟩ := Kd.at_int HR0.out x24_2 p101 q101
             cases e101
             replace p101 := eq_true p101
             replace q101 := eq_true q101
             go_wp2_with (first | ((with_reducible refine gate_callee (f := 20) rfl ?_); refine goesL_ (some 30) rfl rfl Try.func20 (by kernel_rfl) rfl #[.int .i64 (rd l0 x24_2)] rfl (by (try simp only [lm_, lq_, lx_]); first | done | rfl | (simp only [ld_, lt_]; rfl)) ?_; (with_reducible refine (slope_close.calls (rd l0 x24_2) true _ A10.out).mono ?_); rintro e w' ⟨rfl, ⟨nd, rfl⟩⟩; refine ⟨_, rfl, ?_⟩; have p103 : 0 ≤ (x24_2 : Int) := od_ (by first | (with_reducible assumption) | assumption); have q103 : x24_2 < (l1.length : Int) := od_ (by first | (with_reducible assumption) | assumption); obtain ⟨ad103, e103, hx103_0⟩ := Kd.at_int HR1.out x24_2 p103 q103; cases e103; replace p103 := eq_true p103; replace q103 := eq_true q103) | (go_at_call 20; (with_reducible refine (slope_close.calls (rd l1 x24_2) true _ A13.out).mono ?_); rintro e w' ⟨rfl, ⟨nd, rfl⟩⟩))
             go_roundg k2
             case measure => have := HJ2.out; have := HK2.out; omega
             case rel => exact ⟨(wrap64 (x24_2 + 1)), (by first | rfl | (simp; done) | (simp [*]; done)), H', ⟨by have := HJ2.out; have := HK2.out; omega⟩, by repeat (first | exact Drawn0.refl _ | apply Drawn0.step)⟩
           ·replace c14 := bf_ c14
            subst c14
            have H1 : (some false) = some r := by rw [if_neg (show ¬ (false = true) by decide)] at H; exact H
            clear H; have H := H1; clear H1
            obtain rfl := Option.some.inj H
            have p101 : 0 ≤ (x24_2 : Int) := od_ (by first | (with_reducible assumption) | assumption)
            have q101 : x24_2 < (l0.length : Int) := od_ (by first | (with_reducible assumption) | assumption)
            obtain ⟨ad101, e101, hx101_0⟩ := Kd.at_int HR0.out x24_2 p101 q101
            cases e101
            replace p101 := eq_true p101
            replace q101 := eq_true q101
            go_wp2_with (first | ((with_reducible refine gate_callee (f := 20) rfl ?_); refine goesL_ (some 30) rfl rfl Try.func20 (by kernel_rfl) rfl #[.int .i64 (rd l0 x24_2)] rfl (by (try simp only [lm_, lq_, lx_]); first | done | rfl | (simp only [ld_, lt_]; rfl)) ?_; (with_reducible refine (slope_close.calls (rd l0 x24_2) true _ A10.out).mono ?_); rintro e w' ⟨rfl, ⟨nd, rfl⟩⟩; refine ⟨_, rfl, ?_⟩; have p103 : 0 ≤ (x24_2 : Int) := od_ (by first | (with_reducible assumption) | assumption); have q103 : x24_2 < (l1.length : Int) := od_ (by first | (with_reducible assumption) | assumption); obtain ⟨ad103, e103, hx103_0⟩ := Kd.at_int HR1.out x24_2 p103 q103; cases e103; replace p103 := eq_true p103; replace q103 := eq_true q103) | (go_at_call 20; (with_reducible refine (slope_close.calls (rd l1 x24_2) false _ A13.out).mono ?_); rintro e w' ⟨rfl, ⟨nd, rfl⟩⟩))
            go_ret
            exact ⟨by first | rfl | (simp; done) | (simp [*]; done), by repeat (first | exact Drawn0.refl _ | apply Drawn0.step)⟩
          ·rw [if_neg c12] at H
           exact absurd H (by simp)
         ·replace c11 := bf_ c11
          subst c11
          have H1 : (some false) = some r := by rw [if_neg (show ¬ (false = true) by decide)] at H; exact H
          clear H; have H := H1; clear H1
          obtain rfl := Option.some.inj H
          have p101 : 0 ≤ (x24_2 : Int) := od_ (by first | (with_reducible assumption) | assumption)
          have q101 : x24_2 < (l0.length : Int) := od_ (by first | (with_reducible assumption) | assumption)
          obtain ⟨ad101, e101, hx101_0⟩ := Kd.at_int HR0.out x24_2 p101 q101
          cases e101
          replace p101 := eq_true p101
          replace q101 := eq_true q101
          go_wp2_with (first | ((with_reducible refine gate_callee (f := 20) rfl ?_); refine goesL_ (some 30) rfl rfl Try.func20 (by kernel_rfl) rfl #[.int .i64 (rd l0 x24_2)] rfl (by (try simp only [lm_, lq_, lx_]); first | done | rfl | (simp only [ld_, lt_]; rfl)) ?_; (with_reducible refine (slope_close.calls (rd l0 x24_2) false _ A10.out).mono ?_); rintro e w' ⟨rfl, ⟨nd, rfl⟩⟩; refine ⟨_, rfl, ?_⟩))
          go_ret
          exact ⟨by first | rfl | (simp; done) | (simp [*]; done), by repeat (first | exact Drawn0.refl _ | apply Drawn0.step)⟩
        ·rw [if_neg c9] at H
         exact absurd H (by simp)
       ·rw [if_neg c8] at H
        exact absurd H (by simp)
      ·rw [if_neg c7] at H
       have c7b0 : decide (x24_2 < (l0.length : Int)) = false := df_ c7
       clear c7
       obtain rfl := Option.some.inj H
       go_wp2
       go_ret
       exact ⟨by first | rfl | (simp; done) | (simp [*]; done), by repeat (first | exact Drawn0.refl _ | apply Drawn0.step)⟩

/-! ### slope_near: function 22 -/
def slope_near.f (a0 : Int) (a1 : Int) : Option (Int) := if a0 < 0 then (if (wrap64 (2 * a1)) = 0 then (none) else (some (wrap64 ((-1) * (wrap64 (Int.tdiv (wrap64 ((wrap64 (2 * (wrap64 (-a0)))) + a1)) (wrap64 (2 * a1)))))))) else (if (wrap64 (2 * a1)) = 0 then (none) else (some (wrap64 (1 * (wrap64 (Int.tdiv (wrap64 ((wrap64 (2 * a0)) + a1)) (wrap64 (2 * a1))))))))
set_option maxHeartbeats 8000000 in
set_option maxRecDepth 100000 in
theorem slope_near.calls (a0 : Int) (a1 : Int) (r : Int) (w : World) (h : slope_near.f a0 a1 = some r) :
  Calls Try.prog 22 #[.int .i64 a0, .int .i64 a1] w fun e w' => e = .returned (.int .i64 r) ∧ Drawn0 w w' := by
 have H : (if a0 < 0 then (if (wrap64 (2 * a1)) = 0 then (none) else (some (wrap64 ((-1) * (wrap64 (Int.tdiv (wrap64 ((wrap64 (2 * (wrap64 (-a0)))) + a1)) (wrap64 (2 * a1)))))))) else (if (wrap64 (2 * a1)) = 0 then (none) else (some (wrap64 (1 * (wrap64 (Int.tdiv (wrap64 ((wrap64 (2 * a0)) + a1)) (wrap64 (2 * a1))))))))) = some r := h
 clear h
 by_cases c3 : a0 < 0
 ·rw [if_pos c3] at H
  have c3b0 : decide (a0 < 0) = true := dt_ c3
  clear c3
  by_cases c4 : (wrap64 (2 * a1)) = 0
  ·rw [if_pos c4] at H
   exact absurd H (by simp)
  ·rw [if_neg c4] at H
   have c4b0 : ((wrap64 (2 * a1)) == 0) = false := beq_eq_false_iff_ne.mpr c4
   have c4b1 : ((wrap64 (2 * a1)) != 0) = true := bne_iff_ne.mpr c4
   obtain rfl := Option.some.inj H
   go_enter Try.func22, Try.ntmps22
   go_wp2
   go_ret
   exact ⟨by first | rfl | (simp; done) | (simp [*]; done), by repeat (first | exact Drawn0.refl _ | apply Drawn0.step)⟩
 ·rw [if_neg c3] at H
  have c3b0 : decide (a0 < 0) = false := df_ c3
  clear c3
  by_cases c5 : (wrap64 (2 * a1)) = 0
  ·rw [if_pos c5] at H
   exact absurd H (by simp)
  ·rw [if_neg c5] at H
   have c5b0 : ((wrap64 (2 * a1)) == 0) = false := beq_eq_false_iff_ne.mpr c5
   have c5b1 : ((wrap64 (2 * a1)) != 0) = true := bne_iff_ne.mpr c5
   obtain rfl := Option.some.inj H
   go_enter Try.func22, Try.ntmps22
   go_wp2
   go_ret
   exact ⟨by first | rfl | (simp; done) | (simp [*]; done), by repeat (first | exact Drawn0.refl _ | apply Drawn0.step)⟩

-- NOT PRINTED: function 24 (slope_farther)

-- NOT PRINTED: function 25 (slope_extreme_int)

/-! ### slope_slant: function 18 -/
theorem yret_int {k : IntKind} {a b : Int} (h : a = b) : Ending.returned (.int k a) = .returned (.int k b) := by rw [h]
theorem yret_bool {a b : Bool} (h : a = b) : Ending.returned (.bool a) = .returned (.bool b) := by rw [h]
/-- Is a ahead of b? -/
def slope_ah (up : Bool) (a b : Int) : Bool := if up = true then decide (b < a) else decide (a < b)
theorem slope_farther1.calls (a b : Int) (w : World) : Calls Try.prog 26 #[.int .i64 a, .int .i64 b] w fun e w' => e = .returned (.bool (slope_ah true a b)) ∧ w' = w := by
 go_enter Try.func26, Try.ntmps26
 go_wp2
 go_ret
 exact ⟨yret_bool (by simp [slope_ah]), rfl⟩
theorem slope_farther2.calls (a b : Int) (w : World) : Calls Try.prog 27 #[.int .i64 a, .int .i64 b] w fun e w' => e = .returned (.bool (slope_ah false a b)) ∧ w' = w := by
 go_enter Try.func27, Try.ntmps27
 go_wp2
 go_ret
 exact ⟨yret_bool (by simp [slope_ah]), rfl⟩
/-- The function value that farther answers. -/
def slope_fv (up : Bool) : Value := if up = true then .func (.func 26) #[] #[] else .func (.func 27) #[] #[]
theorem slope_farther.calls (up : Bool) (w : World) : Calls Try.prog 24 #[.bool up] w fun e w' => e = .returned (slope_fv up) ∧ w' = w := by
 cases up with
 | true =>
  go_enter Try.func24, Try.ntmps24
  go_wp2
  go_ret
  exact ⟨rfl, rfl⟩
 | false =>
  go_enter Try.func24, Try.ntmps24
  go_wp2
  go_ret
  exact ⟨rfl, rfl⟩
/-- The one that is ahead of all others. -/
def slope_ext (up : Bool) (l : List Int) (x : Int) : Int := l.foldl (fun b y => if slope_ah up y b = true then y else b) x
theorem slope_ext_snoc (up : Bool) (l : List Int) (x : Int) (j : Nat) (h : j < l.length) : slope_ext up (l.take (j + 1)) x = if slope_ah up (rd l j) (slope_ext up (l.take j) x) = true then rd l j else slope_ext up (l.take j) x := by
 unfold slope_ext
 rw [List.take_succ_eq_append_getElem h, List.foldl_append]
 unfold rd
 rw [Int.toNat_natCast, List.getD_eq_getElem?_getD, List.getElem?_eq_getElem h]
 rfl
theorem slope_extreme.calls (up : Bool) (A0 : Option Addr) (c0 : Nat) (l0 : List Int) (w : World) (hr0 : Kd.C (Kd.int .i64) w A0 l0.length l0) (hpos : 1 ≤ l0.length) :
  Calls Try.prog 25 #[.slice A0 l0.length c0, slope_fv up] w fun e w' => e = .returned (.int .i64 (slope_ext up l0 (rd l0 0))) ∧ w' = w := by
 have hlen : l0.length ≤ 9223372036854775807 := hr0.2.1
 obtain ⟨ad, e, hc00⟩ := Kd.at_int hr0 (0 : Int) (by omega) (by omega)
 cases e
 obtain ⟨x, hx⟩ : ∃ x, rd l0 0 = x := ⟨_, rfl⟩
 rw [hx] at hc00 ⊢
 clear hx
 have HR0 := sd_ hr0
 clear hr0
 have hc0 : w.cell? ad = some (.int .i64 x) := by have q := hc00; rw [show ((0 : Int)).toNat = 0 from rfl, Addr.add_zero'] at q; exact q
 clear hc00
 have hp : (0 : Int) < l0.length := by omega
 cases up
 all_goals
  simp only [slope_fv, if_true, Bool.false_eq_true, if_false]
  go_enter Try.func25, Try.ntmps25
  go_wp2
 ·go_loop [5, 13] (fun v5 v13 => ∃ j : Nat, j ≤ l0.length ∧ v13 = .int .i64 j ∧ v5 = .int .i64 (slope_ext false (l0.take j) x)) (fun _ v13 => l0.length - (intOf v13).toNat)
  case atStart => exact ⟨0, Nat.zero_le _, rfl, rfl⟩
  case round =>
   obtain ⟨j, hj, rfl, rfl⟩ := hrel
   by_cases hlt : j < l0.length
   ·obtain ⟨ad2, e, hcell⟩ := Kd.at_int HR0.out (j : Int) (by omega) (by omega)
    cases e
    have HS := sd_ (slope_ext_snoc false l0 x j hlt)
    obtain ⟨y, hy⟩ : ∃ y, rd l0 (j : Int) = y := ⟨_, rfl⟩
    rw [hy] at hcell HS
    clear hy
    simp only [Int.toNat_natCast] at hcell
    obtain ⟨z, hz⟩ : ∃ z, slope_ext false (l0.take j) x = z := ⟨_, rfl⟩
    rw [hz] at HS ⊢
    clear hz
    by_cases ht : slope_ah false y z = true
    ·go_wp2_with (go_at_call 27; refine (slope_farther2.calls y z _).mono ?_; rintro e w' ⟨rfl, rfl⟩)
     go_round
     case rel => exact ⟨j + 1, by omega, by go_num, by rw [HS.out, if_pos ht]⟩
     case measure => simp [intOf]; omega
    ·go_wp2_with (go_at_call 27; refine (slope_farther2.calls y z _).mono ?_; rintro e w' ⟨rfl, rfl⟩)
     go_round
     case rel => exact ⟨j + 1, by omega, by go_num, by rw [HS.out, if_neg ht]⟩
     case measure => simp [intOf]; omega
   ·obtain rfl : j = l0.length := by omega
    rw [List.take_length]
    go_wp2
    go_ret
    exact ⟨rfl, rfl⟩
 ·go_loop [5, 13] (fun v5 v13 => ∃ j : Nat, j ≤ l0.length ∧ v13 = .int .i64 j ∧ v5 = .int .i64 (slope_ext true (l0.take j) x)) (fun _ v13 => l0.length - (intOf v13).toNat)
  case atStart => exact ⟨0, Nat.zero_le _, rfl, rfl⟩
  case round =>
   obtain ⟨j, hj, rfl, rfl⟩ := hrel
   by_cases hlt : j < l0.length
   ·obtain ⟨ad2, e, hcell⟩ := Kd.at_int HR0.out (j : Int) (by omega) (by omega)
    cases e
    have HS := sd_ (slope_ext_snoc true l0 x j hlt)
    obtain ⟨y, hy⟩ : ∃ y, rd l0 (j : Int) = y := ⟨_, rfl⟩
    rw [hy] at hcell HS
    clear hy
    simp only [Int.toNat_natCast] at hcell
    obtain ⟨z, hz⟩ : ∃ z, slope_ext true (l0.take j) x = z := ⟨_, rfl⟩
    rw [hz] at HS ⊢
    clear hz
    by_cases ht : slope_ah true y z = true
    ·go_wp2_with (go_at_call 26; refine (slope_farther1.calls y z _).mono ?_; rintro e w' ⟨rfl, rfl⟩)
     go_round
     case rel => exact ⟨j + 1, by omega, by go_num, by rw [HS.out, if_pos ht]⟩
     case measure => simp [intOf]; omega
    ·go_wp2_with (go_at_call 26; refine (slope_farther1.calls y z _).mono ?_; rintro e w' ⟨rfl, rfl⟩)
     go_round
     case rel => exact ⟨j + 1, by omega, by go_num, by rw [HS.out, if_neg ht]⟩
     case measure => simp [intOf]; omega
   ·obtain rfl : j = l0.length := by omega
    rw [List.take_length]
    go_wp2
    go_ret
    exact ⟨rfl, rfl⟩
def slope_slant.f (l0 : List Int) (a1 : Bool) : Option Int :=
 if l0.length = 0 then none else
 if slope_ah a1 (slope_ext a1 l0 (rd l0 0)) (rd l0 0) = true ∧ slope_ah a1 (slope_ext a1 l0 (rd l0 0)) (rd l0 ((l0.length : Int) - 1)) = true then some 0
 else (slope_near.f (wrap64 (rd l0 ((l0.length : Int) - 1) - rd l0 0)) 512).bind fun t => some (mx (-1024) (mn 1024 (wrap64 (256 * t))))
set_option maxHeartbeats 2000000 in
set_option maxRecDepth 100000 in
theorem slope_slant.calls (A0 : Option Addr) (c0 : Nat) (l0 : List Int) (a1 : Bool) (r : Int) (w : World) (hr0 : Kd.C (Kd.int .i64) w A0 l0.length l0) (hc0 : l0.length ≤ c0) (h : slope_slant.f l0 a1 = some r) :
  Calls Try.prog 18 #[.slice A0 l0.length c0, .bool a1] w fun e w' => e = .returned (.int .i64 r) ∧ Below w.heap.size w w' := by
 have hlen : l0.length ≤ 9223372036854775807 := hr0.2.1
 unfold slope_slant.f at h
 by_cases hpos : l0.length = 0
 ·rw [if_pos hpos] at h; cases h
 rw [if_neg hpos] at h
 obtain ⟨ad, e, hc00⟩ := Kd.at_int hr0 (0 : Int) (by omega) (by omega)
 obtain ⟨ad2, e2, hcl⟩ := Kd.at_int hr0 ((l0.length : Int) - 1) (by omega) (by omega)
 cases e
 cases e2
 have hE := sd_ (slope_extreme.calls a1 (some ad) c0 l0)
 obtain ⟨x, hx⟩ : ∃ x, rd l0 0 = x := ⟨_, rfl⟩
 obtain ⟨y, hy⟩ : ∃ y, rd l0 ((l0.length : Int) - 1) = y := ⟨_, rfl⟩
 rw [hx] at hc00 h hE
 rw [hy] at hcl h
 obtain ⟨z, hz⟩ : ∃ z, slope_ext a1 l0 x = z := ⟨_, rfl⟩
 rw [hz] at h hE
 clear hx hy hz
 have HR0 := sd_ hr0
 clear hr0 hc0
 have hc0 : w.cell? ad = some (.int .i64 x) := by have q := hc00; rw [show ((0 : Int)).toNat = 0 from rfl, Addr.add_zero'] at q; exact q
 clear hc00
 have hcl' : w.cell? (ad.add (l0.length - 1)) = some (.int .i64 y) := by rw [show ((l0.length : Int) - 1).toNat = l0.length - 1 by omega] at hcl; exact hcl
 have hp : (0 : Int) < l0.length := by omega
 have hq : (0 : Int) ≤ (l0.length : Int) - 1 := by omega
 have hq2 : (l0.length : Int) - 1 < l0.length := by omega
 have hq3 : ((l0.length : Int) - 1).toNat = l0.length - 1 := by omega
 have H := sd_ h
 clear h
 have hp1 := sd_ (show 1 ≤ l0.length by omega)
 cases a1
 ·have hF := sd_ (show ∀ W, Calls Try.prog 24 #[.bool false] W fun e w' => e = .returned (.func (.func 27) #[] #[]) ∧ w' = W from fun W => slope_farther.calls false W)
  have hE2 := sd_ (show ∀ W, Kd.C (Kd.int .i64) W (some ad) l0.length l0 → 1 ≤ l0.length → Calls Try.prog 25 #[.slice (some ad) l0.length c0, .func (.func 27) #[] #[]] W fun e w' => e = .returned (.int .i64 z) ∧ w' = W from hE.out)
  by_cases p1 : slope_ah false z x = true
  ·by_cases p2 : slope_ah false z y = true
   ·obtain rfl : r = 0 := by have q := H.out; rw [if_pos ⟨p1, p2⟩] at q; exact (Option.some.inj q).symm
    go_enter Try.func18, Try.ntmps18
    go_wp2
    go_quiet (fail)
    go_wp2_with (first | (go_at_call 24; refine (hF.out _).mono ?_; rintro e w' ⟨rfl, rfl⟩) | (go_at_call 25; refine (hE2.out _ (by first | exact Kd.C_drewN HR0.out _ | exact HR0.out | exact Kd.C_below HR0.out (below_drew (Below.refl _ _))) hp1.out).mono ?_; rintro e w' ⟨rfl, rfl⟩) | (go_at_call 27; refine (slope_farther2.calls _ _ _).mono ?_; rintro e w' ⟨rfl, rfl⟩) | (go_at_call 22; refine (slope_near.calls _ _ t _ N.out).mono ?_; rintro e w' ⟨rfl, hd⟩))

    go_ret
    exact ⟨rfl, pd_ (Below.refl _ _) _⟩
   ·have q := H.out
    rw [if_neg (by simp [p1, p2])] at q
    obtain ⟨t, N0, q⟩ := ob_ q
    obtain rfl := Option.some.inj q
    have N := sd_ N0
    clear N0 q
    go_enter Try.func18, Try.ntmps18
    go_wp2
    go_quiet (fail)
    go_wp2_with (first | (go_at_call 24; refine (hF.out _).mono ?_; rintro e w' ⟨rfl, rfl⟩) | (go_at_call 25; refine (hE2.out _ (by first | exact Kd.C_drewN HR0.out _ | exact HR0.out | exact Kd.C_below HR0.out (below_drew (Below.refl _ _))) hp1.out).mono ?_; rintro e w' ⟨rfl, rfl⟩) | (go_at_call 27; refine (slope_farther2.calls _ _ _).mono ?_; rintro e w' ⟨rfl, rfl⟩) | (go_at_call 22; refine (slope_near.calls _ _ t _ N.out).mono ?_; rintro e w' ⟨rfl, hd⟩))
    all_goals
     go_ret
     exact ⟨yret_int (by unfold mx mn; (repeat' split) <;> omega), bt_ (pd_ (Below.refl _ _) _) hd.below⟩
  ·have p2 : True := trivial
   have q := H.out
   rw [if_neg (by simp [p1, p2])] at q
   obtain ⟨t, N0, q⟩ := ob_ q
   obtain rfl := Option.some.inj q
   have N := sd_ N0
   clear N0 q
   go_enter Try.func18, Try.ntmps18
   go_wp2
   go_quiet (fail)
   go_wp2_with (first | (go_at_call 24; refine (hF.out _).mono ?_; rintro e w' ⟨rfl, rfl⟩) | (go_at_call 25; refine (hE2.out _ (by first | exact Kd.C_drewN HR0.out _ | exact HR0.out | exact Kd.C_below HR0.out (below_drew (Below.refl _ _))) hp1.out).mono ?_; rintro e w' ⟨rfl, rfl⟩) | (go_at_call 27; refine (slope_farther2.calls _ _ _).mono ?_; rintro e w' ⟨rfl, rfl⟩) | (go_at_call 22; refine (slope_near.calls _ _ t _ N.out).mono ?_; rintro e w' ⟨rfl, hd⟩))
   all_goals
    go_ret
    exact ⟨yret_int (by unfold mx mn; (repeat' split) <;> omega), bt_ (pd_ (Below.refl _ _) _) hd.below⟩
 ·have hF := sd_ (show ∀ W, Calls Try.prog 24 #[.bool true] W fun e w' => e = .returned (.func (.func 26) #[] #[]) ∧ w' = W from fun W => slope_farther.calls true W)
  have hE2 := sd_ (show ∀ W, Kd.C (Kd.int .i64) W (some ad) l0.length l0 → 1 ≤ l0.length → Calls Try.prog 25 #[.slice (some ad) l0.length c0, .func (.func 26) #[] #[]] W fun e w' => e = .returned (.int .i64 z) ∧ w' = W from hE.out)
  by_cases p1 : slope_ah true z x = true
  ·by_cases p2 : slope_ah true z y = true
   ·obtain rfl : r = 0 := by have q := H.out; rw [if_pos ⟨p1, p2⟩] at q; exact (Option.some.inj q).symm
    go_enter Try.func18, Try.ntmps18
    go_wp2
    go_quiet (fail)
    go_wp2_with (first | (go_at_call 24; refine (hF.out _).mono ?_; rintro e w' ⟨rfl, rfl⟩) | (go_at_call 25; refine (hE2.out _ (by first | exact Kd.C_drewN HR0.out _ | exact HR0.out | exact Kd.C_below HR0.out (below_drew (Below.refl _ _))) hp1.out).mono ?_; rintro e w' ⟨rfl, rfl⟩) | (go_at_call 26; refine (slope_farther1.calls _ _ _).mono ?_; rintro e w' ⟨rfl, rfl⟩) | (go_at_call 22; refine (slope_near.calls _ _ t _ N.out).mono ?_; rintro e w' ⟨rfl, hd⟩))
    go_ret
    exact ⟨rfl, pd_ (Below.refl _ _) _⟩
   ·have q := H.out
    rw [if_neg (by simp [p1, p2])] at q
    obtain ⟨t, N0, q⟩ := ob_ q
    obtain rfl := Option.some.inj q
    have N := sd_ N0
    clear N0 q
    go_enter Try.func18, Try.ntmps18
    go_wp2
    go_quiet (fail)
    go_wp2_with (first | (go_at_call 24; refine (hF.out _).mono ?_; rintro e w' ⟨rfl, rfl⟩) | (go_at_call 25; refine (hE2.out _ (by first | exact Kd.C_drewN HR0.out _ | exact HR0.out | exact Kd.C_below HR0.out (below_drew (Below.refl _ _))) hp1.out).mono ?_; rintro e w' ⟨rfl, rfl⟩) | (go_at_call 26; refine (slope_farther1.calls _ _ _).mono ?_; rintro e w' ⟨rfl, rfl⟩) | (go_at_call 22; refine (slope_near.calls _ _ t _ N.out).mono ?_; rintro e w' ⟨rfl, hd⟩))
    all_goals
     go_ret
     exact ⟨yret_int (by unfold mx mn; (repeat' split) <;> omega), bt_ (pd_ (Below.refl _ _) _) hd.below⟩
  ·have p2 : True := trivial
   have q := H.out
   rw [if_neg (by simp [p1, p2])] at q
   obtain ⟨t, N0, q⟩ := ob_ q
   obtain rfl := Option.some.inj q
   have N := sd_ N0
   clear N0 q
   go_enter Try.func18, Try.ntmps18
   go_wp2
   go_quiet (fail)
   go_wp2_with (first | (go_at_call 24; refine (hF.out _).mono ?_; rintro e w' ⟨rfl, rfl⟩) | (go_at_call 25; refine (hE2.out _ (by first | exact Kd.C_drewN HR0.out _ | exact HR0.out | exact Kd.C_below HR0.out (below_drew (Below.refl _ _))) hp1.out).mono ?_; rintro e w' ⟨rfl, rfl⟩) | (go_at_call 26; refine (slope_farther1.calls _ _ _).mono ?_; rintro e w' ⟨rfl, rfl⟩) | (go_at_call 22; refine (slope_near.calls _ _ t _ N.out).mono ?_; rintro e w' ⟨rfl, hd⟩))
   all_goals
    go_ret
    exact ⟨yret_int (by unfold mx mn; (repeat' split) <;> omega), bt_ (pd_ (Below.refl _ _) _) hd.below⟩

/-! ### slope_upwards: function 13 -/
theorem slope_near.same (a0 a1 r : Int) (w : World) (h : slope_near.f a0 a1 = some r) : Calls Try.prog 22 #[.int .i64 a0, .int .i64 a1] w fun e w' => e = .returned (.int .i64 r) ∧ w' = w := by
 have H := sd_ h
 clear h
 unfold slope_near.f at H
 by_cases hz : wrap64 (2 * a1) = 0
 ·exact absurd H.out (by simp [hz])
 have hz1 : (wrap64 (2 * a1) == 0) = false := beq_eq_false_iff_ne.mpr hz
 by_cases c : a0 < 0
 ·have H1 := sd_ (show wrap64 (-1 * wrap64 (Int.tdiv (wrap64 (wrap64 (2 * wrap64 (-a0)) + a1)) (wrap64 (2 * a1)))) = r by have q := H.out; rw [if_pos c, if_neg hz] at q; exact Option.some.inj q)
  clear H
  go_enter Try.func22, Try.ntmps22
  go_wp2
  go_ret
  exact ⟨yret_int (by rw [← H1.out, show ∀ q : Int, -1 * q = -q from fun q => by omega]), rfl⟩
 ·have H1 := sd_ (show wrap64 (1 * wrap64 (Int.tdiv (wrap64 (wrap64 (2 * a0) + a1)) (wrap64 (2 * a1)))) = r by have q := H.out; rw [if_neg c, if_neg hz] at q; exact Option.some.inj q)
  clear H
  go_enter Try.func22, Try.ntmps22
  go_wp2
  go_ret
  exact ⟨yret_int (by rw [← H1.out, Int.one_mul]), rfl⟩
/-- What the rise reads. -/
def UpAt (w : World) (gx g5 g6 : Nat) (v : Value) (s wd : Int) (wc : World) : Prop :=
 w.heap.size ≤ gx ∧ w.heap.size ≤ g5 ∧ w.heap.size ≤ g6 ∧ wc.heap[gx]? = some (.cells #[v] 22 (0, 0)) ∧ wc.heap[g5]? = some (.cells #[.int .i64 s] 3 (0, 0)) ∧ wc.heap[g6]? = some (.cells #[.int .i64 wd] 3 (0, 0)) ∧ Below w.heap.size w wc
theorem UpAt.drawn {w : World} {gx g5 g6 : Nat} {v : Value} {s wd : Int} {wc w' : World} (h : UpAt w gx g5 g6 v s wd wc) (hd : Drawn0 wc w') : UpAt w gx g5 g6 v s wd w' := by
 obtain ⟨n, rfl⟩ := hd.out
 exact ⟨h.1, h.2.1, h.2.2.1, kn_ h.2.2.2.1 n, kn_ h.2.2.2.2.1 n, kn_ h.2.2.2.2.2.1 n, pd_ h.2.2.2.2.2.2 n⟩
theorem slope_rise.calls (w0 : World) (gx g5 g6 : Nat) (A0 : Option Addr) (c0 : Nat) (l0 : List Int) (s wd i r : Int) (w : World) (hr0 : Kd.C (Kd.int .i64) w A0 l0.length l0) (hU : UpAt w0 gx g5 g6 (.slice A0 l0.length c0) s wd w) (h0 : 0 ≤ i) (h1 : i < l0.length)
  (h : slope_near.f (wrap64 (s * wrap64 (rd l0 i - rd l0 0))) wd = some r) :
  Calls Try.prog 21 #[.int .i64 i, .pointer (some ⟨g5, 0, none⟩), .pointer (some ⟨gx, 0, none⟩), .pointer (some ⟨g6, 0, none⟩)] w fun e w' => e = .returned (.int .i64 r) ∧ Drawn0 w w' := by
 have hlen : l0.length ≤ 9223372036854775807 := hr0.2.1
 obtain ⟨ad, e, hc00⟩ := Kd.at_int hr0 (0 : Int) (by omega) (by omega)
 obtain ⟨ad2, e2, hci⟩ := Kd.at_int hr0 i h0 h1
 cases e
 cases e2
 obtain ⟨x, hx⟩ : ∃ x, rd l0 0 = x := ⟨_, rfl⟩
 obtain ⟨y, hy⟩ : ∃ y, rd l0 i = y := ⟨_, rfl⟩
 rw [hx] at hc00 h
 rw [hy] at hci h
 clear hx hy
 have hc0 : w.cell? ad = some (.int .i64 x) := by have q := hc00; rw [show ((0 : Int)).toNat = 0 from rfl, Addr.add_zero'] at q; exact q
 clear hc00
 have k5 : w.cell? ⟨g5, 0, none⟩ = some (.int .i64 s) := (kc_ hU.2.2.2.2.1 0).trans rfl
 have k6 : w.cell? ⟨g6, 0, none⟩ = some (.int .i64 wd) := (kc_ hU.2.2.2.2.2.1 0).trans rfl
 have kx : w.cell? ⟨gx, 0, none⟩ = some (.slice (some ad) l0.length c0) := (kc_ hU.2.2.2.1 0).trans rfl
 have hp : (0 : Int) < l0.length := by omega
 have H := sd_ h
 clear h hr0 hU
 go_enter Try.func21, Try.ntmps21
 go_wp2
 go_quiet ((go_at_call 22; exact Calls.quiet_of_same (slope_near.same _ _ r _ H.out)))
 go_wp2
 go_ret
 exact ⟨rfl, Drawn0.step (Drawn0.refl _) _⟩
/-- All rises. -/
def slope_rises (x0 s wd : Int) : List Int → Option (List Int)
 | [] => some []
 | x :: r => (slope_near.f (wrap64 (s * wrap64 (x - x0))) wd).bind fun y => (slope_rises x0 s wd r).bind fun ys => some (y :: ys)
theorem slope_rises.at (x0 s wd : Int) : ∀ (l rs : List Int), slope_rises x0 s wd l = some rs → rs.length = l.length ∧ ∀ j : Nat, j < l.length → slope_near.f (wrap64 (s * wrap64 (rd l j - x0))) wd = some (rd rs j)
 | [], rs, h => by
  simp only [slope_rises, Option.some.injEq] at h
  subst h
  exact ⟨rfl, fun j hj => absurd hj (by simp)⟩
 | x :: r, rs, h => by
  simp only [slope_rises] at h
  obtain ⟨y, h1, h⟩ := ob_ h
  obtain ⟨ys, h2, h⟩ := ob_ h
  obtain rfl := Option.some.inj h
  obtain ⟨g1, g2⟩ := slope_rises.at x0 s wd r ys h2
  refine ⟨by simp [g1], fun j hj => ?_⟩
  cases j with
  | zero => exact h1
  | succ j => exact g2 j (by simpa using hj)
/-- How far up, before it is rounded: behind j tips. -/
def slope_b (b0 : Int) (ts rs : List Int) : Nat → Int
 | 0 => b0
 | j + 1 => mx (slope_b b0 ts rs j) (wrap64 (wrap64 (rd ts j - 1024) - rd rs j))
def slope_up (b : Int) : Int := wrap64 (b + Int.tmod (wrap64 (Int.tmod (wrap64 (-b)) 256 + 256)) 256)
def slope_upwards.f (l0 l1 : List Int) : Option (List Int) :=
 if l1.length = 0 then none else if l0.length ≠ l1.length then none else if 35184372088832 < l0.length then none else
 (slope_slant.f l1 true).bind fun s => (slope_rises (rd l0 0) s (wrap64 (rd l0 ((l0.length : Int) - 1) - rd l0 0)) l0).bind fun rs =>
  some (rs.map fun r => wrap64 (slope_up (slope_b (wrap64 (rd l1 0 - 512)) l1 rs l1.length) + r))
/-- What is told, where j of n are. -/
def part (rs : List Int) (bb : Int) (n j : Nat) : List Int := (rs.take j).map (fun r => wrap64 (bb + r)) ++ List.replicate (n - j) 0
theorem part_zero (rs : List Int) (bb : Int) (n : Nat) : part rs bb n 0 = List.replicate n 0 := by simp [part]
theorem part_all (rs : List Int) (bb : Int) (n : Nat) (h : rs.length = n) : part rs bb n n = rs.map (fun r => wrap64 (bb + r)) := by simp [part, ← h]
theorem part_length (rs : List Int) (bb : Int) (n j : Nat) (hj : j ≤ n) (h : rs.length = n) : (part rs bb n j).length = n := by simp [part]; omega
theorem part_succ (rs : List Int) (bb : Int) (n j : Nat) (hj : j < n) (h : rs.length = n) : (part rs bb n j).set j (wrap64 (bb + rd rs j)) = part rs bb n (j + 1) := by
 unfold part
 rw [List.take_succ_eq_append_getElem (by omega), List.map_append, List.set_append_right _ _ (by simp; omega), List.append_assoc]
 congr 1
 rw [show n - j = (n - (j + 1)) + 1 by omega, List.replicate_succ]
 simp only [List.length_map, lt_, show min j rs.length = j by omega, Nat.sub_self, lz_, lq_, lx_, List.singleton_append]
 unfold rd
 rw [Int.toNat_natCast, List.getD_eq_getElem?_getD, List.getElem?_eq_getElem (by omega)]
 rfl
theorem nums_set (k : IntKind) (xs : List Int) (j : Nat) (v : Int) : (nums k xs).toArray.setIfInBounds j (.int k v) = (nums k (xs.set j v)).toArray := by
 simp [nums, List.map_set]
theorem made_nums (m : Nat) : madeCells #[Value.int .i64 0] m = (nums .i64 (List.replicate m 0)).toArray := by
 apply Array.ext
 ·simp [nums, madeCells]
 ·intro i h1 h2
  simp [nums, madeCells, Nat.mod_one]
theorem R_of_blk {w : World} {g base : Nat} {k : IntKind} {e : TypeId} {l : List Int} (h : w.heap[g]? = some (.cells (nums k l).toArray e (0, 0))) (hb : base ≤ g) (hl : l.length ≤ 9223372036854775807) : Kd.R (Kd.int k) e w base (fun _ => True) (.slice (some ⟨g, 0, none⟩) l.length l.length) l :=
 Kd.R_of_own ⟨by simp [encs], .inr ⟨g, l.length, (nums k l).toArray, rfl, hb, h, Nat.le_refl _, by simpa [maxLen] using hl, by simp [nums], by simp [nums, encs, List.take_of_length_le]⟩⟩ (fun _ _ => trivial)
theorem blk_some {w : World} {g : Nat} {t : TypeId} {cs : Array Value} (h : w.heap[g]? = some (.cells cs t (0, 0))) (j : Nat) (hj : j < cs.size) : ∃ u, w.cell? ⟨g, j, none⟩ = some u := ⟨_, (kc_ h j).trans (Array.getElem?_eq_getElem hj)⟩
theorem blk_at_drawn {w w' : World} {g : Nat} {o : Obj} (h : w.heap[g]? = some o) (hd : Drawn0 w w') : w'.heap[g]? = some o := by
 obtain ⟨n, rfl⟩ := hd.out
 exact kn_ h n
theorem UpAt.far {w : World} {gx g5 g6 go : Nat} {v : Value} {s wd : Int} {wc : World} (h : UpAt w gx g5 g6 v s wd wc) (h1 : go ≠ gx) (h2 : go ≠ g5) (h3 : go ≠ g6) (hg : w.heap.size ≤ go) (j : Nat) (u : Value) : UpAt w gx g5 g6 v s wd (wc.setCell ⟨go, j, none⟩ u) :=
 ⟨h.1, h.2.1, h.2.2.1, blk_far h.2.2.2.1 (p := ⟨go, j, none⟩) (Ne.symm h1) u, blk_far h.2.2.2.2.1 (p := ⟨go, j, none⟩) (Ne.symm h2) u, blk_far h.2.2.2.2.2.1 (p := ⟨go, j, none⟩) (Ne.symm h3) u, below_set h.2.2.2.2.2.2 hg⟩
theorem UpAt.made {w : World} {gx g5 g6 : Nat} {v : Value} {s wd : Int} {wc : World} (h : UpAt w gx g5 g6 v s wd wc) (n : Nat) : UpAt w gx g5 g6 v s wd (wc.alloc (.cells (madeCells #[.int .i64 0] n) 3)) ∧ wc.heap.size ≠ gx ∧ wc.heap.size ≠ g5 ∧ wc.heap.size ≠ g6 ∧ (wc.alloc (.cells (madeCells #[.int .i64 0] n) 3)).heap[wc.heap.size]? = some (.cells (nums .i64 (List.replicate n 0)).toArray 3 (0, 0)) := by
 have a := blk_lt h.2.2.2.1
 have b := blk_lt h.2.2.2.2.1
 have c := blk_lt h.2.2.2.2.2.1
 exact ⟨⟨h.1, h.2.1, h.2.2.1, ka_ h.2.2.2.1 _, ka_ h.2.2.2.2.1 _, ka_ h.2.2.2.2.2.1 _, ba_ h.2.2.2.2.2.2 _⟩, by omega, by omega, by omega, by rw [← made_nums]; exact blk_new wc _⟩
set_option maxHeartbeats 2000000 in
set_option maxRecDepth 100000 in
theorem slope_upwards.calls (A0 : Option Addr) (c0 : Nat) (l0 : List Int) (A1 : Option Addr) (c1 : Nat) (l1 : List Int) (r : List Int) (w : World) (hr0 : Kd.C (Kd.int .i64) w A0 l0.length l0) (hc0 : l0.length ≤ c0) (hr1 : Kd.C (Kd.int .i64) w A1 l1.length l1) (hc1 : l1.length ≤ c1) (h : slope_upwards.f l0 l1 = some r) :
  Calls Try.prog 13 #[.slice A0 l0.length c0, .slice A1 l1.length c1] w fun e w' => ∃ v0_ : Value, e = .returned (v0_) ∧ Kd.R (Kd.int .i64) 3 w' w.heap.size (fun _ => True) v0_ r ∧ Below w.heap.size w w' := by
 have hlen : l0.length ≤ 9223372036854775807 := hr0.2.1
 have hlen1 : l1.length ≤ 9223372036854775807 := hr1.2.1
 unfold slope_upwards.f at h
 by_cases hz : l1.length = 0
 ·rw [if_pos hz] at h; cases h
 rw [if_neg hz] at h
 by_cases hll : l0.length ≠ l1.length
 ·rw [if_pos hll] at h; cases h
 rw [if_neg hll] at h
 by_cases hbig : 35184372088832 < l0.length
 ·rw [if_pos hbig] at h; cases h
 rw [if_neg hbig] at h
 have hl : l0.length = l1.length := by omega
 obtain ⟨s, hs, h2⟩ := ob_ h
 clear h
 obtain ⟨rs, hrs, h⟩ := ob_ h2
 clear h2
 have HR := sd_ (Option.some.inj h)
 have HS := sd_ hs
 obtain ⟨ad, e, hc00⟩ := Kd.at_int hr0 (0 : Int) (by omega) (by omega)
 obtain ⟨ad', e', hcl0⟩ := Kd.at_int hr0 ((l0.length : Int) - 1) (by omega) (by omega)
 obtain ⟨ad1, e1, hc10⟩ := Kd.at_int hr1 (0 : Int) (by omega) (by omega)
 cases e
 cases e'
 cases e1
 obtain ⟨x, hx⟩ : ∃ x, rd l0 0 = x := ⟨_, rfl⟩
 obtain ⟨y, hy⟩ : ∃ y, rd l0 ((l0.length : Int) - 1) = y := ⟨_, rfl⟩
 obtain ⟨z, hz1⟩ : ∃ z, rd l1 0 = z := ⟨_, rfl⟩
 have HX := sd_ hx
 rw [hx] at hc00 hrs
 rw [hy] at hcl0 hrs
 rw [hz1] at hc10
 rw [hz1] at HR
 have HRS := sd_ (slope_rises.at _ _ _ _ _ hrs)
 clear hx hy hz1 hs hrs h hll
 have HR0 := sd_ hr0
 have HR1 := sd_ hr1
 have HC1 := sd_ hc1
 clear hr0 hr1 hc0 hc1
 have hp : (0 : Int) < l0.length := by omega
 have hp1 : (0 : Int) < l1.length := by omega
 have HL := sd_ hl
 clear hl
 have HB := sd_ (Below.refl w.heap.size w)
 go_enter Try.func13, Try.ntmps13
 go_upto_region 2 with ((go_at_call 18; refine (slope_slant.calls _ c1 l1 true s _ (Kd.C_below HR1.out (ba_ (Below.refl _ _) _)) HC1.out HS.out).mono ?_; rintro e w1 ⟨rfl, hb⟩))
 have hx1 : w1.heap[w.heap.size]? = some (.cells #[.slice (some ad) l0.length c0] 22 (0, 0)) := blk_below (blk_new w _) hb
 have hB1 : Below w.heap.size w w1 := bt_ (ba_ (Below.refl _ _) _) hb
 have hg5 : w.heap.size ≤ w1.heap.size := hB1.size
 have hs5 := blk_new w1 (.cells #[.int .i64 s] 3)
 have hx2 := ka_ hx1 (.cells #[.int .i64 s] 3)
 have hB2 : Below w.heap.size w (w1.alloc (.cells #[.int .i64 s] 3)) := ba_ hB1 _
 generalize w1.heap.size = g5 at hs5 hg5 ⊢
 generalize w1.alloc (.cells #[.int .i64 s] 3) = W2 at hs5 hx2 hB2 ⊢
 have c0' : W2.cell? ad = some (.int .i64 x) := pw_cell_below hB2 (by have q := hc00; rw [show ((0 : Int)).toNat = 0 from rfl, Addr.add_zero'] at q; exact q)
 have cl' : W2.cell? (ad.add (l0.length - 1)) = some (.int .i64 y) := pw_cell_below hB2 (by rw [show ((l0.length : Int) - 1).toNat = l0.length - 1 by omega] at hcl0; exact hcl0)
 have kx : W2.cell? ⟨w.heap.size, 0, none⟩ = some (.slice (some ad) l0.length c0) := (kc_ hx2 0).trans rfl
 have hq : (0 : Int) ≤ (l0.length : Int) - 1 := by omega
 have hq2 : (l0.length : Int) - 1 < l0.length := by omega
 have hq3 : ((l0.length : Int) - 1).toNat = l0.length - 1 := by omega
 have hw : IntKind.i64.wrap ((l0.length : Int) - 1) = (l0.length : Int) - 1 := by rw [i64_w]; unfold wrap64; omega
 have lx : w.heap.size < W2.heap.size := blk_lt hx2
 have la : ad.block < W2.heap.size := wb_ _ _ c0'
 have lb : (ad.add (l0.length - 1)).block < W2.heap.size := wb_ _ _ cl'
 have A := sd_ (And.intro hs5 (And.intro hx2 (And.intro hB2 hg5)))
 clear hs5 hx2 hB2 hg5 hx1 hB1 hb
 clear hc00 hcl0
 go_cut [6] (fun v6 wc => ∃ g6 : Nat, v6 = .pointer (some ⟨g6, 0, none⟩) ∧ Aside0 (UpAt w w.heap.size g5 g6 (.slice (some ad) l0.length c0) s (wrap64 (y - x)) wc))
 case first =>
  go_region
  all_goals go_wp2
  all_goals go_meet
  all_goals
   obtain ⟨hs5, hx2, hB2, hg5⟩ := A.out
   exact ⟨_, rfl, ⟨Nat.le_refl _, hg5, hB2.size, blk_drew (ka_ hx2 _), blk_drew (ka_ hs5 _), blk_drew (blk_new W2 _), below_drew (ba_ hB2 _)⟩⟩
 case rest =>
  obtain ⟨g6, rfl, hU⟩ := hcut
  clear A c0' cl' kx lx la lb hw
  obtain ⟨wd, hwd⟩ : ∃ wd, wrap64 (y - x) = wd := ⟨_, rfl⟩
  rw [hwd] at hU HRS
  clear hwd hq hq2 hq3
  have c1' : wc.cell? ad1 = some (.int .i64 z) := pw_cell_below hU.out.2.2.2.2.2.2 (by have q := hc10; rw [show ((0 : Int)).toNat = 0 from rfl, Addr.add_zero'] at q; exact q)
  go_wp2
  go_loopg [8, 32] l1.length (fun k v8 v32 wr => ∃ j : Nat, v32 = .int .i64 j ∧ v8 = .int .i64 (slope_b (wrap64 (z - 512)) l1 rs j) ∧ Aside0 (k + j = l1.length ∧ UpAt w w.heap.size g5 g6 (.slice (some ad) l0.length c0) s wd wr))
  case atStart => exact ⟨0, rfl, rfl, ⟨by omega, hU.out⟩⟩
  case round =>
   obtain ⟨j, rfl, rfl, hA⟩ := hrel
   have hj : j ≤ l1.length := by have := hA.out.1; omega
   by_cases hlt : j < l1.length
   ·obtain ⟨k, rfl⟩ : ∃ k, gk = k + 1 := ⟨gk - 1, by have := hA.out.1; omega⟩
    have HBw := sd_ hA.out.2.2.2.2.2.2.2
    have hC1 := sd_ (Kd.C_below HR1.out HBw.out)
    obtain ⟨ad2, e, hcell⟩ := Kd.at_int hC1.out (j : Int) (by omega) (by omega)
    cases e
    simp only [Int.toNat_natCast] at hcell
    have hrise := sd_ (slope_rise.calls w w.heap.size g5 g6 (some ad) c0 l0 s wd (j : Int) (rd rs j) wr (Kd.C_below HR0.out HBw.out) hA.out.2 (by omega) (by have := HL.out; omega) (by rw [HX.out]; exact HRS.out.2 j (by have := HL.out; omega)))
    have HS2 := sd_ (show slope_b (wrap64 (z - 512)) l1 rs (j + 1) = mx (slope_b (wrap64 (z - 512)) l1 rs j) (wrap64 (wrap64 (rd l1 j - 1024) - rd rs j)) from rfl)
    obtain ⟨t, ht⟩ : ∃ t, rd l1 (j : Int) = t := ⟨_, rfl⟩
    obtain ⟨q, hq⟩ : ∃ q, rd rs (j : Int) = q := ⟨_, rfl⟩
    obtain ⟨b, hb⟩ : ∃ b, slope_b (wrap64 (z - 512)) l1 rs j = b := ⟨_, rfl⟩
    rw [ht] at hcell HS2
    rw [hq] at hrise HS2
    rw [hb] at HS2 ⊢
    clear ht hq hb
    go_wp2_with (go_at_call 21; refine hrise.out.mono ?_; rintro e w3 ⟨rfl, hd⟩)
    all_goals
     go_roundg k
     case measure => omega
     case rel =>
      refine ⟨j + 1, by go_num, ?_, ⟨by have := hA.out.1; omega, hA.out.2.drawn hd⟩⟩
      rw [HS2.out]
      unfold mx
      first | rw [if_pos (by assumption)] | rw [if_neg (by omega)]
   ·obtain rfl : j = l1.length := by omega
    obtain ⟨b, hb⟩ : ∃ b, slope_b (wrap64 (z - 512)) l1 rs l1.length = b := ⟨_, rfl⟩
    rw [hb] at HR ⊢
    clear hb hlt hj hU c1'
    have hU := sd_ hA.out.2
    clear hA
    have kx : wr.cell? ⟨w.heap.size, 0, none⟩ = some (.slice (some ad) l0.length c0) := (kc_ hU.out.2.2.2.1 0).trans rfl
    have hmk := print_make (P := Try.prog) 22 3 .i64 8 Try.underlying22 info3 (by decide) l0.length (by omega)
    have lx : w.heap.size < wr.heap.size := blk_lt hU.out.2.2.2.1
    go_wp2
    obtain ⟨bb, hbb⟩ : ∃ bb, wrap64 (b + Int.tmod (wrap64 (Int.tmod (wrap64 (-b)) 256 + 256)) 256) = bb := ⟨_, rfl⟩
    have HR2 : Aside0 (rs.map (fun r => wrap64 (bb + r)) = r) := ⟨by rw [← hbb]; exact HR.out⟩
    rw [hbb]
    clear hbb HR hmk kx
    have HG := sd_ (UpAt.made hU.out l0.length)
    have hgo : w.heap.size ≤ wr.heap.size := by omega
    clear hU lx
    generalize wr.heap.size = go at HG hgo ⊢
    generalize wr.alloc (.cells (madeCells #[.int .i64 0] l0.length) 3) = W3 at HG ⊢
    go_loopg [58] l0.length (fun k v58 wr => ∃ j : Nat, v58 = .int .i64 j ∧ Aside0 (k + j = l0.length ∧ UpAt w w.heap.size g5 g6 (.slice (some ad) l0.length c0) s wd wr ∧ go ≠ w.heap.size ∧ go ≠ g5 ∧ go ≠ g6 ∧ wr.heap[go]? = some (.cells (nums .i64 (part rs bb l0.length j)).toArray 3 (0, 0))))
    case atStart => exact ⟨0, rfl, ⟨by omega, HG.out.1, HG.out.2.1, HG.out.2.2.1, HG.out.2.2.2.1, by rw [part_zero]; exact HG.out.2.2.2.2⟩⟩
    case round =>
     obtain ⟨j, rfl, hA⟩ := hrel
     have hj : j ≤ l0.length := by have := hA.out.1; omega
     by_cases hlt : j < l0.length
     ·obtain ⟨k, rfl⟩ : ∃ k, gk = k + 1 := ⟨gk - 1, by have := hA.out.1; omega⟩
      have hrise := sd_ (slope_rise.calls w w.heap.size g5 g6 (some ad) c0 l0 s wd (j : Int) (rd rs j) wr (Kd.C_below HR0.out hA.out.2.1.2.2.2.2.2.2) hA.out.2.1 (by omega) (by omega) (by rw [HX.out]; exact HRS.out.2 j hlt))
      have HS2 := sd_ (part_succ rs bb l0.length j hlt (by have := HRS.out.1; omega))
      obtain ⟨q, hq⟩ : ∃ q, rd rs (j : Int) = q := ⟨_, rfl⟩
      rw [hq] at hrise HS2
      clear hq
      have hpl := sd_ (part_length rs bb l0.length j hj HRS.out.1)
      go_wp2_with (go_at_call 21; refine hrise.out.mono ?_; rintro e w3 ⟨rfl, hd⟩; have hb3 := sd_ (blk_at_drawn hA.out.2.2.2.2.2 hd); obtain ⟨u0, hu0⟩ := blk_some hb3.out j (by rw [List.size_toArray, nums_length, hpl.out]; exact hlt); have hf0 := blk_frozen hb3.out j)
      go_roundg k
      case measure => omega
      case rel =>
       refine ⟨j + 1, by go_num, ⟨by have := hA.out.1; omega, (hA.out.2.1.drawn hd).far hA.out.2.2.1 hA.out.2.2.2.1 hA.out.2.2.2.2.1 hgo _ _, hA.out.2.2.1, hA.out.2.2.2.1, hA.out.2.2.2.2.1, ?_⟩⟩
       rw [← HS2.out, ← nums_set]
       exact blk_set hb3.out j _
     ·obtain rfl : j = l0.length := by omega
      go_wp2
      go_ret
      have hfin := hA.out.2.2.2.2.2
      rw [part_all rs bb l0.length HRS.out.1, HR2.out] at hfin
      have hrl : r.length = l0.length := by rw [← HR2.out, List.length_map, HRS.out.1]
      refine ⟨_, rfl, ?_, hA.out.2.1.2.2.2.2.2.2⟩
      rw [← hrl]
      exact R_of_blk hfin hgo (by omega)

end Go.Proofs.Ytbmdbkjmleimmaa.P
