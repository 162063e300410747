-- Written by a program of this session (wip/tools/xprint.py, over the kit's print): Lean checks it.
import Derived.Test.YtchmcljinkemaaaPx0
namespace Go.Proofs.Ytchmcljinkemaaa.P
open Go.RowKit Go.Proofs.YtchmcljinkemaaaW.PrintWords Go.Proofs.YtchmcljinkemaaaW.PrintLast Go.Proofs.YtchmcljinkemaaaW.PrintMore
attribute [local go_sem] max2_int min2_int max_two min_two max_three min_three max_four min_four   -- for this text's walks alone
set_option linter.unusedVariables false
set_option linter.unusedSimpArgs false

/-! ### neumelaw24_few: function 6 -/
mutual
def neumelaw24_few.j0 : Nat → List (List (S45)) → Bool → Option (Bool)
 | 0, _, _ => none
 | k + 1, x1, x13 => if x13 = true then (some false) else (neumelaw24_few.l0 k x1 0)
def neumelaw24_few.l0 : Nat → List (List (S45)) → Int → Option (Bool)
 | 0, _, _ => none
 | k + 1, x1, x5 => if x5 < (x1.length : Int) then (if 0 ≤ x5 then (if ((rd_L2 x1 x5).length : Int) > 10 then (some false) else (neumelaw24_few.l0 k x1 (wrap64 (x5 + 1)))) else (none)) else (some true)
end
def neumelaw24_few.f (k : Nat) (l0 : List (S45)) (l1 : List (List (S45))) : Option (Bool) := if (l0.length : Int) > 30 then (neumelaw24_few.j0 k l1 true) else (neumelaw24_few.j0 k l1 (decide ((l1.length : Int) > 10)))
theorem neumelaw24_few.mono_l : ∀ k, (∀ y0 y1, LeO (neumelaw24_few.j0 k y0 y1) (neumelaw24_few.j0 (k + 1) y0 y1)) ∧ (∀ y0 y1, LeO (neumelaw24_few.l0 k y0 y1) (neumelaw24_few.l0 (k + 1) y0 y1))
 | 0 => ⟨fun _ _ r h => by simp [neumelaw24_few.j0] at h, fun _ _ r h => by simp [neumelaw24_few.l0] at h⟩
 | k + 1 => by
  obtain ⟨ih0, ih1⟩ := neumelaw24_few.mono_l k
  refine ⟨?_, ?_⟩
  ·intro y0 y1
   unfold neumelaw24_few.j0
   repeat' first
   | (with_reducible exact ih0 _ _)
   | (with_reducible exact ih1 _ _)
   | (with_reducible exact LeO.refl _)
   | (with_reducible exact LeO.none _)
   | (with_reducible refine LeO.ite ?_ ?_)
   | (with_reducible refine LeO.bind ?_ (fun _ => ?_))
   | exact ih0 _ _
   | exact ih1 _ _
   | exact LeO.none _
   | refine LeO.ite ?_ ?_
   | refine LeO.bind ?_ (fun _ => ?_)
  ·intro y0 y1
   unfold neumelaw24_few.l0
   repeat' first
   | (with_reducible exact ih0 _ _)
   | (with_reducible exact ih1 _ _)
   | (with_reducible exact LeO.refl _)
   | (with_reducible exact LeO.none _)
   | (with_reducible refine LeO.ite ?_ ?_)
   | (with_reducible refine LeO.bind ?_ (fun _ => ?_))
   | exact ih0 _ _
   | exact ih1 _ _
   | exact LeO.none _
   | refine LeO.ite ?_ ?_
   | refine LeO.bind ?_ (fun _ => ?_)
theorem neumelaw24_few.mono : ∀ a0 a1 k, LeO (neumelaw24_few.f k a0 a1) (neumelaw24_few.f (k + 1) a0 a1) := by
 intro a0 a1 k
 obtain ⟨ih0, ih1⟩ := neumelaw24_few.mono_l k
 unfold neumelaw24_few.f
 repeat' first
   | (with_reducible exact ih0 _ _)
   | (with_reducible exact ih1 _ _)
   | (with_reducible exact LeO.refl _)
   | (with_reducible exact LeO.none _)
   | (with_reducible refine LeO.ite ?_ ?_)
   | (with_reducible refine LeO.bind ?_ (fun _ => ?_))
   | exact ih0 _ _
   | exact ih1 _ _
   | exact LeO.none _
   | refine LeO.ite ?_ ?_
   | refine LeO.bind ?_ (fun _ => ?_)
set_option maxHeartbeats 8000000 in
set_option maxRecDepth 100000 in
theorem neumelaw24_few.calls (k : Nat) (A0 : Option Addr) (c0 : Nat) (l0 : List (S45)) (A1 : Option Addr) (c1 : Nat) (l1 : List (List (S45))) (r : Bool) (w : World) (hr0 : Kd.C k45 w A0 l0.length l0) (hc0 : l0.length ≤ c0) (hr1 : Kd.C (Kd.slice 45 k45) w A1 l1.length l1) (hc1 : l1.length ≤ c1) (h : neumelaw24_few.f k l0 l1 = some r) :
  Calls Try.prog 6 #[.slice A0 l0.length c0, .slice A1 l1.length c1] w fun e w' => e = .returned (.bool r) ∧ Drawn0 w w' := by
 have HR0 := sd_ hr0
 have HC0 := sd_ hc0
 clear hr0 hc0
 have HR1 := sd_ hr1
 have HC1 := sd_ hc1
 clear hr1 hc1
 have H : (if (l0.length : Int) > 30 then (neumelaw24_few.j0 k l1 true) else (neumelaw24_few.j0 k l1 (decide ((l1.length : Int) > 10)))) = some r := h
 clear h
 have HC3 := sd_ H
 clear H
 go_enter Try.func6, Try.ntmps6
 go_upto_region 1 with (fail)
 go_cut [13] (fun v13 wc => ∃ (kq : Nat) (x13_2 : Bool), v13 = .bool x13_2 ∧ Aside0 (neumelaw24_few.j0 kq l1 x13_2 = some r) ∧ Aside0 (kq ≤ k) ∧ Drawn0 w wc)
 case first =>
  have H := HC3.out
  clear HC3
  by_cases c4 : (l0.length : Int) > 30
  ·rw [if_pos c4] at H
   have c4b0 : decide (30 < (l0.length : Int)) = true := dt_ c4
   have c4b1 : decide (30 < l0.length) = true := dt_ (by omega)
   clear c4
   (first | rw [c4b0] | (simp only [i64_w, i32_w]; rw [c4b0]) | skip)
   have H' := sd_ H
   clear H
   go_wp2
   go_meet
   case rel => exact ⟨_, (true), (by first | rfl | (simp; done) | (simp [*]; done) | (simp [bne]; done)), H', ⟨by first | omega | exact Nat.le_refl _⟩, by repeat (first | exact Drawn0.refl _ | apply Drawn0.step)⟩
  ·rw [if_neg c4] at H
   have c4b0 : decide (30 < (l0.length : Int)) = false := df_ c4
   have c4b1 : decide (30 < l0.length) = false := df_ (by omega)
   clear c4
   (first | rw [c4b0] | (simp only [i64_w, i32_w]; rw [c4b0]) | skip)
   have H' := sd_ H
   clear H
   go_wp2
   go_meet
   case rel => exact ⟨_, (decide ((l1.length : Int) > 10)), (by first | rfl | (simp; done) | (simp [*]; done) | (simp [bne]; done)), H', ⟨by first | omega | exact Nat.le_refl _⟩, by repeat (first | exact Drawn0.refl _ | apply Drawn0.step)⟩
 case rest =>
  clear HC3
  try clear c1; try clear p2; try clear c4; try clear c4b0; try clear c4b1
  obtain ⟨kq, x13_2, rfl, HA, HJ2, ⟨mc2, rfl⟩⟩ := hcut
  cases kq with
  | zero => exact absurd HA.out (by simp [neumelaw24_few.j0])
  | succ kj2 =>
   have H := HA.out
   clear HA
   simp only [neumelaw24_few.j0] at H
   by_cases c5 : x13_2 = true
   ·subst c5
    have H1 : (some false) = some r := by rw [if_pos rfl] at H; exact H
    clear H; have H := H1; clear H1
    obtain rfl := Option.some.inj H
    go_wp2
    go_ret
    exact ⟨by first | rfl | (simp; done) | (simp [*]; done), by repeat (first | exact Drawn0.refl _ | apply Drawn0.step)⟩
   ·replace c5 := bf_ c5
    subst c5
    have H1 : (neumelaw24_few.l0 kj2 l1 0) = some r := by rw [if_neg (show ¬ (false = true) by decide)] at H; exact H
    clear H; have H := H1; clear H1
    have H' := sd_ H
    clear H
    go_wp2
    go_loopg [5] kj2 (fun kq v5 w' => ∃ (x5_2 : Int), v5 = .int .i64 x5_2 ∧ Aside0 (neumelaw24_few.l0 kq l1 x5_2 = some r) ∧ Aside0 (kq ≤ kj2) ∧ Drawn0 w w')
    case atStart => exact ⟨(0), (by first | rfl | (simp; done) | (simp [*]; done) | (simp [bne]; done)), H', ⟨Nat.le_refl _⟩, by repeat (first | exact Drawn0.refl _ | apply Drawn0.step)⟩
    case round =>
     clear H'
     try clear c1; try clear c2; try clear p2; try clear c4; try clear c4b0; try clear c4b1; try clear c5; try clear p2
     obtain ⟨x5_2, rfl, HA, HK2, ⟨m2, rfl⟩⟩ := hrel
     cases gk with
     | zero => exact absurd HA.out (by simp [neumelaw24_few.l0])
     | succ k2 =>
      have H := HA.out
      clear HA
      simp only [neumelaw24_few.l0] at H
      by_cases c6 : x5_2 < (l1.length : Int)
      ·rw [if_pos c6] at H
       have c6b0 : decide (x5_2 < (l1.length : Int)) = true := dt_ c6
       clear c6
       by_cases c7 : 0 ≤ x5_2
       ·rw [if_pos c7] at H
        have c7b0 : decide (0 ≤ x5_2) = true := dt_ c7
        clear c7
        by_cases c8 : ((rd_L2 l1 x5_2).length : Int) > 10
        ·rw [if_pos c8] at H
         have c8b0 : decide (10 < ((rd_L2 l1 x5_2).length : Int)) = true := dt_ c8
         have c8b1 : decide (10 < (rd_L2 l1 x5_2).length) = true := dt_ (by omega)
         clear c8
         obtain rfl := Option.some.inj H
         have p101 : 0 ≤ (x5_2 : Int) := od_ (by first | (with_reducible assumption) | assumption)
         have q101 : x5_2 < (l1.length : Int) := od_ (by first | (with_reducible assumption) | assumption)
         obtain ⟨ad101, A101_0, c101_0, e101, hx101_0, hl101_0, hi101_0⟩ := at_L2 HR1.out x5_2 p101 q101
         cases e101
         have HR101_0 := sd_ hi101_0
         have HC101_0 := sd_ hl101_0
         clear hi101_0 hl101_0
         replace p101 := eq_true p101
         replace q101 := eq_true q101
         go_wp2
         go_ret
         exact ⟨by first | rfl | (simp; done) | (simp [*]; done), by repeat (first | exact Drawn0.refl _ | apply Drawn0.step)⟩
        ·rw [if_neg c8] at H
         have c8b0 : decide (10 < ((rd_L2 l1 x5_2).length : Int)) = false := df_ c8
         have c8b1 : decide (10 < (rd_L2 l1 x5_2).length) = false := df_ (by omega)
         clear c8
         have H' := sd_ H
         clear H
         have p101 : 0 ≤ (x5_2 : Int) := od_ (by first | (with_reducible assumption) | assumption)
         have q101 : x5_2 < (l1.length : Int) := od_ (by first | (with_reducible assumption) | assumption)
         obtain ⟨ad101, A101_0, c101_0, e101, hx101_0, hl101_0, hi101_0⟩ := at_L2 HR1.out x5_2 p101 q101
         cases e101
         have HR101_0 := sd_ hi101_0
         have HC101_0 := sd_ hl101_0
         clear hi101_0 hl101_0
         replace p101 := eq_true p101
         replace q101 := eq_true q101
         go_wp2
         go_roundg k2
         case measure => have := HJ2.out; have := HK2.out; omega
         case rel => exact ⟨(wrap64 (x5_2 + 1)), (by first | rfl | (simp; done) | (simp [*]; done) | (simp [bne]; done)), H', ⟨by have := HJ2.out; have := HK2.out; omega⟩, by repeat (first | exact Drawn0.refl _ | apply Drawn0.step)⟩
       ·rw [if_neg c7] at H
        exact absurd H (by simp)
      ·rw [if_neg c6] at H
       have c6b0 : decide (x5_2 < (l1.length : Int)) = false := df_ c6
       clear c6
       obtain rfl := Option.some.inj H
       go_wp2
       go_ret
       exact ⟨by first | rfl | (simp; done) | (simp [*]; done), by repeat (first | exact Drawn0.refl _ | apply Drawn0.step)⟩

/-! ### fix_Ok: function 51 -/
def fix_Ok.f (a0 : Int) : Option (Bool) := if (-1099511627776) ≤ a0 then (some (decide (a0 ≤ 1099511627776))) else (some false)
set_option maxHeartbeats 8000000 in
set_option maxRecDepth 100000 in
theorem fix_Ok.calls (a0 : Int) (r : Bool) (w : World) (h : fix_Ok.f a0 = some r) :
  Calls Try.prog 51 #[.int .i64 a0] w fun e w' => e = .returned (.bool r) ∧ Drawn0 w w' := by
 have H : (if (-1099511627776) ≤ a0 then (some (decide (a0 ≤ 1099511627776))) else (some false)) = some r := h
 clear h
 by_cases c2 : (-1099511627776) ≤ a0
 ·rw [if_pos c2] at H
  have c2b0 : decide ((-1099511627776) ≤ a0) = true := dt_ c2
  clear c2
  obtain rfl := Option.some.inj H
  go_enter Try.func51, Try.ntmps51
  go_wp2
  go_ret
  exact ⟨by first | rfl | (simp; done) | (simp [*]; done), by repeat (first | exact Drawn0.refl _ | apply Drawn0.step)⟩
 ·rw [if_neg c2] at H
  have c2b0 : decide ((-1099511627776) ≤ a0) = false := df_ c2
  clear c2
  obtain rfl := Option.some.inj H
  go_enter Try.func51, Try.ntmps51
  go_wp2
  go_ret
  exact ⟨by first | rfl | (simp; done) | (simp [*]; done), by repeat (first | exact Drawn0.refl _ | apply Drawn0.step)⟩

/-! ### box_Check: function 45 -/
def fx_ok (x : Int) : Bool := decide (-1099511627776 ≤ x ∧ x ≤ 1099511627776)
theorem fx_ret {a b : Bool} (h : a = b) : Ending.returned (.bool a) = .returned (.bool b) := by rw [h]
theorem fx_Ok (x : Int) (w : World) : Calls Try.prog 51 #[.int .i64 x] w fun e w' => e = .returned (.bool (fx_ok x)) ∧ w' = w := by
 unfold fx_ok
 by_cases c : -1099511627776 ≤ x
 ·go_enter Try.func51, Try.ntmps51
  go_wp2
  go_ret
  exact ⟨fx_ret (by simp [c]), rfl⟩
 ·go_enter Try.func51, Try.ntmps51
  go_wp2
  go_ret
  exact ⟨fx_ret (by have q : decide (-1099511627776 ≤ x) = false := df_ (by omega); rw [q]; rfl), rfl⟩
def box_ok (x0 x1 x2 x3 : Int) : Bool := fx_ok x0 && fx_ok x1 && fx_ok x2 && fx_ok x3 && decide (x0 ≤ x2) && decide (x1 ≤ x3)
def box_Check.f (x0 x1 x2 x3 : Int) : Option Bool := some (box_ok x0 x1 x2 x3)
def box_nth (x0 x1 x2 x3 i : Int) : Int := if i = 0 then x0 else if i = 1 then x1 else if i = 2 then x2 else x3
theorem bx_ret {a b : Bool} (h : a = b) : Ending.returned (.bool a) = .returned (.bool b) := by rw [h]
set_option maxHeartbeats 4000000 in
set_option maxRecDepth 100000 in
theorem box_Check.calls (x0 x1 x2 x3 : Int) (r : Bool) (w : World) (h : box_Check.f x0 x1 x2 x3 = some r) :
  Calls Try.prog 45 #[.agg #[.int .i64 x0, .int .i64 x1, .int .i64 x2, .int .i64 x3]] w fun e w' => e = .returned (.bool r) ∧ Below w.heap.size w w' := by
 have hu := Try.underlying45
 have k : ∀ W : World, ∀ i x : Int, 0 ≤ i → i < 4 → box_nth x0 x1 x2 x3 i = x → (Instr.index 64 (.agg #[.int .i64 x0, .int .i64 x1, .int .i64 x2, .int .i64 x3]) (.int .i64 i)).run Try.prog W = .ok (.int .i64 x) W := by
  intro W i x h0 h4 hx
  obtain rfl | rfl | rfl | rfl : i = 0 ∨ i = 1 ∨ i = 2 ∨ i = 3 := by omega
  all_goals (subst hx; kernel_rfl)
 have H := sd_ (show box_ok x0 x1 x2 x3 = r from Option.some.inj h)
 have HK := sd_ k
 clear h k
 go_enter Try.func45, Try.ntmps45
 go_wp2
 go_loop [14] (fun v14 => ∃ i : Int, 0 ≤ i ∧ i ≤ 4 ∧ v14 = .int .i64 i ∧ Aside0 (∀ j : Int, 0 ≤ j → j < i → fx_ok (box_nth x0 x1 x2 x3 j) = true)) (fun v14 => (4 - intOf v14).toNat)
 case atStart => exact ⟨0, by omega, by omega, rfl, ⟨fun j h0 h1 => by omega⟩⟩
 case round =>
  obtain ⟨i, hi0, hi4, rfl, hA⟩ := hrel
  by_cases hlt : i < 4
  ·obtain ⟨x, hx⟩ : ∃ x, box_nth x0 x1 x2 x3 i = x := ⟨_, rfl⟩
   have ki := fun W => HK.out W i x hi0 hlt hx
   have HO := sd_ (fx_Ok x)
   have HX := sd_ hx
   clear hx
   cases hb : fx_ok x with
   | true =>
    have HA := sd_ (show ∀ j : Int, 0 ≤ j → j < i + 1 → fx_ok (box_nth x0 x1 x2 x3 j) = true from fun j h0 h1 => by
     by_cases e : j = i
     ·rw [e, HX.out, hb]
     ·exact hA.out j h0 (by omega))
    rw [hb] at HO
    clear hb hA HX HK
    go_wp2_with (go_at_call 51; refine (HO.out _).mono ?_; rintro e w' ⟨rfl, rfl⟩)
    go_round
    case rel => exact ⟨i + 1, by omega, by omega, by go_num, HA⟩
    case measure => simp [intOf]; omega
   | false =>
    have HR := sd_ (show false = r by
     rw [← H.out]
     unfold box_ok
     have q := HX.out
     unfold box_nth at q
     obtain rfl | rfl | rfl | rfl : i = 0 ∨ i = 1 ∨ i = 2 ∨ i = 3 := by omega
     all_goals
      simp at q
      subst q
      rw [hb]
      simp)
    rw [hb] at HO
    clear hb hA HX HK H
    go_wp2_with (go_at_call 51; refine (HO.out _).mono ?_; rintro e w' ⟨rfl, rfl⟩)
    go_ret
    exact ⟨bx_ret HR.out, ba_ (Below.refl _ _) _⟩
  ·obtain rfl : i = 4 := by omega
   have HR := sd_ (show (decide (x0 ≤ x2) && decide (x1 ≤ x3)) = r by
    rw [← H.out]
    unfold box_ok
    have q0 : fx_ok x0 = true := hA.out 0 (by omega) (by omega)
    have q1 : fx_ok x1 = true := hA.out 1 (by omega) (by omega)
    have q2 : fx_ok x2 = true := hA.out 2 (by omega) (by omega)
    have q3 : fx_ok x3 = true := hA.out 3 (by omega) (by omega)
    rw [q0, q1, q2, q3]
    simp)
   clear hA HK H
   by_cases c : x0 ≤ x2
   ·have cb : decide (x0 ≤ x2) = true := dt_ c
    rw [cb] at HR
    go_wp2
    go_ret
    exact ⟨bx_ret (by rw [← HR.out, Bool.true_and]), ba_ (Below.refl _ _) _⟩
   ·have cb : decide (x0 ≤ x2) = false := df_ c
    rw [cb] at HR
    go_wp2
    go_ret
    exact ⟨bx_ret (by rw [← HR.out, Bool.false_and]), ba_ (Below.refl _ _) _⟩

/-! ### voices_near: function 34 -/
def voices_near.f (a0_0 : Int) (a0_1 : Int) (a0_2 : Int) (a0_3 : Int) : Option (Bool) := (box_Check.f a0_0 a0_1 a0_2 a0_3).bind fun t103 => (if t103 = true then (if a0_0 ≥ (-1073741824) then (if a0_2 ≤ 1073741824 then (if a0_1 ≥ (-1073741824) then (some (decide (a0_3 ≤ 1073741824))) else (some false)) else (some false)) else (some false)) else (some false))
set_option maxHeartbeats 8000000 in
set_option maxRecDepth 100000 in
theorem voices_near.calls (a0_0 : Int) (a0_1 : Int) (a0_2 : Int) (a0_3 : Int) (r : Bool) (w : World) (h : voices_near.f a0_0 a0_1 a0_2 a0_3 = some r) :
  Calls Try.prog 34 #[.agg #[.int .i64 a0_0, .int .i64 a0_1, .int .i64 a0_2, .int .i64 a0_3]] w fun e w' => e = .returned (.bool r) ∧ Below w.heap.size w w' := by
 have hu45 := Try.underlying45
 have HB := sd_ (Below.refl w.heap.size w)
 have H : ((box_Check.f a0_0 a0_1 a0_2 a0_3).bind fun t103 => (if t103 = true then (if a0_0 ≥ (-1073741824) then (if a0_2 ≤ 1073741824 then (if a0_1 ≥ (-1073741824) then (some (decide (a0_3 ≤ 1073741824))) else (some false)) else (some false)) else (some false)) else (some false))) = some r := h
 clear h
 replace H := ob_ H
 obtain ⟨t103, A20, H⟩ := H
 replace H : (if t103 = true then (if a0_0 ≥ (-1073741824) then (if a0_2 ≤ 1073741824 then (if a0_1 ≥ (-1073741824) then (some (decide (a0_3 ≤ 1073741824))) else (some false)) else (some false)) else (some false)) else (some false)) = some r := H
 have A2 := sd_ A20
 clear A20
 by_cases c3 : t103 = true
 ·subst c3
  have H1 : (if a0_0 ≥ (-1073741824) then (if a0_2 ≤ 1073741824 then (if a0_1 ≥ (-1073741824) then (some (decide (a0_3 ≤ 1073741824))) else (some false)) else (some false)) else (some false)) = some r := by rw [if_pos rfl] at H; exact H
  clear H; have H := H1; clear H1
  by_cases c4 : a0_0 ≥ (-1073741824)
  ·rw [if_pos c4] at H
   have c4b0 : decide ((-1073741824) ≤ a0_0) = true := dt_ c4
   clear c4
   by_cases c5 : a0_2 ≤ 1073741824
   ·rw [if_pos c5] at H
    have c5b0 : decide (a0_2 ≤ 1073741824) = true := dt_ c5
    clear c5
    by_cases c6 : a0_1 ≥ (-1073741824)
    ·rw [if_pos c6] at H
     have c6b0 : decide ((-1073741824) ≤ a0_1) = true := dt_ c6
     clear c6
     obtain rfl := Option.some.inj H
     go_enter Try.func34, Try.ntmps34
     go_wp2_with (first | ((with_reducible refine gate_dst (N := 1) rfl ?_); refine box_event ?hg (N := 1) ?hd (cs := #[.int .i64 a0_0, .int .i64 a0_1, .int .i64 a0_2, .int .i64 a0_3]) (t := 45) ?hr ?_; (case hd => rfl); (case hg => rfl); (case hr => first | (go_simp; done) | (go_simp; rfl)); intro gb102 hg w7 hbox hb; have BK102 := sd_ hbox; have GW102 := gw_ HB e0_ hg; have GE102 := GW102; replace HB := hb_ HB e0_ hb; clear hb hbox hg; have hcz8_0 : w7.cell? ⟨gb102, 0, none⟩ = some (.int .i64 a0_0) := (kc_ BK102.out 0).trans rfl; have hcz8_1 : w7.cell? ⟨gb102, 1, none⟩ = some (.int .i64 a0_1) := (kc_ BK102.out 1).trans rfl; have hcz8_2 : w7.cell? ⟨gb102, 2, none⟩ = some (.int .i64 a0_2) := (kc_ BK102.out 2).trans rfl; have hcz8_3 : w7.cell? ⟨gb102, 3, none⟩ = some (.int .i64 a0_3) := (kc_ BK102.out 3).trans rfl; have hfz8_0 := kf_ BK102.out 0; have hfz8_1 := kf_ BK102.out 1; have hfz8_2 := kf_ BK102.out 2; have hfz8_3 := kf_ BK102.out 3) | ((with_reducible refine gate_callee (f := 45) rfl ?_); refine goesL_ (some 4) rfl rfl Try.func45 (by kernel_rfl) rfl #[.agg #[.int .i64 a0_0, .int .i64 a0_1, .int .i64 a0_2, .int .i64 a0_3]] rfl (by (try simp only [lm_, lq_, lx_]); first | done | rfl | (simp only [ld_, lt_]; rfl)) ?_; (with_reducible refine (box_Check.calls a0_0 a0_1 a0_2 a0_3 true _ A2.out).mono ?_); rintro e w9 ⟨rfl, hb⟩; refine ⟨_, rfl, ?_⟩; replace BK102 := kb_ BK102 hb; replace HB := hb_ HB (e_ GE102 e0_) hb; (try clear hb); (try clear hb2); (try clear hk); (try clear hi); have hcz10_0 : w9.cell? ⟨gb102, 0, none⟩ = some (.int .i64 a0_0) := (kc_ BK102.out 0).trans rfl; have hcz10_1 : w9.cell? ⟨gb102, 1, none⟩ = some (.int .i64 a0_1) := (kc_ BK102.out 1).trans rfl; have hcz10_2 : w9.cell? ⟨gb102, 2, none⟩ = some (.int .i64 a0_2) := (kc_ BK102.out 2).trans rfl; have hcz10_3 : w9.cell? ⟨gb102, 3, none⟩ = some (.int .i64 a0_3) := (kc_ BK102.out 3).trans rfl; have hfz10_0 := kf_ BK102.out 0; have hfz10_1 := kf_ BK102.out 1; have hfz10_2 := kf_ BK102.out 2; have hfz10_3 := kf_ BK102.out 3))
     go_ret
     exact ⟨by first | rfl | (simp [errW_none, errW_some] <;> rfl) | (simp [*, errW_none, errW_some] <;> rfl), by repeat (first | (with_reducible first | exact HB.out | apply ba_ | apply pd_ | apply d1_ | refine bs_ ?_ GE102.out) | exact HB.out)⟩
    ·rw [if_neg c6] at H
     have c6b0 : decide ((-1073741824) ≤ a0_1) = false := df_ c6
     clear c6
     obtain rfl := Option.some.inj H
     go_enter Try.func34, Try.ntmps34
     go_wp2_with (first | ((with_reducible refine gate_dst (N := 1) rfl ?_); refine box_event ?hg (N := 1) ?hd (cs := #[.int .i64 a0_0, .int .i64 a0_1, .int .i64 a0_2, .int .i64 a0_3]) (t := 45) ?hr ?_; (case hd => rfl); (case hg => rfl); (case hr => first | (go_simp; done) | (go_simp; rfl)); intro gb102 hg w11 hbox hb; have BK102 := sd_ hbox; have GW102 := gw_ HB e0_ hg; have GE102 := GW102; replace HB := hb_ HB e0_ hb; clear hb hbox hg; have hcz12_0 : w11.cell? ⟨gb102, 0, none⟩ = some (.int .i64 a0_0) := (kc_ BK102.out 0).trans rfl; have hcz12_1 : w11.cell? ⟨gb102, 1, none⟩ = some (.int .i64 a0_1) := (kc_ BK102.out 1).trans rfl; have hcz12_2 : w11.cell? ⟨gb102, 2, none⟩ = some (.int .i64 a0_2) := (kc_ BK102.out 2).trans rfl; have hcz12_3 : w11.cell? ⟨gb102, 3, none⟩ = some (.int .i64 a0_3) := (kc_ BK102.out 3).trans rfl; have hfz12_0 := kf_ BK102.out 0; have hfz12_1 := kf_ BK102.out 1; have hfz12_2 := kf_ BK102.out 2; have hfz12_3 := kf_ BK102.out 3) | ((with_reducible refine gate_callee (f := 45) rfl ?_); refine goesL_ (some 4) rfl rfl Try.func45 (by kernel_rfl) rfl #[.agg #[.int .i64 a0_0, .int .i64 a0_1, .int .i64 a0_2, .int .i64 a0_3]] rfl (by (try simp only [lm_, lq_, lx_]); first | done | rfl | (simp only [ld_, lt_]; rfl)) ?_; (with_reducible refine (box_Check.calls a0_0 a0_1 a0_2 a0_3 true _ A2.out).mono ?_); rintro e w13 ⟨rfl, hb⟩; refine ⟨_, rfl, ?_⟩; replace BK102 := kb_ BK102 hb; replace HB := hb_ HB (e_ GE102 e0_) hb; (try clear hb); (try clear hb2); (try clear hk); (try clear hi); have hcz14_0 : w13.cell? ⟨gb102, 0, none⟩ = some (.int .i64 a0_0) := (kc_ BK102.out 0).trans rfl; have hcz14_1 : w13.cell? ⟨gb102, 1, none⟩ = some (.int .i64 a0_1) := (kc_ BK102.out 1).trans rfl; have hcz14_2 : w13.cell? ⟨gb102, 2, none⟩ = some (.int .i64 a0_2) := (kc_ BK102.out 2).trans rfl; have hcz14_3 : w13.cell? ⟨gb102, 3, none⟩ = some (.int .i64 a0_3) := (kc_ BK102.out 3).trans rfl; have hfz14_0 := kf_ BK102.out 0; have hfz14_1 := kf_ BK102.out 1; have hfz14_2 := kf_ BK102.out 2; have hfz14_3 := kf_ BK102.out 3))
     go_ret
     exact ⟨by first | rfl | (simp [errW_none, errW_some] <;> rfl) | (simp [*, errW_none, errW_some] <;> rfl), by repeat (first | (with_reducible first | exact HB.out | apply ba_ | apply pd_ | apply d1_ | refine bs_ ?_ GE102.out) | exact HB.out)⟩
   ·rw [if_neg c5] at H
    have c5b0 : decide (a0_2 ≤ 1073741824) = false := df_ c5
    clear c5
    obtain rfl := Option.some.inj H
    go_enter Try.func34, Try.ntmps34
    go_wp2_with (first | ((with_reducible refine gate_dst (N := 1) rfl ?_); refine box_event ?hg (N := 1) ?hd (cs := #[.int .i64 a0_0, .int .i64 a0_1, .int .i64 a0_2, .int .i64 a0_3]) (t := 45) ?hr ?_; (case hd => rfl); (case hg => rfl); (case hr => first | (go_simp; done) | (go_simp; rfl)); intro gb102 hg w15 hbox hb; have BK102 := sd_ hbox; have GW102 := gw_ HB e0_ hg; have GE102 := GW102; replace HB := hb_ HB e0_ hb; clear hb hbox hg; have hcz16_0 : w15.cell? ⟨gb102, 0, none⟩ = some (.int .i64 a0_0) := (kc_ BK102.out 0).trans rfl; have hcz16_1 : w15.cell? ⟨gb102, 1, none⟩ = some (.int .i64 a0_1) := (kc_ BK102.out 1).trans rfl; have hcz16_2 : w15.cell? ⟨gb102, 2, none⟩ = some (.int .i64 a0_2) := (kc_ BK102.out 2).trans rfl; have hcz16_3 : w15.cell? ⟨gb102, 3, none⟩ = some (.int .i64 a0_3) := (kc_ BK102.out 3).trans rfl; have hfz16_0 := kf_ BK102.out 0; have hfz16_1 := kf_ BK102.out 1; have hfz16_2 := kf_ BK102.out 2; have hfz16_3 := kf_ BK102.out 3) | ((with_reducible refine gate_callee (f := 45) rfl ?_); refine goesL_ (some 4) rfl rfl Try.func45 (by kernel_rfl) rfl #[.agg #[.int .i64 a0_0, .int .i64 a0_1, .int .i64 a0_2, .int .i64 a0_3]] rfl (by (try simp only [lm_, lq_, lx_]); first | done | rfl | (simp only [ld_, lt_]; rfl)) ?_; (with_reducible refine (box_Check.calls a0_0 a0_1 a0_2 a0_3 true _ A2.out).mono ?_); rintro e w17 ⟨rfl, hb⟩; refine ⟨_, rfl, ?_⟩; replace BK102 := kb_ BK102 hb; replace HB := hb_ HB (e_ GE102 e0_) hb; (try clear hb); (try clear hb2); (try clear hk); (try clear hi); have hcz18_0 : w17.cell? ⟨gb102, 0, none⟩ = some (.int .i64 a0_0) := (kc_ BK102.out 0).trans rfl; have hcz18_1 : w17.cell? ⟨gb102, 1, none⟩ = some (.int .i64 a0_1) := (kc_ BK102.out 1).trans rfl; have hcz18_2 : w17.cell? ⟨gb102, 2, none⟩ = some (.int .i64 a0_2) := (kc_ BK102.out 2).trans rfl; have hcz18_3 : w17.cell? ⟨gb102, 3, none⟩ = some (.int .i64 a0_3) := (kc_ BK102.out 3).trans rfl; have hfz18_0 := kf_ BK102.out 0; have hfz18_1 := kf_ BK102.out 1; have hfz18_2 := kf_ BK102.out 2; have hfz18_3 := kf_ BK102.out 3))
    go_ret
    exact ⟨by first | rfl | (simp [errW_none, errW_some] <;> rfl) | (simp [*, errW_none, errW_some] <;> rfl), by repeat (first | (with_reducible first | exact HB.out | apply ba_ | apply pd_ | apply d1_ | refine bs_ ?_ GE102.out) | exact HB.out)⟩
  ·rw [if_neg c4] at H
   have c4b0 : decide ((-1073741824) ≤ a0_0) = false := df_ c4
   clear c4
   obtain rfl := Option.some.inj H
   go_enter Try.func34, Try.ntmps34
   go_wp2_with (first | ((with_reducible refine gate_dst (N := 1) rfl ?_); refine box_event ?hg (N := 1) ?hd (cs := #[.int .i64 a0_0, .int .i64 a0_1, .int .i64 a0_2, .int .i64 a0_3]) (t := 45) ?hr ?_; (case hd => rfl); (case hg => rfl); (case hr => first | (go_simp; done) | (go_simp; rfl)); intro gb102 hg w19 hbox hb; have BK102 := sd_ hbox; have GW102 := gw_ HB e0_ hg; have GE102 := GW102; replace HB := hb_ HB e0_ hb; clear hb hbox hg; have hcz20_0 : w19.cell? ⟨gb102, 0, none⟩ = some (.int .i64 a0_0) := (kc_ BK102.out 0).trans rfl; have hcz20_1 : w19.cell? ⟨gb102, 1, none⟩ = some (.int .i64 a0_1) := (kc_ BK102.out 1).trans rfl; have hcz20_2 : w19.cell? ⟨gb102, 2, none⟩ = some (.int .i64 a0_2) := (kc_ BK102.out 2).trans rfl; have hcz20_3 : w19.cell? ⟨gb102, 3, none⟩ = some (.int .i64 a0_3) := (kc_ BK102.out 3).trans rfl; have hfz20_0 := kf_ BK102.out 0; have hfz20_1 := kf_ BK102.out 1; have hfz20_2 := kf_ BK102.out 2; have hfz20_3 := kf_ BK102.out 3) | ((with_reducible refine gate_callee (f := 45) rfl ?_); refine goesL_ (some 4) rfl rfl Try.func45 (by kernel_rfl) rfl #[.agg #[.int .i64 a0_0, .int .i64 a0_1, .int .i64 a0_2, .int .i64 a0_3]] rfl (by (try simp only [lm_, lq_, lx_]); first | done | rfl | (simp only [ld_, lt_]; rfl)) ?_; (with_reducible refine (box_Check.calls a0_0 a0_1 a0_2 a0_3 true _ A2.out).mono ?_); rintro e w21 ⟨rfl, hb⟩; refine ⟨_, rfl, ?_⟩; replace BK102 := kb_ BK102 hb; replace HB := hb_ HB (e_ GE102 e0_) hb; (try clear hb); (try clear hb2); (try clear hk); (try clear hi); have hcz22_0 : w21.cell? ⟨gb102, 0, none⟩ = some (.int .i64 a0_0) := (kc_ BK102.out 0).trans rfl; have hcz22_1 : w21.cell? ⟨gb102, 1, none⟩ = some (.int .i64 a0_1) := (kc_ BK102.out 1).trans rfl; have hcz22_2 : w21.cell? ⟨gb102, 2, none⟩ = some (.int .i64 a0_2) := (kc_ BK102.out 2).trans rfl; have hcz22_3 : w21.cell? ⟨gb102, 3, none⟩ = some (.int .i64 a0_3) := (kc_ BK102.out 3).trans rfl; have hfz22_0 := kf_ BK102.out 0; have hfz22_1 := kf_ BK102.out 1; have hfz22_2 := kf_ BK102.out 2; have hfz22_3 := kf_ BK102.out 3))
   go_ret
   exact ⟨by first | rfl | (simp [errW_none, errW_some] <;> rfl) | (simp [*, errW_none, errW_some] <;> rfl), by repeat (first | (with_reducible first | exact HB.out | apply ba_ | apply pd_ | apply d1_ | refine bs_ ?_ GE102.out) | exact HB.out)⟩
 ·replace c3 := bf_ c3
  subst c3
  have H1 : (some false) = some r := by rw [if_neg (show ¬ (false = true) by decide)] at H; exact H
  clear H; have H := H1; clear H1
  obtain rfl := Option.some.inj H
  go_enter Try.func34, Try.ntmps34
  go_wp2_with (first | ((with_reducible refine gate_dst (N := 1) rfl ?_); refine box_event ?hg (N := 1) ?hd (cs := #[.int .i64 a0_0, .int .i64 a0_1, .int .i64 a0_2, .int .i64 a0_3]) (t := 45) ?hr ?_; (case hd => rfl); (case hg => rfl); (case hr => first | (go_simp; done) | (go_simp; rfl)); intro gb102 hg w23 hbox hb; have BK102 := sd_ hbox; have GW102 := gw_ HB e0_ hg; have GE102 := GW102; replace HB := hb_ HB e0_ hb; clear hb hbox hg; have hcz24_0 : w23.cell? ⟨gb102, 0, none⟩ = some (.int .i64 a0_0) := (kc_ BK102.out 0).trans rfl; have hcz24_1 : w23.cell? ⟨gb102, 1, none⟩ = some (.int .i64 a0_1) := (kc_ BK102.out 1).trans rfl; have hcz24_2 : w23.cell? ⟨gb102, 2, none⟩ = some (.int .i64 a0_2) := (kc_ BK102.out 2).trans rfl; have hcz24_3 : w23.cell? ⟨gb102, 3, none⟩ = some (.int .i64 a0_3) := (kc_ BK102.out 3).trans rfl; have hfz24_0 := kf_ BK102.out 0; have hfz24_1 := kf_ BK102.out 1; have hfz24_2 := kf_ BK102.out 2; have hfz24_3 := kf_ BK102.out 3) | ((with_reducible refine gate_callee (f := 45) rfl ?_); refine goesL_ (some 4) rfl rfl Try.func45 (by kernel_rfl) rfl #[.agg #[.int .i64 a0_0, .int .i64 a0_1, .int .i64 a0_2, .int .i64 a0_3]] rfl (by (try simp only [lm_, lq_, lx_]); first | done | rfl | (simp only [ld_, lt_]; rfl)) ?_; (with_reducible refine (box_Check.calls a0_0 a0_1 a0_2 a0_3 false _ A2.out).mono ?_); rintro e w25 ⟨rfl, hb⟩; refine ⟨_, rfl, ?_⟩; replace BK102 := kb_ BK102 hb; replace HB := hb_ HB (e_ GE102 e0_) hb; (try clear hb); (try clear hb2); (try clear hk); (try clear hi)))
  go_ret
  exact ⟨by first | rfl | (simp [errW_none, errW_some] <;> rfl) | (simp [*, errW_none, errW_some] <;> rfl), by repeat (first | (with_reducible first | exact HB.out | apply ba_ | apply pd_ | apply d1_ | refine bs_ ?_ GE102.out) | exact HB.out)⟩

/-! ### voices_all: function 26 -/
def nearB (x : S45) : Bool := (voices_near.f x.f0 x.f1 x.f2 x.f3).getD false
theorem near_some (x : S45) : voices_near.f x.f0 x.f1 x.f2 x.f3 = some (nearB x) := by
 unfold nearB voices_near.f box_Check.f
 simp only [Option.bind_some]
 split
 ·split
  ·split
   ·split <;> rfl
   ·rfl
  ·rfl
 ·rfl
set_option maxHeartbeats 4000000 in
set_option maxRecDepth 100000 in
theorem clo_near (x : S45) (w : World) {b : Bool} (hb : (!nearB x) = b) : Calls Try.prog 38 #[.agg #[.int .i64 x.f0, .int .i64 x.f1, .int .i64 x.f2, .int .i64 x.f3]] w fun e w' => e = .returned (.bool b) ∧ Below w.heap.size w w' := by
 have HN := sd_ (near_some x)
 have HQ := sd_ hb
 generalize nearB x = n at HN HQ
 clear hb
 obtain rfl := HQ.out
 clear HQ
 go_enter Try.func38, Try.ntmps38
 go_wp2_with (first | ((with_reducible refine gate_dst (N := 1) rfl ?_); refine box_event ?hg (N := 1) ?hd (cs := #[.int .i64 x.f0, .int .i64 x.f1, .int .i64 x.f2, .int .i64 x.f3]) (t := 45) ?hr ?_; (case hd => rfl); (case hg => rfl); (case hr => first | (go_simp; done) | (go_simp; rfl)); intro g1 hg w6 hbox hb; have BK := sd_ hbox; have HB := sd_ hb; clear hb hbox hg; have hz0 : w6.cell? ⟨g1, 0, none⟩ = some (.int .i64 x.f0) := (kc_ BK.out 0).trans rfl; have hz1 : w6.cell? ⟨g1, 1, none⟩ = some (.int .i64 x.f1) := (kc_ BK.out 1).trans rfl; have hz2 : w6.cell? ⟨g1, 2, none⟩ = some (.int .i64 x.f2) := (kc_ BK.out 2).trans rfl; have hz3 : w6.cell? ⟨g1, 3, none⟩ = some (.int .i64 x.f3) := (kc_ BK.out 3).trans rfl) | ((with_reducible refine gate_callee (f := 34) rfl ?_); refine goesL_ (some 4) rfl rfl Try.func34 (by kernel_rfl) rfl #[.agg #[.int .i64 x.f0, .int .i64 x.f1, .int .i64 x.f2, .int .i64 x.f3]] rfl (by (try simp only [lm_, lq_, lx_]); first | done | rfl | (simp only [ld_, lt_]; rfl)) ?_; (with_reducible refine (voices_near.calls x.f0 x.f1 x.f2 x.f3 n _ HN.out).mono ?_); rintro e w7 ⟨rfl, hb⟩; refine ⟨_, rfl, ?_⟩; have HB7 := sd_ (bt_ HB.out hb); clear hb))
 go_ret
 exact ⟨rfl, HB7.out⟩
/-- Where it stands: at 0 or behind just if there is one. -/
def FoundI_near (b : Bool) (w : World) (e : Ending) (w' : World) : Prop := ∃ r : Int, e = .returned (.int .i64 r) ∧ decide (0 ≤ r) = b ∧ Below w.heap.size w w'
set_option maxHeartbeats 8000000 in
set_option maxRecDepth 100000 in
theorem idx_near  (A0 : Option Addr) (c0 : Nat) (l0 : List S45) (w : World) (hr0 : Kd.C k45 w A0 l0.length l0) (hl : l0.length ≤ 100000)  :
  Calls Try.prog 46 #[.slice A0 l0.length c0, .func (.func 38) #[] #[]] w (FoundI_near (l0.any (fun x => !nearB x)) w) := by
 have HR0 := sd_ hr0
 skip
 clear hr0
 go_enter Try.func46, Try.ntmps46
 go_wp2
 go_loopw [8] (fun v8 wr => ∃ i : Nat, v8 = .int .i64 (i : Int) ∧ i ≤ l0.length ∧ Aside0 (∀ j, j < i → (fun x => !nearB x) (l0.getD j z45) = false) ∧ Aside0 (Below w.heap.size w wr)) (fun v8 _ => l0.length - (intOf v8).toNat)
 case atStart => exact ⟨0, rfl, Nat.zero_le _, ⟨fun j h => absurd h (Nat.not_lt_zero j)⟩, ⟨Below.refl _ _⟩⟩
 case round =>
  obtain ⟨i, rfl, hi, HN, HB⟩ := hrel
  by_cases hlt : i < l0.length
  ·obtain ⟨ad, e1, hx0, hx1, hx2, hx3⟩ := at_T45 HR0.out (i : Int) (by omega) (by omega)
   cases e1
   rw [Int.toNat_natCast] at hx0 hx1 hx2 hx3
   have hy0 := pw_cell_below HB.out hx0
   have hy1 := pw_cell_below HB.out hx1
   have hy2 := pw_cell_below HB.out hx2
   have hy3 := pw_cell_below HB.out hx3
   have ex : rd_T45 l0 (i : Int) = l0.getD i z45 := by unfold rd_T45; rw [Int.toNat_natCast]
   rw [ex] at hy0 hy1 hy2 hy3
   clear hx0 hx1 hx2 hx3 ex
   obtain ⟨x, hx⟩ : ∃ x, l0.getD i z45 = x := ⟨_, rfl⟩
   rw [hx] at hy0 hy1 hy2 hy3
   obtain ⟨b, hb0⟩ : ∃ b, (fun x => !nearB x) x = b := ⟨_, rfl⟩
   have HX := sd_ hx
   have HP := sd_ hb0
   clear hx hb0
   have hi1 : IntKind.i64.wrap ((i : Int) + 1) = (i : Int) + 1 := by rw [i64_w]; unfold wrap64; omega
   cases b with
   | false =>
    go_wp2_with (go_at_call 38; refine (clo_near x _ HP.out).mono ?_; rintro e w5 ⟨rfl, hb⟩; have HB5 := sd_ (bt_ HB.out hb); clear hb)
    go_roundw
    case rel => exact ⟨i + 1, by go_num, by omega, ⟨fun j hj => (Nat.lt_succ_iff_lt_or_eq.1 hj).elim (HN.out j) (fun q => by rw [q, HX.out]; exact HP.out)⟩, HB5⟩
    case measure => simp [intOf]; omega
   | true =>
    go_wp2_with (go_at_call 38; refine (clo_near x _ HP.out).mono ?_; rintro e w5 ⟨rfl, hb⟩; have HB5 := sd_ (bt_ HB.out hb); clear hb)
    go_ret
    refine ⟨_, rfl, ?_, HB5.out⟩
    rw [dt_ (by omega)]
    symm
    refine List.any_eq_true.2 ⟨x, ?_, HP.out⟩
    rw [← HX.out, List.getD_eq_getElem?_getD, List.getElem?_eq_getElem hlt]
    exact List.getElem_mem hlt
  ·go_wp2
   go_ret
   refine ⟨_, rfl, ?_, HB.out⟩
   rw [df_ (by omega)]
   symm
   refine List.any_eq_false.2 (fun x hx => ?_)
   obtain ⟨j, hj, rfl⟩ := List.getElem_of_mem hx
   have := HN.out j (by omega)
   rw [List.getD_eq_getElem?_getD, List.getElem?_eq_getElem hj] at this
   simpa using this
set_option maxHeartbeats 8000000 in
set_option maxRecDepth 100000 in
theorem con_near  (A0 : Option Addr) (c0 : Nat) (l0 : List S45) (w : World) (hr0 : Kd.C k45 w A0 l0.length l0) (hl : l0.length ≤ 100000)  :
  Calls Try.prog 37 #[.slice A0 l0.length c0, .func (.func 38) #[] #[]] w fun e w' => e = .returned (.bool (l0.any (fun x => !nearB x))) ∧ Below w.heap.size w w' := by
 have HF := sd_ (idx_near  A0 c0 l0 w hr0 hl )
 clear hr0
 generalize l0.any (fun x => !nearB x) = a at HF ⊢
 go_enter Try.func37, Try.ntmps37
 go_wp2_with (go_at_call 46; refine HF.out.mono ?_; rintro e w5 ⟨r, rfl, hd, hb⟩; have HB5 := sd_ hb; have HD := sd_ hd; clear hb hd)
 go_ret
 exact ⟨by rw [← HD.out]; rfl, HB5.out⟩
def voices_all.f (l0 : List S45) : Option Bool := if l0.length ≤ 100000 then some (l0.all nearB) else none
set_option maxHeartbeats 4000000 in
set_option maxRecDepth 100000 in
theorem voices_all.calls (A0 : Option Addr) (c0 : Nat) (l0 : List S45) (r : Bool) (w : World) (hr0 : Kd.C k45 w A0 l0.length l0) (hc0 : l0.length ≤ c0) (h : voices_all.f l0 = some r) :
  Calls Try.prog 26 #[.slice A0 l0.length c0] w fun e w' => e = .returned (.bool r) ∧ Below w.heap.size w w' := by
 unfold voices_all.f at h
 split at h
 ·rename_i hl
  have h := Option.some.inj h
  have HF := sd_ (con_near A0 c0 l0 w hr0 hl)
  have HE : Aside0 ((!(l0.any fun x => !nearB x)) = r) := ⟨by rw [← h, List.not_any_eq_all_not]; simp⟩
  generalize (l0.any fun x => !nearB x) = a at HF HE
  clear hr0 h
  go_enter Try.func26, Try.ntmps26
  go_wp2_with (go_at_call 37; refine HF.out.mono ?_; rintro e w5 ⟨rfl, hb⟩; have HB5 := sd_ hb; clear hb)
  go_ret
  exact ⟨by rw [← HE.out]; rfl, HB5.out⟩
 ·cases h

/-! ### voices_fits: function 19 -/
def voices_fits.l0 : Nat → Int → List (List (S45)) → Int → Int → Option (Bool)
 | 0, _, _, _, _ => none
 | k + 1, x5, x24, x25, x26 => if x26 < x25 then (if 0 ≤ x26 then (if x26 < (x24.length : Int) then (if (wrap64 (x5 - ((rd_L2 x24 x26).length : Int))) < 0 then (some (decide ((wrap64 (x5 - ((rd_L2 x24 x26).length : Int))) ≥ 0))) else ((voices_all.f (rd_L2 x24 x26)).bind fun t106 => (if t106 = true then (voices_fits.l0 k (wrap64 (x5 - ((rd_L2 x24 x26).length : Int))) x24 x25 (wrap64 (x26 + 1))) else (some false)))) else (none)) else (none)) else (some (decide (x5 ≥ 0)))
def voices_fits.f (k : Nat) (l0 : List (S45)) (l1 : List (List (S45))) : Option (Bool) := if (l1.length : Int) > 200 then (some false) else (if (l0.length : Int) > 2000 then (some false) else ((voices_all.f l0).bind fun t104 => (if t104 = true then (voices_fits.l0 k (wrap64 (2000 - (l0.length : Int))) l1 (l1.length : Int) 0) else (some false))))
theorem voices_fits.mono_l : ∀ k, (∀ y0 y1 y2 y3, LeO (voices_fits.l0 k y0 y1 y2 y3) (voices_fits.l0 (k + 1) y0 y1 y2 y3))
 | 0 => fun _ _ _ _ r h => by simp [voices_fits.l0] at h
 | k + 1 => by
  have ih0 := voices_fits.mono_l k
  ·intro y0 y1 y2 y3
   unfold voices_fits.l0
   repeat' first
   | (with_reducible exact ih0 _ _ _ _)
   | (with_reducible exact LeO.refl _)
   | (with_reducible exact LeO.none _)
   | (with_reducible refine LeO.ite ?_ ?_)
   | (with_reducible refine LeO.bind ?_ (fun _ => ?_))
   | exact ih0 _ _ _ _
   | exact LeO.none _
   | refine LeO.ite ?_ ?_
   | refine LeO.bind ?_ (fun _ => ?_)
theorem voices_fits.mono : ∀ a0 a1 k, LeO (voices_fits.f k a0 a1) (voices_fits.f (k + 1) a0 a1) := by
 intro a0 a1 k
 have ih0 := voices_fits.mono_l k
 unfold voices_fits.f
 repeat' first
   | (with_reducible exact ih0 _ _ _ _)
   | (with_reducible exact LeO.refl _)
   | (with_reducible exact LeO.none _)
   | (with_reducible refine LeO.ite ?_ ?_)
   | (with_reducible refine LeO.bind ?_ (fun _ => ?_))
   | exact ih0 _ _ _ _
   | exact LeO.none _
   | refine LeO.ite ?_ ?_
   | refine LeO.bind ?_ (fun _ => ?_)
set_option maxHeartbeats 8000000 in
set_option maxRecDepth 100000 in
theorem voices_fits.calls (k : Nat) (A0 : Option Addr) (c0 : Nat) (l0 : List (S45)) (A1 : Option Addr) (c1 : Nat) (l1 : List (List (S45))) (r : Bool) (w : World) (hr0 : Kd.C k45 w A0 l0.length l0) (hc0 : l0.length ≤ c0) (hr1 : Kd.C (Kd.slice 45 k45) w A1 l1.length l1) (hc1 : l1.length ≤ c1) (h : voices_fits.f k l0 l1 = some r) :
  Calls Try.prog 19 #[.slice A0 l0.length c0, .slice A1 l1.length c1] w fun e w' => e = .returned (.bool r) ∧ Below w.heap.size w w' := by
 have HR0 := sd_ hr0
 have HC0 := sd_ hc0
 clear hr0 hc0
 have HR1 := sd_ hr1
 have HC1 := sd_ hc1
 clear hr1 hc1
 have HB := sd_ (Below.refl w.heap.size w)
 have H : (if (l1.length : Int) > 200 then (some false) else (if (l0.length : Int) > 2000 then (some false) else ((voices_all.f l0).bind fun t104 => (if t104 = true then (voices_fits.l0 k (wrap64 (2000 - (l0.length : Int))) l1 (l1.length : Int) 0) else (some false))))) = some r := h
 clear h
 by_cases c3 : (l1.length : Int) > 200
 ·rw [if_pos c3] at H
  have c3b0 : decide (200 < (l1.length : Int)) = true := dt_ c3
  have c3b1 : decide (200 < l1.length) = true := dt_ (by omega)
  clear c3
  obtain rfl := Option.some.inj H
  go_enter Try.func19, Try.ntmps19
  try go_step3
  try go_wp2
  repeat (go_step3; try go_wp2)
  try rw [Exit.noGoto_ret]
  go_ret
  exact ⟨by first | rfl | (simp [errW_none, errW_some] <;> rfl) | (simp [*, errW_none, errW_some] <;> rfl), by repeat (first | (with_reducible first | exact HB.out | apply ba_ | apply pd_ | apply d1_) | exact HB.out)⟩
 ·rw [if_neg c3] at H
  have c3b0 : decide (200 < (l1.length : Int)) = false := df_ c3
  have c3b1 : decide (200 < l1.length) = false := df_ (by omega)
  clear c3
  by_cases c4 : (l0.length : Int) > 2000
  ·rw [if_pos c4] at H
   have c4b0 : decide (2000 < (l0.length : Int)) = true := dt_ c4
   have c4b1 : decide (2000 < l0.length) = true := dt_ (by omega)
   clear c4
   obtain rfl := Option.some.inj H
   go_enter Try.func19, Try.ntmps19
   try go_step3
   try go_wp2
   repeat (go_step3; try go_wp2)
   try rw [Exit.noGoto_ret]
   go_ret
   exact ⟨by first | rfl | (simp [errW_none, errW_some] <;> rfl) | (simp [*, errW_none, errW_some] <;> rfl), by repeat (first | (with_reducible first | exact HB.out | apply ba_ | apply pd_ | apply d1_) | exact HB.out)⟩
  ·rw [if_neg c4] at H
   have c4b0 : decide (2000 < (l0.length : Int)) = false := df_ c4
   have c4b1 : decide (2000 < l0.length) = false := df_ (by omega)
   clear c4
   replace H := ob_ H
   obtain ⟨t104, A50, H⟩ := H
   replace H : (if t104 = true then (voices_fits.l0 k (wrap64 (2000 - (l0.length : Int))) l1 (l1.length : Int) 0) else (some false)) = some r := H
   have A5 := sd_ A50
   clear A50
   by_cases c6 : t104 = true
   ·subst c6
    have H1 : (voices_fits.l0 k (wrap64 (2000 - (l0.length : Int))) l1 (l1.length : Int) 0) = some r := by rw [if_pos rfl] at H; exact H
    clear H; have H := H1; clear H1
    have H' := sd_ H
    clear H
    go_enter Try.func19, Try.ntmps19
    try go_step3
    try go_wp2_with (first | (go_at_call 26; (with_reducible refine (voices_all.calls _ _ l0 true _ ?side1 ?side2 A5.out).mono ?_); (case side1 => repeat (first | exact HR0.out | (with_reducible refine Kd.C_alloc ?_ _) | (with_reducible refine Kd.C_drewN ?_ _) | (with_reducible refine Kd.C_drew ?_))); (case side2 => exact HC0.out); rintro e w7 ⟨rfl, hb⟩; replace HB := hb_ HB e0_ hb; (try clear hb); (try clear hb2); (try clear hk); (try clear hi)))
    repeat (go_step3; try go_wp2_with (first | (go_at_call 26; (with_reducible refine (voices_all.calls _ _ l0 true _ ?side1 ?side2 A5.out).mono ?_); (case side1 => repeat (first | exact HR0.out | (with_reducible refine Kd.C_alloc ?_ _) | (with_reducible refine Kd.C_drewN ?_ _) | (with_reducible refine Kd.C_drew ?_))); (case side2 => exact HC0.out); rintro e w7 ⟨rfl, hb⟩; replace HB := hb_ HB e0_ hb; (try clear hb); (try clear hb2); (try clear hk); (try clear hi))))
    go_loopg [5, 26] k (fun kq v5 v26 w' => ∃ (x5_1 : Int) (x26_1 : Int), v5 = .int .i64 x5_1 ∧ v26 = .int .i64 x26_1 ∧ Aside0 (voices_fits.l0 kq x5_1 l1 (l1.length : Int) x26_1 = some r) ∧ Aside0 (kq ≤ k) ∧ Aside0 (Below w.heap.size w w'))
    case atStart => exact ⟨(wrap64 (2000 - (l0.length : Int))), (0), (by first | rfl | (simp; done) | (simp [*]; done) | (simp [bne]; done)), (by first | rfl | (simp; done) | (simp [*]; done) | (simp [bne]; done)), H', ⟨Nat.le_refl _⟩, ⟨by repeat (first | (with_reducible first | exact HB.out | apply ba_ | apply pd_ | apply d1_) | exact HB.out)⟩⟩
    case round =>
     clear H'
     try clear c1; try clear p2; try clear c3; try clear c3b0; try clear c3b1; try clear p3; try clear c4; try clear c4b0; try clear c4b1; try clear c6; try clear p6
     obtain ⟨x5_1, x26_1, rfl, rfl, HA, HK1, HB⟩ := hrel
     cases gk with
     | zero => exact absurd HA.out (by simp [voices_fits.l0])
     | succ k1 =>
      have H := HA.out
      clear HA
      simp only [voices_fits.l0] at H
      by_cases c8 : x26_1 < (l1.length : Int)
      ·rw [if_pos c8] at H
       have c8b0 : decide (x26_1 < (l1.length : Int)) = true := dt_ c8
       clear c8
       by_cases c9 : 0 ≤ x26_1
       ·rw [if_pos c9] at H
        have c9b0 : decide (0 ≤ x26_1) = true := dt_ c9
        clear c9
        by_cases c10 : x26_1 < (l1.length : Int)
        ·rw [if_pos c10] at H
         have c10b0 : decide (x26_1 < (l1.length : Int)) = true := dt_ c10
         clear c10
         by_cases c11 : (wrap64 (x5_1 - ((rd_L2 l1 x26_1).length : Int))) < 0
         ·rw [if_pos c11] at H
          have c11b0 : decide ((wrap64 (x5_1 - ((rd_L2 l1 x26_1).length : Int))) < 0) = true := dt_ c11
          clear c11
          obtain rfl := Option.some.inj H
          have p105 : 0 ≤ (x26_1 : Int) := od_ (by first | (with_reducible assumption) | assumption)
          have q105 : x26_1 < (l1.length : Int) := od_ (by first | (with_reducible assumption) | assumption)
          obtain ⟨ad105, A105_0, c105_0, e105, hx105_0, hl105_0, hi105_0⟩ := at_L2 HR1.out x26_1 p105 q105
          cases e105
          replace hx105_0 := (HB.out.cell (wb_ w _ hx105_0)).trans hx105_0
          have HR105_0 := sd_ hi105_0
          have HC105_0 := sd_ hl105_0
          clear hi105_0 hl105_0
          replace p105 := eq_true p105
          replace q105 := eq_true q105
          try go_wp2
          repeat (go_step3; try go_wp2)
          try rw [Exit.noGoto_ret]
          go_ret
          exact ⟨by first | rfl | (simp [errW_none, errW_some] <;> rfl) | (simp [*, errW_none, errW_some] <;> rfl), by repeat (first | (with_reducible first | exact HB.out | apply ba_ | apply pd_ | apply d1_) | exact HB.out)⟩
         ·rw [if_neg c11] at H
          have c11b0 : decide ((wrap64 (x5_1 - ((rd_L2 l1 x26_1).length : Int))) < 0) = false := df_ c11
          clear c11
          replace H := ob_ H
          obtain ⟨t106, A120, H⟩ := H
          replace H : (if t106 = true then (voices_fits.l0 k1 (wrap64 (x5_1 - ((rd_L2 l1 x26_1).length : Int))) l1 (l1.length : Int) (wrap64 (x26_1 + 1))) else (some false)) = some r := H
          have A12 := sd_ A120
          clear A120
          by_cases c13 : t106 = true
          ·subst c13
           have H1 : (voices_fits.l0 k1 (wrap64 (x5_1 - ((rd_L2 l1 x26_1).length : Int))) l1 (l1.length : Int) (wrap64 (x26_1 + 1))) = some r := by rw [if_pos rfl] at H; exact H
           clear H; have H := H1; clear H1
           have H' := sd_ H
           clear H
           have p105 : 0 ≤ (x26_1 : Int) := od_ (by first | (with_reducible assumption) | assumption)
           have q105 : x26_1 < (l1.length : Int) := od_ (by first | (with_reducible assumption) | assumption)
           obtain ⟨ad105, A105_0, c105_0, e105, hx105_0, hl105_0, hi105_0⟩ := at_L2 HR1.out x26_1 p105 q105
           cases e105
           replace hx105_0 := (HB.out.cell (wb_ w _ hx105_0)).trans hx105_0
           have HR105_0 := sd_ hi105_0
           have HC105_0 := sd_ hl105_0
           clear hi105_0 hl105_0
           replace p105 := eq_true p105
           replace q105 := eq_true q105
           try go_wp2_with (first | ((with_reducible refine gate_callee (f := 26) rfl ?_); refine goesL_ (some 39) rfl rfl Try.func26 (by kernel_rfl) rfl #[.slice A105_0 (rd_L2 l1 x26_1).length c105_0] rfl (by (try simp only [lm_, lq_, lx_]); first | done | rfl | (simp only [ld_, lt_]; rfl)) ?_; (with_reducible refine (voices_all.calls _ _ (rd_L2 l1 x26_1) true _ ?side1 ?side2 A12.out).mono ?_); (case side1 => repeat (first | exact (Kd.C_below HR105_0.out HB.out) | (with_reducible refine Kd.C_alloc ?_ _) | (with_reducible refine Kd.C_drewN ?_ _) | (with_reducible refine Kd.C_drew ?_))); (case side2 => exact HC105_0.out); rintro e w14 ⟨rfl, hb⟩; refine ⟨_, rfl, ?_⟩; replace HB := hb_ HB e0_ hb; (try clear hb); (try clear hb2); (try clear hk); (try clear hi)))
           repeat (go_step3; try go_wp2_with (first | ((with_reducible refine gate_callee (f := 26) rfl ?_); refine goesL_ (some 39) rfl rfl Try.func26 (by kernel_rfl) rfl #[.slice A105_0 (rd_L2 l1 x26_1).length c105_0] rfl (by (try simp only [lm_, lq_, lx_]); first | done | rfl | (simp only [ld_, lt_]; rfl)) ?_; (with_reducible refine (voices_all.calls _ _ (rd_L2 l1 x26_1) true _ ?side1 ?side2 A12.out).mono ?_); (case side1 => repeat (first | exact (Kd.C_below HR105_0.out HB.out) | (with_reducible refine Kd.C_alloc ?_ _) | (with_reducible refine Kd.C_drewN ?_ _) | (with_reducible refine Kd.C_drew ?_))); (case side2 => exact HC105_0.out); rintro e w14 ⟨rfl, hb⟩; refine ⟨_, rfl, ?_⟩; replace HB := hb_ HB e0_ hb; (try clear hb); (try clear hb2); (try clear hk); (try clear hi))))
           go_roundg k1
           case measure => have := HK1.out; omega
           case rel => exact ⟨(wrap64 (x5_1 - ((rd_L2 l1 x26_1).length : Int))), (wrap64 (x26_1 + 1)), (by first | rfl | (simp; done) | (simp [*]; done) | (simp [bne]; done)), (by first | rfl | (simp; done) | (simp [*]; done) | (simp [bne]; done)), H', ⟨by have := HK1.out; omega⟩, ⟨by repeat (first | (with_reducible first | exact HB.out | apply ba_ | apply pd_ | apply d1_) | exact HB.out)⟩⟩
          ·replace c13 := bf_ c13
           subst c13
           have H1 : (some false) = some r := by rw [if_neg (show ¬ (false = true) by decide)] at H; exact H
           clear H; have H := H1; clear H1
           obtain rfl := Option.some.inj H
           have p105 : 0 ≤ (x26_1 : Int) := od_ (by first | (with_reducible assumption) | assumption)
           have q105 : x26_1 < (l1.length : Int) := od_ (by first | (with_reducible assumption) | assumption)
           obtain ⟨ad105, A105_0, c105_0, e105, hx105_0, hl105_0, hi105_0⟩ := at_L2 HR1.out x26_1 p105 q105
           cases e105
           replace hx105_0 := (HB.out.cell (wb_ w _ hx105_0)).trans hx105_0
           have HR105_0 := sd_ hi105_0
           have HC105_0 := sd_ hl105_0
           clear hi105_0 hl105_0
           replace p105 := eq_true p105
           replace q105 := eq_true q105
           try go_wp2_with (first | ((with_reducible refine gate_callee (f := 26) rfl ?_); refine goesL_ (some 39) rfl rfl Try.func26 (by kernel_rfl) rfl #[.slice A105_0 (rd_L2 l1 x26_1).length c105_0] rfl (by (try simp only [lm_, lq_, lx_]); first | done | rfl | (simp only [ld_, lt_]; rfl)) ?_; (with_reducible refine (voices_all.calls _ _ (rd_L2 l1 x26_1) false _ ?side1 ?side2 A12.out).mono ?_); (case side1 => repeat (first | exact (Kd.C_below HR105_0.out HB.out) | (with_reducible refine Kd.C_alloc ?_ _) | (with_reducible refine Kd.C_drewN ?_ _) | (with_reducible refine Kd.C_drew ?_))); (case side2 => exact HC105_0.out); rintro e w15 ⟨rfl, hb⟩; refine ⟨_, rfl, ?_⟩; replace HB := hb_ HB e0_ hb; (try clear hb); (try clear hb2); (try clear hk); (try clear hi)))
           repeat (go_step3; try go_wp2_with (first | ((with_reducible refine gate_callee (f := 26) rfl ?_); refine goesL_ (some 39) rfl rfl Try.func26 (by kernel_rfl) rfl #[.slice A105_0 (rd_L2 l1 x26_1).length c105_0] rfl (by (try simp only [lm_, lq_, lx_]); first | done | rfl | (simp only [ld_, lt_]; rfl)) ?_; (with_reducible refine (voices_all.calls _ _ (rd_L2 l1 x26_1) false _ ?side1 ?side2 A12.out).mono ?_); (case side1 => repeat (first | exact (Kd.C_below HR105_0.out HB.out) | (with_reducible refine Kd.C_alloc ?_ _) | (with_reducible refine Kd.C_drewN ?_ _) | (with_reducible refine Kd.C_drew ?_))); (case side2 => exact HC105_0.out); rintro e w15 ⟨rfl, hb⟩; refine ⟨_, rfl, ?_⟩; replace HB := hb_ HB e0_ hb; (try clear hb); (try clear hb2); (try clear hk); (try clear hi))))
           try rw [Exit.noGoto_ret]
           go_ret
           exact ⟨by first | rfl | (simp [errW_none, errW_some] <;> rfl) | (simp [*, errW_none, errW_some] <;> rfl), by repeat (first | (with_reducible first | exact HB.out | apply ba_ | apply pd_ | apply d1_) | exact HB.out)⟩
        ·rw [if_neg c10] at H
         exact absurd H (by simp)
       ·rw [if_neg c9] at H
        exact absurd H (by simp)
      ·rw [if_neg c8] at H
       have c8b0 : decide (x26_1 < (l1.length : Int)) = false := df_ c8
       clear c8
       obtain rfl := Option.some.inj H
       try go_wp2
       repeat (go_step3; try go_wp2)
       try rw [Exit.noGoto_ret]
       go_ret
       exact ⟨by first | rfl | (simp [errW_none, errW_some] <;> rfl) | (simp [*, errW_none, errW_some] <;> rfl), by repeat (first | (with_reducible first | exact HB.out | apply ba_ | apply pd_ | apply d1_) | exact HB.out)⟩
   ·replace c6 := bf_ c6
    subst c6
    have H1 : (some false) = some r := by rw [if_neg (show ¬ (false = true) by decide)] at H; exact H
    clear H; have H := H1; clear H1
    obtain rfl := Option.some.inj H
    go_enter Try.func19, Try.ntmps19
    try go_step3
    try go_wp2_with (first | (go_at_call 26; (with_reducible refine (voices_all.calls _ _ l0 false _ ?side1 ?side2 A5.out).mono ?_); (case side1 => repeat (first | exact HR0.out | (with_reducible refine Kd.C_alloc ?_ _) | (with_reducible refine Kd.C_drewN ?_ _) | (with_reducible refine Kd.C_drew ?_))); (case side2 => exact HC0.out); rintro e w16 ⟨rfl, hb⟩; replace HB := hb_ HB e0_ hb; (try clear hb); (try clear hb2); (try clear hk); (try clear hi)))
    repeat (go_step3; try go_wp2_with (first | (go_at_call 26; (with_reducible refine (voices_all.calls _ _ l0 false _ ?side1 ?side2 A5.out).mono ?_); (case side1 => repeat (first | exact HR0.out | (with_reducible refine Kd.C_alloc ?_ _) | (with_reducible refine Kd.C_drewN ?_ _) | (with_reducible refine Kd.C_drew ?_))); (case side2 => exact HC0.out); rintro e w16 ⟨rfl, hb⟩; replace HB := hb_ HB e0_ hb; (try clear hb); (try clear hb2); (try clear hk); (try clear hi))))
    try rw [Exit.noGoto_ret]
    go_ret
    exact ⟨by first | rfl | (simp [errW_none, errW_some] <;> rfl) | (simp [*, errW_none, errW_some] <;> rfl), by repeat (first | (with_reducible first | exact HB.out | apply ba_ | apply pd_ | apply d1_) | exact HB.out)⟩

/-! ### api_Box: function 20 -/
def api_Box.f (l0 : List S45) : Option (List S45) := if l0.length ≤ 100000 then some l0 else none
set_option maxHeartbeats 4000000 in
set_option maxRecDepth 100000 in
theorem api_Box.calls (A0 : Option Addr) (c0 : Nat) (l0 : List S45) (r : List S45) (w : World) (hr0 : Kd.C k45 w A0 l0.length l0) (hc0 : l0.length ≤ c0) (h : api_Box.f l0 = some r) :
  Calls Try.prog 20 #[.slice A0 l0.length c0] w fun e w' => ∃ v0_ : Value, e = .returned (v0_) ∧ Kd.R k45 45 w' w.heap.size (fun _ => True) v0_ r ∧ Below w.heap.size w w' := by
 unfold api_Box.f at h
 split at h
 rotate_left
 ·cases h
 rename_i hl
 obtain rfl := Option.some.inj h
 have HR0 := sd_ hr0
 have HB := sd_ (Below.refl w.heap.size w)
 have info : (Try.prog.info? 45).map (fun i => (i.zero, i.size, i.bytes)) = some (some (.agg #[(.int .i64 0), (.int .i64 0), (.int .i64 0), (.int .i64 0)]), 4, 32) := by kernel_rfl
 have HQ : Aside0 (∀ W, (binOp .eql 22 (.slice A0 l0.length c0) (.slice none 0 0)).run Try.prog W = .ok (.bool A0.isNone) W) := ⟨fun W => Go.Lib.run_eql_slice_nil W _ _ _ _ _ _ _ Try.underlying22⟩
 clear h hc0
 cases A0 with
 | none =>
  have HZ : Aside0 (l0 = []) := ⟨by
   refine List.eq_nil_of_length_eq_zero (Nat.eq_zero_of_not_pos fun q => ?_)
   obtain ⟨ad, e, _⟩ := hr0.2.2 q
   cases e⟩
  clear hr0
  have hq := HQ.out
  simp only [Option.isNone_none] at hq
  go_enter Try.func20, Try.ntmps20
  go_wp2
  go_ret
  rw [HZ.out]
  exact ⟨_, rfl, Kd.R_nil _ _ _ _ _, Below.refl _ _⟩
 | some a =>
  clear hr0
  have hq := HQ.out
  simp only [Option.isNone_some] at hq
  go_enter Try.func20, Try.ntmps20
  go_wp2_with (first | ((with_reducible refine gate_dst (N := 5) rfl ?_); (try (refine gate_guard (by rfl) ?_; dsimp only)); refine Kd.R_lit k45 _ 45 ?hg (N := 5) ?hd (xs := ([] : List (S45))) (inner := []) (ok := fun _ => True) (okp := fun _ => True) ?hr ?hp (fun _ hk => hk) trivial (Below.refl _ _) (Nat.le_refl _) (by simp) ?_; (case hd => rfl); (case hg => rfl); (case hr => first | (go_simp; done) | (go_simp; rfl)); (case hp => exact (Reps.none _ _)); intro v336 w18 ho19 hb hg_ hnew_; clear hg_ hnew_; have HO337 := sd_ ho19; replace HB := sd_ hb; clear hb ho19) | ((with_reducible refine gate_builtin (b := .append) (xs := #[.tmp 5, .tmp 6]) rfl ?_); (try (refine gate_guard (by rfl) ?_; dsimp only)); at_builtin; refine Kd.R_append_rows k45 (w0 := w) w.heap.size rfl (.tmp 5) (.tmp 6) 22 45 (.agg #[(.int .i64 0), (.int .i64 0), (.int .i64 0), (.int .i64 0)]) 32 rfl Try.underlying22 info rfl (by decide) (by omega) v336 [] l0 _ _ _ (fun _ => True) (fun _ => False) rfl rfl ?aO ?aR (fun _ _ h => h) (fun _ h => h.elim) ?aF ?aB ?aS ?aL ?_; (case aR => exact Kd.C_below HR0.out HB.out); (case aB => exact HB.out); (case aF => exact (fun _ _ => trivial)); (case aO => exact HO337.out); (case aS => exact HB.out.size); (case aL => simp only [List.length_nil]; omega); intro v339 w20 ho hb hg hat; have HO340 := sd_ ho; replace HB := sd_ (hb); clear HO337; clear ho hb hg hat))
  go_ret
  exact ⟨_, rfl, HO340.out, HB.out⟩

/-! ### voices_moved: function 22 -/
def voices_moved.f (a0_0 : Int) (a0_1 : Int) (a0_2 : Int) (a0_3 : Int) (a1 : Int) : Option (Int × Int × Int × Int) := some (wrap64 (a0_0 + a1), a0_1, wrap64 (a0_2 + a1), a0_3)
set_option maxHeartbeats 8000000 in
set_option maxRecDepth 100000 in
theorem voices_moved.calls (a0_0 : Int) (a0_1 : Int) (a0_2 : Int) (a0_3 : Int) (a1 : Int) (r1 : Int) (r2 : Int) (r3 : Int) (r4 : Int) (w : World) (h : voices_moved.f a0_0 a0_1 a0_2 a0_3 a1 = some (r1, r2, r3, r4)) :
  Calls Try.prog 22 #[.agg #[.int .i64 a0_0, .int .i64 a0_1, .int .i64 a0_2, .int .i64 a0_3], .int .i64 a1] w fun e w' => e = .returned (.agg #[.int .i64 r1, .int .i64 r2, .int .i64 r3, .int .i64 r4]) ∧ Below w.heap.size w w' := by
 have hu45 := Try.underlying45
 have HB := sd_ (Below.refl w.heap.size w)
 have H : (some (wrap64 (a0_0 + a1), a0_1, wrap64 (a0_2 + a1), a0_3)) = some (r1, r2, r3, r4) := h
 clear h
 simp only [Option.some.injEq, Prod.mk.injEq] at H
 obtain ⟨rfl, rfl, rfl, rfl⟩ := H
 go_enter Try.func22, Try.ntmps22
 go_wp2_with (first | ((with_reducible refine gate_dst (N := 2) rfl ?_); refine box_event ?hg (N := 2) ?hd (cs := #[.int .i64 a0_0, .int .i64 a0_1, .int .i64 a0_2, .int .i64 a0_3]) (t := 45) ?hr ?_; (case hd => rfl); (case hg => rfl); (case hr => first | (go_simp; done) | (go_simp; rfl)); intro gb107 hg w3 hbox hb; have BK107 := sd_ hbox; have GW107 := gw_ HB e0_ hg; have GE107 := GW107; replace HB := hb_ HB e0_ hb; clear hb hbox hg) | ((with_reducible refine gate_dst (N := 4) rfl ?_); refine box_event ?hg (N := 4) ?hd (cs := #[.int .i64 0, .int .i64 0, .int .i64 0, .int .i64 0]) (t := 45) ?hr ?_; (case hd => rfl); (case hg => rfl); (case hr => first | (go_simp; done) | (go_simp; rfl)); intro gb108 hg w4 hbox hb; have BK108 := sd_ hbox; have GW108 := gw_ HB (e_ GE107 e0_) hg; have GE108 := GW108; have NB107_108 := nb_ BK107 hg; have NB108_107 := sy_ NB107_108; replace BK107 := kb_ BK107 hb; replace HB := hb_ HB (e_ GE107 e0_) hb; clear hb hbox hg; have hnb5 := NB107_108.out; have hnc5 := NB108_107.out; have hcz6_0 : w4.cell? ⟨gb107, 0, none⟩ = some (.int .i64 a0_0) := (kc_ BK107.out 0).trans rfl; have hcz6_1 : w4.cell? ⟨gb107, 1, none⟩ = some (.int .i64 a0_1) := (kc_ BK107.out 1).trans rfl; have hcz6_2 : w4.cell? ⟨gb107, 2, none⟩ = some (.int .i64 a0_2) := (kc_ BK107.out 2).trans rfl; have hcz6_3 : w4.cell? ⟨gb107, 3, none⟩ = some (.int .i64 a0_3) := (kc_ BK107.out 3).trans rfl; have hfz6_0 := kf_ BK107.out 0; have hfz6_1 := kf_ BK107.out 1; have hfz6_2 := kf_ BK107.out 2; have hfz6_3 := kf_ BK107.out 3; have hcz7_0 : w4.cell? ⟨gb108, 0, none⟩ = some (.int .i64 0) := (kc_ BK108.out 0).trans rfl; have hcz7_1 : w4.cell? ⟨gb108, 1, none⟩ = some (.int .i64 0) := (kc_ BK108.out 1).trans rfl; have hcz7_2 : w4.cell? ⟨gb108, 2, none⟩ = some (.int .i64 0) := (kc_ BK108.out 2).trans rfl; have hcz7_3 : w4.cell? ⟨gb108, 3, none⟩ = some (.int .i64 0) := (kc_ BK108.out 3).trans rfl; have hfz7_0 := kf_ BK108.out 0; have hfz7_1 := kf_ BK108.out 1; have hfz7_2 := kf_ BK108.out 2; have hfz7_3 := kf_ BK108.out 3))
 refine bodyPost_ret (results_cell_row rfl _ _ gb108 45 #[.int .i64 (wrap64 (a0_0 + a1)), .int .i64 a0_1, .int .i64 (wrap64 (a0_2 + a1)), .int .i64 a0_3] (0, 0) _ rfl (by (with_reducible repeat first | apply kn_ | apply kd_ | apply ka_); refine blk_put (cs := #[.int .i64 (wrap64 (a0_0 + a1)), .int .i64 a0_1, .int .i64 (wrap64 (a0_2 + a1)), .int .i64 0]) ?_ 3 _ rfl; (with_reducible repeat first | apply kn_ | apply kd_ | apply ka_); refine blk_put (cs := #[.int .i64 (wrap64 (a0_0 + a1)), .int .i64 a0_1, .int .i64 0, .int .i64 0]) ?_ 2 _ rfl; (with_reducible repeat first | apply kn_ | apply kd_ | apply ka_); refine blk_put (cs := #[.int .i64 (wrap64 (a0_0 + a1)), .int .i64 0, .int .i64 0, .int .i64 0]) ?_ 1 _ rfl; (with_reducible repeat first | apply kn_ | apply kd_ | apply ka_); refine blk_put (cs := #[.int .i64 0, .int .i64 0, .int .i64 0, .int .i64 0]) ?_ 0 _ rfl; (with_reducible repeat first | apply kn_ | apply kd_ | apply ka_); refine blk_far ?_ NB108_107.out _; (with_reducible repeat first | apply kn_ | apply kd_ | apply ka_); refine blk_far ?_ NB108_107.out _; (with_reducible repeat first | apply kn_ | apply kd_ | apply ka_); exact BK108.out) Try.underlying45 rfl (by kernel_rfl)) rfl ?_
 exact ⟨by first | rfl | (simp [errW_none, errW_some] <;> rfl) | (simp [*, errW_none, errW_some] <;> rfl), by repeat (first | (with_reducible first | exact HB.out | apply ba_ | apply pd_ | apply d1_ | refine bs_ ?_ GE107.out | refine bs_ ?_ GE108.out) | exact HB.out)⟩

/-! ### slices_Sort_int_int: function 40 -/
/-- A row, sorted by putting in: it reckons well. -/
def ins (x : Int) : List Int → List Int
 | [] => [x]
 | y :: r => if x ≤ y then x :: y :: r else y :: ins x r
def isort (l : List Int) : List Int := l.foldr ins []
theorem ins_perm (x : Int) : ∀ l, (ins x l).Perm (x :: l)
 | [] => List.Perm.refl _
 | y :: r => by
  unfold ins
  split
  ·exact List.Perm.refl _
  ·exact ((ins_perm x r).cons y).trans (List.Perm.swap x y r)
theorem ins_rises (x : Int) : ∀ l : List Int, l.Pairwise (fun a b => a ≤ b) → (ins x l).Pairwise (fun a b => a ≤ b)
 | [], _ => List.pairwise_singleton _ _
 | y :: r, h => by
  obtain ⟨h1, h2⟩ := List.pairwise_cons.1 h
  unfold ins
  split
  ·rename_i c
   refine List.pairwise_cons.2 ⟨fun z hz => ?_, h⟩
   rcases List.mem_cons.1 hz with rfl | hz
   ·exact c
   ·exact Int.le_trans c (h1 z hz)
  ·rename_i c
   refine List.pairwise_cons.2 ⟨fun z hz => ?_, ins_rises x r h2⟩
   rcases List.mem_cons.1 ((ins_perm x r).mem_iff.1 hz) with rfl | hz
   ·omega
   ·exact h1 z hz
theorem isort_perm : ∀ l, (isort l).Perm l
 | [] => List.Perm.refl _
 | x :: r => (ins_perm x _).trans ((isort_perm r).cons x)
theorem isort_rises : ∀ l, (isort l).Pairwise (fun a b => a ≤ b)
 | [] => List.Pairwise.nil
 | x :: r => ins_rises x _ (isort_rises r)
theorem merge_isort (l : List Int) : (l.mergeSort fun x y => decide (x ≤ y)) = isort l := by
 have h1 := List.pairwise_mergeSort (le := fun x y : Int => decide (x ≤ y)) (fun a b c => by simp only [decide_eq_true_eq]; omega) (fun a b => by simp only [Bool.or_eq_true, decide_eq_true_eq]; omega) l
 exact List.Perm.eq_of_pairwise (le := fun a b : Int => a ≤ b) (fun a b _ _ p q => Int.le_antisymm p q) (h1.imp (fun h => by simpa using h)) (isort_rises l) ((List.mergeSort_perm l _).trans (isort_perm l).symm)
/-- The places, rising, each once. -/
def slices_Sort_int_int.f (l0 : List Int) : Option (List Int) := if 1 ≤ l0.length ∧ l0.length ≤ 1000000000 then some (isort l0) else none
theorem isort_len (l : List Int) : (isort l).length = l.length := (isort_perm l).length_eq
theorem encs_int (l : List Int) : encs (Value.int .i64) l = l.map (Value.int .i64) := rfl
theorem sort_below {w W W' : World} {g : Nat} (h : Below w.heap.size w W) (hg : W.grownBy W' (some g)) (hb : w.heap.size ≤ g) : Below w.heap.size w W' :=
 ⟨hg.os.trans h.os, hg.tape.trans h.tape, hg.output.trans h.output, Nat.le_trans h.size hg.size, fun i hi => (hg.block i (Nat.lt_of_lt_of_le hi h.size) (by intro q; injection q with q; omega)).trans (h.block i hi)⟩
set_option maxHeartbeats 8000000 in
set_option maxRecDepth 100000 in
open Go.Sort Go.Maps Go.ChangeMaps Go.MapKept in
theorem slices_Sort_int_int.calls (P0_ : Nat → Prop) (u9000_ : Value) (l0 : List Int) (r : List Int) (w0 w : World) (hB : Below w0.heap.size w0 w) (ho0 : Kd.R (Kd.int .i64) 3 w w0.heap.size P0_ u9000_ l0) (h : slices_Sort_int_int.f l0 = some r) :
  Calls Try.prog 40 #[u9000_] w fun e w' => e = .returned (.tuple #[]) ∧ Kd.R (Kd.int .i64) 3 w' w0.heap.size (fun k_ => (P0_ k_ ∨ w.heap.size ≤ k_)) u9000_ r ∧ Below w0.heap.size w0 w' ∧ Kept w w' (fun k_ => P0_ k_) := by
 unfold slices_Sort_int_int.f at h
 split at h
 rotate_left
 ·cases h
 rename_i hl
 have h := Option.some.inj h
 have hok := ho0.1
 obtain ⟨hlen, ⟨h0, h00⟩ | ⟨g, cap, cur, rfl, hg, hb, hn, hcap, hcs, htk⟩⟩ := Kd.own_of_R ho0
 ·omega
 have hP : P0_ g := hok g rfl
 rw [Nat.mul_one] at htk hcs
 have HH := holds_of_blockI (ss := l0) hb (htk.trans (encs_int l0))
 refine (Try.slices_Sort_int g 0 cap l0 w HH (blk_lt hb) (by omega)).mono ?_
 rintro e w3 ⟨rfl, n3, os3, rfl⟩
 rw [merge_isort, h]
 have hr : r.length = l0.length := by rw [← h, isort_len]
 have hG := grownBy_sortedI (w := w) (g := g) (n := n3) (os := os3) r.toArray
 refine ⟨rfl, ?_, sort_below hB hG hg, Kept.of_grown hG (Kept.refl w _) (fun k hk => .inl (by injection hk with hk; rw [← hk]; exact hP))⟩
 refine Kd.R_of_own ?_ (fun k hk => .inl (hok k hk))
 have := ownsRow_sortedI (n := n3) (os := os3) (base := w0.heap.size) (ts := r) (ss := l0) hr hg hb hn hcap (by rw [Nat.mul_one]; exact hcs)
 rw [← hr] at this
 rw [← hr]
 exact this

end Go.Proofs.Ytchmcljinkemaaa.P
