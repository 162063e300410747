-- Written by a program of this session (wip/tools/xprint.py, over the kit's print): Lean checks it.
import Derived.Test.YtmffjjncnbeldaaDoorPx0
namespace Go.Proofs.YtmffjjncnbeldaaDoor.P
open Go.RowKit Go.Proofs.YtmffjjncnbeldaaDoorW.PrintWords Go.Proofs.YtmffjjncnbeldaaDoorW.PrintLast Go.Proofs.YtmffjjncnbeldaaDoorW.PrintMore
attribute [local go_sem] max2_int min2_int max_two min_two max_three min_three max_four min_four   -- for this text's walks alone
set_option linter.unusedVariables false
set_option linter.unusedSimpArgs false

/-! ### neumelaw08_few: function 12 -/
def neumelaw08_few.l0 : Nat → List (S34) → Int → Int → Option (Bool)
 | 0, _, _, _ => none
 | k + 1, x0, x3, x4 => if x4 < (x0.length : Int) then (if 0 ≤ x4 then (if (((rd_T34 x0 x4).f1).size : Int) > 3000 then (some false) else (if (wrap64 (x3 + (((rd_T34 x0 x4).f1).size : Int))) > 20000 then (some false) else (neumelaw08_few.l0 k x0 (wrap64 (x3 + (((rd_T34 x0 x4).f1).size : Int))) (wrap64 (x4 + 1))))) else (none)) else (some true)
def neumelaw08_few.f (k : Nat) (l0 : List (S34)) : Option (Bool) := if (l0.length : Int) > 200 then (some false) else (neumelaw08_few.l0 k l0 0 0)
theorem neumelaw08_few.mono_l : ∀ k, (∀ y0 y1 y2, LeO (neumelaw08_few.l0 k y0 y1 y2) (neumelaw08_few.l0 (k + 1) y0 y1 y2))
 | 0 => fun _ _ _ r h => by simp [neumelaw08_few.l0] at h
 | k + 1 => by
  have ih0 := neumelaw08_few.mono_l k
  ·intro y0 y1 y2
   unfold neumelaw08_few.l0
   repeat' first
   | (with_reducible exact ih0 _ _ _)
   | (with_reducible exact LeO.refl _)
   | (with_reducible exact LeO.none _)
   | (with_reducible refine LeO.ite ?_ ?_)
   | (with_reducible refine LeO.bind ?_ (fun _ => ?_))
   | exact ih0 _ _ _
   | exact LeO.none _
   | refine LeO.ite ?_ ?_
   | refine LeO.bind ?_ (fun _ => ?_)
theorem neumelaw08_few.mono : ∀ a0 k, LeO (neumelaw08_few.f k a0) (neumelaw08_few.f (k + 1) a0) := by
 intro a0 k
 have ih0 := neumelaw08_few.mono_l k
 unfold neumelaw08_few.f
 repeat' first
   | (with_reducible exact ih0 _ _ _)
   | (with_reducible exact LeO.refl _)
   | (with_reducible exact LeO.none _)
   | (with_reducible refine LeO.ite ?_ ?_)
   | (with_reducible refine LeO.bind ?_ (fun _ => ?_))
   | exact ih0 _ _ _
   | exact LeO.none _
   | refine LeO.ite ?_ ?_
   | refine LeO.bind ?_ (fun _ => ?_)
set_option maxHeartbeats 8000000 in
set_option maxRecDepth 100000 in
theorem neumelaw08_few.calls (k : Nat) (A0 : Option Addr) (c0 : Nat) (l0 : List (S34)) (r : Bool) (w : World) (hr0 : Kd.C k34 w A0 l0.length l0) (hc0 : l0.length ≤ c0) (h : neumelaw08_few.f k l0 = some r) :
  Calls Tryd.prog 12 #[.slice A0 l0.length c0] w fun e w' => e = .returned (.bool r) ∧ Drawn0 w w' := by
 have HR0 := sd_ hr0
 have HC0 := sd_ hc0
 clear hr0 hc0
 have H : (if (l0.length : Int) > 200 then (some false) else (neumelaw08_few.l0 k l0 0 0)) = some r := h
 clear h
 by_cases c2 : (l0.length : Int) > 200
 ·rw [if_pos c2] at H
  have c2b0 : decide (200 < (l0.length : Int)) = true := dt_ c2
  have c2b1 : decide (200 < l0.length) = true := dt_ (by omega)
  clear c2
  obtain rfl := Option.some.inj H
  go_enter Tryd.func12, Tryd.ntmps12
  go_wp2
  go_ret
  exact ⟨by first | rfl | (simp; done) | (simp [*]; done), by repeat (first | exact Drawn0.refl _ | apply Drawn0.step)⟩
 ·rw [if_neg c2] at H
  have c2b0 : decide (200 < (l0.length : Int)) = false := df_ c2
  have c2b1 : decide (200 < l0.length) = false := df_ (by omega)
  clear c2
  have H' := sd_ H
  clear H
  go_enter Tryd.func12, Tryd.ntmps12
  go_wp2
  go_loopg [3, 4] k (fun kq v3 v4 w' => ∃ (x3_1 : Int) (x4_1 : Int), v3 = .int .i64 x3_1 ∧ v4 = .int .i64 x4_1 ∧ Aside0 (neumelaw08_few.l0 kq l0 x3_1 x4_1 = some r) ∧ Aside0 (kq ≤ k) ∧ Drawn0 w w')
  case atStart => exact ⟨(0), (0), (by first | rfl | (simp; done) | (simp [*]; done) | (simp [bne]; done)), (by first | rfl | (simp; done) | (simp [*]; done) | (simp [bne]; done)), H', ⟨Nat.le_refl _⟩, by repeat (first | exact Drawn0.refl _ | apply Drawn0.step)⟩
  case round =>
   clear H'
   try clear c1; try clear c2; try clear c2b0; try clear c2b1; try clear p2
   obtain ⟨x3_1, x4_1, rfl, rfl, HA, HK1, ⟨m1, rfl⟩⟩ := hrel
   cases gk with
   | zero => exact absurd HA.out (by simp [neumelaw08_few.l0])
   | succ k1 =>
    have H := HA.out
    clear HA
    simp only [neumelaw08_few.l0] at H
    by_cases c3 : x4_1 < (l0.length : Int)
    ·rw [if_pos c3] at H
     have c3b0 : decide (x4_1 < (l0.length : Int)) = true := dt_ c3
     clear c3
     by_cases c4 : 0 ≤ x4_1
     ·rw [if_pos c4] at H
      have c4b0 : decide (0 ≤ x4_1) = true := dt_ c4
      clear c4
      by_cases c5 : (((rd_T34 l0 x4_1).f1).size : Int) > 3000
      ·rw [if_pos c5] at H
       have c5b0 : decide (3000 < (((rd_T34 l0 x4_1).f1).size : Int)) = true := dt_ c5
       have c5b1 : decide (3000 < ((rd_T34 l0 x4_1).f1).size) = true := dt_ (by omega)
       clear c5
       obtain rfl := Option.some.inj H
       have p270 : 0 ≤ (x4_1 : Int) := od_ (by first | (with_reducible assumption) | assumption)
       have q270 : x4_1 < (l0.length : Int) := od_ (by first | (with_reducible assumption) | assumption)
       obtain ⟨ad270, e270, hx270_0, hx270_1, hx270_2⟩ := at_T34 HR0.out x4_1 p270 q270
       cases e270
       replace p270 := eq_true p270
       replace q270 := eq_true q270
       have p271 : 0 ≤ (x4_1 : Int) := od_ (by first | (with_reducible assumption) | assumption)
       have q271 : x4_1 < (l0.length : Int) := od_ (by first | (with_reducible assumption) | assumption)
       obtain ⟨ad271, e271, hx271_0, hx271_1, hx271_2⟩ := at_T34 HR0.out x4_1 p271 q271
       obtain rfl : ad270 = ad271 := (by injection e271)
       replace p271 := eq_true p271
       replace q271 := eq_true q271
       go_wp2
       go_ret
       exact ⟨by first | rfl | (simp; done) | (simp [*]; done), by repeat (first | exact Drawn0.refl _ | apply Drawn0.step)⟩
      ·rw [if_neg c5] at H
       have c5b0 : decide (3000 < (((rd_T34 l0 x4_1).f1).size : Int)) = false := df_ c5
       have c5b1 : decide (3000 < ((rd_T34 l0 x4_1).f1).size) = false := df_ (by omega)
       clear c5
       by_cases c6 : (wrap64 (x3_1 + (((rd_T34 l0 x4_1).f1).size : Int))) > 20000
       ·rw [if_pos c6] at H
        have c6b0 : decide (20000 < (wrap64 (x3_1 + (((rd_T34 l0 x4_1).f1).size : Int)))) = true := dt_ c6
        clear c6
        obtain rfl := Option.some.inj H
        have p270 : 0 ≤ (x4_1 : Int) := od_ (by first | (with_reducible assumption) | assumption)
        have q270 : x4_1 < (l0.length : Int) := od_ (by first | (with_reducible assumption) | assumption)
        obtain ⟨ad270, e270, hx270_0, hx270_1, hx270_2⟩ := at_T34 HR0.out x4_1 p270 q270
        cases e270
        replace p270 := eq_true p270
        replace q270 := eq_true q270
        have p271 : 0 ≤ (x4_1 : Int) := od_ (by first | (with_reducible assumption) | assumption)
        have q271 : x4_1 < (l0.length : Int) := od_ (by first | (with_reducible assumption) | assumption)
        obtain ⟨ad271, e271, hx271_0, hx271_1, hx271_2⟩ := at_T34 HR0.out x4_1 p271 q271
        obtain rfl : ad270 = ad271 := (by injection e271)
        replace p271 := eq_true p271
        replace q271 := eq_true q271
        go_wp2
        go_ret
        exact ⟨by first | rfl | (simp; done) | (simp [*]; done), by repeat (first | exact Drawn0.refl _ | apply Drawn0.step)⟩
       ·rw [if_neg c6] at H
        have c6b0 : decide (20000 < (wrap64 (x3_1 + (((rd_T34 l0 x4_1).f1).size : Int)))) = false := df_ c6
        clear c6
        have H' := sd_ H
        clear H
        have p270 : 0 ≤ (x4_1 : Int) := od_ (by first | (with_reducible assumption) | assumption)
        have q270 : x4_1 < (l0.length : Int) := od_ (by first | (with_reducible assumption) | assumption)
        obtain ⟨ad270, e270, hx270_0, hx270_1, hx270_2⟩ := at_T34 HR0.out x4_1 p270 q270
        cases e270
        replace p270 := eq_true p270
        replace q270 := eq_true q270
        have p271 : 0 ≤ (x4_1 : Int) := od_ (by first | (with_reducible assumption) | assumption)
        have q271 : x4_1 < (l0.length : Int) := od_ (by first | (with_reducible assumption) | assumption)
        obtain ⟨ad271, e271, hx271_0, hx271_1, hx271_2⟩ := at_T34 HR0.out x4_1 p271 q271
        obtain rfl : ad270 = ad271 := (by injection e271)
        replace p271 := eq_true p271
        replace q271 := eq_true q271
        go_wp2
        go_roundg k1
        case measure => have := HK1.out; omega
        case rel => exact ⟨(wrap64 (x3_1 + (((rd_T34 l0 x4_1).f1).size : Int))), (wrap64 (x4_1 + 1)), (by first | rfl | (simp; done) | (simp [*]; done) | (simp [bne]; done)), (by first | rfl | (simp; done) | (simp [*]; done) | (simp [bne]; done)), H', ⟨by have := HK1.out; omega⟩, by repeat (first | exact Drawn0.refl _ | apply Drawn0.step)⟩
     ·rw [if_neg c4] at H
      exact absurd H (by simp)
    ·rw [if_neg c3] at H
     have c3b0 : decide (x4_1 < (l0.length : Int)) = false := df_ c3
     clear c3
     obtain rfl := Option.some.inj H
     go_wp2
     go_ret
     exact ⟨by first | rfl | (simp; done) | (simp [*]; done), by repeat (first | exact Drawn0.refl _ | apply Drawn0.step)⟩

end Go.Proofs.YtmffjjncnbeldaaDoor.P
