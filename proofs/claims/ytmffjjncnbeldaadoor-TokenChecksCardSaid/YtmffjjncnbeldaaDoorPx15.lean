-- Written by a program of this session (wip/tools/xprint.py, over the kit's print): Lean checks it.
import Derived.Test.YtmffjjncnbeldaaDoorPx0
namespace Go.Proofs.YtmffjjncnbeldaaDoor.P
open Go.RowKit Go.Proofs.YtmffjjncnbeldaaDoorW.PrintWords Go.Proofs.YtmffjjncnbeldaaDoorW.PrintLast Go.Proofs.YtmffjjncnbeldaaDoorW.PrintMore
attribute [local go_sem] max2_int min2_int max_two min_two max_three min_three max_four min_four   -- for this text's walks alone
set_option linter.unusedVariables false
set_option linter.unusedSimpArgs false

/-! ### neumeref08_Alike: function 17 -/
def neumeref08_Alike.l0 : Nat → List (S34) → List (S34) → Int → Option (Bool)
 | 0, _, _, _ => none
 | k + 1, x0, x1, x5 => if x5 < (x0.length : Int) then (if 0 ≤ x5 then (if x5 < (x1.length : Int) then (if ((rd_T34 x0 x5).f0) = ((rd_T34 x1 x5).f0) then (if ((rd_T34 x0 x5).f1).toList = ((rd_T34 x1 x5).f1).toList then (neumeref08_Alike.l0 k x0 x1 (wrap64 (x5 + 1))) else (some false)) else (some false)) else (none)) else (none)) else (some true)
def neumeref08_Alike.f (k : Nat) (l0 : List (S34)) (l1 : List (S34)) : Option (Bool) := if (l0.length : Int) = (l1.length : Int) then (neumeref08_Alike.l0 k l0 l1 0) else (some false)
theorem neumeref08_Alike.mono_l : ∀ k, (∀ y0 y1 y2, LeO (neumeref08_Alike.l0 k y0 y1 y2) (neumeref08_Alike.l0 (k + 1) y0 y1 y2))
 | 0 => fun _ _ _ r h => by simp [neumeref08_Alike.l0] at h
 | k + 1 => by
  have ih0 := neumeref08_Alike.mono_l k
  ·intro y0 y1 y2
   unfold neumeref08_Alike.l0
   repeat' first
   | (with_reducible exact ih0 _ _ _)
   | (with_reducible exact LeO.refl _)
   | (with_reducible exact LeO.none _)
   | (with_reducible refine LeO.ite ?_ ?_)
   | (with_reducible refine LeO.bind ?_ (fun _ => ?_))
   | exact ih0 _ _ _
   | exact LeO.none _
   | refine LeO.ite ?_ ?_
   | refine LeO.bind ?_ (fun _ => ?_)
theorem neumeref08_Alike.mono : ∀ a0 a1 k, LeO (neumeref08_Alike.f k a0 a1) (neumeref08_Alike.f (k + 1) a0 a1) := by
 intro a0 a1 k
 have ih0 := neumeref08_Alike.mono_l k
 unfold neumeref08_Alike.f
 repeat' first
   | (with_reducible exact ih0 _ _ _)
   | (with_reducible exact LeO.refl _)
   | (with_reducible exact LeO.none _)
   | (with_reducible refine LeO.ite ?_ ?_)
   | (with_reducible refine LeO.bind ?_ (fun _ => ?_))
   | exact ih0 _ _ _
   | exact LeO.none _
   | refine LeO.ite ?_ ?_
   | refine LeO.bind ?_ (fun _ => ?_)
set_option maxHeartbeats 8000000 in
set_option maxRecDepth 100000 in
theorem neumeref08_Alike.calls (k : Nat) (A0 : Option Addr) (c0 : Nat) (l0 : List (S34)) (A1 : Option Addr) (c1 : Nat) (l1 : List (S34)) (r : Bool) (w : World) (hr0 : Kd.C k34 w A0 l0.length l0) (hc0 : l0.length ≤ c0) (hr1 : Kd.C k34 w A1 l1.length l1) (hc1 : l1.length ≤ c1) (h : neumeref08_Alike.f k l0 l1 = some r) :
  Calls Tryd.prog 17 #[.slice A0 l0.length c0, .slice A1 l1.length c1] w fun e w' => e = .returned (.bool r) ∧ Drawn0 w w' := by
 have HR0 := sd_ hr0
 have HC0 := sd_ hc0
 clear hr0 hc0
 have HR1 := sd_ hr1
 have HC1 := sd_ hc1
 clear hr1 hc1
 have H : (if (l0.length : Int) = (l1.length : Int) then (neumeref08_Alike.l0 k l0 l1 0) else (some false)) = some r := h
 clear h
 by_cases c3 : (l0.length : Int) = (l1.length : Int)
 ·rw [if_pos c3] at H
  have c3b0 : ((l0.length : Int) == (l1.length : Int)) = true := beq_iff_eq.mpr c3
  have c3b1 : ((l0.length : Int) != (l1.length : Int)) = false := bne_eq_false_iff_eq.mpr c3
  have c3b2 : (l0.length == l1.length) = true := by first | simpa using c3 | (simp at c3 ⊢; omega)
  clear c3
  have H' := sd_ H
  clear H
  go_enter Tryd.func17, Tryd.ntmps17
  go_wp2
  repeat (go_quiet (fail); try go_wp2)
  go_loopg [5] k (fun kq v5 w' => ∃ (x5_1 : Int), v5 = .int .i64 x5_1 ∧ Aside0 (neumeref08_Alike.l0 kq l0 l1 x5_1 = some r) ∧ Aside0 (kq ≤ k) ∧ Drawn0 w w')
  case atStart => exact ⟨(0), (by first | rfl | (simp; done) | (simp [*]; done) | (simp [bne]; done)), H', ⟨Nat.le_refl _⟩, by repeat (first | exact Drawn0.refl _ | apply Drawn0.step)⟩
  case round =>
   clear H'
   try clear c1; try clear p2; try clear c3; try clear c3b0; try clear c3b1; try clear c3b2
   obtain ⟨x5_1, rfl, HA, HK1, ⟨m1, rfl⟩⟩ := hrel
   cases gk with
   | zero => exact absurd HA.out (by simp [neumeref08_Alike.l0])
   | succ k1 =>
    have H := HA.out
    clear HA
    simp only [neumeref08_Alike.l0] at H
    by_cases c4 : x5_1 < (l0.length : Int)
    ·rw [if_pos c4] at H
     have c4b0 : decide (x5_1 < (l0.length : Int)) = true := dt_ c4
     clear c4
     by_cases c5 : 0 ≤ x5_1
     ·rw [if_pos c5] at H
      have c5b0 : decide (0 ≤ x5_1) = true := dt_ c5
      clear c5
      by_cases c6 : x5_1 < (l1.length : Int)
      ·rw [if_pos c6] at H
       have c6b0 : decide (x5_1 < (l1.length : Int)) = true := dt_ c6
       clear c6
       by_cases c7 : ((rd_T34 l0 x5_1).f0) = ((rd_T34 l1 x5_1).f0)
       ·rw [if_pos c7] at H
        have c7b0 : (((rd_T34 l0 x5_1).f0) == ((rd_T34 l1 x5_1).f0)) = true := beq_iff_eq.mpr c7
        have c7b1 : (((rd_T34 l0 x5_1).f0) != ((rd_T34 l1 x5_1).f0)) = false := bne_eq_false_iff_eq.mpr c7
        clear c7
        by_cases c8 : ((rd_T34 l0 x5_1).f1).toList = ((rd_T34 l1 x5_1).f1).toList
        ·rw [if_pos c8] at H
         have c8b0 : (((rd_T34 l0 x5_1).f1).toList == ((rd_T34 l1 x5_1).f1).toList) = true := beq_iff_eq.mpr c8
         have c8b1 : (((rd_T34 l0 x5_1).f1).toList != ((rd_T34 l1 x5_1).f1).toList) = false := bne_eq_false_iff_eq.mpr c8
         clear c8
         have H' := sd_ H
         clear H
         have p298 : 0 ≤ (x5_1 : Int) := od_ (by first | (with_reducible assumption) | assumption)
         have q298 : x5_1 < (l0.length : Int) := od_ (by first | (with_reducible assumption) | assumption)
         obtain ⟨ad298, e298, hx298_0, hx298_1, hx298_2⟩ := at_T34 HR0.out x5_1 p298 q298
         cases e298
         replace p298 := eq_true p298
         replace q298 := eq_true q298
         have p299 : 0 ≤ (x5_1 : Int) := od_ (by first | (with_reducible assumption) | assumption)
         have q299 : x5_1 < (l1.length : Int) := od_ (by first | (with_reducible assumption) | assumption)
         obtain ⟨ad299, e299, hx299_0, hx299_1, hx299_2⟩ := at_T34 HR1.out x5_1 p299 q299
         cases e299
         replace p299 := eq_true p299
         replace q299 := eq_true q299
         have p300 : 0 ≤ (x5_1 : Int) := od_ (by first | (with_reducible assumption) | assumption)
         have q300 : x5_1 < (l0.length : Int) := od_ (by first | (with_reducible assumption) | assumption)
         obtain ⟨ad300, e300, hx300_0, hx300_1, hx300_2⟩ := at_T34 HR0.out x5_1 p300 q300
         obtain rfl : ad298 = ad300 := (by injection e300)
         replace p300 := eq_true p300
         replace q300 := eq_true q300
         have p301 : 0 ≤ (x5_1 : Int) := od_ (by first | (with_reducible assumption) | assumption)
         have q301 : x5_1 < (l1.length : Int) := od_ (by first | (with_reducible assumption) | assumption)
         obtain ⟨ad301, e301, hx301_0, hx301_1, hx301_2⟩ := at_T34 HR1.out x5_1 p301 q301
         obtain rfl : ad299 = ad301 := (by injection e301)
         replace p301 := eq_true p301
         replace q301 := eq_true q301
         go_wp2
         repeat (go_quiet (fail); try go_wp2)
         go_roundg k1
         case measure => have := HK1.out; omega
         case rel => exact ⟨(wrap64 (x5_1 + 1)), (by first | rfl | (simp; done) | (simp [*]; done) | (simp [bne]; done)), H', ⟨by have := HK1.out; omega⟩, by repeat (first | exact Drawn0.refl _ | apply Drawn0.step)⟩
        ·rw [if_neg c8] at H
         have c8b0 : (((rd_T34 l0 x5_1).f1).toList == ((rd_T34 l1 x5_1).f1).toList) = false := beq_eq_false_iff_ne.mpr c8
         have c8b1 : (((rd_T34 l0 x5_1).f1).toList != ((rd_T34 l1 x5_1).f1).toList) = true := bne_iff_ne.mpr c8
         obtain rfl := Option.some.inj H
         have p298 : 0 ≤ (x5_1 : Int) := od_ (by first | (with_reducible assumption) | assumption)
         have q298 : x5_1 < (l0.length : Int) := od_ (by first | (with_reducible assumption) | assumption)
         obtain ⟨ad298, e298, hx298_0, hx298_1, hx298_2⟩ := at_T34 HR0.out x5_1 p298 q298
         cases e298
         replace p298 := eq_true p298
         replace q298 := eq_true q298
         have p299 : 0 ≤ (x5_1 : Int) := od_ (by first | (with_reducible assumption) | assumption)
         have q299 : x5_1 < (l1.length : Int) := od_ (by first | (with_reducible assumption) | assumption)
         obtain ⟨ad299, e299, hx299_0, hx299_1, hx299_2⟩ := at_T34 HR1.out x5_1 p299 q299
         cases e299
         replace p299 := eq_true p299
         replace q299 := eq_true q299
         have p300 : 0 ≤ (x5_1 : Int) := od_ (by first | (with_reducible assumption) | assumption)
         have q300 : x5_1 < (l0.length : Int) := od_ (by first | (with_reducible assumption) | assumption)
         obtain ⟨ad300, e300, hx300_0, hx300_1, hx300_2⟩ := at_T34 HR0.out x5_1 p300 q300
         obtain rfl : ad298 = ad300 := (by injection e300)
         replace p300 := eq_true p300
         replace q300 := eq_true q300
         have p301 : 0 ≤ (x5_1 : Int) := od_ (by first | (with_reducible assumption) | assumption)
         have q301 : x5_1 < (l1.length : Int) := od_ (by first | (with_reducible assumption) | assumption)
         obtain ⟨ad301, e301, hx301_0, hx301_1, hx301_2⟩ := at_T34 HR1.out x5_1 p301 q301
         obtain rfl : ad299 = ad301 := (by injection e301)
         replace p301 := eq_true p301
         replace q301 := eq_true q301
         go_wp2
         repeat (go_quiet (fail); try go_wp2)
         go_ret
         exact ⟨by first | rfl | (simp; done) | (simp [*]; done), by repeat (first | exact Drawn0.refl _ | apply Drawn0.step)⟩
       ·rw [if_neg c7] at H
        have c7b0 : (((rd_T34 l0 x5_1).f0) == ((rd_T34 l1 x5_1).f0)) = false := beq_eq_false_iff_ne.mpr c7
        have c7b1 : (((rd_T34 l0 x5_1).f0) != ((rd_T34 l1 x5_1).f0)) = true := bne_iff_ne.mpr c7
        obtain rfl := Option.some.inj H
        have p298 : 0 ≤ (x5_1 : Int) := od_ (by first | (with_reducible assumption) | assumption)
        have q298 : x5_1 < (l0.length : Int) := od_ (by first | (with_reducible assumption) | assumption)
        obtain ⟨ad298, e298, hx298_0, hx298_1, hx298_2⟩ := at_T34 HR0.out x5_1 p298 q298
        cases e298
        replace p298 := eq_true p298
        replace q298 := eq_true q298
        have p299 : 0 ≤ (x5_1 : Int) := od_ (by first | (with_reducible assumption) | assumption)
        have q299 : x5_1 < (l1.length : Int) := od_ (by first | (with_reducible assumption) | assumption)
        obtain ⟨ad299, e299, hx299_0, hx299_1, hx299_2⟩ := at_T34 HR1.out x5_1 p299 q299
        cases e299
        replace p299 := eq_true p299
        replace q299 := eq_true q299
        go_wp2
        repeat (go_quiet (fail); try go_wp2)
        go_ret
        exact ⟨by first | rfl | (simp; done) | (simp [*]; done), by repeat (first | exact Drawn0.refl _ | apply Drawn0.step)⟩
      ·rw [if_neg c6] at H
       exact absurd H (by simp)
     ·rw [if_neg c5] at H
      exact absurd H (by simp)
    ·rw [if_neg c4] at H
     have c4b0 : decide (x5_1 < (l0.length : Int)) = false := df_ c4
     clear c4
     obtain rfl := Option.some.inj H
     go_wp2
     repeat (go_quiet (fail); try go_wp2)
     go_ret
     exact ⟨by first | rfl | (simp; done) | (simp [*]; done), by repeat (first | exact Drawn0.refl _ | apply Drawn0.step)⟩
 ·rw [if_neg c3] at H
  have c3b0 : ((l0.length : Int) == (l1.length : Int)) = false := beq_eq_false_iff_ne.mpr c3
  have c3b1 : ((l0.length : Int) != (l1.length : Int)) = true := bne_iff_ne.mpr c3
  have c3b2 : (l0.length == l1.length) = false := by first | simpa using c3 | (simp at c3 ⊢; omega)
  obtain rfl := Option.some.inj H
  go_enter Tryd.func17, Tryd.ntmps17
  go_wp2
  repeat (go_quiet (fail); try go_wp2)
  go_ret
  exact ⟨by first | rfl | (simp; done) | (simp [*]; done), by repeat (first | exact Drawn0.refl _ | apply Drawn0.step)⟩

end Go.Proofs.YtmffjjncnbeldaaDoor.P
