-- Written by a program of this session (wip/tools/xprint.py, over the kit's print): Lean checks it.
import Derived.Test.YtcokemaiploejaaDoorPx0
import Derived.Test.YtcokemaiploejaaDoorPx2
import Derived.Test.YtcokemaiploejaaDoorPx13
import Derived.Test.YtcokemaiploejaaDoorPx18
namespace Go.Proofs.YtcokemaiploejaaDoor.P
open Go.RowKit Go.Proofs.YtcokemaiploejaaDoorW.PrintWords Go.Proofs.YtcokemaiploejaaDoorW.PrintLast Go.Proofs.YtcokemaiploejaaDoorW.PrintMore
attribute [local go_sem] max2_int min2_int max_two min_two max_three min_three max_four min_four   -- for this text's walks alone
set_option linter.unusedVariables false
set_option linter.unusedSimpArgs false

/-! ### neumelaw23_ChordMirror: function 5 -/
mutual
def neumelaw23_ChordMirror.l0 : Nat → List Int → Bool → List Int → Int → Option (Bool)
 | 0, _, _, _, _ => none
 | k + 1, x0, x1, x5, x6 => if x6 ≥ 0 then (if 0 ≤ x6 then (if x6 < (x0.length : Int) then (if (rd x0 x6) < (-1000) then ((neumelaw23_heads.f k).bind fun t526 => (some t526)) else (if (rd x0 x6) > 1000 then ((neumelaw23_heads.f k).bind fun t528 => (some t528)) else (if x5.length < 17592186044416 then (neumelaw23_ChordMirror.l0 k x0 x1 (x5 ++ [wrap64 (-(rd x0 x6))]) (wrap64 (x6 - 1))) else (none)))) else (none)) else (none)) else ((chord_Sides.f k x0 x1).bind fun bt533 => ((chord_Sides.f k x5 (!x1)).bind fun bt537 => (if bt533.2 = bt537.2 then (neumelaw23_ChordMirror.j1 k bt533.1 bt537.1 ((bt533.1.length : Int) != (bt537.1.length : Int))) else (neumelaw23_ChordMirror.j1 k bt533.1 bt537.1 true))))
def neumelaw23_ChordMirror.j1 : Nat → List Int → List Int → Bool → Option (Bool)
 | 0, _, _, _ => none
 | k + 1, x7, x9, x66 => if x66 = true then (some false) else (neumelaw23_ChordMirror.l1 k x7 x9 0)
def neumelaw23_ChordMirror.l1 : Nat → List Int → List Int → Int → Option (Bool)
 | 0, _, _, _ => none
 | k + 1, x7, x9, x11 => if x11 < (x7.length : Int) then (if 0 ≤ x11 then (if 0 ≤ (wrap64 ((wrap64 ((x9.length : Int) - 1)) - x11)) then (if (wrap64 ((wrap64 ((x9.length : Int) - 1)) - x11)) < (x9.length : Int) then (if (rd x7 x11) = (rd x9 (wrap64 ((wrap64 ((x9.length : Int) - 1)) - x11))) then (neumelaw23_ChordMirror.l1 k x7 x9 (wrap64 (x11 + 1))) else (some false)) else (none)) else (none)) else (none)) else ((neumelaw23_heads.f k).bind fun t543 => (some t543))
end
def neumelaw23_ChordMirror.f (k : Nat) (l0 : List Int) (a1 : Bool) : Option (Bool) := if (l0.length : Int) > 100 then ((neumelaw23_heads.f k).bind fun t524 => (some t524)) else (neumelaw23_ChordMirror.l0 k l0 a1 ([] : List Int) (wrap64 ((l0.length : Int) - 1)))
theorem neumelaw23_ChordMirror.mono_l : ∀ k, (∀ y0 y1 y2 y3, LeO (neumelaw23_ChordMirror.l0 k y0 y1 y2 y3) (neumelaw23_ChordMirror.l0 (k + 1) y0 y1 y2 y3)) ∧ (∀ y0 y1 y2, LeO (neumelaw23_ChordMirror.j1 k y0 y1 y2) (neumelaw23_ChordMirror.j1 (k + 1) y0 y1 y2)) ∧ (∀ y0 y1 y2, LeO (neumelaw23_ChordMirror.l1 k y0 y1 y2) (neumelaw23_ChordMirror.l1 (k + 1) y0 y1 y2))
 | 0 => ⟨fun _ _ _ _ r h => by simp [neumelaw23_ChordMirror.l0] at h, fun _ _ _ r h => by simp [neumelaw23_ChordMirror.j1] at h, fun _ _ _ r h => by simp [neumelaw23_ChordMirror.l1] at h⟩
 | k + 1 => by
  obtain ⟨ih0, ih1, ih2⟩ := neumelaw23_ChordMirror.mono_l k
  refine ⟨?_, ?_, ?_⟩
  ·intro y0 y1 y2 y3
   unfold neumelaw23_ChordMirror.l0
   repeat' first
   | (with_reducible exact ih0 _ _ _ _)
   | (with_reducible exact ih1 _ _ _)
   | (with_reducible exact ih2 _ _ _)
   | (with_reducible exact chord_Sides.mono _ _ _)
   | (with_reducible exact neumelaw23_heads.mono _)
   | (with_reducible exact LeO.refl _)
   | (with_reducible exact LeO.none _)
   | (with_reducible refine LeO.ite ?_ ?_)
   | (with_reducible refine LeO.bind ?_ (fun _ => ?_))
   | exact ih0 _ _ _ _
   | exact ih1 _ _ _
   | exact ih2 _ _ _
   | exact chord_Sides.mono _ _ _
   | exact neumelaw23_heads.mono _
   | exact LeO.none _
   | refine LeO.ite ?_ ?_
   | refine LeO.bind ?_ (fun _ => ?_)
  ·intro y0 y1 y2
   unfold neumelaw23_ChordMirror.j1
   repeat' first
   | (with_reducible exact ih0 _ _ _ _)
   | (with_reducible exact ih1 _ _ _)
   | (with_reducible exact ih2 _ _ _)
   | (with_reducible exact chord_Sides.mono _ _ _)
   | (with_reducible exact neumelaw23_heads.mono _)
   | (with_reducible exact LeO.refl _)
   | (with_reducible exact LeO.none _)
   | (with_reducible refine LeO.ite ?_ ?_)
   | (with_reducible refine LeO.bind ?_ (fun _ => ?_))
   | exact ih0 _ _ _ _
   | exact ih1 _ _ _
   | exact ih2 _ _ _
   | exact chord_Sides.mono _ _ _
   | exact neumelaw23_heads.mono _
   | exact LeO.none _
   | refine LeO.ite ?_ ?_
   | refine LeO.bind ?_ (fun _ => ?_)
  ·intro y0 y1 y2
   unfold neumelaw23_ChordMirror.l1
   repeat' first
   | (with_reducible exact ih0 _ _ _ _)
   | (with_reducible exact ih1 _ _ _)
   | (with_reducible exact ih2 _ _ _)
   | (with_reducible exact chord_Sides.mono _ _ _)
   | (with_reducible exact neumelaw23_heads.mono _)
   | (with_reducible exact LeO.refl _)
   | (with_reducible exact LeO.none _)
   | (with_reducible refine LeO.ite ?_ ?_)
   | (with_reducible refine LeO.bind ?_ (fun _ => ?_))
   | exact ih0 _ _ _ _
   | exact ih1 _ _ _
   | exact ih2 _ _ _
   | exact chord_Sides.mono _ _ _
   | exact neumelaw23_heads.mono _
   | exact LeO.none _
   | refine LeO.ite ?_ ?_
   | refine LeO.bind ?_ (fun _ => ?_)
theorem neumelaw23_ChordMirror.mono : ∀ a0 a1 k, LeO (neumelaw23_ChordMirror.f k a0 a1) (neumelaw23_ChordMirror.f (k + 1) a0 a1) := by
 intro a0 a1 k
 obtain ⟨ih0, ih1, ih2⟩ := neumelaw23_ChordMirror.mono_l k
 unfold neumelaw23_ChordMirror.f
 repeat' first
   | (with_reducible exact ih0 _ _ _ _)
   | (with_reducible exact ih1 _ _ _)
   | (with_reducible exact ih2 _ _ _)
   | (with_reducible exact chord_Sides.mono _ _ _)
   | (with_reducible exact neumelaw23_heads.mono _)
   | (with_reducible exact LeO.refl _)
   | (with_reducible exact LeO.none _)
   | (with_reducible refine LeO.ite ?_ ?_)
   | (with_reducible refine LeO.bind ?_ (fun _ => ?_))
   | exact ih0 _ _ _ _
   | exact ih1 _ _ _
   | exact ih2 _ _ _
   | exact chord_Sides.mono _ _ _
   | exact neumelaw23_heads.mono _
   | exact LeO.none _
   | refine LeO.ite ?_ ?_
   | refine LeO.bind ?_ (fun _ => ?_)
set_option maxHeartbeats 8000000 in
set_option maxRecDepth 100000 in
theorem neumelaw23_ChordMirror.calls (k : Nat) (A0 : Option Addr) (c0 : Nat) (l0 : List Int) (a1 : Bool) (r : Bool) (w : World) (hr0 : Kd.C (Kd.int .i64) w A0 l0.length l0) (hc0 : l0.length ≤ c0) (hE : Aside0 (LaidE w)) (hxt : Aside0 (r = true)) (h : neumelaw23_ChordMirror.f k l0 a1 = some r) :
  Calls Tryd.prog 5 #[.slice A0 l0.length c0, .bool a1] w fun e w' => e = .returned (.bool r) ∧ Below w.heap.size w w' := by
 have HR0 := sd_ hr0
 have HC0 := sd_ hc0
 clear hr0 hc0
 have HB := sd_ (Below.refl w.heap.size w)
 have H : (if (l0.length : Int) > 100 then ((neumelaw23_heads.f k).bind fun t524 => (some t524)) else (neumelaw23_ChordMirror.l0 k l0 a1 ([] : List Int) (wrap64 ((l0.length : Int) - 1)))) = some r := h
 clear h
 by_cases c3 : (l0.length : Int) > 100
 ·rw [if_pos c3] at H
  have c3b0 : decide (100 < (l0.length : Int)) = true := dt_ c3
  have c3b1 : decide (100 < l0.length) = true := dt_ (by omega)
  clear c3
  replace H := ob_ H
  obtain ⟨t524, A40, H⟩ := H
  replace H : (some t524) = some r := H
  have A4 := sd_ A40
  clear A40
  obtain rfl := Option.some.inj H
  go_enter Tryd.func5, Tryd.ntmps5
  go_wp2_with (first | (go_at_call 7; (with_reducible refine (neumelaw23_heads.calls k  t524 _ ?side1 A4.out).mono ?_); (case side1 => first | (with_reducible exact hE) | exact sd_ (LaidE.below hE.out (bb_ HB.out e0_))); rintro e w5 ⟨rfl, hb⟩; replace HB := hb_ HB e0_ hb; (try clear hb); (try clear hb2); (try clear hk); (try clear hi)))
  repeat (go_quiet (first | (go_at_call 7; (with_reducible refine (neumelaw23_heads.calls k  t524 _ ?side1 A4.out).mono ?_); (case side1 => first | (with_reducible exact hE) | exact sd_ (LaidE.below hE.out (bb_ HB.out e0_))); rintro e w5 ⟨rfl, hb⟩; replace HB := hb_ HB e0_ hb; (try clear hb); (try clear hb2); (try clear hk); (try clear hi))); try go_wp2_with (first | (go_at_call 7; (with_reducible refine (neumelaw23_heads.calls k  t524 _ ?side1 A4.out).mono ?_); (case side1 => first | (with_reducible exact hE) | exact sd_ (LaidE.below hE.out (bb_ HB.out e0_))); rintro e w5 ⟨rfl, hb⟩; replace HB := hb_ HB e0_ hb; (try clear hb); (try clear hb2); (try clear hk); (try clear hi))))
  go_ret
  exact ⟨by first | rfl | (simp [errW_none, errW_some] <;> rfl) | (simp [*, errW_none, errW_some] <;> rfl), by repeat (first | (with_reducible first | exact HB.out | apply ba_ | apply pd_ | apply d1_) | exact HB.out)⟩
 ·rw [if_neg c3] at H
  have c3b0 : decide (100 < (l0.length : Int)) = false := df_ c3
  have c3b1 : decide (100 < l0.length) = false := df_ (by omega)
  clear c3
  have H' := sd_ H
  clear H
  go_enter Tryd.func5, Tryd.ntmps5
  go_wp2
  repeat (go_quiet (fail); try go_wp2)
  go_loopg [5, 6] k (fun kq v5 v6 w' => ∃ (x5_1 : List Int) (x6_1 : Int), v6 = .int .i64 x6_1 ∧ Aside0 (neumelaw23_ChordMirror.l0 kq l0 a1 x5_1 x6_1 = some r) ∧ Aside0 (kq ≤ k) ∧ Aside0 (Kd.R (Kd.int .i64) 3 w' w.heap.size (fun _ => True) v5 x5_1) ∧ Aside0 (Below w.heap.size w w'))
  case atStart => exact ⟨(([] : List Int)), (wrap64 ((l0.length : Int) - 1)), (by first | rfl | (simp; done) | (simp [*]; done) | (simp [bne]; done)), H', ⟨Nat.le_refl _⟩, ⟨by first | exact Kd.R_nil _ _ _ _ _ | exact Kd.N_nil _ _ _ _ _ | exact Kd.V_nil _ _ _ _ _ | exact Kd.Q_nil _ _ _ _ _ | exact Kd.S_nil _ _ _ _ _⟩, ⟨by repeat (first | (with_reducible first | exact HB.out | apply ba_ | apply pd_ | apply d1_) | exact HB.out)⟩⟩
  case round =>
   clear H'
   try clear p2; try clear c3; try clear c3b0; try clear c3b1; try clear c5
   obtain ⟨x5_1, x6_1, rfl, HA, HK1, HO_5, HB⟩ := hrel
   cases gk with
   | zero => exact absurd HA.out (by simp [neumelaw23_ChordMirror.l0])
   | succ k1 =>
    have H := HA.out
    clear HA
    simp only [neumelaw23_ChordMirror.l0] at H
    by_cases c6 : x6_1 ≥ 0
    ·rw [if_pos c6] at H
     have c6b0 : decide (0 ≤ x6_1) = true := dt_ c6
     clear c6
     by_cases c7 : 0 ≤ x6_1
     ·rw [if_pos c7] at H
      have c7b0 : decide (0 ≤ x6_1) = true := dt_ c7
      clear c7
      by_cases c8 : x6_1 < (l0.length : Int)
      ·rw [if_pos c8] at H
       have c8b0 : decide (x6_1 < (l0.length : Int)) = true := dt_ c8
       clear c8
       by_cases c9 : (rd l0 x6_1) < (-1000)
       ·rw [if_pos c9] at H
        have c9b0 : decide ((rd l0 x6_1) < (-1000)) = true := dt_ c9
        clear c9
        replace H := ob_ H
        obtain ⟨t526, A100, H⟩ := H
        replace H : (some t526) = some r := H
        have A10 := sd_ A100
        clear A100
        obtain rfl := Option.some.inj H
        have p525 : 0 ≤ (x6_1 : Int) := od_ (by first | (with_reducible assumption) | assumption)
        have q525 : x6_1 < (l0.length : Int) := od_ (by first | (with_reducible assumption) | assumption)
        obtain ⟨ad525, e525, hx525_0⟩ := Kd.at_int HR0.out x6_1 p525 q525
        cases e525
        replace hx525_0 := (HB.out.cell (wb_ w _ hx525_0)).trans hx525_0
        replace p525 := eq_true p525
        replace q525 := eq_true q525
        go_wp2_with (first | (go_at_call 7; (with_reducible refine (neumelaw23_heads.calls k1  t526 _ ?side1 A10.out).mono ?_); (case side1 => first | (with_reducible exact hE) | exact sd_ (LaidE.below hE.out (bb_ HB.out e0_))); rintro e w11 ⟨rfl, hb⟩; replace HO_5 := sd_ (Kd.R_below (by (with_reducible repeat (first | apply Kd.R_alloc | apply Kd.R_drewN | apply Kd.R_drew)); exact HO_5.out) hb); replace HB := hb_ HB e0_ hb; (try clear hb); (try clear hb2); (try clear hk); (try clear hi)))
        repeat (go_quiet (first | (go_at_call 7; (with_reducible refine (neumelaw23_heads.calls k1  t526 _ ?side1 A10.out).mono ?_); (case side1 => first | (with_reducible exact hE) | exact sd_ (LaidE.below hE.out (bb_ HB.out e0_))); rintro e w11 ⟨rfl, hb⟩; replace HO_5 := sd_ (Kd.R_below (by (with_reducible repeat (first | apply Kd.R_alloc | apply Kd.R_drewN | apply Kd.R_drew)); exact HO_5.out) hb); replace HB := hb_ HB e0_ hb; (try clear hb); (try clear hb2); (try clear hk); (try clear hi))); try go_wp2_with (first | (go_at_call 7; (with_reducible refine (neumelaw23_heads.calls k1  t526 _ ?side1 A10.out).mono ?_); (case side1 => first | (with_reducible exact hE) | exact sd_ (LaidE.below hE.out (bb_ HB.out e0_))); rintro e w11 ⟨rfl, hb⟩; replace HO_5 := sd_ (Kd.R_below (by (with_reducible repeat (first | apply Kd.R_alloc | apply Kd.R_drewN | apply Kd.R_drew)); exact HO_5.out) hb); replace HB := hb_ HB e0_ hb; (try clear hb); (try clear hb2); (try clear hk); (try clear hi))))
        go_ret
        exact ⟨by first | rfl | (simp [errW_none, errW_some] <;> rfl) | (simp [*, errW_none, errW_some] <;> rfl), by repeat (first | (with_reducible first | exact HB.out | apply ba_ | apply pd_ | apply d1_) | exact HB.out)⟩
       ·rw [if_neg c9] at H
        have c9b0 : decide ((rd l0 x6_1) < (-1000)) = false := df_ c9
        clear c9
        by_cases c12 : (rd l0 x6_1) > 1000
        ·rw [if_pos c12] at H
         have c12b0 : decide (1000 < (rd l0 x6_1)) = true := dt_ c12
         clear c12
         replace H := ob_ H
         obtain ⟨t528, A130, H⟩ := H
         replace H : (some t528) = some r := H
         have A13 := sd_ A130
         clear A130
         obtain rfl := Option.some.inj H
         have p525 : 0 ≤ (x6_1 : Int) := od_ (by first | (with_reducible assumption) | assumption)
         have q525 : x6_1 < (l0.length : Int) := od_ (by first | (with_reducible assumption) | assumption)
         obtain ⟨ad525, e525, hx525_0⟩ := Kd.at_int HR0.out x6_1 p525 q525
         cases e525
         replace hx525_0 := (HB.out.cell (wb_ w _ hx525_0)).trans hx525_0
         replace p525 := eq_true p525
         replace q525 := eq_true q525
         have p527 : 0 ≤ (x6_1 : Int) := od_ (by first | (with_reducible assumption) | assumption)
         have q527 : x6_1 < (l0.length : Int) := od_ (by first | (with_reducible assumption) | assumption)
         obtain ⟨ad527, e527, hx527_0⟩ := Kd.at_int HR0.out x6_1 p527 q527
         obtain rfl : ad525 = ad527 := (by injection e527)
         replace hx527_0 := (HB.out.cell (wb_ w _ hx527_0)).trans hx527_0
         replace p527 := eq_true p527
         replace q527 := eq_true q527
         go_wp2_with (first | (go_at_call 7; (with_reducible refine (neumelaw23_heads.calls k1  t528 _ ?side1 A13.out).mono ?_); (case side1 => first | (with_reducible exact hE) | exact sd_ (LaidE.below hE.out (bb_ HB.out e0_))); rintro e w14 ⟨rfl, hb⟩; replace HO_5 := sd_ (Kd.R_below (by (with_reducible repeat (first | apply Kd.R_alloc | apply Kd.R_drewN | apply Kd.R_drew)); exact HO_5.out) hb); replace HB := hb_ HB e0_ hb; (try clear hb); (try clear hb2); (try clear hk); (try clear hi)))
         repeat (go_quiet (first | (go_at_call 7; (with_reducible refine (neumelaw23_heads.calls k1  t528 _ ?side1 A13.out).mono ?_); (case side1 => first | (with_reducible exact hE) | exact sd_ (LaidE.below hE.out (bb_ HB.out e0_))); rintro e w14 ⟨rfl, hb⟩; replace HO_5 := sd_ (Kd.R_below (by (with_reducible repeat (first | apply Kd.R_alloc | apply Kd.R_drewN | apply Kd.R_drew)); exact HO_5.out) hb); replace HB := hb_ HB e0_ hb; (try clear hb); (try clear hb2); (try clear hk); (try clear hi))); try go_wp2_with (first | (go_at_call 7; (with_reducible refine (neumelaw23_heads.calls k1  t528 _ ?side1 A13.out).mono ?_); (case side1 => first | (with_reducible exact hE) | exact sd_ (LaidE.below hE.out (bb_ HB.out e0_))); rintro e w14 ⟨rfl, hb⟩; replace HO_5 := sd_ (Kd.R_below (by (with_reducible repeat (first | apply Kd.R_alloc | apply Kd.R_drewN | apply Kd.R_drew)); exact HO_5.out) hb); replace HB := hb_ HB e0_ hb; (try clear hb); (try clear hb2); (try clear hk); (try clear hi))))
         go_ret
         exact ⟨by first | rfl | (simp [errW_none, errW_some] <;> rfl) | (simp [*, errW_none, errW_some] <;> rfl), by repeat (first | (with_reducible first | exact HB.out | apply ba_ | apply pd_ | apply d1_) | exact HB.out)⟩
        ·rw [if_neg c12] at H
         have c12b0 : decide (1000 < (rd l0 x6_1)) = false := df_ c12
         clear c12
         by_cases c15 : x5_1.length < 17592186044416
         ·rw [if_pos c15] at H
          have LMc15 := sd_ c15
          clear c15
          obtain ⟨y530, hy530⟩ : ∃ y_ : List Int, y_ = (x5_1 ++ [wrap64 (-(rd l0 x6_1))]) := ⟨_, rfl⟩
          replace H : (neumelaw23_ChordMirror.l0 k1 l0 a1 y530 (wrap64 (x6_1 - 1))) = some r := by first | (rw [hy530]; with_reducible exact H) | (have H2_ := (Option.bind_some _ _).symm.trans H; rw [hy530]; with_reducible exact H2_) | (have H2_ := (Option.bind_some _ _).symm.trans H; with_reducible exact H2_) | with_reducible exact H | (rw [hy530]; exact H) | exact H
          have Ny530 := sd_ hy530
          clear hy530
          have H' := sd_ H
          clear H
          have p525 : 0 ≤ (x6_1 : Int) := od_ (by first | (with_reducible assumption) | assumption)
          have q525 : x6_1 < (l0.length : Int) := od_ (by first | (with_reducible assumption) | assumption)
          obtain ⟨ad525, e525, hx525_0⟩ := Kd.at_int HR0.out x6_1 p525 q525
          cases e525
          replace hx525_0 := (HB.out.cell (wb_ w _ hx525_0)).trans hx525_0
          replace p525 := eq_true p525
          replace q525 := eq_true q525
          have p527 : 0 ≤ (x6_1 : Int) := od_ (by first | (with_reducible assumption) | assumption)
          have q527 : x6_1 < (l0.length : Int) := od_ (by first | (with_reducible assumption) | assumption)
          obtain ⟨ad527, e527, hx527_0⟩ := Kd.at_int HR0.out x6_1 p527 q527
          obtain rfl : ad525 = ad527 := (by injection e527)
          replace hx527_0 := (HB.out.cell (wb_ w _ hx527_0)).trans hx527_0
          replace p527 := eq_true p527
          replace q527 := eq_true q527
          have p529 : 0 ≤ (x6_1 : Int) := od_ (by first | (with_reducible assumption) | assumption)
          have q529 : x6_1 < (l0.length : Int) := od_ (by first | (with_reducible assumption) | assumption)
          obtain ⟨ad529, e529, hx529_0⟩ := Kd.at_int HR0.out x6_1 p529 q529
          obtain rfl : ad525 = ad529 := (by injection e529)
          replace hx529_0 := (HB.out.cell (wb_ w _ hx529_0)).trans hx529_0
          replace p529 := eq_true p529
          replace q529 := eq_true q529
          go_wp2_with (first | ((with_reducible refine gate_builtin (b := .append) (xs := #[.tmp 36, .tmp 42]) rfl ?_); (try (refine gate_guard (by rfl) ?_; dsimp only)); at_builtin; refine Kd.R_append (Kd.int .i64) (w0 := w) w.heap.size rfl (.tmp 36) (.tmp 42) 22 3 (.int .i64 0) 8 rfl Tryd.underlying22 info3 rfl (by decide) (by omega) u5 x5_1 (wrap64 (-(rd l0 x6_1))) [.int .i64 (wrap64 (-(rd l0 x6_1)))] (fun _ => True) (fun _ => False) rfl rfl ?aP (fun _ hk => hk.elim) ?aF ?aO ?aB ?aS ?aL ?_; (case aP => exact rfl); (case aB => exact (bb_ HB.out e0_)); (case aF => exact (fun _ _ => trivial)); (case aO => exact (by (with_reducible repeat (first | apply Kd.R_alloc | apply Kd.R_drewN | apply Kd.R_drew)); exact HO_5.out)); (case aS => exact (bz_ (bb_ HB.out e0_))); (case aL => have := LMc15.out; omega); intro v531 w16 ho hb hg hat; rw [← Ny530.out] at ho; have HO532 := sd_ (ho); replace HB := sd_ (hb); clear HO_5; clear ho hb hg hat))
          repeat (go_quiet (first | ((with_reducible refine gate_builtin (b := .append) (xs := #[.tmp 36, .tmp 42]) rfl ?_); (try (refine gate_guard (by rfl) ?_; dsimp only)); at_builtin; refine Kd.R_append (Kd.int .i64) (w0 := w) w.heap.size rfl (.tmp 36) (.tmp 42) 22 3 (.int .i64 0) 8 rfl Tryd.underlying22 info3 rfl (by decide) (by omega) u5 x5_1 (wrap64 (-(rd l0 x6_1))) [.int .i64 (wrap64 (-(rd l0 x6_1)))] (fun _ => True) (fun _ => False) rfl rfl ?aP (fun _ hk => hk.elim) ?aF ?aO ?aB ?aS ?aL ?_; (case aP => exact rfl); (case aB => exact (bb_ HB.out e0_)); (case aF => exact (fun _ _ => trivial)); (case aO => exact (by (with_reducible repeat (first | apply Kd.R_alloc | apply Kd.R_drewN | apply Kd.R_drew)); exact HO_5.out)); (case aS => exact (bz_ (bb_ HB.out e0_))); (case aL => have := LMc15.out; omega); intro v531 w16 ho hb hg hat; rw [← Ny530.out] at ho; have HO532 := sd_ (ho); replace HB := sd_ (hb); clear HO_5; clear ho hb hg hat)); try go_wp2_with (first | ((with_reducible refine gate_builtin (b := .append) (xs := #[.tmp 36, .tmp 42]) rfl ?_); (try (refine gate_guard (by rfl) ?_; dsimp only)); at_builtin; refine Kd.R_append (Kd.int .i64) (w0 := w) w.heap.size rfl (.tmp 36) (.tmp 42) 22 3 (.int .i64 0) 8 rfl Tryd.underlying22 info3 rfl (by decide) (by omega) u5 x5_1 (wrap64 (-(rd l0 x6_1))) [.int .i64 (wrap64 (-(rd l0 x6_1)))] (fun _ => True) (fun _ => False) rfl rfl ?aP (fun _ hk => hk.elim) ?aF ?aO ?aB ?aS ?aL ?_; (case aP => exact rfl); (case aB => exact (bb_ HB.out e0_)); (case aF => exact (fun _ _ => trivial)); (case aO => exact (by (with_reducible repeat (first | apply Kd.R_alloc | apply Kd.R_drewN | apply Kd.R_drew)); exact HO_5.out)); (case aS => exact (bz_ (bb_ HB.out e0_))); (case aL => have := LMc15.out; omega); intro v531 w16 ho hb hg hat; rw [← Ny530.out] at ho; have HO532 := sd_ (ho); replace HB := sd_ (hb); clear HO_5; clear ho hb hg hat)))
          go_roundg k1
          case measure => have := HK1.out; omega
          case rel => exact ⟨(y530), (wrap64 (x6_1 - 1)), (by first | rfl | (simp; done) | (simp [*]; done) | (simp [bne]; done)), H', ⟨by have := HK1.out; omega⟩, ⟨by (with_reducible repeat (first | apply Kd.R_alloc | apply Kd.R_drewN | apply Kd.R_drew)); exact HO532.out⟩, ⟨by repeat (first | (with_reducible first | exact HB.out | apply ba_ | apply pd_ | apply d1_) | exact HB.out)⟩⟩
         ·rw [if_neg c15] at H
          exact absurd H (by simp)
      ·rw [if_neg c8] at H
       exact absurd H (by simp)
     ·rw [if_neg c7] at H
      exact absurd H (by simp)
    ·rw [if_neg c6] at H
     have c6b0 : decide (0 ≤ x6_1) = false := df_ c6
     clear c6
     replace H := ob_ H
     obtain ⟨⟨t533, t534⟩, A170, H⟩ := H
     replace H : ((chord_Sides.f k1 x5_1 (!a1)).bind fun bt537 => (if t534 = bt537.2 then (neumelaw23_ChordMirror.j1 k1 t533 bt537.1 ((t533.length : Int) != (bt537.1.length : Int))) else (neumelaw23_ChordMirror.j1 k1 t533 bt537.1 true))) = some r := H
     have A17 := sd_ A170
     clear A170
     replace H := ob_ H
     obtain ⟨⟨t537, t538⟩, A180, H⟩ := H
     replace H : (if t534 = t538 then (neumelaw23_ChordMirror.j1 k1 t533 t537 ((t533.length : Int) != (t537.length : Int))) else (neumelaw23_ChordMirror.j1 k1 t533 t537 true)) = some r := H
     have A18 := sd_ A180
     clear A180
     have HC19 := sd_ H
     clear H
     go_upto_region 12 with (first | (go_at_call 8; (with_reducible refine (chord_Sides.calls k1 _ _ l0 a1 t533 t534 _ ?side1 ?side2 A17.out).mono ?_); (case side1 => repeat (first | exact (Kd.C_below HR0.out HB.out) | (with_reducible refine Kd.C_alloc ?_ _) | (with_reducible refine Kd.C_drewN ?_ _) | (with_reducible refine Kd.C_drew ?_))); (case side2 => exact HC0.out); rintro e w20 ⟨v535, rfl, ho0, hb⟩; have HO536 := sd_ (Kd.R_lower (Kd.R_new' ho0 (Kd.R_lt (by (with_reducible repeat (first | apply Kd.R_alloc | apply Kd.R_drewN | apply Kd.R_drew)); exact HO_5.out))) (bz_ (bb_ HB.out e0_))); replace HO_5 := sd_ (Kd.R_elder' (by (with_reducible repeat (first | apply Kd.R_alloc | apply Kd.R_drewN | apply Kd.R_drew)); exact HO_5.out) (Kd.R_base ho0) hb); replace HB := hb_ HB e0_ hb; (try clear hb); (try clear hb2); (try clear hk); (try clear hi); (try clear ho0); obtain ⟨Ao21, co21, eo21⟩ := Kd.R_slice HO_5.out; subst eo21) | (go_at_call 8; (with_reducible refine (chord_Sides.calls k1 _ _ x5_1 (!a1) t537 t538 _ ?side1 ?side2 A18.out).mono ?_); (case side1 => repeat (first | exact (Kd.R_reads' HO_5.out).2.2 | (with_reducible refine Kd.C_alloc ?_ _) | (with_reducible refine Kd.C_drewN ?_ _) | (with_reducible refine Kd.C_drew ?_))); (case side2 => exact (Kd.R_reads' HO_5.out).2.1); rintro e w22 ⟨v539, rfl, ho0, hb⟩; have HO540 := sd_ (Kd.R_lower (Kd.R_new' (Kd.R_new' ho0 (Kd.R_lt (by (with_reducible repeat (first | apply Kd.R_alloc | apply Kd.R_drewN | apply Kd.R_drew)); exact HO_5.out))) (Kd.R_lt (by (with_reducible repeat (first | apply Kd.R_alloc | apply Kd.R_drewN | apply Kd.R_drew)); exact HO536.out))) (bz_ (bb_ HB.out e0_))); replace HO_5 := sd_ (Kd.R_elder' (by (with_reducible repeat (first | apply Kd.R_alloc | apply Kd.R_drewN | apply Kd.R_drew)); exact HO_5.out) (Kd.R_base ho0) hb); replace HO536 := sd_ (Kd.R_elder' (by (with_reducible repeat (first | apply Kd.R_alloc | apply Kd.R_drewN | apply Kd.R_drew)); exact HO536.out) (Kd.R_base ho0) hb); replace HB := hb_ HB e0_ hb; (try clear hb); (try clear hb2); (try clear hk); (try clear hi); (try clear ho0)))
     repeat (go_quiet (first | (go_at_call 8; (with_reducible refine (chord_Sides.calls k1 _ _ l0 a1 t533 t534 _ ?side1 ?side2 A17.out).mono ?_); (case side1 => repeat (first | exact (Kd.C_below HR0.out HB.out) | (with_reducible refine Kd.C_alloc ?_ _) | (with_reducible refine Kd.C_drewN ?_ _) | (with_reducible refine Kd.C_drew ?_))); (case side2 => exact HC0.out); rintro e w20 ⟨v535, rfl, ho0, hb⟩; have HO536 := sd_ (Kd.R_lower (Kd.R_new' ho0 (Kd.R_lt (by (with_reducible repeat (first | apply Kd.R_alloc | apply Kd.R_drewN | apply Kd.R_drew)); exact HO_5.out))) (bz_ (bb_ HB.out e0_))); replace HO_5 := sd_ (Kd.R_elder' (by (with_reducible repeat (first | apply Kd.R_alloc | apply Kd.R_drewN | apply Kd.R_drew)); exact HO_5.out) (Kd.R_base ho0) hb); replace HB := hb_ HB e0_ hb; (try clear hb); (try clear hb2); (try clear hk); (try clear hi); (try clear ho0); obtain ⟨Ao21, co21, eo21⟩ := Kd.R_slice HO_5.out; subst eo21) | (go_at_call 8; (with_reducible refine (chord_Sides.calls k1 _ _ x5_1 (!a1) t537 t538 _ ?side1 ?side2 A18.out).mono ?_); (case side1 => repeat (first | exact (Kd.R_reads' HO_5.out).2.2 | (with_reducible refine Kd.C_alloc ?_ _) | (with_reducible refine Kd.C_drewN ?_ _) | (with_reducible refine Kd.C_drew ?_))); (case side2 => exact (Kd.R_reads' HO_5.out).2.1); rintro e w22 ⟨v539, rfl, ho0, hb⟩; have HO540 := sd_ (Kd.R_lower (Kd.R_new' (Kd.R_new' ho0 (Kd.R_lt (by (with_reducible repeat (first | apply Kd.R_alloc | apply Kd.R_drewN | apply Kd.R_drew)); exact HO_5.out))) (Kd.R_lt (by (with_reducible repeat (first | apply Kd.R_alloc | apply Kd.R_drewN | apply Kd.R_drew)); exact HO536.out))) (bz_ (bb_ HB.out e0_))); replace HO_5 := sd_ (Kd.R_elder' (by (with_reducible repeat (first | apply Kd.R_alloc | apply Kd.R_drewN | apply Kd.R_drew)); exact HO_5.out) (Kd.R_base ho0) hb); replace HO536 := sd_ (Kd.R_elder' (by (with_reducible repeat (first | apply Kd.R_alloc | apply Kd.R_drewN | apply Kd.R_drew)); exact HO536.out) (Kd.R_base ho0) hb); replace HB := hb_ HB e0_ hb; (try clear hb); (try clear hb2); (try clear hk); (try clear hi); (try clear ho0))); go_upto_region 12 with (first | (go_at_call 8; (with_reducible refine (chord_Sides.calls k1 _ _ l0 a1 t533 t534 _ ?side1 ?side2 A17.out).mono ?_); (case side1 => repeat (first | exact (Kd.C_below HR0.out HB.out) | (with_reducible refine Kd.C_alloc ?_ _) | (with_reducible refine Kd.C_drewN ?_ _) | (with_reducible refine Kd.C_drew ?_))); (case side2 => exact HC0.out); rintro e w20 ⟨v535, rfl, ho0, hb⟩; have HO536 := sd_ (Kd.R_lower (Kd.R_new' ho0 (Kd.R_lt (by (with_reducible repeat (first | apply Kd.R_alloc | apply Kd.R_drewN | apply Kd.R_drew)); exact HO_5.out))) (bz_ (bb_ HB.out e0_))); replace HO_5 := sd_ (Kd.R_elder' (by (with_reducible repeat (first | apply Kd.R_alloc | apply Kd.R_drewN | apply Kd.R_drew)); exact HO_5.out) (Kd.R_base ho0) hb); replace HB := hb_ HB e0_ hb; (try clear hb); (try clear hb2); (try clear hk); (try clear hi); (try clear ho0); obtain ⟨Ao21, co21, eo21⟩ := Kd.R_slice HO_5.out; subst eo21) | (go_at_call 8; (with_reducible refine (chord_Sides.calls k1 _ _ x5_1 (!a1) t537 t538 _ ?side1 ?side2 A18.out).mono ?_); (case side1 => repeat (first | exact (Kd.R_reads' HO_5.out).2.2 | (with_reducible refine Kd.C_alloc ?_ _) | (with_reducible refine Kd.C_drewN ?_ _) | (with_reducible refine Kd.C_drew ?_))); (case side2 => exact (Kd.R_reads' HO_5.out).2.1); rintro e w22 ⟨v539, rfl, ho0, hb⟩; have HO540 := sd_ (Kd.R_lower (Kd.R_new' (Kd.R_new' ho0 (Kd.R_lt (by (with_reducible repeat (first | apply Kd.R_alloc | apply Kd.R_drewN | apply Kd.R_drew)); exact HO_5.out))) (Kd.R_lt (by (with_reducible repeat (first | apply Kd.R_alloc | apply Kd.R_drewN | apply Kd.R_drew)); exact HO536.out))) (bz_ (bb_ HB.out e0_))); replace HO_5 := sd_ (Kd.R_elder' (by (with_reducible repeat (first | apply Kd.R_alloc | apply Kd.R_drewN | apply Kd.R_drew)); exact HO_5.out) (Kd.R_base ho0) hb); replace HO536 := sd_ (Kd.R_elder' (by (with_reducible repeat (first | apply Kd.R_alloc | apply Kd.R_drewN | apply Kd.R_drew)); exact HO536.out) (Kd.R_base ho0) hb); replace HB := hb_ HB e0_ hb; (try clear hb); (try clear hb2); (try clear hk); (try clear hi); (try clear ho0))))
     (try simp only [Act.put, ls_, lz_, lc_])
     go_cut [66] (fun v66 wc => ∃ (kq : Nat) (x66_18 : Bool), v66 = .bool x66_18 ∧ Aside0 (neumelaw23_ChordMirror.j1 kq t533 t537 x66_18 = some r) ∧ Aside0 (kq ≤ k1) ∧ Aside0 (Kd.R (Kd.int .i64) 3 wc w.heap.size (fun k_ => some k_ ≠ (v539 : Value).ownBlock) v535 t533) ∧ Aside0 (Kd.R (Kd.int .i64) 3 wc w.heap.size (fun k_ => some k_ ≠ (v535 : Value).ownBlock) v539 t537) ∧ Aside0 (Below w.heap.size w wc))
     case first =>
      have H := HC19.out
      clear HC19
      by_cases c23 : t534 = t538
      ·rw [if_pos c23] at H
       have c23b0 : (t534 == t538) = true := beq_iff_eq.mpr c23
       have c23b1 : (t534 != t538) = false := bne_eq_false_iff_eq.mpr c23
       clear c23
       (first | rw [c23b0] | (simp only [i64_w, i32_w]; rw [c23b0]) | skip)
       have H' := sd_ H
       clear H
       obtain ⟨Ao24, co24, eo24⟩ := Kd.R_slice HO536.out
       subst eo24
       obtain ⟨Ao25, co25, eo25⟩ := Kd.R_slice HO540.out
       subst eo25
       go_wp2
       repeat (go_quiet (fail); try go_wp2)
       go_meet
       case rel => exact ⟨_, (((t533.length : Int) != (t537.length : Int))), (by first | rfl | (simp; done) | (simp [*]; done) | (simp [bne]; done)), H', ⟨by have := HK1.out; first | omega | exact Nat.le_refl _⟩, ⟨by (with_reducible repeat (first | apply Kd.R_alloc | apply Kd.R_drewN | apply Kd.R_drew)); exact Kd.R_mono HO536.out (fun _ hk => hk.2)⟩, ⟨by (with_reducible repeat (first | apply Kd.R_alloc | apply Kd.R_drewN | apply Kd.R_drew)); exact Kd.R_mono HO540.out (fun _ hk => hk.2)⟩, ⟨by repeat (first | (with_reducible first | exact HB.out | apply ba_ | apply pd_ | apply d1_) | exact HB.out)⟩⟩
      ·rw [if_neg c23] at H
       have c23b0 : (t534 == t538) = false := beq_eq_false_iff_ne.mpr c23
       have c23b1 : (t534 != t538) = true := bne_iff_ne.mpr c23
       (first | rw [c23b0] | (simp only [i64_w, i32_w]; rw [c23b0]) | skip)
       have H' := sd_ H
       clear H
       go_wp2
       repeat (go_quiet (fail); try go_wp2)
       go_meet
       case rel => exact ⟨_, (true), (by first | rfl | (simp; done) | (simp [*]; done) | (simp [bne]; done)), H', ⟨by have := HK1.out; first | omega | exact Nat.le_refl _⟩, ⟨by (with_reducible repeat (first | apply Kd.R_alloc | apply Kd.R_drewN | apply Kd.R_drew)); exact Kd.R_mono HO536.out (fun _ hk => hk.2)⟩, ⟨by (with_reducible repeat (first | apply Kd.R_alloc | apply Kd.R_drewN | apply Kd.R_drew)); exact Kd.R_mono HO540.out (fun _ hk => hk.2)⟩, ⟨by repeat (first | (with_reducible first | exact HB.out | apply ba_ | apply pd_ | apply d1_) | exact HB.out)⟩⟩
     case rest =>
      clear HC19
      try clear c1; try clear c2; try clear p2; try clear c3; try clear c3b0; try clear c3b1; try clear c5; try clear p5; try clear q5; try clear hx5; try clear c6; try clear c6b0; try clear p6; try clear c7; try clear c7b0; try clear c8; try clear c8b0; try clear c9; try clear c9b0; try clear c12; try clear c12b0; try clear c15; try clear c23; try clear c23b0; try clear c23b1; try clear hx525_0; try clear hx527_0; try clear hx529_0; try clear p2; try clear p525; try clear p527; try clear p529; try clear q525; try clear q527; try clear q529
      obtain ⟨kq, x66_18, rfl, HA, HJ18, HO_7, HO_9, HB⟩ := hcut
      cases kq with
      | zero => exact absurd HA.out (by simp [neumelaw23_ChordMirror.j1])
      | succ kj18 =>
       have H := HA.out
       clear HA
       simp only [neumelaw23_ChordMirror.j1] at H
       by_cases c26 : x66_18 = true
       ·subst c26
        have H1 : (some false) = some r := by rw [if_pos rfl] at H; exact H
        clear H; have H := H1; clear H1
        exact absurd ((Option.some.inj H).trans hxt.out) (by decide)
       ·replace c26 := bf_ c26
        subst c26
        have H1 : (neumelaw23_ChordMirror.l1 kj18 t533 t537 0) = some r := by rw [if_neg (show ¬ (false = true) by decide)] at H; exact H
        clear H; have H := H1; clear H1
        have H' := sd_ H
        clear H
        go_wp2
        repeat (go_quiet (fail); try go_wp2)
        go_loopg [11] kj18 (fun kq v11 w' => ∃ (x11_3 : Int), v11 = .int .i64 x11_3 ∧ Aside0 (neumelaw23_ChordMirror.l1 kq t533 t537 x11_3 = some r) ∧ Aside0 (kq ≤ kj18) ∧ Aside0 (Kd.R (Kd.int .i64) 3 w' w.heap.size (fun k_ => some k_ ≠ (v539 : Value).ownBlock) v535 t533) ∧ Aside0 (Kd.R (Kd.int .i64) 3 w' w.heap.size (fun k_ => some k_ ≠ (v535 : Value).ownBlock) v539 t537) ∧ Aside0 (Below w.heap.size w w'))
        case atStart => exact ⟨(0), (by first | rfl | (simp; done) | (simp [*]; done) | (simp [bne]; done)), H', ⟨Nat.le_refl _⟩, ⟨by (with_reducible repeat (first | apply Kd.R_alloc | apply Kd.R_drewN | apply Kd.R_drew)); exact HO_7.out⟩, ⟨by (with_reducible repeat (first | apply Kd.R_alloc | apply Kd.R_drewN | apply Kd.R_drew)); exact HO_9.out⟩, ⟨by repeat (first | (with_reducible first | exact HB.out | apply ba_ | apply pd_ | apply d1_) | exact HB.out)⟩⟩
        case round =>
         clear H'
         try clear c1; try clear c2; try clear p2; try clear c3; try clear c3b0; try clear c3b1; try clear c5; try clear p5; try clear q5; try clear hx5; try clear c6; try clear c6b0; try clear p6; try clear c7; try clear c7b0; try clear c8; try clear c8b0; try clear c9; try clear c9b0; try clear c12; try clear c12b0; try clear c15; try clear c23; try clear c23b0; try clear c23b1; try clear c26; try clear hx525_0; try clear hx527_0; try clear hx529_0; try clear p2; try clear p5; try clear p525; try clear p527; try clear p529; try clear p6; try clear q5; try clear q525; try clear q527; try clear q529
         obtain ⟨x11_3, rfl, HA, HK3, HO_7, HO_9, HB⟩ := hrel
         cases gk with
         | zero => exact absurd HA.out (by simp [neumelaw23_ChordMirror.l1])
         | succ k3 =>
          have H := HA.out
          clear HA
          simp only [neumelaw23_ChordMirror.l1] at H
          by_cases c27 : x11_3 < (t533.length : Int)
          ·rw [if_pos c27] at H
           have c27b0 : decide (x11_3 < (t533.length : Int)) = true := dt_ c27
           clear c27
           by_cases c28 : 0 ≤ x11_3
           ·rw [if_pos c28] at H
            have c28b0 : decide (0 ≤ x11_3) = true := dt_ c28
            clear c28
            obtain ⟨ji29, hji29⟩ : ∃ j_ : Int, (wrap64 ((wrap64 ((t537.length : Int) - 1)) - x11_3)) = j_ := ⟨_, rfl⟩
            replace H : (if 0 ≤ (ji29) then (if (ji29) < (t537.length : Int) then (if (rd t533 x11_3) = (rd t537 (ji29)) then (neumelaw23_ChordMirror.l1 k3 t533 t537 (wrap64 (x11_3 + 1))) else (some false)) else (none)) else (none)) = some r := by first | (rw [hji29] at H; exact H) | (simp only [hji29] at H ⊢; exact H)
            have hji29w : (IntKind.i64.wrap ((wrap64 ((t537.length : Int) - 1)) - x11_3)) = ji29 := (i64_w _).trans hji29
            by_cases c30 : 0 ≤ (ji29)
            ·rw [if_pos c30] at H
             have c30b0 : decide (0 ≤ (ji29)) = true := dt_ c30
             clear c30
             by_cases c31 : (ji29) < (t537.length : Int)
             ·rw [if_pos c31] at H
              have c31b0 : decide ((ji29) < (t537.length : Int)) = true := dt_ c31
              clear c31
              by_cases c32 : (rd t533 x11_3) = (rd t537 (ji29))
              ·rw [if_pos c32] at H
               have c32b0 : ((rd t533 x11_3) == (rd t537 (ji29))) = true := beq_iff_eq.mpr c32
               have c32b1 : ((rd t533 x11_3) != (rd t537 (ji29))) = false := bne_eq_false_iff_eq.mpr c32
               clear c32
               have H' := sd_ H
               clear H
               obtain ⟨Ao33, co33, eo33⟩ := Kd.R_slice HO_7.out
               subst eo33
               have p541 : 0 ≤ (x11_3 : Int) := od_ (by first | (with_reducible assumption) | assumption)
               have q541 : x11_3 < (t533.length : Int) := od_ (by first | (with_reducible assumption) | assumption)
               obtain ⟨ad541, e541, hx541_0⟩ := Kd.at_int (Kd.R_reads' HO_7.out).2.2 x11_3 p541 q541
               cases e541
               replace p541 := eq_true p541
               replace q541 := eq_true q541
               obtain ⟨Ao34, co34, eo34⟩ := Kd.R_slice HO_9.out
               subst eo34
               have p542 : 0 ≤ ((ji29) : Int) := od_ (by first | (with_reducible assumption) | assumption)
               have q542 : (ji29) < (t537.length : Int) := od_ (by first | (with_reducible assumption) | assumption)
               obtain ⟨ad542, e542, hx542_0⟩ := Kd.at_int (Kd.R_reads' HO_9.out).2.2 (ji29) p542 q542
               cases e542
               replace p542 := eq_true p542
               replace q542 := eq_true q542
               go_wp2
               repeat (go_quiet (fail); try go_wp2)
               go_roundg k3
               case measure => have := HK1.out; have := HJ18.out; have := HK3.out; omega
               case rel => exact ⟨(wrap64 (x11_3 + 1)), (by first | rfl | (simp; done) | (simp [*]; done) | (simp [bne]; done)), H', ⟨by have := HK1.out; have := HJ18.out; have := HK3.out; omega⟩, ⟨by (with_reducible repeat (first | apply Kd.R_alloc | apply Kd.R_drewN | apply Kd.R_drew)); exact HO_7.out⟩, ⟨by (with_reducible repeat (first | apply Kd.R_alloc | apply Kd.R_drewN | apply Kd.R_drew)); exact HO_9.out⟩, ⟨by repeat (first | (with_reducible first | exact HB.out | apply ba_ | apply pd_ | apply d1_) | exact HB.out)⟩⟩
              ·rw [if_neg c32] at H
               have c32b0 : ((rd t533 x11_3) == (rd t537 (ji29))) = false := beq_eq_false_iff_ne.mpr c32
               have c32b1 : ((rd t533 x11_3) != (rd t537 (ji29))) = true := bne_iff_ne.mpr c32
               exact absurd ((Option.some.inj H).trans hxt.out) (by decide)
             ·rw [if_neg c31] at H
              exact absurd H (by simp)
            ·rw [if_neg c30] at H
             exact absurd H (by simp)
           ·rw [if_neg c28] at H
            exact absurd H (by simp)
          ·rw [if_neg c27] at H
           have c27b0 : decide (x11_3 < (t533.length : Int)) = false := df_ c27
           clear c27
           replace H := ob_ H
           obtain ⟨t543, A350, H⟩ := H
           replace H : (some t543) = some r := H
           have A35 := sd_ A350
           clear A350
           obtain rfl := Option.some.inj H
           obtain ⟨Ao36, co36, eo36⟩ := Kd.R_slice HO_7.out
           subst eo36
           go_wp2_with (first | (go_at_call 7; (with_reducible refine (neumelaw23_heads.calls k3  t543 _ ?side1 A35.out).mono ?_); (case side1 => first | (with_reducible exact hE) | exact sd_ (LaidE.below hE.out (bb_ HB.out e0_))); rintro e w37 ⟨rfl, hb⟩; replace HO_7 := sd_ (Kd.R_below (by (with_reducible repeat (first | apply Kd.R_alloc | apply Kd.R_drewN | apply Kd.R_drew)); exact HO_7.out) hb); replace HO_9 := sd_ (Kd.R_below (by (with_reducible repeat (first | apply Kd.R_alloc | apply Kd.R_drewN | apply Kd.R_drew)); exact HO_9.out) hb); replace HB := hb_ HB e0_ hb; (try clear hb); (try clear hb2); (try clear hk); (try clear hi)))
           repeat (go_quiet (first | (go_at_call 7; (with_reducible refine (neumelaw23_heads.calls k3  t543 _ ?side1 A35.out).mono ?_); (case side1 => first | (with_reducible exact hE) | exact sd_ (LaidE.below hE.out (bb_ HB.out e0_))); rintro e w37 ⟨rfl, hb⟩; replace HO_7 := sd_ (Kd.R_below (by (with_reducible repeat (first | apply Kd.R_alloc | apply Kd.R_drewN | apply Kd.R_drew)); exact HO_7.out) hb); replace HO_9 := sd_ (Kd.R_below (by (with_reducible repeat (first | apply Kd.R_alloc | apply Kd.R_drewN | apply Kd.R_drew)); exact HO_9.out) hb); replace HB := hb_ HB e0_ hb; (try clear hb); (try clear hb2); (try clear hk); (try clear hi))); try go_wp2_with (first | (go_at_call 7; (with_reducible refine (neumelaw23_heads.calls k3  t543 _ ?side1 A35.out).mono ?_); (case side1 => first | (with_reducible exact hE) | exact sd_ (LaidE.below hE.out (bb_ HB.out e0_))); rintro e w37 ⟨rfl, hb⟩; replace HO_7 := sd_ (Kd.R_below (by (with_reducible repeat (first | apply Kd.R_alloc | apply Kd.R_drewN | apply Kd.R_drew)); exact HO_7.out) hb); replace HO_9 := sd_ (Kd.R_below (by (with_reducible repeat (first | apply Kd.R_alloc | apply Kd.R_drewN | apply Kd.R_drew)); exact HO_9.out) hb); replace HB := hb_ HB e0_ hb; (try clear hb); (try clear hb2); (try clear hk); (try clear hi))))
           go_ret
           exact ⟨by first | rfl | (simp [errW_none, errW_some] <;> rfl) | (simp [*, errW_none, errW_some] <;> rfl), by repeat (first | (with_reducible first | exact HB.out | apply ba_ | apply pd_ | apply d1_) | exact HB.out)⟩

end Go.Proofs.YtcokemaiploejaaDoor.P
