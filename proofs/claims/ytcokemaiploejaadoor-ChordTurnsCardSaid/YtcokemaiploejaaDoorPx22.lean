-- Written by a program of this session (wip/tools/xprint.py, over the kit's print): Lean checks it.
import Derived.Test.YtcokemaiploejaaDoorPx0
import Derived.Test.YtcokemaiploejaaDoorPx2
import Derived.Test.YtcokemaiploejaaDoorPx13
import Derived.Test.YtcokemaiploejaaDoorPx18
namespace Go.Proofs.YtcokemaiploejaaDoor.P
open Go.RowKit Go.Proofs.YtcokemaiploejaaDoorW.PrintWords Go.Proofs.YtcokemaiploejaaDoorW.PrintLast Go.Proofs.YtcokemaiploejaaDoorW.PrintMore
attribute [local go_sem] max2_int min2_int max_two min_two max_three min_three max_four min_four   -- for this text's walks alone
set_option linter.unusedVariables false
set_option linter.unusedSimpArgs false

/-! ### neumelaw23_ChordTurns: function 6 -/
mutual
def neumelaw23_ChordTurns.l0 : Nat → List Int → List Int → Int → Option (Bool)
 | 0, _, _, _ => none
 | k + 1, x0, x5, x7 => if x7 < (x5.length : Int) then (if x7 > 0 then (if 0 ≤ x7 then (if x7 < (x0.length : Int) then (if 0 ≤ (wrap64 (x7 - 1)) then (if (wrap64 (x7 - 1)) < (x0.length : Int) then (neumelaw23_ChordTurns.j1 k x0 x5 x7 false (decide ((wrap64 ((rd x0 x7) - (rd x0 (wrap64 (x7 - 1))))) ≤ 1))) else (none)) else (none)) else (none)) else (none)) else (neumelaw23_ChordTurns.j1 k x0 x5 x7 false false)) else ((neumelaw23_heads.f k).bind fun t550 => (some t550))
def neumelaw23_ChordTurns.j1 : Nat → List Int → List Int → Int → Bool → Bool → Option (Bool)
 | 0, _, _, _, _, _ => none
 | k + 1, x0, x5, x7, x8, x52 => if x52 = true then (if 0 ≤ x7 then (if x7 < (x5.length : Int) then (if (rd x5 x7) = 0 then (if 0 ≤ (wrap64 (x7 - 1)) then (if (wrap64 (x7 - 1)) < (x5.length : Int) then (if (rd x5 (wrap64 (x7 - 1))) = 0 then (some false) else (neumelaw23_ChordTurns.j2 k x0 x5 x7 true)) else (none)) else (none)) else (neumelaw23_ChordTurns.j2 k x0 x5 x7 true)) else (none)) else (none)) else (neumelaw23_ChordTurns.j2 k x0 x5 x7 x8)
def neumelaw23_ChordTurns.j2 : Nat → List Int → List Int → Int → Bool → Option (Bool)
 | 0, _, _, _, _ => none
 | k + 1, x0, x5, x7, x8 => if (wrap64 (x7 + 1)) < (x0.length : Int) then (if 0 ≤ (wrap64 (x7 + 1)) then (if 0 ≤ x7 then (if x7 < (x0.length : Int) then (neumelaw23_ChordTurns.j3 k x0 x5 x7 x8 (decide ((wrap64 ((rd x0 (wrap64 (x7 + 1))) - (rd x0 x7))) ≤ 1))) else (none)) else (none)) else (none)) else (neumelaw23_ChordTurns.j3 k x0 x5 x7 x8 false)
def neumelaw23_ChordTurns.j3 : Nat → List Int → List Int → Int → Bool → Bool → Option (Bool)
 | 0, _, _, _, _, _ => none
 | k + 1, x0, x5, x7, x8, x83 => if x83 = true then (if 0 ≤ x7 then (if x7 < (x5.length : Int) then (if (rd x5 x7) < 0 then (some false) else (if (rd x5 x7) > 1 then (some false) else (neumelaw23_ChordTurns.l0 k x0 x5 (wrap64 (x7 + 1))))) else (none)) else (none)) else (if 0 ≤ x7 then (if x7 < (x5.length : Int) then (if (rd x5 x7) < 0 then (some false) else (if (rd x5 x7) > 1 then (some false) else (if x8 = true then (neumelaw23_ChordTurns.l0 k x0 x5 (wrap64 (x7 + 1))) else (if (rd x5 x7) = 0 then (neumelaw23_ChordTurns.l0 k x0 x5 (wrap64 (x7 + 1))) else (some false))))) else (none)) else (none))
end
def neumelaw23_ChordTurns.f (k : Nat) (l0 : List Int) (a1 : Bool) : Option (Bool) := if (l0.length : Int) > 100 then ((neumelaw23_heads.f k).bind fun t544 => (some t544)) else ((chord_Sides.f k l0 a1).bind fun bt545 => (if bt545.2 = 0 then (if (bt545.1.length : Int) = (l0.length : Int) then (neumelaw23_ChordTurns.l0 k l0 bt545.1 0) else (some false)) else (if (bt545.1.length : Int) = 0 then ((neumelaw23_heads.f k).bind fun t549 => (some t549)) else (some false))))
theorem neumelaw23_ChordTurns.mono_l : ∀ k, (∀ y0 y1 y2, LeO (neumelaw23_ChordTurns.l0 k y0 y1 y2) (neumelaw23_ChordTurns.l0 (k + 1) y0 y1 y2)) ∧ (∀ y0 y1 y2 y3 y4, LeO (neumelaw23_ChordTurns.j1 k y0 y1 y2 y3 y4) (neumelaw23_ChordTurns.j1 (k + 1) y0 y1 y2 y3 y4)) ∧ (∀ y0 y1 y2 y3, LeO (neumelaw23_ChordTurns.j2 k y0 y1 y2 y3) (neumelaw23_ChordTurns.j2 (k + 1) y0 y1 y2 y3)) ∧ (∀ y0 y1 y2 y3 y4, LeO (neumelaw23_ChordTurns.j3 k y0 y1 y2 y3 y4) (neumelaw23_ChordTurns.j3 (k + 1) y0 y1 y2 y3 y4))
 | 0 => ⟨fun _ _ _ r h => by simp [neumelaw23_ChordTurns.l0] at h, fun _ _ _ _ _ r h => by simp [neumelaw23_ChordTurns.j1] at h, fun _ _ _ _ r h => by simp [neumelaw23_ChordTurns.j2] at h, fun _ _ _ _ _ r h => by simp [neumelaw23_ChordTurns.j3] at h⟩
 | k + 1 => by
  obtain ⟨ih0, ih1, ih2, ih3⟩ := neumelaw23_ChordTurns.mono_l k
  refine ⟨?_, ?_, ?_, ?_⟩
  ·intro y0 y1 y2
   unfold neumelaw23_ChordTurns.l0
   repeat' first
   | (with_reducible exact ih0 _ _ _)
   | (with_reducible exact ih1 _ _ _ _ _)
   | (with_reducible exact ih2 _ _ _ _)
   | (with_reducible exact ih3 _ _ _ _ _)
   | (with_reducible exact chord_Sides.mono _ _ _)
   | (with_reducible exact neumelaw23_heads.mono _)
   | (with_reducible exact LeO.refl _)
   | (with_reducible exact LeO.none _)
   | (with_reducible refine LeO.ite ?_ ?_)
   | (with_reducible refine LeO.bind ?_ (fun _ => ?_))
   | exact ih0 _ _ _
   | exact ih1 _ _ _ _ _
   | exact ih2 _ _ _ _
   | exact ih3 _ _ _ _ _
   | exact chord_Sides.mono _ _ _
   | exact neumelaw23_heads.mono _
   | exact LeO.none _
   | refine LeO.ite ?_ ?_
   | refine LeO.bind ?_ (fun _ => ?_)
  ·intro y0 y1 y2 y3 y4
   unfold neumelaw23_ChordTurns.j1
   repeat' first
   | (with_reducible exact ih0 _ _ _)
   | (with_reducible exact ih1 _ _ _ _ _)
   | (with_reducible exact ih2 _ _ _ _)
   | (with_reducible exact ih3 _ _ _ _ _)
   | (with_reducible exact chord_Sides.mono _ _ _)
   | (with_reducible exact neumelaw23_heads.mono _)
   | (with_reducible exact LeO.refl _)
   | (with_reducible exact LeO.none _)
   | (with_reducible refine LeO.ite ?_ ?_)
   | (with_reducible refine LeO.bind ?_ (fun _ => ?_))
   | exact ih0 _ _ _
   | exact ih1 _ _ _ _ _
   | exact ih2 _ _ _ _
   | exact ih3 _ _ _ _ _
   | exact chord_Sides.mono _ _ _
   | exact neumelaw23_heads.mono _
   | exact LeO.none _
   | refine LeO.ite ?_ ?_
   | refine LeO.bind ?_ (fun _ => ?_)
  ·intro y0 y1 y2 y3
   unfold neumelaw23_ChordTurns.j2
   repeat' first
   | (with_reducible exact ih0 _ _ _)
   | (with_reducible exact ih1 _ _ _ _ _)
   | (with_reducible exact ih2 _ _ _ _)
   | (with_reducible exact ih3 _ _ _ _ _)
   | (with_reducible exact chord_Sides.mono _ _ _)
   | (with_reducible exact neumelaw23_heads.mono _)
   | (with_reducible exact LeO.refl _)
   | (with_reducible exact LeO.none _)
   | (with_reducible refine LeO.ite ?_ ?_)
   | (with_reducible refine LeO.bind ?_ (fun _ => ?_))
   | exact ih0 _ _ _
   | exact ih1 _ _ _ _ _
   | exact ih2 _ _ _ _
   | exact ih3 _ _ _ _ _
   | exact chord_Sides.mono _ _ _
   | exact neumelaw23_heads.mono _
   | exact LeO.none _
   | refine LeO.ite ?_ ?_
   | refine LeO.bind ?_ (fun _ => ?_)
  ·intro y0 y1 y2 y3 y4
   unfold neumelaw23_ChordTurns.j3
   repeat' first
   | (with_reducible exact ih0 _ _ _)
   | (with_reducible exact ih1 _ _ _ _ _)
   | (with_reducible exact ih2 _ _ _ _)
   | (with_reducible exact ih3 _ _ _ _ _)
   | (with_reducible exact chord_Sides.mono _ _ _)
   | (with_reducible exact neumelaw23_heads.mono _)
   | (with_reducible exact LeO.refl _)
   | (with_reducible exact LeO.none _)
   | (with_reducible refine LeO.ite ?_ ?_)
   | (with_reducible refine LeO.bind ?_ (fun _ => ?_))
   | exact ih0 _ _ _
   | exact ih1 _ _ _ _ _
   | exact ih2 _ _ _ _
   | exact ih3 _ _ _ _ _
   | exact chord_Sides.mono _ _ _
   | exact neumelaw23_heads.mono _
   | exact LeO.none _
   | refine LeO.ite ?_ ?_
   | refine LeO.bind ?_ (fun _ => ?_)
theorem neumelaw23_ChordTurns.mono : ∀ a0 a1 k, LeO (neumelaw23_ChordTurns.f k a0 a1) (neumelaw23_ChordTurns.f (k + 1) a0 a1) := by
 intro a0 a1 k
 obtain ⟨ih0, ih1, ih2, ih3⟩ := neumelaw23_ChordTurns.mono_l k
 unfold neumelaw23_ChordTurns.f
 repeat' first
   | (with_reducible exact ih0 _ _ _)
   | (with_reducible exact ih1 _ _ _ _ _)
   | (with_reducible exact ih2 _ _ _ _)
   | (with_reducible exact ih3 _ _ _ _ _)
   | (with_reducible exact chord_Sides.mono _ _ _)
   | (with_reducible exact neumelaw23_heads.mono _)
   | (with_reducible exact LeO.refl _)
   | (with_reducible exact LeO.none _)
   | (with_reducible refine LeO.ite ?_ ?_)
   | (with_reducible refine LeO.bind ?_ (fun _ => ?_))
   | exact ih0 _ _ _
   | exact ih1 _ _ _ _ _
   | exact ih2 _ _ _ _
   | exact ih3 _ _ _ _ _
   | exact chord_Sides.mono _ _ _
   | exact neumelaw23_heads.mono _
   | exact LeO.none _
   | refine LeO.ite ?_ ?_
   | refine LeO.bind ?_ (fun _ => ?_)
set_option maxHeartbeats 8000000 in
set_option maxRecDepth 100000 in
theorem neumelaw23_ChordTurns.calls (k : Nat) (A0 : Option Addr) (c0 : Nat) (l0 : List Int) (a1 : Bool) (r : Bool) (w : World) (hr0 : Kd.C (Kd.int .i64) w A0 l0.length l0) (hc0 : l0.length ≤ c0) (hE : Aside0 (LaidE w)) (hxt : Aside0 (r = true)) (h : neumelaw23_ChordTurns.f k l0 a1 = some r) :
  Calls Tryd.prog 6 #[.slice A0 l0.length c0, .bool a1] w fun e w' => e = .returned (.bool r) ∧ Below w.heap.size w w' := by
 have HR0 := sd_ hr0
 have HC0 := sd_ hc0
 clear hr0 hc0
 have HB := sd_ (Below.refl w.heap.size w)
 have H : (if (l0.length : Int) > 100 then ((neumelaw23_heads.f k).bind fun t544 => (some t544)) else ((chord_Sides.f k l0 a1).bind fun bt545 => (if bt545.2 = 0 then (if (bt545.1.length : Int) = (l0.length : Int) then (neumelaw23_ChordTurns.l0 k l0 bt545.1 0) else (some false)) else (if (bt545.1.length : Int) = 0 then ((neumelaw23_heads.f k).bind fun t549 => (some t549)) else (some false))))) = some r := h
 clear h
 by_cases c3 : (l0.length : Int) > 100
 ·rw [if_pos c3] at H
  have c3b0 : decide (100 < (l0.length : Int)) = true := dt_ c3
  have c3b1 : decide (100 < l0.length) = true := dt_ (by omega)
  clear c3
  replace H := ob_ H
  obtain ⟨t544, A40, H⟩ := H
  replace H : (some t544) = some r := H
  have A4 := sd_ A40
  clear A40
  obtain rfl := Option.some.inj H
  go_enter Tryd.func6, Tryd.ntmps6
  go_wp2_with (first | (go_at_call 7; (with_reducible refine (neumelaw23_heads.calls k  t544 _ ?side1 A4.out).mono ?_); (case side1 => first | (with_reducible exact hE) | exact sd_ (LaidE.below hE.out (bb_ HB.out e0_))); rintro e w5 ⟨rfl, hb⟩; replace HB := hb_ HB e0_ hb; (try clear hb); (try clear hb2); (try clear hk); (try clear hi)))
  repeat (go_quiet (first | (go_at_call 7; (with_reducible refine (neumelaw23_heads.calls k  t544 _ ?side1 A4.out).mono ?_); (case side1 => first | (with_reducible exact hE) | exact sd_ (LaidE.below hE.out (bb_ HB.out e0_))); rintro e w5 ⟨rfl, hb⟩; replace HB := hb_ HB e0_ hb; (try clear hb); (try clear hb2); (try clear hk); (try clear hi))); try go_wp2_with (first | (go_at_call 7; (with_reducible refine (neumelaw23_heads.calls k  t544 _ ?side1 A4.out).mono ?_); (case side1 => first | (with_reducible exact hE) | exact sd_ (LaidE.below hE.out (bb_ HB.out e0_))); rintro e w5 ⟨rfl, hb⟩; replace HB := hb_ HB e0_ hb; (try clear hb); (try clear hb2); (try clear hk); (try clear hi))))
  go_ret
  exact ⟨by first | rfl | (simp [errW_none, errW_some] <;> rfl) | (simp [*, errW_none, errW_some] <;> rfl), by repeat (first | (with_reducible first | exact HB.out | apply ba_ | apply pd_ | apply d1_) | exact HB.out)⟩
 ·rw [if_neg c3] at H
  have c3b0 : decide (100 < (l0.length : Int)) = false := df_ c3
  have c3b1 : decide (100 < l0.length) = false := df_ (by omega)
  clear c3
  replace H := ob_ H
  obtain ⟨⟨t545, t546⟩, A60, H⟩ := H
  replace H : (if t546 = 0 then (if (t545.length : Int) = (l0.length : Int) then (neumelaw23_ChordTurns.l0 k l0 t545 0) else (some false)) else (if (t545.length : Int) = 0 then ((neumelaw23_heads.f k).bind fun t549 => (some t549)) else (some false))) = some r := H
  have A6 := sd_ A60
  clear A60
  by_cases c7 : t546 = 0
  ·rw [if_pos c7] at H
   have c7b0 : (t546 == 0) = true := beq_iff_eq.mpr c7
   have c7b1 : (t546 != 0) = false := bne_eq_false_iff_eq.mpr c7
   clear c7
   by_cases c8 : (t545.length : Int) = (l0.length : Int)
   ·rw [if_pos c8] at H
    have c8b0 : ((t545.length : Int) == (l0.length : Int)) = true := beq_iff_eq.mpr c8
    have c8b1 : ((t545.length : Int) != (l0.length : Int)) = false := bne_eq_false_iff_eq.mpr c8
    have c8b2 : (t545.length == l0.length) = true := by first | simpa using c8 | (simp at c8 ⊢; omega)
    clear c8
    have H' := sd_ H
    clear H
    go_enter Tryd.func6, Tryd.ntmps6
    go_wp2_with (first | (go_at_call 8; (with_reducible refine (chord_Sides.calls k _ _ l0 a1 t545 t546 _ ?side1 ?side2 A6.out).mono ?_); (case side1 => repeat (first | exact HR0.out | (with_reducible refine Kd.C_alloc ?_ _) | (with_reducible refine Kd.C_drewN ?_ _) | (with_reducible refine Kd.C_drew ?_))); (case side2 => exact HC0.out); rintro e w9 ⟨v547, rfl, ho0, hb⟩; have HO548 := sd_ (Kd.R_lower ho0 (bz_ (bb_ HB.out e0_))); replace HB := hb_ HB e0_ hb; (try clear hb); (try clear hb2); (try clear hk); (try clear hi); (try clear ho0); obtain ⟨Ao10, co10, eo10⟩ := Kd.R_slice HO548.out; subst eo10))
    repeat (go_quiet (first | (go_at_call 8; (with_reducible refine (chord_Sides.calls k _ _ l0 a1 t545 t546 _ ?side1 ?side2 A6.out).mono ?_); (case side1 => repeat (first | exact HR0.out | (with_reducible refine Kd.C_alloc ?_ _) | (with_reducible refine Kd.C_drewN ?_ _) | (with_reducible refine Kd.C_drew ?_))); (case side2 => exact HC0.out); rintro e w9 ⟨v547, rfl, ho0, hb⟩; have HO548 := sd_ (Kd.R_lower ho0 (bz_ (bb_ HB.out e0_))); replace HB := hb_ HB e0_ hb; (try clear hb); (try clear hb2); (try clear hk); (try clear hi); (try clear ho0); obtain ⟨Ao10, co10, eo10⟩ := Kd.R_slice HO548.out; subst eo10)); try go_wp2_with (first | (go_at_call 8; (with_reducible refine (chord_Sides.calls k _ _ l0 a1 t545 t546 _ ?side1 ?side2 A6.out).mono ?_); (case side1 => repeat (first | exact HR0.out | (with_reducible refine Kd.C_alloc ?_ _) | (with_reducible refine Kd.C_drewN ?_ _) | (with_reducible refine Kd.C_drew ?_))); (case side2 => exact HC0.out); rintro e w9 ⟨v547, rfl, ho0, hb⟩; have HO548 := sd_ (Kd.R_lower ho0 (bz_ (bb_ HB.out e0_))); replace HB := hb_ HB e0_ hb; (try clear hb); (try clear hb2); (try clear hk); (try clear hi); (try clear ho0); obtain ⟨Ao10, co10, eo10⟩ := Kd.R_slice HO548.out; subst eo10)))
    go_loopg [7] k (fun kq v7 w' => ∃ (x7_1 : Int), v7 = .int .i64 x7_1 ∧ Aside0 (neumelaw23_ChordTurns.l0 kq l0 t545 x7_1 = some r) ∧ Aside0 (kq ≤ k) ∧ Aside0 (Kd.R (Kd.int .i64) 3 w' w.heap.size (fun _ => True) (.slice Ao10 t545.length co10) t545) ∧ Aside0 (Below w.heap.size w w'))
    case atStart => exact ⟨(0), (by first | rfl | (simp; done) | (simp [*]; done) | (simp [bne]; done)), H', ⟨Nat.le_refl _⟩, ⟨by (with_reducible repeat (first | apply Kd.R_alloc | apply Kd.R_drewN | apply Kd.R_drew)); exact HO548.out⟩, ⟨by repeat (first | (with_reducible first | exact HB.out | apply ba_ | apply pd_ | apply d1_) | exact HB.out)⟩⟩
    case round =>
     clear H'
     try clear p2; try clear c3; try clear c3b0; try clear c3b1; try clear c6; try clear c7; try clear c7b0; try clear c7b1; try clear c8; try clear c8b0; try clear c8b1; try clear c8b2
     obtain ⟨x7_1, rfl, HA, HK1, HO_5, HB⟩ := hrel
     cases gk with
     | zero => exact absurd HA.out (by simp [neumelaw23_ChordTurns.l0])
     | succ k1 =>
      have H := HA.out
      clear HA
      simp only [neumelaw23_ChordTurns.l0] at H
      by_cases c11 : x7_1 < (t545.length : Int)
      ·rw [if_pos c11] at H
       have c11b0 : decide (x7_1 < (t545.length : Int)) = true := dt_ c11
       clear c11
       have HC12 := sd_ H
       clear H
       go_upto_region 12 with (fail)
       repeat (go_quiet (fail); go_upto_region 12 with (fail))
       go_cut [52] (fun v52 wc => ∃ (kq : Nat) (x52_11 : Bool), v52 = .bool x52_11 ∧ Aside0 (neumelaw23_ChordTurns.j1 kq l0 t545 x7_1 false x52_11 = some r) ∧ Aside0 (kq ≤ k1) ∧ Aside0 (Kd.R (Kd.int .i64) 3 wc w.heap.size (fun _ => True) (.slice Ao10 t545.length co10) t545) ∧ Aside0 (Below w.heap.size w wc))
       case first =>
        have H := HC12.out
        clear HC12
        by_cases c13 : x7_1 > 0
        ·rw [if_pos c13] at H
         have c13b0 : decide (0 < x7_1) = true := dt_ c13
         clear c13
         (first | rw [c13b0] | (simp only [i64_w, i32_w]; rw [c13b0]) | skip)
         by_cases c14 : 0 ≤ x7_1
         ·rw [if_pos c14] at H
          have c14b0 : decide (0 ≤ x7_1) = true := dt_ c14
          clear c14
          by_cases c15 : x7_1 < (l0.length : Int)
          ·rw [if_pos c15] at H
           have c15b0 : decide (x7_1 < (l0.length : Int)) = true := dt_ c15
           clear c15
           obtain ⟨ji16, hji16⟩ : ∃ j_ : Int, (wrap64 (x7_1 - 1)) = j_ := ⟨_, rfl⟩
           replace H : (if 0 ≤ (ji16) then (if (ji16) < (l0.length : Int) then (neumelaw23_ChordTurns.j1 k1 l0 t545 x7_1 false (decide ((wrap64 ((rd l0 x7_1) - (rd l0 (ji16)))) ≤ 1))) else (none)) else (none)) = some r := by first | (rw [hji16] at H; exact H) | (simp only [hji16] at H ⊢; exact H)
           have hji16w : (IntKind.i64.wrap (x7_1 - 1)) = ji16 := (i64_w _).trans hji16
           by_cases c17 : 0 ≤ (ji16)
           ·rw [if_pos c17] at H
            have c17b0 : decide (0 ≤ (ji16)) = true := dt_ c17
            clear c17
            by_cases c18 : (ji16) < (l0.length : Int)
            ·rw [if_pos c18] at H
             have c18b0 : decide ((ji16) < (l0.length : Int)) = true := dt_ c18
             clear c18
             have H' := sd_ H
             clear H
             have p551 : 0 ≤ (x7_1 : Int) := od_ (by first | (with_reducible assumption) | assumption)
             have q551 : x7_1 < (l0.length : Int) := od_ (by first | (with_reducible assumption) | assumption)
             obtain ⟨ad551, e551, hx551_0⟩ := Kd.at_int HR0.out x7_1 p551 q551
             cases e551
             replace hx551_0 := (HB.out.cell (wb_ w _ hx551_0)).trans hx551_0
             replace p551 := eq_true p551
             replace q551 := eq_true q551
             have p552 : 0 ≤ ((ji16) : Int) := od_ (by first | (with_reducible assumption) | assumption)
             have q552 : (ji16) < (l0.length : Int) := od_ (by first | (with_reducible assumption) | assumption)
             obtain ⟨ad552, e552, hx552_0⟩ := Kd.at_int HR0.out (ji16) p552 q552
             obtain rfl : ad551 = ad552 := (by injection e552)
             replace hx552_0 := (HB.out.cell (wb_ w _ hx552_0)).trans hx552_0
             replace p552 := eq_true p552
             replace q552 := eq_true q552
             go_wp2
             repeat (go_quiet (fail); try go_wp2)
             go_meet
             case rel => exact ⟨_, (decide ((wrap64 ((rd l0 x7_1) - (rd l0 (ji16)))) ≤ 1)), (by first | rfl | (simp; done) | (simp only [← hji16] <;> (first | rfl | simp)) | (simp [*]; done)), H', ⟨by have := HK1.out; first | omega | exact Nat.le_refl _⟩, ⟨by (with_reducible repeat (first | apply Kd.R_alloc | apply Kd.R_drewN | apply Kd.R_drew)); exact HO_5.out⟩, ⟨by repeat (first | (with_reducible first | exact HB.out | apply ba_ | apply pd_ | apply d1_) | exact HB.out)⟩⟩
            ·rw [if_neg c18] at H
             exact absurd H (by simp)
           ·rw [if_neg c17] at H
            exact absurd H (by simp)
          ·rw [if_neg c15] at H
           exact absurd H (by simp)
         ·rw [if_neg c14] at H
          exact absurd H (by simp)
        ·rw [if_neg c13] at H
         have c13b0 : decide (0 < x7_1) = false := df_ c13
         clear c13
         (first | rw [c13b0] | (simp only [i64_w, i32_w]; rw [c13b0]) | skip)
         have H' := sd_ H
         clear H
         go_wp2
         repeat (go_quiet (fail); try go_wp2)
         go_meet
         case rel => exact ⟨_, (false), (by first | rfl | (simp; done) | (simp [*]; done) | (simp [bne]; done)), H', ⟨by have := HK1.out; first | omega | exact Nat.le_refl _⟩, ⟨by (with_reducible repeat (first | apply Kd.R_alloc | apply Kd.R_drewN | apply Kd.R_drew)); exact HO_5.out⟩, ⟨by repeat (first | (with_reducible first | exact HB.out | apply ba_ | apply pd_ | apply d1_) | exact HB.out)⟩⟩
       case rest =>
        clear HC12
        try clear c1; try clear p2; try clear c3; try clear c3b0; try clear c3b1; try clear p5; try clear q5; try clear hx5; try clear c6; try clear p6; try clear c7; try clear c7b0; try clear c7b1; try clear c8; try clear c8b0; try clear c8b1; try clear c8b2; try clear c11; try clear c11b0; try clear c13; try clear c13b0; try clear c14; try clear c14b0; try clear c15; try clear c15b0; try clear c17; try clear c17b0; try clear c18; try clear c18b0; try clear hx551_0; try clear hx552_0; try clear p2; try clear p551; try clear p552; try clear q551; try clear q552
        obtain ⟨kq, x52_11, rfl, HA, HJ11, HO_5, HB⟩ := hcut
        cases kq with
        | zero => exact absurd HA.out (by simp [neumelaw23_ChordTurns.j1])
        | succ kj11 =>
         have H := HA.out
         clear HA
         simp only [neumelaw23_ChordTurns.j1] at H
         have HC19 := sd_ H
         clear H
         go_upto_if 52 with (fail)
         repeat (go_quiet (fail); go_upto_if 52 with (fail))
         go_cut [8] (fun v8 wc => ∃ (kq : Nat) (x8_18 : Bool), v8 = .bool x8_18 ∧ Aside0 (neumelaw23_ChordTurns.j2 kq l0 t545 x7_1 x8_18 = some r) ∧ Aside0 (kq ≤ kj11) ∧ Aside0 (Kd.R (Kd.int .i64) 3 wc w.heap.size (fun _ => True) (.slice Ao10 t545.length co10) t545) ∧ Aside0 (Below w.heap.size w wc))
         case first =>
          have H := HC19.out
          clear HC19
          by_cases c20 : x52_11 = true
          ·subst c20
           have H1 : (if 0 ≤ x7_1 then (if x7_1 < (t545.length : Int) then (if (rd t545 x7_1) = 0 then (if 0 ≤ (wrap64 (x7_1 - 1)) then (if (wrap64 (x7_1 - 1)) < (t545.length : Int) then (if (rd t545 (wrap64 (x7_1 - 1))) = 0 then (some false) else (neumelaw23_ChordTurns.j2 kj11 l0 t545 x7_1 true)) else (none)) else (none)) else (neumelaw23_ChordTurns.j2 kj11 l0 t545 x7_1 true)) else (none)) else (none)) = some r := by rw [if_pos rfl] at H; exact H
           clear H; have H := H1; clear H1
           by_cases c21 : 0 ≤ x7_1
           ·rw [if_pos c21] at H
            have c21b0 : decide (0 ≤ x7_1) = true := dt_ c21
            clear c21
            (first | rw [c21b0] | (simp only [i64_w, i32_w]; rw [c21b0]) | skip)
            by_cases c22 : x7_1 < (t545.length : Int)
            ·rw [if_pos c22] at H
             have c22b0 : decide (x7_1 < (t545.length : Int)) = true := dt_ c22
             clear c22
             by_cases c23 : (rd t545 x7_1) = 0
             ·rw [if_pos c23] at H
              have c23b0 : ((rd t545 x7_1) == 0) = true := beq_iff_eq.mpr c23
              have c23b1 : ((rd t545 x7_1) != 0) = false := bne_eq_false_iff_eq.mpr c23
              clear c23
              obtain ⟨ji24, hji24⟩ : ∃ j_ : Int, (wrap64 (x7_1 - 1)) = j_ := ⟨_, rfl⟩
              replace H : (if 0 ≤ (ji24) then (if (ji24) < (t545.length : Int) then (if (rd t545 (ji24)) = 0 then (some false) else (neumelaw23_ChordTurns.j2 kj11 l0 t545 x7_1 true)) else (none)) else (none)) = some r := by first | (rw [hji24] at H; exact H) | (simp only [hji24] at H ⊢; exact H)
              have hji24w : (IntKind.i64.wrap (x7_1 - 1)) = ji24 := (i64_w _).trans hji24
              by_cases c25 : 0 ≤ (ji24)
              ·rw [if_pos c25] at H
               have c25b0 : decide (0 ≤ (ji24)) = true := dt_ c25
               clear c25
               by_cases c26 : (ji24) < (t545.length : Int)
               ·rw [if_pos c26] at H
                have c26b0 : decide ((ji24) < (t545.length : Int)) = true := dt_ c26
                clear c26
                by_cases c27 : (rd t545 (ji24)) = 0
                ·rw [if_pos c27] at H
                 have c27b0 : ((rd t545 (ji24)) == 0) = true := beq_iff_eq.mpr c27
                 have c27b1 : ((rd t545 (ji24)) != 0) = false := bne_eq_false_iff_eq.mpr c27
                 clear c27
                 exact absurd ((Option.some.inj H).trans hxt.out) (by decide)
                ·rw [if_neg c27] at H
                 have c27b0 : ((rd t545 (ji24)) == 0) = false := beq_eq_false_iff_ne.mpr c27
                 have c27b1 : ((rd t545 (ji24)) != 0) = true := bne_iff_ne.mpr c27
                 have H' := sd_ H
                 clear H
                 have p553 : 0 ≤ (x7_1 : Int) := od_ (by first | (with_reducible assumption) | assumption)
                 have q553 : x7_1 < (t545.length : Int) := od_ (by first | (with_reducible assumption) | assumption)
                 obtain ⟨ad553, e553, hx553_0⟩ := Kd.at_int (Kd.R_reads' HO_5.out).2.2 x7_1 p553 q553
                 cases e553
                 replace p553 := eq_true p553
                 replace q553 := eq_true q553
                 have p554 : 0 ≤ ((ji24) : Int) := od_ (by first | (with_reducible assumption) | assumption)
                 have q554 : (ji24) < (t545.length : Int) := od_ (by first | (with_reducible assumption) | assumption)
                 obtain ⟨ad554, e554, hx554_0⟩ := Kd.at_int (Kd.R_reads' HO_5.out).2.2 (ji24) p554 q554
                 obtain rfl : ad553 = ad554 := (by injection e554)
                 replace p554 := eq_true p554
                 replace q554 := eq_true q554
                 go_wp2
                 repeat (go_quiet (fail); try go_wp2)
                 go_meet
                 case rel => exact ⟨_, (true), (by first | rfl | (simp; done) | (simp [*]; done) | (simp [bne]; done)), H', ⟨by have := HK1.out; have := HJ11.out; first | omega | exact Nat.le_refl _⟩, ⟨by (with_reducible repeat (first | apply Kd.R_alloc | apply Kd.R_drewN | apply Kd.R_drew)); exact HO_5.out⟩, ⟨by repeat (first | (with_reducible first | exact HB.out | apply ba_ | apply pd_ | apply d1_) | exact HB.out)⟩⟩
               ·rw [if_neg c26] at H
                exact absurd H (by simp)
              ·rw [if_neg c25] at H
               exact absurd H (by simp)
             ·rw [if_neg c23] at H
              have c23b0 : ((rd t545 x7_1) == 0) = false := beq_eq_false_iff_ne.mpr c23
              have c23b1 : ((rd t545 x7_1) != 0) = true := bne_iff_ne.mpr c23
              have H' := sd_ H
              clear H
              have p553 : 0 ≤ (x7_1 : Int) := od_ (by first | (with_reducible assumption) | assumption)
              have q553 : x7_1 < (t545.length : Int) := od_ (by first | (with_reducible assumption) | assumption)
              obtain ⟨ad553, e553, hx553_0⟩ := Kd.at_int (Kd.R_reads' HO_5.out).2.2 x7_1 p553 q553
              cases e553
              replace p553 := eq_true p553
              replace q553 := eq_true q553
              go_wp2
              repeat (go_quiet (fail); try go_wp2)
              go_meet
              case rel => exact ⟨_, (true), (by first | rfl | (simp; done) | (simp [*]; done) | (simp [bne]; done)), H', ⟨by have := HK1.out; have := HJ11.out; first | omega | exact Nat.le_refl _⟩, ⟨by (with_reducible repeat (first | apply Kd.R_alloc | apply Kd.R_drewN | apply Kd.R_drew)); exact HO_5.out⟩, ⟨by repeat (first | (with_reducible first | exact HB.out | apply ba_ | apply pd_ | apply d1_) | exact HB.out)⟩⟩
            ·rw [if_neg c22] at H
             exact absurd H (by simp)
           ·rw [if_neg c21] at H
            exact absurd H (by simp)
          ·replace c20 := bf_ c20
           subst c20
           have H1 : (neumelaw23_ChordTurns.j2 kj11 l0 t545 x7_1 false) = some r := by rw [if_neg (show ¬ (false = true) by decide)] at H; exact H
           clear H; have H := H1; clear H1
           have H' := sd_ H
           clear H
           go_wp2
           repeat (go_quiet (fail); try go_wp2)
           go_meet
           case rel => exact ⟨_, (false), (by first | rfl | (simp; done) | (simp [*]; done) | (simp [bne]; done)), H', ⟨by have := HK1.out; have := HJ11.out; first | omega | exact Nat.le_refl _⟩, ⟨by (with_reducible repeat (first | apply Kd.R_alloc | apply Kd.R_drewN | apply Kd.R_drew)); exact HO_5.out⟩, ⟨by repeat (first | (with_reducible first | exact HB.out | apply ba_ | apply pd_ | apply d1_) | exact HB.out)⟩⟩
         case rest =>
          clear HC19
          try clear c1; try clear c2; try clear p2; try clear c3; try clear c3b0; try clear c3b1; try clear p5; try clear q5; try clear hx5; try clear c6; try clear p6; try clear c7; try clear c7b0; try clear c7b1; try clear c8; try clear c8b0; try clear c8b1; try clear c8b2; try clear c11; try clear c11b0; try clear c13; try clear c13b0; try clear c14; try clear c14b0; try clear c15; try clear c15b0; try clear c17; try clear c17b0; try clear c18; try clear c18b0; try clear c20; try clear c21; try clear c21b0; try clear c22; try clear c22b0; try clear c23; try clear c23b0; try clear c23b1; try clear c25; try clear c25b0; try clear c26; try clear c26b0; try clear c27; try clear c27b0; try clear c27b1; try clear hx551_0; try clear hx552_0; try clear hx553_0; try clear hx554_0; try clear p2; try clear p5; try clear p551; try clear p552; try clear p553; try clear p554; try clear p6; try clear q5; try clear q551; try clear q552; try clear q553; try clear q554
          obtain ⟨kq, x8_18, rfl, HA, HJ18, HO_5, HB⟩ := hcut
          cases kq with
          | zero => exact absurd HA.out (by simp [neumelaw23_ChordTurns.j2])
          | succ kj18 =>
           have H := HA.out
           clear HA
           simp only [neumelaw23_ChordTurns.j2] at H
           have HC28 := sd_ H
           clear H
           go_upto_region 16 with (fail)
           repeat (go_quiet (fail); go_upto_region 16 with (fail))
           go_cut [83] (fun v83 wc => ∃ (kq : Nat) (x83_27 : Bool), v83 = .bool x83_27 ∧ Aside0 (neumelaw23_ChordTurns.j3 kq l0 t545 x7_1 x8_18 x83_27 = some r) ∧ Aside0 (kq ≤ kj18) ∧ Aside0 (Kd.R (Kd.int .i64) 3 wc w.heap.size (fun _ => True) (.slice Ao10 t545.length co10) t545) ∧ Aside0 (Below w.heap.size w wc))
           case first =>
            have H := HC28.out
            clear HC28
            by_cases c29 : (wrap64 (x7_1 + 1)) < (l0.length : Int)
            ·rw [if_pos c29] at H
             have c29b0 : decide ((wrap64 (x7_1 + 1)) < (l0.length : Int)) = true := dt_ c29
             clear c29
             (first | rw [c29b0] | (simp only [i64_w, i32_w]; rw [c29b0]) | skip)
             obtain ⟨ji30, hji30⟩ : ∃ j_ : Int, (wrap64 (x7_1 + 1)) = j_ := ⟨_, rfl⟩
             replace H : (if 0 ≤ (ji30) then (if 0 ≤ x7_1 then (if x7_1 < (l0.length : Int) then (neumelaw23_ChordTurns.j3 kj18 l0 t545 x7_1 x8_18 (decide ((wrap64 ((rd l0 (ji30)) - (rd l0 x7_1))) ≤ 1))) else (none)) else (none)) else (none)) = some r := by first | (rw [hji30] at H; exact H) | (simp only [hji30] at H ⊢; exact H)
             (try rw [hji30] at c29b0)
             have hji30w : (IntKind.i64.wrap (x7_1 + 1)) = ji30 := (i64_w _).trans hji30
             by_cases c31 : 0 ≤ (ji30)
             ·rw [if_pos c31] at H
              have c31b0 : decide (0 ≤ (ji30)) = true := dt_ c31
              clear c31
              by_cases c32 : 0 ≤ x7_1
              ·rw [if_pos c32] at H
               have c32b0 : decide (0 ≤ x7_1) = true := dt_ c32
               clear c32
               by_cases c33 : x7_1 < (l0.length : Int)
               ·rw [if_pos c33] at H
                have c33b0 : decide (x7_1 < (l0.length : Int)) = true := dt_ c33
                clear c33
                have H' := sd_ H
                clear H
                have p555 : 0 ≤ ((ji30) : Int) := od_ (by first | (with_reducible assumption) | assumption)
                have q555 : (ji30) < (l0.length : Int) := od_ (by first | (with_reducible assumption) | assumption)
                obtain ⟨ad555, e555, hx555_0⟩ := Kd.at_int HR0.out (ji30) p555 q555
                cases e555
                replace hx555_0 := (HB.out.cell (wb_ w _ hx555_0)).trans hx555_0
                replace p555 := eq_true p555
                replace q555 := eq_true q555
                have p556 : 0 ≤ (x7_1 : Int) := od_ (by first | (with_reducible assumption) | assumption)
                have q556 : x7_1 < (l0.length : Int) := od_ (by first | (with_reducible assumption) | assumption)
                obtain ⟨ad556, e556, hx556_0⟩ := Kd.at_int HR0.out x7_1 p556 q556
                obtain rfl : ad555 = ad556 := (by injection e556)
                replace hx556_0 := (HB.out.cell (wb_ w _ hx556_0)).trans hx556_0
                replace p556 := eq_true p556
                replace q556 := eq_true q556
                go_wp2
                repeat (go_quiet (fail); try go_wp2)
                go_meet
                case rel => exact ⟨_, (decide ((wrap64 ((rd l0 (ji30)) - (rd l0 x7_1))) ≤ 1)), (by first | rfl | (simp; done) | (simp only [← hji30] <;> (first | rfl | simp)) | (simp [*]; done)), H', ⟨by have := HK1.out; have := HJ11.out; have := HJ18.out; first | omega | exact Nat.le_refl _⟩, ⟨by (with_reducible repeat (first | apply Kd.R_alloc | apply Kd.R_drewN | apply Kd.R_drew)); exact HO_5.out⟩, ⟨by repeat (first | (with_reducible first | exact HB.out | apply ba_ | apply pd_ | apply d1_) | exact HB.out)⟩⟩
               ·rw [if_neg c33] at H
                exact absurd H (by simp)
              ·rw [if_neg c32] at H
               exact absurd H (by simp)
             ·rw [if_neg c31] at H
              exact absurd H (by simp)
            ·rw [if_neg c29] at H
             have c29b0 : decide ((wrap64 (x7_1 + 1)) < (l0.length : Int)) = false := df_ c29
             clear c29
             (first | rw [c29b0] | (simp only [i64_w, i32_w]; rw [c29b0]) | skip)
             have H' := sd_ H
             clear H
             go_wp2
             repeat (go_quiet (fail); try go_wp2)
             go_meet
             case rel => exact ⟨_, (false), (by first | rfl | (simp; done) | (simp [*]; done) | (simp [bne]; done)), H', ⟨by have := HK1.out; have := HJ11.out; have := HJ18.out; first | omega | exact Nat.le_refl _⟩, ⟨by (with_reducible repeat (first | apply Kd.R_alloc | apply Kd.R_drewN | apply Kd.R_drew)); exact HO_5.out⟩, ⟨by repeat (first | (with_reducible first | exact HB.out | apply ba_ | apply pd_ | apply d1_) | exact HB.out)⟩⟩
           case rest =>
            clear HC28
            try clear c1; try clear c2; try clear p2; try clear c3; try clear c3b0; try clear c3b1; try clear p5; try clear q5; try clear hx5; try clear c6; try clear p6; try clear c7; try clear c7b0; try clear c7b1; try clear c8; try clear c8b0; try clear c8b1; try clear c8b2; try clear c11; try clear c11b0; try clear c13; try clear c13b0; try clear c14; try clear c14b0; try clear c15; try clear c15b0; try clear c17; try clear c17b0; try clear c18; try clear c18b0; try clear c20; try clear c21; try clear c21b0; try clear c22; try clear c22b0; try clear c23; try clear c23b0; try clear c23b1; try clear c25; try clear c25b0; try clear c26; try clear c26b0; try clear c27; try clear c27b0; try clear c27b1; try clear c29; try clear c29b0; try clear c31; try clear c31b0; try clear c32; try clear c32b0; try clear c33; try clear c33b0; try clear hx551_0; try clear hx552_0; try clear hx553_0; try clear hx554_0; try clear hx555_0; try clear hx556_0; try clear p2; try clear p5; try clear p551; try clear p552; try clear p553; try clear p554; try clear p555; try clear p556; try clear p6; try clear q5; try clear q551; try clear q552; try clear q553; try clear q554; try clear q555; try clear q556
            obtain ⟨kq, x83_27, rfl, HA, HJ27, HO_5, HB⟩ := hcut
            cases kq with
            | zero => exact absurd HA.out (by simp [neumelaw23_ChordTurns.j3])
            | succ kj27 =>
             have H := HA.out
             clear HA
             simp only [neumelaw23_ChordTurns.j3] at H
             by_cases c34 : x83_27 = true
             ·subst c34
              have H1 : (if 0 ≤ x7_1 then (if x7_1 < (t545.length : Int) then (if (rd t545 x7_1) < 0 then (some false) else (if (rd t545 x7_1) > 1 then (some false) else (neumelaw23_ChordTurns.l0 kj27 l0 t545 (wrap64 (x7_1 + 1))))) else (none)) else (none)) = some r := by rw [if_pos rfl] at H; exact H
              clear H; have H := H1; clear H1
              by_cases c35 : 0 ≤ x7_1
              ·rw [if_pos c35] at H
               have c35b0 : decide (0 ≤ x7_1) = true := dt_ c35
               clear c35
               by_cases c36 : x7_1 < (t545.length : Int)
               ·rw [if_pos c36] at H
                have c36b0 : decide (x7_1 < (t545.length : Int)) = true := dt_ c36
                clear c36
                by_cases c37 : (rd t545 x7_1) < 0
                ·rw [if_pos c37] at H
                 have c37b0 : decide ((rd t545 x7_1) < 0) = true := dt_ c37
                 clear c37
                 exact absurd ((Option.some.inj H).trans hxt.out) (by decide)
                ·rw [if_neg c37] at H
                 have c37b0 : decide ((rd t545 x7_1) < 0) = false := df_ c37
                 clear c37
                 by_cases c38 : (rd t545 x7_1) > 1
                 ·rw [if_pos c38] at H
                  have c38b0 : decide (1 < (rd t545 x7_1)) = true := dt_ c38
                  clear c38
                  exact absurd ((Option.some.inj H).trans hxt.out) (by decide)
                 ·rw [if_neg c38] at H
                  have c38b0 : decide (1 < (rd t545 x7_1)) = false := df_ c38
                  clear c38
                  have H' := sd_ H
                  clear H
                  have p557 : 0 ≤ (x7_1 : Int) := od_ (by first | (with_reducible assumption) | assumption)
                  have q557 : x7_1 < (t545.length : Int) := od_ (by first | (with_reducible assumption) | assumption)
                  obtain ⟨ad557, e557, hx557_0⟩ := Kd.at_int (Kd.R_reads' HO_5.out).2.2 x7_1 p557 q557
                  cases e557
                  replace p557 := eq_true p557
                  replace q557 := eq_true q557
                  have p558 : 0 ≤ (x7_1 : Int) := od_ (by first | (with_reducible assumption) | assumption)
                  have q558 : x7_1 < (t545.length : Int) := od_ (by first | (with_reducible assumption) | assumption)
                  obtain ⟨ad558, e558, hx558_0⟩ := Kd.at_int (Kd.R_reads' HO_5.out).2.2 x7_1 p558 q558
                  obtain rfl : ad557 = ad558 := (by injection e558)
                  replace p558 := eq_true p558
                  replace q558 := eq_true q558
                  go_wp2
                  repeat (go_quiet (fail); try go_wp2)
                  go_roundg kj27
                  case measure => have := HK1.out; have := HJ11.out; have := HJ18.out; have := HJ27.out; omega
                  case rel => exact ⟨(wrap64 (x7_1 + 1)), (by first | rfl | (simp; done) | (simp [*]; done) | (simp [bne]; done)), H', ⟨by have := HK1.out; have := HJ11.out; have := HJ18.out; have := HJ27.out; omega⟩, ⟨by (with_reducible repeat (first | apply Kd.R_alloc | apply Kd.R_drewN | apply Kd.R_drew)); exact HO_5.out⟩, ⟨by repeat (first | (with_reducible first | exact HB.out | apply ba_ | apply pd_ | apply d1_) | exact HB.out)⟩⟩
               ·rw [if_neg c36] at H
                exact absurd H (by simp)
              ·rw [if_neg c35] at H
               exact absurd H (by simp)
             ·replace c34 := bf_ c34
              subst c34
              have H1 : (if 0 ≤ x7_1 then (if x7_1 < (t545.length : Int) then (if (rd t545 x7_1) < 0 then (some false) else (if (rd t545 x7_1) > 1 then (some false) else (if x8_18 = true then (neumelaw23_ChordTurns.l0 kj27 l0 t545 (wrap64 (x7_1 + 1))) else (if (rd t545 x7_1) = 0 then (neumelaw23_ChordTurns.l0 kj27 l0 t545 (wrap64 (x7_1 + 1))) else (some false))))) else (none)) else (none)) = some r := by rw [if_neg (show ¬ (false = true) by decide)] at H; exact H
              clear H; have H := H1; clear H1
              by_cases c39 : 0 ≤ x7_1
              ·rw [if_pos c39] at H
               have c39b0 : decide (0 ≤ x7_1) = true := dt_ c39
               clear c39
               by_cases c40 : x7_1 < (t545.length : Int)
               ·rw [if_pos c40] at H
                have c40b0 : decide (x7_1 < (t545.length : Int)) = true := dt_ c40
                clear c40
                by_cases c41 : (rd t545 x7_1) < 0
                ·rw [if_pos c41] at H
                 have c41b0 : decide ((rd t545 x7_1) < 0) = true := dt_ c41
                 clear c41
                 exact absurd ((Option.some.inj H).trans hxt.out) (by decide)
                ·rw [if_neg c41] at H
                 have c41b0 : decide ((rd t545 x7_1) < 0) = false := df_ c41
                 clear c41
                 by_cases c42 : (rd t545 x7_1) > 1
                 ·rw [if_pos c42] at H
                  have c42b0 : decide (1 < (rd t545 x7_1)) = true := dt_ c42
                  clear c42
                  exact absurd ((Option.some.inj H).trans hxt.out) (by decide)
                 ·rw [if_neg c42] at H
                  have c42b0 : decide (1 < (rd t545 x7_1)) = false := df_ c42
                  clear c42
                  by_cases c43 : x8_18 = true
                  ·subst c43
                   have H1 : (neumelaw23_ChordTurns.l0 kj27 l0 t545 (wrap64 (x7_1 + 1))) = some r := by rw [if_pos rfl] at H; exact H
                   clear H; have H := H1; clear H1
                   have H' := sd_ H
                   clear H
                   have p559 : 0 ≤ (x7_1 : Int) := od_ (by first | (with_reducible assumption) | assumption)
                   have q559 : x7_1 < (t545.length : Int) := od_ (by first | (with_reducible assumption) | assumption)
                   obtain ⟨ad559, e559, hx559_0⟩ := Kd.at_int (Kd.R_reads' HO_5.out).2.2 x7_1 p559 q559
                   cases e559
                   replace p559 := eq_true p559
                   replace q559 := eq_true q559
                   have p560 : 0 ≤ (x7_1 : Int) := od_ (by first | (with_reducible assumption) | assumption)
                   have q560 : x7_1 < (t545.length : Int) := od_ (by first | (with_reducible assumption) | assumption)
                   obtain ⟨ad560, e560, hx560_0⟩ := Kd.at_int (Kd.R_reads' HO_5.out).2.2 x7_1 p560 q560
                   obtain rfl : ad559 = ad560 := (by injection e560)
                   replace p560 := eq_true p560
                   replace q560 := eq_true q560
                   go_wp2
                   repeat (go_quiet (fail); try go_wp2)
                   go_roundg kj27
                   case measure => have := HK1.out; have := HJ11.out; have := HJ18.out; have := HJ27.out; omega
                   case rel => exact ⟨(wrap64 (x7_1 + 1)), (by first | rfl | (simp; done) | (simp [*]; done) | (simp [bne]; done)), H', ⟨by have := HK1.out; have := HJ11.out; have := HJ18.out; have := HJ27.out; omega⟩, ⟨by (with_reducible repeat (first | apply Kd.R_alloc | apply Kd.R_drewN | apply Kd.R_drew)); exact HO_5.out⟩, ⟨by repeat (first | (with_reducible first | exact HB.out | apply ba_ | apply pd_ | apply d1_) | exact HB.out)⟩⟩
                  ·replace c43 := bf_ c43
                   subst c43
                   have H1 : (if (rd t545 x7_1) = 0 then (neumelaw23_ChordTurns.l0 kj27 l0 t545 (wrap64 (x7_1 + 1))) else (some false)) = some r := by rw [if_neg (show ¬ (false = true) by decide)] at H; exact H
                   clear H; have H := H1; clear H1
                   by_cases c44 : (rd t545 x7_1) = 0
                   ·rw [if_pos c44] at H
                    have c44b0 : ((rd t545 x7_1) == 0) = true := beq_iff_eq.mpr c44
                    have c44b1 : ((rd t545 x7_1) != 0) = false := bne_eq_false_iff_eq.mpr c44
                    clear c44
                    have H' := sd_ H
                    clear H
                    have p559 : 0 ≤ (x7_1 : Int) := od_ (by first | (with_reducible assumption) | assumption)
                    have q559 : x7_1 < (t545.length : Int) := od_ (by first | (with_reducible assumption) | assumption)
                    obtain ⟨ad559, e559, hx559_0⟩ := Kd.at_int (Kd.R_reads' HO_5.out).2.2 x7_1 p559 q559
                    cases e559
                    replace p559 := eq_true p559
                    replace q559 := eq_true q559
                    have p560 : 0 ≤ (x7_1 : Int) := od_ (by first | (with_reducible assumption) | assumption)
                    have q560 : x7_1 < (t545.length : Int) := od_ (by first | (with_reducible assumption) | assumption)
                    obtain ⟨ad560, e560, hx560_0⟩ := Kd.at_int (Kd.R_reads' HO_5.out).2.2 x7_1 p560 q560
                    obtain rfl : ad559 = ad560 := (by injection e560)
                    replace p560 := eq_true p560
                    replace q560 := eq_true q560
                    have p561 : 0 ≤ (x7_1 : Int) := od_ (by first | (with_reducible assumption) | assumption)
                    have q561 : x7_1 < (t545.length : Int) := od_ (by first | (with_reducible assumption) | assumption)
                    obtain ⟨ad561, e561, hx561_0⟩ := Kd.at_int (Kd.R_reads' HO_5.out).2.2 x7_1 p561 q561
                    obtain rfl : ad559 = ad561 := (by injection e561)
                    replace p561 := eq_true p561
                    replace q561 := eq_true q561
                    go_wp2
                    repeat (go_quiet (fail); try go_wp2)
                    go_roundg kj27
                    case measure => have := HK1.out; have := HJ11.out; have := HJ18.out; have := HJ27.out; omega
                    case rel => exact ⟨(wrap64 (x7_1 + 1)), (by first | rfl | (simp; done) | (simp [*]; done) | (simp [bne]; done)), H', ⟨by have := HK1.out; have := HJ11.out; have := HJ18.out; have := HJ27.out; omega⟩, ⟨by (with_reducible repeat (first | apply Kd.R_alloc | apply Kd.R_drewN | apply Kd.R_drew)); exact HO_5.out⟩, ⟨by repeat (first | (with_reducible first | exact HB.out | apply ba_ | apply pd_ | apply d1_) | exact HB.out)⟩⟩
                   ·rw [if_neg c44] at H
                    have c44b0 : ((rd t545 x7_1) == 0) = false := beq_eq_false_iff_ne.mpr c44
                    have c44b1 : ((rd t545 x7_1) != 0) = true := bne_iff_ne.mpr c44
                    exact absurd ((Option.some.inj H).trans hxt.out) (by decide)
               ·rw [if_neg c40] at H
                exact absurd H (by simp)
              ·rw [if_neg c39] at H
               exact absurd H (by simp)
      ·rw [if_neg c11] at H
       have c11b0 : decide (x7_1 < (t545.length : Int)) = false := df_ c11
       clear c11
       replace H := ob_ H
       obtain ⟨t550, A450, H⟩ := H
       replace H : (some t550) = some r := H
       have A45 := sd_ A450
       clear A450
       obtain rfl := Option.some.inj H
       go_wp2_with (first | (go_at_call 7; (with_reducible refine (neumelaw23_heads.calls k1  t550 _ ?side1 A45.out).mono ?_); (case side1 => first | (with_reducible exact hE) | exact sd_ (LaidE.below hE.out (bb_ HB.out e0_))); rintro e w46 ⟨rfl, hb⟩; replace HO_5 := sd_ (Kd.R_below (by (with_reducible repeat (first | apply Kd.R_alloc | apply Kd.R_drewN | apply Kd.R_drew)); exact HO_5.out) hb); replace HB := hb_ HB e0_ hb; (try clear hb); (try clear hb2); (try clear hk); (try clear hi)))
       repeat (go_quiet (first | (go_at_call 7; (with_reducible refine (neumelaw23_heads.calls k1  t550 _ ?side1 A45.out).mono ?_); (case side1 => first | (with_reducible exact hE) | exact sd_ (LaidE.below hE.out (bb_ HB.out e0_))); rintro e w46 ⟨rfl, hb⟩; replace HO_5 := sd_ (Kd.R_below (by (with_reducible repeat (first | apply Kd.R_alloc | apply Kd.R_drewN | apply Kd.R_drew)); exact HO_5.out) hb); replace HB := hb_ HB e0_ hb; (try clear hb); (try clear hb2); (try clear hk); (try clear hi))); try go_wp2_with (first | (go_at_call 7; (with_reducible refine (neumelaw23_heads.calls k1  t550 _ ?side1 A45.out).mono ?_); (case side1 => first | (with_reducible exact hE) | exact sd_ (LaidE.below hE.out (bb_ HB.out e0_))); rintro e w46 ⟨rfl, hb⟩; replace HO_5 := sd_ (Kd.R_below (by (with_reducible repeat (first | apply Kd.R_alloc | apply Kd.R_drewN | apply Kd.R_drew)); exact HO_5.out) hb); replace HB := hb_ HB e0_ hb; (try clear hb); (try clear hb2); (try clear hk); (try clear hi))))
       go_ret
       exact ⟨by first | rfl | (simp [errW_none, errW_some] <;> rfl) | (simp [*, errW_none, errW_some] <;> rfl), by repeat (first | (with_reducible first | exact HB.out | apply ba_ | apply pd_ | apply d1_) | exact HB.out)⟩
   ·rw [if_neg c8] at H
    have c8b0 : ((t545.length : Int) == (l0.length : Int)) = false := beq_eq_false_iff_ne.mpr c8
    have c8b1 : ((t545.length : Int) != (l0.length : Int)) = true := bne_iff_ne.mpr c8
    have c8b2 : (t545.length == l0.length) = false := by first | simpa using c8 | (simp at c8 ⊢; omega)
    exact absurd ((Option.some.inj H).trans hxt.out) (by decide)
  ·rw [if_neg c7] at H
   have c7b0 : (t546 == 0) = false := beq_eq_false_iff_ne.mpr c7
   have c7b1 : (t546 != 0) = true := bne_iff_ne.mpr c7
   by_cases c47 : (t545.length : Int) = 0
   ·rw [if_pos c47] at H
    have c47b0 : ((t545.length : Int) == 0) = true := beq_iff_eq.mpr c47
    have c47b1 : ((t545.length : Int) != 0) = false := bne_eq_false_iff_eq.mpr c47
    clear c47
    replace H := ob_ H
    obtain ⟨t549, A480, H⟩ := H
    replace H : (some t549) = some r := H
    have A48 := sd_ A480
    clear A480
    obtain rfl := Option.some.inj H
    go_enter Tryd.func6, Tryd.ntmps6
    go_wp2_with (first | (go_at_call 8; (with_reducible refine (chord_Sides.calls k _ _ l0 a1 t545 t546 _ ?side1 ?side2 A6.out).mono ?_); (case side1 => repeat (first | exact HR0.out | (with_reducible refine Kd.C_alloc ?_ _) | (with_reducible refine Kd.C_drewN ?_ _) | (with_reducible refine Kd.C_drew ?_))); (case side2 => exact HC0.out); rintro e w49 ⟨v547, rfl, ho0, hb⟩; have HO548 := sd_ (Kd.R_lower ho0 (bz_ (bb_ HB.out e0_))); replace HB := hb_ HB e0_ hb; (try clear hb); (try clear hb2); (try clear hk); (try clear hi); (try clear ho0); obtain ⟨Ao50, co50, eo50⟩ := Kd.R_slice HO548.out; subst eo50) | (go_at_call 7; (with_reducible refine (neumelaw23_heads.calls k  t549 _ ?side1 A48.out).mono ?_); (case side1 => first | (with_reducible exact hE) | exact sd_ (LaidE.below hE.out (bb_ HB.out e0_))); rintro e w51 ⟨rfl, hb⟩; replace HO548 := sd_ (Kd.R_below (by (with_reducible repeat (first | apply Kd.R_alloc | apply Kd.R_drewN | apply Kd.R_drew)); exact HO548.out) hb); replace HB := hb_ HB e0_ hb; (try clear hb); (try clear hb2); (try clear hk); (try clear hi)))
    repeat (go_quiet (first | (go_at_call 8; (with_reducible refine (chord_Sides.calls k _ _ l0 a1 t545 t546 _ ?side1 ?side2 A6.out).mono ?_); (case side1 => repeat (first | exact HR0.out | (with_reducible refine Kd.C_alloc ?_ _) | (with_reducible refine Kd.C_drewN ?_ _) | (with_reducible refine Kd.C_drew ?_))); (case side2 => exact HC0.out); rintro e w49 ⟨v547, rfl, ho0, hb⟩; have HO548 := sd_ (Kd.R_lower ho0 (bz_ (bb_ HB.out e0_))); replace HB := hb_ HB e0_ hb; (try clear hb); (try clear hb2); (try clear hk); (try clear hi); (try clear ho0); obtain ⟨Ao50, co50, eo50⟩ := Kd.R_slice HO548.out; subst eo50) | (go_at_call 7; (with_reducible refine (neumelaw23_heads.calls k  t549 _ ?side1 A48.out).mono ?_); (case side1 => first | (with_reducible exact hE) | exact sd_ (LaidE.below hE.out (bb_ HB.out e0_))); rintro e w51 ⟨rfl, hb⟩; replace HO548 := sd_ (Kd.R_below (by (with_reducible repeat (first | apply Kd.R_alloc | apply Kd.R_drewN | apply Kd.R_drew)); exact HO548.out) hb); replace HB := hb_ HB e0_ hb; (try clear hb); (try clear hb2); (try clear hk); (try clear hi))); try go_wp2_with (first | (go_at_call 8; (with_reducible refine (chord_Sides.calls k _ _ l0 a1 t545 t546 _ ?side1 ?side2 A6.out).mono ?_); (case side1 => repeat (first | exact HR0.out | (with_reducible refine Kd.C_alloc ?_ _) | (with_reducible refine Kd.C_drewN ?_ _) | (with_reducible refine Kd.C_drew ?_))); (case side2 => exact HC0.out); rintro e w49 ⟨v547, rfl, ho0, hb⟩; have HO548 := sd_ (Kd.R_lower ho0 (bz_ (bb_ HB.out e0_))); replace HB := hb_ HB e0_ hb; (try clear hb); (try clear hb2); (try clear hk); (try clear hi); (try clear ho0); obtain ⟨Ao50, co50, eo50⟩ := Kd.R_slice HO548.out; subst eo50) | (go_at_call 7; (with_reducible refine (neumelaw23_heads.calls k  t549 _ ?side1 A48.out).mono ?_); (case side1 => first | (with_reducible exact hE) | exact sd_ (LaidE.below hE.out (bb_ HB.out e0_))); rintro e w51 ⟨rfl, hb⟩; replace HO548 := sd_ (Kd.R_below (by (with_reducible repeat (first | apply Kd.R_alloc | apply Kd.R_drewN | apply Kd.R_drew)); exact HO548.out) hb); replace HB := hb_ HB e0_ hb; (try clear hb); (try clear hb2); (try clear hk); (try clear hi))))
    go_ret
    exact ⟨by first | rfl | (simp [errW_none, errW_some] <;> rfl) | (simp [*, errW_none, errW_some] <;> rfl), by repeat (first | (with_reducible first | exact HB.out | apply ba_ | apply pd_ | apply d1_) | exact HB.out)⟩
   ·rw [if_neg c47] at H
    have c47b0 : ((t545.length : Int) == 0) = false := beq_eq_false_iff_ne.mpr c47
    have c47b1 : ((t545.length : Int) != 0) = true := bne_iff_ne.mpr c47
    have c47b2 : ¬ (t545 = []) := fun h_ => c47 (by rw [h_]; rfl)
    exact absurd ((Option.some.inj H).trans hxt.out) (by decide)

end Go.Proofs.YtcokemaiploejaaDoor.P
