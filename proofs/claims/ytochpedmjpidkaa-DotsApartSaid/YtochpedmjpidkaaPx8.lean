-- Written by a program of this session (wip/tools/xprint.py, over the kit's print): Lean checks it.
import Derived.Test.YtochpedmjpidkaaPx0
import Derived.Test.YtochpedmjpidkaaPx2
import Derived.Test.YtochpedmjpidkaaPx4
namespace Go.Proofs.Ytochpedmjpidkaa.P
open Go.RowKit Go.Proofs.YtochpedmjpidkaaW.PrintWords Go.Proofs.YtochpedmjpidkaaW.PrintLast Go.Proofs.YtochpedmjpidkaaW.PrintMore
attribute [local go_sem] max2_int min2_int max_two min_two max_three min_three max_four min_four   -- for this text's walks alone
set_option linter.unusedVariables false
set_option linter.unusedSimpArgs false

/-! ### neumelaw20_DotsApart: function 4 -/
mutual
def neumelaw20_DotsApart.l0 : Nat → List Int → List Int → Int → Option (Bool)
 | 0, _, _, _ => none
 | k + 1, x0, x3, x5 => if x5 < (x3.length : Int) then (if 0 ≤ x5 then (if (Int.tmod (rd x3 x5) 2) = 0 then (neumelaw20_DotsApart.j1 k x0 x3 x5 true) else (if x5 < (x0.length : Int) then (neumelaw20_DotsApart.j1 k x0 x3 x5 (decide ((rd x3 x5) > (wrap64 ((rd x0 x5) + 1))))) else (none))) else (none)) else ((neumelaw20_heads.f k).bind fun t240 => (some t240))
def neumelaw20_DotsApart.j1 : Nat → List Int → List Int → Int → Bool → Option (Bool)
 | 0, _, _, _, _ => none
 | k + 1, x0, x3, x5, x52 => if x52 = true then (some false) else (neumelaw20_DotsApart.l1 k x0 x3 x5 0)
def neumelaw20_DotsApart.l1 : Nat → List Int → List Int → Int → Int → Option (Bool)
 | 0, _, _, _, _ => none
 | k + 1, x0, x3, x5, x6 => if x6 < (x3.length : Int) then (if 0 ≤ x5 then (if x5 < (x3.length : Int) then (if 0 ≤ x6 then (if x5 < (x0.length : Int) then (if x6 < (x0.length : Int) then (if (((rd x3 x5) == (rd x3 x6)) != ((rd x0 x5) == (rd x0 x6))) = true then (some false) else (neumelaw20_DotsApart.l1 k x0 x3 x5 (wrap64 (x6 + 1)))) else (none)) else (none)) else (none)) else (none)) else (none)) else (neumelaw20_DotsApart.l0 k x0 x3 (wrap64 (x5 + 1)))
end
def neumelaw20_DotsApart.f (k : Nat) (l0 : List Int) : Option (Bool) := if (l0.length : Int) > 100 then ((neumelaw20_heads.f k).bind fun t234 => (some t234)) else ((dots_Dots.f k l0).bind fun bt235 => (if bt235.2 = 0 then (if (bt235.1.length : Int) = (l0.length : Int) then (neumelaw20_DotsApart.l0 k l0 bt235.1 0) else (some false)) else (if (bt235.1.length : Int) = 0 then ((neumelaw20_heads.f k).bind fun t239 => (some t239)) else (some false))))
theorem neumelaw20_DotsApart.mono_l : ∀ k, (∀ y0 y1 y2, LeO (neumelaw20_DotsApart.l0 k y0 y1 y2) (neumelaw20_DotsApart.l0 (k + 1) y0 y1 y2)) ∧ (∀ y0 y1 y2 y3, LeO (neumelaw20_DotsApart.j1 k y0 y1 y2 y3) (neumelaw20_DotsApart.j1 (k + 1) y0 y1 y2 y3)) ∧ (∀ y0 y1 y2 y3, LeO (neumelaw20_DotsApart.l1 k y0 y1 y2 y3) (neumelaw20_DotsApart.l1 (k + 1) y0 y1 y2 y3))
 | 0 => ⟨fun _ _ _ r h => by simp [neumelaw20_DotsApart.l0] at h, fun _ _ _ _ r h => by simp [neumelaw20_DotsApart.j1] at h, fun _ _ _ _ r h => by simp [neumelaw20_DotsApart.l1] at h⟩
 | k + 1 => by
  obtain ⟨ih0, ih1, ih2⟩ := neumelaw20_DotsApart.mono_l k
  refine ⟨?_, ?_, ?_⟩
  ·intro y0 y1 y2
   unfold neumelaw20_DotsApart.l0
   repeat' first
   | (with_reducible exact ih0 _ _ _)
   | (with_reducible exact ih1 _ _ _ _)
   | (with_reducible exact ih2 _ _ _ _)
   | (with_reducible exact dots_Dots.mono _ _)
   | (with_reducible exact neumelaw20_heads.mono _)
   | (with_reducible exact LeO.refl _)
   | (with_reducible exact LeO.none _)
   | (with_reducible refine LeO.ite ?_ ?_)
   | (with_reducible refine LeO.bind ?_ (fun _ => ?_))
   | exact ih0 _ _ _
   | exact ih1 _ _ _ _
   | exact ih2 _ _ _ _
   | exact dots_Dots.mono _ _
   | exact neumelaw20_heads.mono _
   | exact LeO.none _
   | refine LeO.ite ?_ ?_
   | refine LeO.bind ?_ (fun _ => ?_)
  ·intro y0 y1 y2 y3
   unfold neumelaw20_DotsApart.j1
   repeat' first
   | (with_reducible exact ih0 _ _ _)
   | (with_reducible exact ih1 _ _ _ _)
   | (with_reducible exact ih2 _ _ _ _)
   | (with_reducible exact dots_Dots.mono _ _)
   | (with_reducible exact neumelaw20_heads.mono _)
   | (with_reducible exact LeO.refl _)
   | (with_reducible exact LeO.none _)
   | (with_reducible refine LeO.ite ?_ ?_)
   | (with_reducible refine LeO.bind ?_ (fun _ => ?_))
   | exact ih0 _ _ _
   | exact ih1 _ _ _ _
   | exact ih2 _ _ _ _
   | exact dots_Dots.mono _ _
   | exact neumelaw20_heads.mono _
   | exact LeO.none _
   | refine LeO.ite ?_ ?_
   | refine LeO.bind ?_ (fun _ => ?_)
  ·intro y0 y1 y2 y3
   unfold neumelaw20_DotsApart.l1
   repeat' first
   | (with_reducible exact ih0 _ _ _)
   | (with_reducible exact ih1 _ _ _ _)
   | (with_reducible exact ih2 _ _ _ _)
   | (with_reducible exact dots_Dots.mono _ _)
   | (with_reducible exact neumelaw20_heads.mono _)
   | (with_reducible exact LeO.refl _)
   | (with_reducible exact LeO.none _)
   | (with_reducible refine LeO.ite ?_ ?_)
   | (with_reducible refine LeO.bind ?_ (fun _ => ?_))
   | exact ih0 _ _ _
   | exact ih1 _ _ _ _
   | exact ih2 _ _ _ _
   | exact dots_Dots.mono _ _
   | exact neumelaw20_heads.mono _
   | exact LeO.none _
   | refine LeO.ite ?_ ?_
   | refine LeO.bind ?_ (fun _ => ?_)
theorem neumelaw20_DotsApart.mono : ∀ a0 k, LeO (neumelaw20_DotsApart.f k a0) (neumelaw20_DotsApart.f (k + 1) a0) := by
 intro a0 k
 obtain ⟨ih0, ih1, ih2⟩ := neumelaw20_DotsApart.mono_l k
 unfold neumelaw20_DotsApart.f
 repeat' first
   | (with_reducible exact ih0 _ _ _)
   | (with_reducible exact ih1 _ _ _ _)
   | (with_reducible exact ih2 _ _ _ _)
   | (with_reducible exact dots_Dots.mono _ _)
   | (with_reducible exact neumelaw20_heads.mono _)
   | (with_reducible exact LeO.refl _)
   | (with_reducible exact LeO.none _)
   | (with_reducible refine LeO.ite ?_ ?_)
   | (with_reducible refine LeO.bind ?_ (fun _ => ?_))
   | exact ih0 _ _ _
   | exact ih1 _ _ _ _
   | exact ih2 _ _ _ _
   | exact dots_Dots.mono _ _
   | exact neumelaw20_heads.mono _
   | exact LeO.none _
   | refine LeO.ite ?_ ?_
   | refine LeO.bind ?_ (fun _ => ?_)
set_option maxHeartbeats 8000000 in
set_option maxRecDepth 100000 in
theorem neumelaw20_DotsApart.calls (k : Nat) (A0 : Option Addr) (c0 : Nat) (l0 : List Int) (r : Bool) (w : World) (hr0 : Kd.C (Kd.int .i64) w A0 l0.length l0) (hc0 : l0.length ≤ c0) (hxt : Aside0 (r = true)) (h : neumelaw20_DotsApart.f k l0 = some r) :
  Calls Try.prog 4 #[.slice A0 l0.length c0] w fun e w' => e = .returned (.bool r) ∧ Below w.heap.size w w' := by
 have HR0 := sd_ hr0
 have HC0 := sd_ hc0
 clear hr0 hc0
 have HB := sd_ (Below.refl w.heap.size w)
 have H : (if (l0.length : Int) > 100 then ((neumelaw20_heads.f k).bind fun t234 => (some t234)) else ((dots_Dots.f k l0).bind fun bt235 => (if bt235.2 = 0 then (if (bt235.1.length : Int) = (l0.length : Int) then (neumelaw20_DotsApart.l0 k l0 bt235.1 0) else (some false)) else (if (bt235.1.length : Int) = 0 then ((neumelaw20_heads.f k).bind fun t239 => (some t239)) else (some false))))) = some r := h
 clear h
 by_cases c2 : (l0.length : Int) > 100
 ·rw [if_pos c2] at H
  have c2b0 : decide (100 < (l0.length : Int)) = true := dt_ c2
  have c2b1 : decide (100 < l0.length) = true := dt_ (by omega)
  clear c2
  replace H := ob_ H
  obtain ⟨t234, A30, H⟩ := H
  replace H : (some t234) = some r := H
  have A3 := sd_ A30
  clear A30
  obtain rfl := Option.some.inj H
  go_enter Try.func4, Try.ntmps4
  go_wp2_with (first | (go_at_call 6; (with_reducible refine (neumelaw20_heads.calls k  t234 _ A3.out).mono ?_); rintro e w4 ⟨rfl, hb⟩; replace HB := hb_ HB e0_ hb; (try clear hb); (try clear hb2); (try clear hk); (try clear hi)))
  repeat (go_quiet (first | (go_at_call 6; (with_reducible refine (neumelaw20_heads.calls k  t234 _ A3.out).mono ?_); rintro e w4 ⟨rfl, hb⟩; replace HB := hb_ HB e0_ hb; (try clear hb); (try clear hb2); (try clear hk); (try clear hi))); try go_wp2_with (first | (go_at_call 6; (with_reducible refine (neumelaw20_heads.calls k  t234 _ A3.out).mono ?_); rintro e w4 ⟨rfl, hb⟩; replace HB := hb_ HB e0_ hb; (try clear hb); (try clear hb2); (try clear hk); (try clear hi))))
  go_ret
  exact ⟨by first | rfl | (simp [errW_none, errW_some] <;> rfl) | (simp [*, errW_none, errW_some] <;> rfl), by repeat (first | (with_reducible first | exact HB.out | apply ba_ | apply pd_ | apply d1_) | exact HB.out)⟩
 ·rw [if_neg c2] at H
  have c2b0 : decide (100 < (l0.length : Int)) = false := df_ c2
  have c2b1 : decide (100 < l0.length) = false := df_ (by omega)
  clear c2
  replace H := ob_ H
  obtain ⟨⟨t235, t236⟩, A50, H⟩ := H
  replace H : (if t236 = 0 then (if (t235.length : Int) = (l0.length : Int) then (neumelaw20_DotsApart.l0 k l0 t235 0) else (some false)) else (if (t235.length : Int) = 0 then ((neumelaw20_heads.f k).bind fun t239 => (some t239)) else (some false))) = some r := H
  have A5 := sd_ A50
  clear A50
  by_cases c6 : t236 = 0
  ·rw [if_pos c6] at H
   have c6b0 : (t236 == 0) = true := beq_iff_eq.mpr c6
   have c6b1 : (t236 != 0) = false := bne_eq_false_iff_eq.mpr c6
   clear c6
   by_cases c7 : (t235.length : Int) = (l0.length : Int)
   ·rw [if_pos c7] at H
    have c7b0 : ((t235.length : Int) == (l0.length : Int)) = true := beq_iff_eq.mpr c7
    have c7b1 : ((t235.length : Int) != (l0.length : Int)) = false := bne_eq_false_iff_eq.mpr c7
    have c7b2 : (t235.length == l0.length) = true := by first | simpa using c7 | (simp at c7 ⊢; omega)
    clear c7
    have H' := sd_ H
    clear H
    go_enter Try.func4, Try.ntmps4
    go_wp2_with (first | (go_at_call 7; (with_reducible refine (dots_Dots.calls k _ _ l0 t235 t236 _ ?side1 ?side2 A5.out).mono ?_); (case side1 => repeat (first | exact HR0.out | (with_reducible refine Kd.C_alloc ?_ _) | (with_reducible refine Kd.C_drewN ?_ _) | (with_reducible refine Kd.C_drew ?_))); (case side2 => exact HC0.out); rintro e w8 ⟨v237, rfl, ho0, hb⟩; have HO238 := sd_ (Kd.R_lower ho0 (bz_ (bb_ HB.out e0_))); replace HB := hb_ HB e0_ hb; (try clear hb); (try clear hb2); (try clear hk); (try clear hi); (try clear ho0); obtain ⟨Ao9, co9, eo9⟩ := Kd.R_slice HO238.out; subst eo9))
    repeat (go_quiet (first | (go_at_call 7; (with_reducible refine (dots_Dots.calls k _ _ l0 t235 t236 _ ?side1 ?side2 A5.out).mono ?_); (case side1 => repeat (first | exact HR0.out | (with_reducible refine Kd.C_alloc ?_ _) | (with_reducible refine Kd.C_drewN ?_ _) | (with_reducible refine Kd.C_drew ?_))); (case side2 => exact HC0.out); rintro e w8 ⟨v237, rfl, ho0, hb⟩; have HO238 := sd_ (Kd.R_lower ho0 (bz_ (bb_ HB.out e0_))); replace HB := hb_ HB e0_ hb; (try clear hb); (try clear hb2); (try clear hk); (try clear hi); (try clear ho0); obtain ⟨Ao9, co9, eo9⟩ := Kd.R_slice HO238.out; subst eo9)); try go_wp2_with (first | (go_at_call 7; (with_reducible refine (dots_Dots.calls k _ _ l0 t235 t236 _ ?side1 ?side2 A5.out).mono ?_); (case side1 => repeat (first | exact HR0.out | (with_reducible refine Kd.C_alloc ?_ _) | (with_reducible refine Kd.C_drewN ?_ _) | (with_reducible refine Kd.C_drew ?_))); (case side2 => exact HC0.out); rintro e w8 ⟨v237, rfl, ho0, hb⟩; have HO238 := sd_ (Kd.R_lower ho0 (bz_ (bb_ HB.out e0_))); replace HB := hb_ HB e0_ hb; (try clear hb); (try clear hb2); (try clear hk); (try clear hi); (try clear ho0); obtain ⟨Ao9, co9, eo9⟩ := Kd.R_slice HO238.out; subst eo9)))
    go_loopg [5] k (fun kq v5 w' => ∃ (x5_1 : Int), v5 = .int .i64 x5_1 ∧ Aside0 (neumelaw20_DotsApart.l0 kq l0 t235 x5_1 = some r) ∧ Aside0 (kq ≤ k) ∧ Aside0 (Kd.R (Kd.int .i64) 3 w' w.heap.size (fun _ => True) (.slice Ao9 t235.length co9) t235) ∧ Aside0 (Below w.heap.size w w'))
    case atStart => exact ⟨(0), (by first | rfl | (simp; done) | (simp [*]; done) | (simp [bne]; done)), H', ⟨Nat.le_refl _⟩, ⟨by (with_reducible repeat (first | apply Kd.R_alloc | apply Kd.R_drewN | apply Kd.R_drew)); exact HO238.out⟩, ⟨by repeat (first | (with_reducible first | exact HB.out | apply ba_ | apply pd_ | apply d1_) | exact HB.out)⟩⟩
    case round =>
     clear H'
     try clear c2; try clear c2b0; try clear c2b1; try clear p2; try clear c4; try clear c6; try clear c6b0; try clear c6b1; try clear c7; try clear c7b0; try clear c7b1; try clear c7b2
     obtain ⟨x5_1, rfl, HA, HK1, HO_3, HB⟩ := hrel
     cases gk with
     | zero => exact absurd HA.out (by simp [neumelaw20_DotsApart.l0])
     | succ k1 =>
      have H := HA.out
      clear HA
      simp only [neumelaw20_DotsApart.l0] at H
      by_cases c10 : x5_1 < (t235.length : Int)
      ·rw [if_pos c10] at H
       have c10b0 : decide (x5_1 < (t235.length : Int)) = true := dt_ c10
       clear c10
       have HC11 := sd_ H
       clear H
       go_upto_region 11 with (fail)
       repeat (go_quiet (fail); go_upto_region 11 with (fail))
       go_cut [52] (fun v52 wc => ∃ (kq : Nat) (x52_10 : Bool), v52 = .bool x52_10 ∧ Aside0 (neumelaw20_DotsApart.j1 kq l0 t235 x5_1 x52_10 = some r) ∧ Aside0 (kq ≤ k1) ∧ Aside0 (Kd.R (Kd.int .i64) 3 wc w.heap.size (fun _ => True) (.slice Ao9 t235.length co9) t235) ∧ Aside0 (Below w.heap.size w wc))
       case first =>
        have H := HC11.out
        clear HC11
        by_cases c12 : 0 ≤ x5_1
        ·rw [if_pos c12] at H
         have c12b0 : decide (0 ≤ x5_1) = true := dt_ c12
         clear c12
         (first | rw [c12b0] | (simp only [i64_w, i32_w]; rw [c12b0]) | skip)
         by_cases c13 : (Int.tmod (rd t235 x5_1) 2) = 0
         ·rw [if_pos c13] at H
          have c13b0 : ((Int.tmod (rd t235 x5_1) 2) == 0) = true := beq_iff_eq.mpr c13
          have c13b1 : ((Int.tmod (rd t235 x5_1) 2) != 0) = false := bne_eq_false_iff_eq.mpr c13
          clear c13
          have H' := sd_ H
          clear H
          have p241 : 0 ≤ (x5_1 : Int) := od_ (by first | (with_reducible assumption) | assumption)
          have q241 : x5_1 < (t235.length : Int) := od_ (by first | (with_reducible assumption) | assumption)
          obtain ⟨ad241, e241, hx241_0⟩ := Kd.at_int (Kd.R_reads' HO_3.out).2.2 x5_1 p241 q241
          cases e241
          replace p241 := eq_true p241
          replace q241 := eq_true q241
          go_wp2
          repeat (go_quiet (fail); try go_wp2)
          go_meet
          case rel => exact ⟨_, (true), (by first | rfl | (simp; done) | (simp [*]; done) | (simp [bne]; done)), H', ⟨by have := HK1.out; first | omega | exact Nat.le_refl _⟩, ⟨by (with_reducible repeat (first | apply Kd.R_alloc | apply Kd.R_drewN | apply Kd.R_drew)); exact HO_3.out⟩, ⟨by repeat (first | (with_reducible first | exact HB.out | apply ba_ | apply pd_ | apply d1_) | exact HB.out)⟩⟩
         ·rw [if_neg c13] at H
          have c13b0 : ((Int.tmod (rd t235 x5_1) 2) == 0) = false := beq_eq_false_iff_ne.mpr c13
          have c13b1 : ((Int.tmod (rd t235 x5_1) 2) != 0) = true := bne_iff_ne.mpr c13
          by_cases c14 : x5_1 < (l0.length : Int)
          ·rw [if_pos c14] at H
           have c14b0 : decide (x5_1 < (l0.length : Int)) = true := dt_ c14
           clear c14
           have H' := sd_ H
           clear H
           have p241 : 0 ≤ (x5_1 : Int) := od_ (by first | (with_reducible assumption) | assumption)
           have q241 : x5_1 < (t235.length : Int) := od_ (by first | (with_reducible assumption) | assumption)
           obtain ⟨ad241, e241, hx241_0⟩ := Kd.at_int (Kd.R_reads' HO_3.out).2.2 x5_1 p241 q241
           cases e241
           replace p241 := eq_true p241
           replace q241 := eq_true q241
           have p242 : 0 ≤ (x5_1 : Int) := od_ (by first | (with_reducible assumption) | assumption)
           have q242 : x5_1 < (t235.length : Int) := od_ (by first | (with_reducible assumption) | assumption)
           obtain ⟨ad242, e242, hx242_0⟩ := Kd.at_int (Kd.R_reads' HO_3.out).2.2 x5_1 p242 q242
           obtain rfl : ad241 = ad242 := (by injection e242)
           replace p242 := eq_true p242
           replace q242 := eq_true q242
           have p243 : 0 ≤ (x5_1 : Int) := od_ (by first | (with_reducible assumption) | assumption)
           have q243 : x5_1 < (l0.length : Int) := od_ (by first | (with_reducible assumption) | assumption)
           obtain ⟨ad243, e243, hx243_0⟩ := Kd.at_int HR0.out x5_1 p243 q243
           cases e243
           replace hx243_0 := (HB.out.cell (wb_ w _ hx243_0)).trans hx243_0
           replace p243 := eq_true p243
           replace q243 := eq_true q243
           go_wp2
           repeat (go_quiet (fail); try go_wp2)
           go_meet
           case rel => exact ⟨_, (decide ((rd t235 x5_1) > (wrap64 ((rd l0 x5_1) + 1)))), (by first | rfl | (simp; done) | (simp [*]; done) | (simp [bne]; done)), H', ⟨by have := HK1.out; first | omega | exact Nat.le_refl _⟩, ⟨by (with_reducible repeat (first | apply Kd.R_alloc | apply Kd.R_drewN | apply Kd.R_drew)); exact HO_3.out⟩, ⟨by repeat (first | (with_reducible first | exact HB.out | apply ba_ | apply pd_ | apply d1_) | exact HB.out)⟩⟩
          ·rw [if_neg c14] at H
           exact absurd H (by simp)
        ·rw [if_neg c12] at H
         exact absurd H (by simp)
       case rest =>
        clear HC11
        try clear c1; try clear c2; try clear c2b0; try clear c2b1; try clear p2; try clear q2; try clear hx2; try clear c4; try clear c6; try clear c6b0; try clear c6b1; try clear p6; try clear c7; try clear c7b0; try clear c7b1; try clear c7b2; try clear c10; try clear c10b0; try clear c12; try clear c12b0; try clear c13; try clear c13b0; try clear c13b1; try clear c14; try clear c14b0; try clear hx241_0; try clear hx242_0; try clear hx243_0; try clear p2; try clear p241; try clear p242; try clear p243; try clear q241; try clear q242; try clear q243
        obtain ⟨kq, x52_10, rfl, HA, HJ10, HO_3, HB⟩ := hcut
        cases kq with
        | zero => exact absurd HA.out (by simp [neumelaw20_DotsApart.j1])
        | succ kj10 =>
         have H := HA.out
         clear HA
         simp only [neumelaw20_DotsApart.j1] at H
         by_cases c15 : x52_10 = true
         ·subst c15
          have H1 : (some false) = some r := by rw [if_pos rfl] at H; exact H
          clear H; have H := H1; clear H1
          exact absurd ((Option.some.inj H).trans hxt.out) (by decide)
         ·replace c15 := bf_ c15
          subst c15
          have H1 : (neumelaw20_DotsApart.l1 kj10 l0 t235 x5_1 0) = some r := by rw [if_neg (show ¬ (false = true) by decide)] at H; exact H
          clear H; have H := H1; clear H1
          have H' := sd_ H
          clear H
          go_wp2
          repeat (go_quiet (fail); try go_wp2)
          go_loopg [6] kj10 (fun kq v6 w' => ∃ (x6_3 : Int), v6 = .int .i64 x6_3 ∧ Aside0 (neumelaw20_DotsApart.l1 kq l0 t235 x5_1 x6_3 = some r) ∧ Aside0 (kq ≤ kj10) ∧ Aside0 (Kd.R (Kd.int .i64) 3 w' w.heap.size (fun _ => True) (.slice Ao9 t235.length co9) t235) ∧ Aside0 (Below w.heap.size w w'))
          case atStart => exact ⟨(0), (by first | rfl | (simp; done) | (simp [*]; done) | (simp [bne]; done)), H', ⟨Nat.le_refl _⟩, ⟨by (with_reducible repeat (first | apply Kd.R_alloc | apply Kd.R_drewN | apply Kd.R_drew)); exact HO_3.out⟩, ⟨by repeat (first | (with_reducible first | exact HB.out | apply ba_ | apply pd_ | apply d1_) | exact HB.out)⟩⟩
          case round =>
           clear H'
           try clear c1; try clear c2; try clear c2b0; try clear c2b1; try clear p2; try clear q2; try clear hx2; try clear c4; try clear c6; try clear c6b0; try clear c6b1; try clear p6; try clear c7; try clear c7b0; try clear c7b1; try clear c7b2; try clear c10; try clear c10b0; try clear c12; try clear c12b0; try clear c13; try clear c13b0; try clear c13b1; try clear c14; try clear c14b0; try clear c15; try clear hx241_0; try clear hx242_0; try clear hx243_0; try clear p2; try clear p241; try clear p242; try clear p243; try clear p6; try clear q2; try clear q241; try clear q242; try clear q243
           obtain ⟨x6_3, rfl, HA, HK3, HO_3, HB⟩ := hrel
           cases gk with
           | zero => exact absurd HA.out (by simp [neumelaw20_DotsApart.l1])
           | succ k3 =>
            have H := HA.out
            clear HA
            simp only [neumelaw20_DotsApart.l1] at H
            by_cases c16 : x6_3 < (t235.length : Int)
            ·rw [if_pos c16] at H
             have c16b0 : decide (x6_3 < (t235.length : Int)) = true := dt_ c16
             clear c16
             by_cases c17 : 0 ≤ x5_1
             ·rw [if_pos c17] at H
              have c17b0 : decide (0 ≤ x5_1) = true := dt_ c17
              clear c17
              by_cases c18 : x5_1 < (t235.length : Int)
              ·rw [if_pos c18] at H
               have c18b0 : decide (x5_1 < (t235.length : Int)) = true := dt_ c18
               clear c18
               by_cases c19 : 0 ≤ x6_3
               ·rw [if_pos c19] at H
                have c19b0 : decide (0 ≤ x6_3) = true := dt_ c19
                clear c19
                by_cases c20 : x5_1 < (l0.length : Int)
                ·rw [if_pos c20] at H
                 have c20b0 : decide (x5_1 < (l0.length : Int)) = true := dt_ c20
                 clear c20
                 by_cases c21 : x6_3 < (l0.length : Int)
                 ·rw [if_pos c21] at H
                  have c21b0 : decide (x6_3 < (l0.length : Int)) = true := dt_ c21
                  clear c21
                  by_cases c22 : (((rd t235 x5_1) == (rd t235 x6_3)) != ((rd l0 x5_1) == (rd l0 x6_3))) = true
                  ·rw [if_pos c22] at H
                   have c22b0 : (((rd t235 x5_1) == (rd t235 x6_3)) != ((rd l0 x5_1) == (rd l0 x6_3))) = true := c22
                   (try (have c22b1 : decide (((rd t235 x5_1) == (rd t235 x6_3)) = ((rd l0 x5_1) == (rd l0 x6_3))) = false := by simpa using c22))
                   (try (have c22b2 : (((rd t235 x5_1) == (rd t235 x6_3)) == ((rd l0 x5_1) == (rd l0 x6_3))) = false := by simpa using c22))
                   (try (have c22b3 : ¬ (((rd t235 x5_1) == (rd t235 x6_3)) = ((rd l0 x5_1) == (rd l0 x6_3))) := by simpa using c22))
                   clear c22
                   exact absurd ((Option.some.inj H).trans hxt.out) (by decide)
                  ·rw [if_neg c22] at H
                   have c22b0 : (((rd t235 x5_1) == (rd t235 x6_3)) != ((rd l0 x5_1) == (rd l0 x6_3))) = false := by simpa using c22
                   (try (have c22b1 : decide (((rd t235 x5_1) == (rd t235 x6_3)) = ((rd l0 x5_1) == (rd l0 x6_3))) = true := by simpa using c22))
                   (try (have c22b2 : (((rd t235 x5_1) == (rd t235 x6_3)) == ((rd l0 x5_1) == (rd l0 x6_3))) = true := by simpa using c22))
                   clear c22
                   have H' := sd_ H
                   clear H
                   have p244 : 0 ≤ (x5_1 : Int) := od_ (by first | (with_reducible assumption) | assumption)
                   have q244 : x5_1 < (t235.length : Int) := od_ (by first | (with_reducible assumption) | assumption)
                   obtain ⟨ad244, e244, hx244_0⟩ := Kd.at_int (Kd.R_reads' HO_3.out).2.2 x5_1 p244 q244
                   cases e244
                   replace p244 := eq_true p244
                   replace q244 := eq_true q244
                   have p245 : 0 ≤ (x6_3 : Int) := od_ (by first | (with_reducible assumption) | assumption)
                   have q245 : x6_3 < (t235.length : Int) := od_ (by first | (with_reducible assumption) | assumption)
                   obtain ⟨ad245, e245, hx245_0⟩ := Kd.at_int (Kd.R_reads' HO_3.out).2.2 x6_3 p245 q245
                   obtain rfl : ad244 = ad245 := (by injection e245)
                   replace p245 := eq_true p245
                   replace q245 := eq_true q245
                   have p246 : 0 ≤ (x5_1 : Int) := od_ (by first | (with_reducible assumption) | assumption)
                   have q246 : x5_1 < (l0.length : Int) := od_ (by first | (with_reducible assumption) | assumption)
                   obtain ⟨ad246, e246, hx246_0⟩ := Kd.at_int HR0.out x5_1 p246 q246
                   cases e246
                   replace hx246_0 := (HB.out.cell (wb_ w _ hx246_0)).trans hx246_0
                   replace p246 := eq_true p246
                   replace q246 := eq_true q246
                   have p247 : 0 ≤ (x6_3 : Int) := od_ (by first | (with_reducible assumption) | assumption)
                   have q247 : x6_3 < (l0.length : Int) := od_ (by first | (with_reducible assumption) | assumption)
                   obtain ⟨ad247, e247, hx247_0⟩ := Kd.at_int HR0.out x6_3 p247 q247
                   obtain rfl : ad246 = ad247 := (by injection e247)
                   replace hx247_0 := (HB.out.cell (wb_ w _ hx247_0)).trans hx247_0
                   replace p247 := eq_true p247
                   replace q247 := eq_true q247
                   go_wp2
                   repeat (go_quiet (fail); try go_wp2)
                   go_roundg k3
                   case measure => have := HK1.out; have := HJ10.out; have := HK3.out; omega
                   case rel => exact ⟨(wrap64 (x6_3 + 1)), (by first | rfl | (simp; done) | (simp [*]; done) | (simp [bne]; done)), H', ⟨by have := HK1.out; have := HJ10.out; have := HK3.out; omega⟩, ⟨by (with_reducible repeat (first | apply Kd.R_alloc | apply Kd.R_drewN | apply Kd.R_drew)); exact HO_3.out⟩, ⟨by repeat (first | (with_reducible first | exact HB.out | apply ba_ | apply pd_ | apply d1_) | exact HB.out)⟩⟩
                 ·rw [if_neg c21] at H
                  exact absurd H (by simp)
                ·rw [if_neg c20] at H
                 exact absurd H (by simp)
               ·rw [if_neg c19] at H
                exact absurd H (by simp)
              ·rw [if_neg c18] at H
               exact absurd H (by simp)
             ·rw [if_neg c17] at H
              exact absurd H (by simp)
            ·rw [if_neg c16] at H
             have c16b0 : decide (x6_3 < (t235.length : Int)) = false := df_ c16
             clear c16
             have H' := sd_ H
             clear H
             go_wp2
             repeat (go_quiet (fail); try go_wp2)
             go_roundg k3
             case measure => have := HK1.out; have := HJ10.out; have := HK3.out; omega
             case rel => exact ⟨(wrap64 (x5_1 + 1)), (by first | rfl | (simp; done) | (simp [*]; done) | (simp [bne]; done)), H', ⟨by have := HK1.out; have := HJ10.out; have := HK3.out; omega⟩, ⟨by (with_reducible repeat (first | apply Kd.R_alloc | apply Kd.R_drewN | apply Kd.R_drew)); exact HO_3.out⟩, ⟨by repeat (first | (with_reducible first | exact HB.out | apply ba_ | apply pd_ | apply d1_) | exact HB.out)⟩⟩
      ·rw [if_neg c10] at H
       have c10b0 : decide (x5_1 < (t235.length : Int)) = false := df_ c10
       clear c10
       replace H := ob_ H
       obtain ⟨t240, A230, H⟩ := H
       replace H : (some t240) = some r := H
       have A23 := sd_ A230
       clear A230
       obtain rfl := Option.some.inj H
       go_wp2_with (first | (go_at_call 6; (with_reducible refine (neumelaw20_heads.calls k1  t240 _ A23.out).mono ?_); rintro e w24 ⟨rfl, hb⟩; replace HO_3 := sd_ (Kd.R_below (by (with_reducible repeat (first | apply Kd.R_alloc | apply Kd.R_drewN | apply Kd.R_drew)); exact HO_3.out) hb); replace HB := hb_ HB e0_ hb; (try clear hb); (try clear hb2); (try clear hk); (try clear hi)))
       repeat (go_quiet (first | (go_at_call 6; (with_reducible refine (neumelaw20_heads.calls k1  t240 _ A23.out).mono ?_); rintro e w24 ⟨rfl, hb⟩; replace HO_3 := sd_ (Kd.R_below (by (with_reducible repeat (first | apply Kd.R_alloc | apply Kd.R_drewN | apply Kd.R_drew)); exact HO_3.out) hb); replace HB := hb_ HB e0_ hb; (try clear hb); (try clear hb2); (try clear hk); (try clear hi))); try go_wp2_with (first | (go_at_call 6; (with_reducible refine (neumelaw20_heads.calls k1  t240 _ A23.out).mono ?_); rintro e w24 ⟨rfl, hb⟩; replace HO_3 := sd_ (Kd.R_below (by (with_reducible repeat (first | apply Kd.R_alloc | apply Kd.R_drewN | apply Kd.R_drew)); exact HO_3.out) hb); replace HB := hb_ HB e0_ hb; (try clear hb); (try clear hb2); (try clear hk); (try clear hi))))
       go_ret
       exact ⟨by first | rfl | (simp [errW_none, errW_some] <;> rfl) | (simp [*, errW_none, errW_some] <;> rfl), by repeat (first | (with_reducible first | exact HB.out | apply ba_ | apply pd_ | apply d1_) | exact HB.out)⟩
   ·rw [if_neg c7] at H
    have c7b0 : ((t235.length : Int) == (l0.length : Int)) = false := beq_eq_false_iff_ne.mpr c7
    have c7b1 : ((t235.length : Int) != (l0.length : Int)) = true := bne_iff_ne.mpr c7
    have c7b2 : (t235.length == l0.length) = false := by first | simpa using c7 | (simp at c7 ⊢; omega)
    exact absurd ((Option.some.inj H).trans hxt.out) (by decide)
  ·rw [if_neg c6] at H
   have c6b0 : (t236 == 0) = false := beq_eq_false_iff_ne.mpr c6
   have c6b1 : (t236 != 0) = true := bne_iff_ne.mpr c6
   by_cases c25 : (t235.length : Int) = 0
   ·rw [if_pos c25] at H
    have c25b0 : ((t235.length : Int) == 0) = true := beq_iff_eq.mpr c25
    have c25b1 : ((t235.length : Int) != 0) = false := bne_eq_false_iff_eq.mpr c25
    clear c25
    replace H := ob_ H
    obtain ⟨t239, A260, H⟩ := H
    replace H : (some t239) = some r := H
    have A26 := sd_ A260
    clear A260
    obtain rfl := Option.some.inj H
    go_enter Try.func4, Try.ntmps4
    go_wp2_with (first | (go_at_call 7; (with_reducible refine (dots_Dots.calls k _ _ l0 t235 t236 _ ?side1 ?side2 A5.out).mono ?_); (case side1 => repeat (first | exact HR0.out | (with_reducible refine Kd.C_alloc ?_ _) | (with_reducible refine Kd.C_drewN ?_ _) | (with_reducible refine Kd.C_drew ?_))); (case side2 => exact HC0.out); rintro e w27 ⟨v237, rfl, ho0, hb⟩; have HO238 := sd_ (Kd.R_lower ho0 (bz_ (bb_ HB.out e0_))); replace HB := hb_ HB e0_ hb; (try clear hb); (try clear hb2); (try clear hk); (try clear hi); (try clear ho0); obtain ⟨Ao28, co28, eo28⟩ := Kd.R_slice HO238.out; subst eo28) | (go_at_call 6; (with_reducible refine (neumelaw20_heads.calls k  t239 _ A26.out).mono ?_); rintro e w29 ⟨rfl, hb⟩; replace HO238 := sd_ (Kd.R_below (by (with_reducible repeat (first | apply Kd.R_alloc | apply Kd.R_drewN | apply Kd.R_drew)); exact HO238.out) hb); replace HB := hb_ HB e0_ hb; (try clear hb); (try clear hb2); (try clear hk); (try clear hi)))
    repeat (go_quiet (first | (go_at_call 7; (with_reducible refine (dots_Dots.calls k _ _ l0 t235 t236 _ ?side1 ?side2 A5.out).mono ?_); (case side1 => repeat (first | exact HR0.out | (with_reducible refine Kd.C_alloc ?_ _) | (with_reducible refine Kd.C_drewN ?_ _) | (with_reducible refine Kd.C_drew ?_))); (case side2 => exact HC0.out); rintro e w27 ⟨v237, rfl, ho0, hb⟩; have HO238 := sd_ (Kd.R_lower ho0 (bz_ (bb_ HB.out e0_))); replace HB := hb_ HB e0_ hb; (try clear hb); (try clear hb2); (try clear hk); (try clear hi); (try clear ho0); obtain ⟨Ao28, co28, eo28⟩ := Kd.R_slice HO238.out; subst eo28) | (go_at_call 6; (with_reducible refine (neumelaw20_heads.calls k  t239 _ A26.out).mono ?_); rintro e w29 ⟨rfl, hb⟩; replace HO238 := sd_ (Kd.R_below (by (with_reducible repeat (first | apply Kd.R_alloc | apply Kd.R_drewN | apply Kd.R_drew)); exact HO238.out) hb); replace HB := hb_ HB e0_ hb; (try clear hb); (try clear hb2); (try clear hk); (try clear hi))); try go_wp2_with (first | (go_at_call 7; (with_reducible refine (dots_Dots.calls k _ _ l0 t235 t236 _ ?side1 ?side2 A5.out).mono ?_); (case side1 => repeat (first | exact HR0.out | (with_reducible refine Kd.C_alloc ?_ _) | (with_reducible refine Kd.C_drewN ?_ _) | (with_reducible refine Kd.C_drew ?_))); (case side2 => exact HC0.out); rintro e w27 ⟨v237, rfl, ho0, hb⟩; have HO238 := sd_ (Kd.R_lower ho0 (bz_ (bb_ HB.out e0_))); replace HB := hb_ HB e0_ hb; (try clear hb); (try clear hb2); (try clear hk); (try clear hi); (try clear ho0); obtain ⟨Ao28, co28, eo28⟩ := Kd.R_slice HO238.out; subst eo28) | (go_at_call 6; (with_reducible refine (neumelaw20_heads.calls k  t239 _ A26.out).mono ?_); rintro e w29 ⟨rfl, hb⟩; replace HO238 := sd_ (Kd.R_below (by (with_reducible repeat (first | apply Kd.R_alloc | apply Kd.R_drewN | apply Kd.R_drew)); exact HO238.out) hb); replace HB := hb_ HB e0_ hb; (try clear hb); (try clear hb2); (try clear hk); (try clear hi))))
    go_ret
    exact ⟨by first | rfl | (simp [errW_none, errW_some] <;> rfl) | (simp [*, errW_none, errW_some] <;> rfl), by repeat (first | (with_reducible first | exact HB.out | apply ba_ | apply pd_ | apply d1_) | exact HB.out)⟩
   ·rw [if_neg c25] at H
    have c25b0 : ((t235.length : Int) == 0) = false := beq_eq_false_iff_ne.mpr c25
    have c25b1 : ((t235.length : Int) != 0) = true := bne_iff_ne.mpr c25
    have c25b2 : ¬ (t235 = []) := fun h_ => c25 (by rw [h_]; rfl)
    exact absurd ((Option.some.inj H).trans hxt.out) (by decide)

/-- THE ONE PURE STATEMENT of neumelaw20_DotsApart: yours. -/
def neumelaw20_DotsApart.Pure : Prop := ∀ (l0 : List Int), l0.length ≤ maxLen → l0.length * 8 ≤ 140737488351232 → (∀ x ∈ l0, (Lit.int .i64 x).wf = true) → ∃ k, neumelaw20_DotsApart.f k l0 = some true
theorem neumelaw20_DotsApart.walk (P : neumelaw20_DotsApart.Pure) (a0 : Option Addr) (len0 cap0 : Nat) (z0 : List Int) (w : World) (w0 : (a0 = none ∧ len0 = 0 ∧ cap0 = 0 ∧ z0 = []) ∨ ∃ x, a0 = some x ∧ len0 ≤ cap0 ∧ cap0 ≤ maxLen ∧ z0.length = cap0 ∧ (∀ i, i < z0.length → w.cell? (x.add i) = some (.int .i64 (z0.getD i 0))) ∧ ∀ n ∈ z0, (Lit.int .i64 n).wf = true) (y0 : len0 * 8 ≤ 140737488351232) :
  Calls Try.prog 4 #[.slice a0 len0 cap0] w fun e w' => e = .returned (.bool true) ∧ Below w.heap.size w w' := by
 obtain ⟨l0, rfl, hr0, hm0, hw0, hc0⟩ := ReadsInt.ofRowC w0
 obtain ⟨k, h⟩ := P l0 hm0 y0 hw0
 refine (neumelaw20_DotsApart.calls k _ _ l0 true w (Kd.C_of_reads (d := (0 : Int)) (h1 := fun _ => rfl) hr0) hc0 ⟨rfl⟩ h).mono ?_
 rintro e w' ⟨rfl, hd⟩
 exact ⟨rfl, hd⟩

end Go.Proofs.Ytochpedmjpidkaa.P
