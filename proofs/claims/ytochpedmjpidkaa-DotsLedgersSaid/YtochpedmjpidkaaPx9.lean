-- Written by a program of this session (wip/tools/xprint.py, over the kit's print): Lean checks it.
import Derived.Test.YtochpedmjpidkaaPx0
import Derived.Test.YtochpedmjpidkaaPx4
namespace Go.Proofs.Ytochpedmjpidkaa.P
open Go.RowKit Go.Proofs.YtochpedmjpidkaaW.PrintWords Go.Proofs.YtochpedmjpidkaaW.PrintLast Go.Proofs.YtochpedmjpidkaaW.PrintMore
attribute [local go_sem] max2_int min2_int max_two min_two max_three min_three max_four min_four   -- for this text's walks alone
set_option linter.unusedVariables false
set_option linter.unusedSimpArgs false

/-! ### neumelaw20_DotsLedgers: function 5 -/
mutual
def neumelaw20_DotsLedgers.l0 : Nat → List Int → List Int → Int → Int → Int → Option (Bool)
 | 0, _, _, _, _, _ => none
 | k + 1, x0, x3, x4, x5, x6 => if x6 < (x0.length : Int) then (if 0 ≤ x6 then (neumelaw20_DotsLedgers.l0 k x0 x3 (mx x4 (rd x0 x6)) (mn x5 (rd x0 x6)) (wrap64 (x6 + 1))) else (none)) else (neumelaw20_DotsLedgers.l1 k x0 x3 x4 x5 0 0)
def neumelaw20_DotsLedgers.l1 : Nat → List Int → List Int → Int → Int → Int → Int → Option (Bool)
 | 0, _, _, _, _, _, _ => none
 | k + 1, x0, x3, x4, x5, x7, x8 => if x8 < (x3.length : Int) then (if 0 ≤ x8 then (if (Int.tmod (rd x3 x8) 2) = 0 then (if (rd x3 x8) < 6 then (if (rd x3 x8) > (-6) then (some false) else (if (rd x3 x8) > x4 then (some false) else (if (rd x3 x8) < x5 then (some false) else (if x8 > 0 then (if 0 ≤ (wrap64 (x8 - 1)) then (if (wrap64 (x8 - 1)) < (x3.length : Int) then (if (rd x3 x8) ≤ (rd x3 (wrap64 (x8 - 1))) then (some false) else (neumelaw20_DotsLedgers.l1 k x0 x3 x4 x5 (wrap64 (x7 + 1)) (wrap64 (x8 + 1)))) else (none)) else (none)) else (neumelaw20_DotsLedgers.l1 k x0 x3 x4 x5 (wrap64 (x7 + 1)) (wrap64 (x8 + 1))))))) else (if (rd x3 x8) > x4 then (some false) else (if (rd x3 x8) < x5 then (some false) else (if x8 > 0 then (if 0 ≤ (wrap64 (x8 - 1)) then (if (wrap64 (x8 - 1)) < (x3.length : Int) then (if (rd x3 x8) ≤ (rd x3 (wrap64 (x8 - 1))) then (some false) else (neumelaw20_DotsLedgers.l1 k x0 x3 x4 x5 (wrap64 (x7 + 1)) (wrap64 (x8 + 1)))) else (none)) else (none)) else (neumelaw20_DotsLedgers.l1 k x0 x3 x4 x5 (wrap64 (x7 + 1)) (wrap64 (x8 + 1))))))) else (some false)) else (none)) else (if (x0.length : Int) < 1 then (neumelaw20_DotsLedgers.j2 k x4 x5 x7 true) else (if (x0.length : Int) > 16 then (neumelaw20_DotsLedgers.j2 k x4 x5 x7 true) else (if x4 > 200 then (neumelaw20_DotsLedgers.j2 k x4 x5 x7 true) else (neumelaw20_DotsLedgers.j2 k x4 x5 x7 (decide (x5 < (-200)))))))
def neumelaw20_DotsLedgers.j2 : Nat → Int → Int → Int → Bool → Option (Bool)
 | 0, _, _, _, _ => none
 | k + 1, x4, x5, x7, x108 => if x108 = true then (if x7 = 0 then ((neumelaw20_heads.f k).bind fun t265 => (some t265)) else (some false)) else (if x7 = (wrap64 ((mx 0 (wrap64 ((wrap64 (Int.tdiv x4 2)) - 2))) + (mx 0 (wrap64 ((wrap64 (Int.tdiv (wrap64 (-x5)) 2)) - 2))))) then ((neumelaw20_heads.f k).bind fun t266 => (some t266)) else (some false))
end
def neumelaw20_DotsLedgers.f (k : Nat) (l0 : List Int) : Option (Bool) := if (l0.length : Int) > 100 then ((neumelaw20_heads.f k).bind fun t248 => (some t248)) else ((dots_Ledgers.f k l0).bind fun t249 => (neumelaw20_DotsLedgers.l0 k l0 t249 0 0 0))
theorem neumelaw20_DotsLedgers.mono_l : ∀ k, (∀ y0 y1 y2 y3 y4, LeO (neumelaw20_DotsLedgers.l0 k y0 y1 y2 y3 y4) (neumelaw20_DotsLedgers.l0 (k + 1) y0 y1 y2 y3 y4)) ∧ (∀ y0 y1 y2 y3 y4 y5, LeO (neumelaw20_DotsLedgers.l1 k y0 y1 y2 y3 y4 y5) (neumelaw20_DotsLedgers.l1 (k + 1) y0 y1 y2 y3 y4 y5)) ∧ (∀ y0 y1 y2 y3, LeO (neumelaw20_DotsLedgers.j2 k y0 y1 y2 y3) (neumelaw20_DotsLedgers.j2 (k + 1) y0 y1 y2 y3))
 | 0 => ⟨fun _ _ _ _ _ r h => by simp [neumelaw20_DotsLedgers.l0] at h, fun _ _ _ _ _ _ r h => by simp [neumelaw20_DotsLedgers.l1] at h, fun _ _ _ _ r h => by simp [neumelaw20_DotsLedgers.j2] at h⟩
 | k + 1 => by
  obtain ⟨ih0, ih1, ih2⟩ := neumelaw20_DotsLedgers.mono_l k
  refine ⟨?_, ?_, ?_⟩
  ·intro y0 y1 y2 y3 y4
   unfold neumelaw20_DotsLedgers.l0
   repeat' first
   | (with_reducible exact ih0 _ _ _ _ _)
   | (with_reducible exact ih1 _ _ _ _ _ _)
   | (with_reducible exact ih2 _ _ _ _)
   | (with_reducible exact dots_Ledgers.mono _ _)
   | (with_reducible exact neumelaw20_heads.mono _)
   | (with_reducible exact LeO.refl _)
   | (with_reducible exact LeO.none _)
   | (with_reducible refine LeO.ite ?_ ?_)
   | (with_reducible refine LeO.bind ?_ (fun _ => ?_))
   | exact ih0 _ _ _ _ _
   | exact ih1 _ _ _ _ _ _
   | exact ih2 _ _ _ _
   | exact dots_Ledgers.mono _ _
   | exact neumelaw20_heads.mono _
   | exact LeO.none _
   | refine LeO.ite ?_ ?_
   | refine LeO.bind ?_ (fun _ => ?_)
  ·intro y0 y1 y2 y3 y4 y5
   unfold neumelaw20_DotsLedgers.l1
   repeat' first
   | (with_reducible exact ih0 _ _ _ _ _)
   | (with_reducible exact ih1 _ _ _ _ _ _)
   | (with_reducible exact ih2 _ _ _ _)
   | (with_reducible exact dots_Ledgers.mono _ _)
   | (with_reducible exact neumelaw20_heads.mono _)
   | (with_reducible exact LeO.refl _)
   | (with_reducible exact LeO.none _)
   | (with_reducible refine LeO.ite ?_ ?_)
   | (with_reducible refine LeO.bind ?_ (fun _ => ?_))
   | exact ih0 _ _ _ _ _
   | exact ih1 _ _ _ _ _ _
   | exact ih2 _ _ _ _
   | exact dots_Ledgers.mono _ _
   | exact neumelaw20_heads.mono _
   | exact LeO.none _
   | refine LeO.ite ?_ ?_
   | refine LeO.bind ?_ (fun _ => ?_)
  ·intro y0 y1 y2 y3
   unfold neumelaw20_DotsLedgers.j2
   repeat' first
   | (with_reducible exact ih0 _ _ _ _ _)
   | (with_reducible exact ih1 _ _ _ _ _ _)
   | (with_reducible exact ih2 _ _ _ _)
   | (with_reducible exact dots_Ledgers.mono _ _)
   | (with_reducible exact neumelaw20_heads.mono _)
   | (with_reducible exact LeO.refl _)
   | (with_reducible exact LeO.none _)
   | (with_reducible refine LeO.ite ?_ ?_)
   | (with_reducible refine LeO.bind ?_ (fun _ => ?_))
   | exact ih0 _ _ _ _ _
   | exact ih1 _ _ _ _ _ _
   | exact ih2 _ _ _ _
   | exact dots_Ledgers.mono _ _
   | exact neumelaw20_heads.mono _
   | exact LeO.none _
   | refine LeO.ite ?_ ?_
   | refine LeO.bind ?_ (fun _ => ?_)
theorem neumelaw20_DotsLedgers.mono : ∀ a0 k, LeO (neumelaw20_DotsLedgers.f k a0) (neumelaw20_DotsLedgers.f (k + 1) a0) := by
 intro a0 k
 obtain ⟨ih0, ih1, ih2⟩ := neumelaw20_DotsLedgers.mono_l k
 unfold neumelaw20_DotsLedgers.f
 repeat' first
   | (with_reducible exact ih0 _ _ _ _ _)
   | (with_reducible exact ih1 _ _ _ _ _ _)
   | (with_reducible exact ih2 _ _ _ _)
   | (with_reducible exact dots_Ledgers.mono _ _)
   | (with_reducible exact neumelaw20_heads.mono _)
   | (with_reducible exact LeO.refl _)
   | (with_reducible exact LeO.none _)
   | (with_reducible refine LeO.ite ?_ ?_)
   | (with_reducible refine LeO.bind ?_ (fun _ => ?_))
   | exact ih0 _ _ _ _ _
   | exact ih1 _ _ _ _ _ _
   | exact ih2 _ _ _ _
   | exact dots_Ledgers.mono _ _
   | exact neumelaw20_heads.mono _
   | exact LeO.none _
   | refine LeO.ite ?_ ?_
   | refine LeO.bind ?_ (fun _ => ?_)
set_option maxHeartbeats 8000000 in
set_option maxRecDepth 100000 in
theorem neumelaw20_DotsLedgers.calls (k : Nat) (A0 : Option Addr) (c0 : Nat) (l0 : List Int) (r : Bool) (w : World) (hr0 : Kd.C (Kd.int .i64) w A0 l0.length l0) (hc0 : l0.length ≤ c0) (hxt : Aside0 (r = true)) (h : neumelaw20_DotsLedgers.f k l0 = some r) :
  Calls Try.prog 5 #[.slice A0 l0.length c0] w fun e w' => e = .returned (.bool r) ∧ Below w.heap.size w w' := by
 have HR0 := sd_ hr0
 have HC0 := sd_ hc0
 clear hr0 hc0
 have HB := sd_ (Below.refl w.heap.size w)
 have H : (if (l0.length : Int) > 100 then ((neumelaw20_heads.f k).bind fun t248 => (some t248)) else ((dots_Ledgers.f k l0).bind fun t249 => (neumelaw20_DotsLedgers.l0 k l0 t249 0 0 0))) = some r := h
 clear h
 by_cases c2 : (l0.length : Int) > 100
 ·rw [if_pos c2] at H
  have c2b0 : decide (100 < (l0.length : Int)) = true := dt_ c2
  have c2b1 : decide (100 < l0.length) = true := dt_ (by omega)
  clear c2
  replace H := ob_ H
  obtain ⟨t248, A30, H⟩ := H
  replace H : (some t248) = some r := H
  have A3 := sd_ A30
  clear A30
  obtain rfl := Option.some.inj H
  go_enter Try.func5, Try.ntmps5
  go_wp2_with (first | (go_at_call 6; (with_reducible refine (neumelaw20_heads.calls k  t248 _ A3.out).mono ?_); rintro e w4 ⟨rfl, hb⟩; replace HB := hb_ HB e0_ hb; (try clear hb); (try clear hb2); (try clear hk); (try clear hi)))
  repeat (go_quiet (first | (go_at_call 6; (with_reducible refine (neumelaw20_heads.calls k  t248 _ A3.out).mono ?_); rintro e w4 ⟨rfl, hb⟩; replace HB := hb_ HB e0_ hb; (try clear hb); (try clear hb2); (try clear hk); (try clear hi))); try go_wp2_with (first | (go_at_call 6; (with_reducible refine (neumelaw20_heads.calls k  t248 _ A3.out).mono ?_); rintro e w4 ⟨rfl, hb⟩; replace HB := hb_ HB e0_ hb; (try clear hb); (try clear hb2); (try clear hk); (try clear hi))))
  go_ret
  exact ⟨by first | rfl | (simp [errW_none, errW_some] <;> rfl) | (simp [*, errW_none, errW_some] <;> rfl), by repeat (first | (with_reducible first | exact HB.out | apply ba_ | apply pd_ | apply d1_) | exact HB.out)⟩
 ·rw [if_neg c2] at H
  have c2b0 : decide (100 < (l0.length : Int)) = false := df_ c2
  have c2b1 : decide (100 < l0.length) = false := df_ (by omega)
  clear c2
  replace H := ob_ H
  obtain ⟨t249, A50, H⟩ := H
  replace H : (neumelaw20_DotsLedgers.l0 k l0 t249 0 0 0) = some r := H
  have A5 := sd_ A50
  clear A50
  have H' := sd_ H
  clear H
  go_enter Try.func5, Try.ntmps5
  go_wp2_with (first | (go_at_call 12; (with_reducible refine (dots_Ledgers.calls k _ _ l0 t249 _ ?side1 ?side2 A5.out).mono ?_); (case side1 => repeat (first | exact HR0.out | (with_reducible refine Kd.C_alloc ?_ _) | (with_reducible refine Kd.C_drewN ?_ _) | (with_reducible refine Kd.C_drew ?_))); (case side2 => exact HC0.out); rintro e w6 ⟨v250, rfl, ho0, hb⟩; have HO251 := sd_ (Kd.R_lower ho0 (bz_ (bb_ HB.out e0_))); replace HB := hb_ HB e0_ hb; (try clear hb); (try clear hb2); (try clear hk); (try clear hi); (try clear ho0)))
  repeat (go_quiet (first | (go_at_call 12; (with_reducible refine (dots_Ledgers.calls k _ _ l0 t249 _ ?side1 ?side2 A5.out).mono ?_); (case side1 => repeat (first | exact HR0.out | (with_reducible refine Kd.C_alloc ?_ _) | (with_reducible refine Kd.C_drewN ?_ _) | (with_reducible refine Kd.C_drew ?_))); (case side2 => exact HC0.out); rintro e w6 ⟨v250, rfl, ho0, hb⟩; have HO251 := sd_ (Kd.R_lower ho0 (bz_ (bb_ HB.out e0_))); replace HB := hb_ HB e0_ hb; (try clear hb); (try clear hb2); (try clear hk); (try clear hi); (try clear ho0))); try go_wp2_with (first | (go_at_call 12; (with_reducible refine (dots_Ledgers.calls k _ _ l0 t249 _ ?side1 ?side2 A5.out).mono ?_); (case side1 => repeat (first | exact HR0.out | (with_reducible refine Kd.C_alloc ?_ _) | (with_reducible refine Kd.C_drewN ?_ _) | (with_reducible refine Kd.C_drew ?_))); (case side2 => exact HC0.out); rintro e w6 ⟨v250, rfl, ho0, hb⟩; have HO251 := sd_ (Kd.R_lower ho0 (bz_ (bb_ HB.out e0_))); replace HB := hb_ HB e0_ hb; (try clear hb); (try clear hb2); (try clear hk); (try clear hi); (try clear ho0))))
  go_loopg [4, 5, 6] k (fun kq v4 v5 v6 w' => ∃ (x4_1 : Int) (x5_1 : Int) (x6_1 : Int), v4 = .int .i64 x4_1 ∧ v5 = .int .i64 x5_1 ∧ v6 = .int .i64 x6_1 ∧ Aside0 (neumelaw20_DotsLedgers.l0 kq l0 t249 x4_1 x5_1 x6_1 = some r) ∧ Aside0 (kq ≤ k) ∧ Aside0 (Kd.R (Kd.int .i64) 3 w' w.heap.size (fun _ => True) v250 t249) ∧ Aside0 (Below w.heap.size w w'))
  case atStart => exact ⟨(0), (0), (0), (by first | rfl | (simp; done) | (simp [*]; done) | (simp [bne]; done)), (by first | rfl | (simp; done) | (simp [*]; done) | (simp [bne]; done)), (by first | rfl | (simp; done) | (simp [*]; done) | (simp [bne]; done)), H', ⟨Nat.le_refl _⟩, ⟨by (with_reducible repeat (first | apply Kd.R_alloc | apply Kd.R_drewN | apply Kd.R_drew)); exact HO251.out⟩, ⟨by repeat (first | (with_reducible first | exact HB.out | apply ba_ | apply pd_ | apply d1_) | exact HB.out)⟩⟩
  case round =>
   clear H'
   try clear c2; try clear c2b0; try clear c2b1; try clear p2; try clear c5
   obtain ⟨x4_1, x5_1, x6_1, rfl, rfl, rfl, HA, HK1, HO_3, HB⟩ := hrel
   cases gk with
   | zero => exact absurd HA.out (by simp [neumelaw20_DotsLedgers.l0])
   | succ k1 =>
    have H := HA.out
    clear HA
    simp only [neumelaw20_DotsLedgers.l0] at H
    by_cases c7 : x6_1 < (l0.length : Int)
    ·rw [if_pos c7] at H
     have c7b0 : decide (x6_1 < (l0.length : Int)) = true := dt_ c7
     clear c7
     by_cases c8 : 0 ≤ x6_1
     ·rw [if_pos c8] at H
      have c8b0 : decide (0 ≤ x6_1) = true := dt_ c8
      clear c8
      obtain ⟨ji9, hji9⟩ : ∃ j_ : Int, (mx x4_1 (rd l0 x6_1)) = j_ := ⟨_, rfl⟩
      replace H : (neumelaw20_DotsLedgers.l0 k1 l0 t249 ji9 (mn x5_1 (rd l0 x6_1)) (wrap64 (x6_1 + 1))) = some r := by first | (rw [hji9] at H; exact H) | (simp only [hji9] at H ⊢; exact H)
      have hji9_ : (if x4_1 < (rd l0 x6_1) then (rd l0 x6_1) else x4_1) = ji9 := hji9
      obtain ⟨ji10, hji10⟩ : ∃ j_ : Int, (mn x5_1 (rd l0 x6_1)) = j_ := ⟨_, rfl⟩
      replace H : (neumelaw20_DotsLedgers.l0 k1 l0 t249 ji9 ji10 (wrap64 (x6_1 + 1))) = some r := by first | (rw [hji10] at H; exact H) | (simp only [hji10] at H ⊢; exact H)
      have hji10_ : (if (rd l0 x6_1) < x5_1 then (rd l0 x6_1) else x5_1) = ji10 := hji10
      have H' := sd_ H
      clear H
      have p252 : 0 ≤ (x6_1 : Int) := od_ (by first | (with_reducible assumption) | assumption)
      have q252 : x6_1 < (l0.length : Int) := od_ (by first | (with_reducible assumption) | assumption)
      obtain ⟨ad252, e252, hx252_0⟩ := Kd.at_int HR0.out x6_1 p252 q252
      cases e252
      replace hx252_0 := (HB.out.cell (wb_ w _ hx252_0)).trans hx252_0
      replace p252 := eq_true p252
      replace q252 := eq_true q252
      have p253 : 0 ≤ (x6_1 : Int) := od_ (by first | (with_reducible assumption) | assumption)
      have q253 : x6_1 < (l0.length : Int) := od_ (by first | (with_reducible assumption) | assumption)
      obtain ⟨ad253, e253, hx253_0⟩ := Kd.at_int HR0.out x6_1 p253 q253
      obtain rfl : ad252 = ad253 := (by injection e253)
      replace hx253_0 := (HB.out.cell (wb_ w _ hx253_0)).trans hx253_0
      replace p253 := eq_true p253
      replace q253 := eq_true q253
      go_wp2
      repeat (go_quiet (fail); try go_wp2)
      go_roundg k1
      case measure => have := HK1.out; omega
      case rel => exact ⟨(ji9), (ji10), (wrap64 (x6_1 + 1)), (by first | rfl | (simp; done) | (simp only [← hji9] <;> (first | rfl | simp)) | (simp [*]; done)), (by first | rfl | (simp; done) | (simp only [← hji10] <;> (first | rfl | simp)) | (simp [*]; done)), (by first | rfl | (simp; done) | (simp [*]; done) | (simp [bne]; done)), H', ⟨by have := HK1.out; omega⟩, ⟨by (with_reducible repeat (first | apply Kd.R_alloc | apply Kd.R_drewN | apply Kd.R_drew)); exact HO_3.out⟩, ⟨by repeat (first | (with_reducible first | exact HB.out | apply ba_ | apply pd_ | apply d1_) | exact HB.out)⟩⟩
     ·rw [if_neg c8] at H
      exact absurd H (by simp)
    ·rw [if_neg c7] at H
     have c7b0 : decide (x6_1 < (l0.length : Int)) = false := df_ c7
     clear c7
     have H' := sd_ H
     clear H
     go_wp2
     repeat (go_quiet (fail); try go_wp2)
     go_loopg [7, 8] k1 (fun kq v7 v8 w' => ∃ (x7_2 : Int) (x8_2 : Int), v7 = .int .i64 x7_2 ∧ v8 = .int .i64 x8_2 ∧ Aside0 (neumelaw20_DotsLedgers.l1 kq l0 t249 x4_1 x5_1 x7_2 x8_2 = some r) ∧ Aside0 (kq ≤ k1) ∧ Aside0 (Kd.R (Kd.int .i64) 3 w' w.heap.size (fun _ => True) v250 t249) ∧ Aside0 (Below w.heap.size w w'))
     case atStart => exact ⟨(0), (0), (by first | rfl | (simp; done) | (simp [*]; done) | (simp [bne]; done)), (by first | rfl | (simp; done) | (simp [*]; done) | (simp [bne]; done)), H', ⟨Nat.le_refl _⟩, ⟨by (with_reducible repeat (first | apply Kd.R_alloc | apply Kd.R_drewN | apply Kd.R_drew)); exact HO_3.out⟩, ⟨by repeat (first | (with_reducible first | exact HB.out | apply ba_ | apply pd_ | apply d1_) | exact HB.out)⟩⟩
     case round =>
      clear H'
      try clear c2; try clear c2b0; try clear c2b1; try clear p2; try clear q2; try clear hx2; try clear c5; try clear p6; try clear c7; try clear c7b0; try clear c8; try clear c8b0; try clear hx252_0; try clear hx253_0; try clear p2; try clear p252; try clear p253; try clear q252; try clear q253
      obtain ⟨x7_2, x8_2, rfl, rfl, HA, HK2, HO_3, HB⟩ := hrel
      cases gk with
      | zero => exact absurd HA.out (by simp [neumelaw20_DotsLedgers.l1])
      | succ k2 =>
       have H := HA.out
       clear HA
       simp only [neumelaw20_DotsLedgers.l1] at H
       by_cases c11 : x8_2 < (t249.length : Int)
       ·rw [if_pos c11] at H
        have c11b0 : decide (x8_2 < (t249.length : Int)) = true := dt_ c11
        clear c11
        by_cases c12 : 0 ≤ x8_2
        ·rw [if_pos c12] at H
         have c12b0 : decide (0 ≤ x8_2) = true := dt_ c12
         clear c12
         by_cases c13 : (Int.tmod (rd t249 x8_2) 2) = 0
         ·rw [if_pos c13] at H
          have c13b0 : ((Int.tmod (rd t249 x8_2) 2) == 0) = true := beq_iff_eq.mpr c13
          have c13b1 : ((Int.tmod (rd t249 x8_2) 2) != 0) = false := bne_eq_false_iff_eq.mpr c13
          clear c13
          by_cases c14 : (rd t249 x8_2) < 6
          ·rw [if_pos c14] at H
           have c14b0 : decide ((rd t249 x8_2) < 6) = true := dt_ c14
           clear c14
           by_cases c15 : (rd t249 x8_2) > (-6)
           ·rw [if_pos c15] at H
            have c15b0 : decide ((-6) < (rd t249 x8_2)) = true := dt_ c15
            clear c15
            exact absurd ((Option.some.inj H).trans hxt.out) (by decide)
           ·rw [if_neg c15] at H
            have c15b0 : decide ((-6) < (rd t249 x8_2)) = false := df_ c15
            clear c15
            by_cases c16 : (rd t249 x8_2) > x4_1
            ·rw [if_pos c16] at H
             have c16b0 : decide (x4_1 < (rd t249 x8_2)) = true := dt_ c16
             clear c16
             exact absurd ((Option.some.inj H).trans hxt.out) (by decide)
            ·rw [if_neg c16] at H
             have c16b0 : decide (x4_1 < (rd t249 x8_2)) = false := df_ c16
             clear c16
             by_cases c17 : (rd t249 x8_2) < x5_1
             ·rw [if_pos c17] at H
              have c17b0 : decide ((rd t249 x8_2) < x5_1) = true := dt_ c17
              clear c17
              exact absurd ((Option.some.inj H).trans hxt.out) (by decide)
             ·rw [if_neg c17] at H
              have c17b0 : decide ((rd t249 x8_2) < x5_1) = false := df_ c17
              clear c17
              by_cases c18 : x8_2 > 0
              ·rw [if_pos c18] at H
               have c18b0 : decide (0 < x8_2) = true := dt_ c18
               clear c18
               obtain ⟨ji19, hji19⟩ : ∃ j_ : Int, (wrap64 (x8_2 - 1)) = j_ := ⟨_, rfl⟩
               replace H : (if 0 ≤ (ji19) then (if (ji19) < (t249.length : Int) then (if (rd t249 x8_2) ≤ (rd t249 (ji19)) then (some false) else (neumelaw20_DotsLedgers.l1 k2 l0 t249 x4_1 x5_1 (wrap64 (x7_2 + 1)) (wrap64 (x8_2 + 1)))) else (none)) else (none)) = some r := by first | (rw [hji19] at H; exact H) | (simp only [hji19] at H ⊢; exact H)
               have hji19w : (IntKind.i64.wrap (x8_2 - 1)) = ji19 := (i64_w _).trans hji19
               by_cases c20 : 0 ≤ (ji19)
               ·rw [if_pos c20] at H
                have c20b0 : decide (0 ≤ (ji19)) = true := dt_ c20
                clear c20
                by_cases c21 : (ji19) < (t249.length : Int)
                ·rw [if_pos c21] at H
                 have c21b0 : decide ((ji19) < (t249.length : Int)) = true := dt_ c21
                 clear c21
                 by_cases c22 : (rd t249 x8_2) ≤ (rd t249 (ji19))
                 ·rw [if_pos c22] at H
                  have c22b0 : decide ((rd t249 x8_2) ≤ (rd t249 (ji19))) = true := dt_ c22
                  clear c22
                  exact absurd ((Option.some.inj H).trans hxt.out) (by decide)
                 ·rw [if_neg c22] at H
                  have c22b0 : decide ((rd t249 x8_2) ≤ (rd t249 (ji19))) = false := df_ c22
                  clear c22
                  have H' := sd_ H
                  clear H
                  obtain ⟨Ao23, co23, eo23⟩ := Kd.R_slice HO_3.out
                  subst eo23
                  have p254 : 0 ≤ (x8_2 : Int) := od_ (by first | (with_reducible assumption) | assumption)
                  have q254 : x8_2 < (t249.length : Int) := od_ (by first | (with_reducible assumption) | assumption)
                  obtain ⟨ad254, e254, hx254_0⟩ := Kd.at_int (Kd.R_reads' HO_3.out).2.2 x8_2 p254 q254
                  cases e254
                  replace p254 := eq_true p254
                  replace q254 := eq_true q254
                  have p255 : 0 ≤ (x8_2 : Int) := od_ (by first | (with_reducible assumption) | assumption)
                  have q255 : x8_2 < (t249.length : Int) := od_ (by first | (with_reducible assumption) | assumption)
                  obtain ⟨ad255, e255, hx255_0⟩ := Kd.at_int (Kd.R_reads' HO_3.out).2.2 x8_2 p255 q255
                  obtain rfl : ad254 = ad255 := (by injection e255)
                  replace p255 := eq_true p255
                  replace q255 := eq_true q255
                  have p256 : 0 ≤ (x8_2 : Int) := od_ (by first | (with_reducible assumption) | assumption)
                  have q256 : x8_2 < (t249.length : Int) := od_ (by first | (with_reducible assumption) | assumption)
                  obtain ⟨ad256, e256, hx256_0⟩ := Kd.at_int (Kd.R_reads' HO_3.out).2.2 x8_2 p256 q256
                  obtain rfl : ad254 = ad256 := (by injection e256)
                  replace p256 := eq_true p256
                  replace q256 := eq_true q256
                  have p257 : 0 ≤ (x8_2 : Int) := od_ (by first | (with_reducible assumption) | assumption)
                  have q257 : x8_2 < (t249.length : Int) := od_ (by first | (with_reducible assumption) | assumption)
                  obtain ⟨ad257, e257, hx257_0⟩ := Kd.at_int (Kd.R_reads' HO_3.out).2.2 x8_2 p257 q257
                  obtain rfl : ad254 = ad257 := (by injection e257)
                  replace p257 := eq_true p257
                  replace q257 := eq_true q257
                  have p258 : 0 ≤ (x8_2 : Int) := od_ (by first | (with_reducible assumption) | assumption)
                  have q258 : x8_2 < (t249.length : Int) := od_ (by first | (with_reducible assumption) | assumption)
                  obtain ⟨ad258, e258, hx258_0⟩ := Kd.at_int (Kd.R_reads' HO_3.out).2.2 x8_2 p258 q258
                  obtain rfl : ad254 = ad258 := (by injection e258)
                  replace p258 := eq_true p258
                  replace q258 := eq_true q258
                  have p259 : 0 ≤ (x8_2 : Int) := od_ (by first | (with_reducible assumption) | assumption)
                  have q259 : x8_2 < (t249.length : Int) := od_ (by first | (with_reducible assumption) | assumption)
                  obtain ⟨ad259, e259, hx259_0⟩ := Kd.at_int (Kd.R_reads' HO_3.out).2.2 x8_2 p259 q259
                  obtain rfl : ad254 = ad259 := (by injection e259)
                  replace p259 := eq_true p259
                  replace q259 := eq_true q259
                  have p260 : 0 ≤ ((ji19) : Int) := od_ (by first | (with_reducible assumption) | assumption)
                  have q260 : (ji19) < (t249.length : Int) := od_ (by first | (with_reducible assumption) | assumption)
                  obtain ⟨ad260, e260, hx260_0⟩ := Kd.at_int (Kd.R_reads' HO_3.out).2.2 (ji19) p260 q260
                  obtain rfl : ad254 = ad260 := (by injection e260)
                  replace p260 := eq_true p260
                  replace q260 := eq_true q260
                  go_wp2
                  repeat (go_quiet (fail); try go_wp2)
                  go_roundg k2
                  case measure => have := HK1.out; have := HK2.out; omega
                  case rel => exact ⟨(wrap64 (x7_2 + 1)), (wrap64 (x8_2 + 1)), (by first | rfl | (simp; done) | (simp [*]; done) | (simp [bne]; done)), (by first | rfl | (simp; done) | (simp [*]; done) | (simp [bne]; done)), H', ⟨by have := HK1.out; have := HK2.out; omega⟩, ⟨by (with_reducible repeat (first | apply Kd.R_alloc | apply Kd.R_drewN | apply Kd.R_drew)); exact HO_3.out⟩, ⟨by repeat (first | (with_reducible first | exact HB.out | apply ba_ | apply pd_ | apply d1_) | exact HB.out)⟩⟩
                ·rw [if_neg c21] at H
                 exact absurd H (by simp)
               ·rw [if_neg c20] at H
                exact absurd H (by simp)
              ·rw [if_neg c18] at H
               have c18b0 : decide (0 < x8_2) = false := df_ c18
               clear c18
               have H' := sd_ H
               clear H
               obtain ⟨Ao24, co24, eo24⟩ := Kd.R_slice HO_3.out
               subst eo24
               have p254 : 0 ≤ (x8_2 : Int) := od_ (by first | (with_reducible assumption) | assumption)
               have q254 : x8_2 < (t249.length : Int) := od_ (by first | (with_reducible assumption) | assumption)
               obtain ⟨ad254, e254, hx254_0⟩ := Kd.at_int (Kd.R_reads' HO_3.out).2.2 x8_2 p254 q254
               cases e254
               replace p254 := eq_true p254
               replace q254 := eq_true q254
               have p255 : 0 ≤ (x8_2 : Int) := od_ (by first | (with_reducible assumption) | assumption)
               have q255 : x8_2 < (t249.length : Int) := od_ (by first | (with_reducible assumption) | assumption)
               obtain ⟨ad255, e255, hx255_0⟩ := Kd.at_int (Kd.R_reads' HO_3.out).2.2 x8_2 p255 q255
               obtain rfl : ad254 = ad255 := (by injection e255)
               replace p255 := eq_true p255
               replace q255 := eq_true q255
               have p256 : 0 ≤ (x8_2 : Int) := od_ (by first | (with_reducible assumption) | assumption)
               have q256 : x8_2 < (t249.length : Int) := od_ (by first | (with_reducible assumption) | assumption)
               obtain ⟨ad256, e256, hx256_0⟩ := Kd.at_int (Kd.R_reads' HO_3.out).2.2 x8_2 p256 q256
               obtain rfl : ad254 = ad256 := (by injection e256)
               replace p256 := eq_true p256
               replace q256 := eq_true q256
               have p257 : 0 ≤ (x8_2 : Int) := od_ (by first | (with_reducible assumption) | assumption)
               have q257 : x8_2 < (t249.length : Int) := od_ (by first | (with_reducible assumption) | assumption)
               obtain ⟨ad257, e257, hx257_0⟩ := Kd.at_int (Kd.R_reads' HO_3.out).2.2 x8_2 p257 q257
               obtain rfl : ad254 = ad257 := (by injection e257)
               replace p257 := eq_true p257
               replace q257 := eq_true q257
               have p258 : 0 ≤ (x8_2 : Int) := od_ (by first | (with_reducible assumption) | assumption)
               have q258 : x8_2 < (t249.length : Int) := od_ (by first | (with_reducible assumption) | assumption)
               obtain ⟨ad258, e258, hx258_0⟩ := Kd.at_int (Kd.R_reads' HO_3.out).2.2 x8_2 p258 q258
               obtain rfl : ad254 = ad258 := (by injection e258)
               replace p258 := eq_true p258
               replace q258 := eq_true q258
               go_wp2
               repeat (go_quiet (fail); try go_wp2)
               go_roundg k2
               case measure => have := HK1.out; have := HK2.out; omega
               case rel => exact ⟨(wrap64 (x7_2 + 1)), (wrap64 (x8_2 + 1)), (by first | rfl | (simp; done) | (simp [*]; done) | (simp [bne]; done)), (by first | rfl | (simp; done) | (simp [*]; done) | (simp [bne]; done)), H', ⟨by have := HK1.out; have := HK2.out; omega⟩, ⟨by (with_reducible repeat (first | apply Kd.R_alloc | apply Kd.R_drewN | apply Kd.R_drew)); exact HO_3.out⟩, ⟨by repeat (first | (with_reducible first | exact HB.out | apply ba_ | apply pd_ | apply d1_) | exact HB.out)⟩⟩
          ·rw [if_neg c14] at H
           have c14b0 : decide ((rd t249 x8_2) < 6) = false := df_ c14
           clear c14
           by_cases c25 : (rd t249 x8_2) > x4_1
           ·rw [if_pos c25] at H
            have c25b0 : decide (x4_1 < (rd t249 x8_2)) = true := dt_ c25
            clear c25
            exact absurd ((Option.some.inj H).trans hxt.out) (by decide)
           ·rw [if_neg c25] at H
            have c25b0 : decide (x4_1 < (rd t249 x8_2)) = false := df_ c25
            clear c25
            by_cases c26 : (rd t249 x8_2) < x5_1
            ·rw [if_pos c26] at H
             have c26b0 : decide ((rd t249 x8_2) < x5_1) = true := dt_ c26
             clear c26
             exact absurd ((Option.some.inj H).trans hxt.out) (by decide)
            ·rw [if_neg c26] at H
             have c26b0 : decide ((rd t249 x8_2) < x5_1) = false := df_ c26
             clear c26
             by_cases c27 : x8_2 > 0
             ·rw [if_pos c27] at H
              have c27b0 : decide (0 < x8_2) = true := dt_ c27
              clear c27
              obtain ⟨ji28, hji28⟩ : ∃ j_ : Int, (wrap64 (x8_2 - 1)) = j_ := ⟨_, rfl⟩
              replace H : (if 0 ≤ (ji28) then (if (ji28) < (t249.length : Int) then (if (rd t249 x8_2) ≤ (rd t249 (ji28)) then (some false) else (neumelaw20_DotsLedgers.l1 k2 l0 t249 x4_1 x5_1 (wrap64 (x7_2 + 1)) (wrap64 (x8_2 + 1)))) else (none)) else (none)) = some r := by first | (rw [hji28] at H; exact H) | (simp only [hji28] at H ⊢; exact H)
              have hji28w : (IntKind.i64.wrap (x8_2 - 1)) = ji28 := (i64_w _).trans hji28
              by_cases c29 : 0 ≤ (ji28)
              ·rw [if_pos c29] at H
               have c29b0 : decide (0 ≤ (ji28)) = true := dt_ c29
               clear c29
               by_cases c30 : (ji28) < (t249.length : Int)
               ·rw [if_pos c30] at H
                have c30b0 : decide ((ji28) < (t249.length : Int)) = true := dt_ c30
                clear c30
                by_cases c31 : (rd t249 x8_2) ≤ (rd t249 (ji28))
                ·rw [if_pos c31] at H
                 have c31b0 : decide ((rd t249 x8_2) ≤ (rd t249 (ji28))) = true := dt_ c31
                 clear c31
                 exact absurd ((Option.some.inj H).trans hxt.out) (by decide)
                ·rw [if_neg c31] at H
                 have c31b0 : decide ((rd t249 x8_2) ≤ (rd t249 (ji28))) = false := df_ c31
                 clear c31
                 have H' := sd_ H
                 clear H
                 obtain ⟨Ao32, co32, eo32⟩ := Kd.R_slice HO_3.out
                 subst eo32
                 have p254 : 0 ≤ (x8_2 : Int) := od_ (by first | (with_reducible assumption) | assumption)
                 have q254 : x8_2 < (t249.length : Int) := od_ (by first | (with_reducible assumption) | assumption)
                 obtain ⟨ad254, e254, hx254_0⟩ := Kd.at_int (Kd.R_reads' HO_3.out).2.2 x8_2 p254 q254
                 cases e254
                 replace p254 := eq_true p254
                 replace q254 := eq_true q254
                 have p255 : 0 ≤ (x8_2 : Int) := od_ (by first | (with_reducible assumption) | assumption)
                 have q255 : x8_2 < (t249.length : Int) := od_ (by first | (with_reducible assumption) | assumption)
                 obtain ⟨ad255, e255, hx255_0⟩ := Kd.at_int (Kd.R_reads' HO_3.out).2.2 x8_2 p255 q255
                 obtain rfl : ad254 = ad255 := (by injection e255)
                 replace p255 := eq_true p255
                 replace q255 := eq_true q255
                 have p261 : 0 ≤ (x8_2 : Int) := od_ (by first | (with_reducible assumption) | assumption)
                 have q261 : x8_2 < (t249.length : Int) := od_ (by first | (with_reducible assumption) | assumption)
                 obtain ⟨ad261, e261, hx261_0⟩ := Kd.at_int (Kd.R_reads' HO_3.out).2.2 x8_2 p261 q261
                 obtain rfl : ad254 = ad261 := (by injection e261)
                 replace p261 := eq_true p261
                 replace q261 := eq_true q261
                 have p262 : 0 ≤ (x8_2 : Int) := od_ (by first | (with_reducible assumption) | assumption)
                 have q262 : x8_2 < (t249.length : Int) := od_ (by first | (with_reducible assumption) | assumption)
                 obtain ⟨ad262, e262, hx262_0⟩ := Kd.at_int (Kd.R_reads' HO_3.out).2.2 x8_2 p262 q262
                 obtain rfl : ad254 = ad262 := (by injection e262)
                 replace p262 := eq_true p262
                 replace q262 := eq_true q262
                 have p263 : 0 ≤ (x8_2 : Int) := od_ (by first | (with_reducible assumption) | assumption)
                 have q263 : x8_2 < (t249.length : Int) := od_ (by first | (with_reducible assumption) | assumption)
                 obtain ⟨ad263, e263, hx263_0⟩ := Kd.at_int (Kd.R_reads' HO_3.out).2.2 x8_2 p263 q263
                 obtain rfl : ad254 = ad263 := (by injection e263)
                 replace p263 := eq_true p263
                 replace q263 := eq_true q263
                 have p264 : 0 ≤ ((ji28) : Int) := od_ (by first | (with_reducible assumption) | assumption)
                 have q264 : (ji28) < (t249.length : Int) := od_ (by first | (with_reducible assumption) | assumption)
                 obtain ⟨ad264, e264, hx264_0⟩ := Kd.at_int (Kd.R_reads' HO_3.out).2.2 (ji28) p264 q264
                 obtain rfl : ad254 = ad264 := (by injection e264)
                 replace p264 := eq_true p264
                 replace q264 := eq_true q264
                 go_wp2
                 repeat (go_quiet (fail); try go_wp2)
                 go_roundg k2
                 case measure => have := HK1.out; have := HK2.out; omega
                 case rel => exact ⟨(wrap64 (x7_2 + 1)), (wrap64 (x8_2 + 1)), (by first | rfl | (simp; done) | (simp [*]; done) | (simp [bne]; done)), (by first | rfl | (simp; done) | (simp [*]; done) | (simp [bne]; done)), H', ⟨by have := HK1.out; have := HK2.out; omega⟩, ⟨by (with_reducible repeat (first | apply Kd.R_alloc | apply Kd.R_drewN | apply Kd.R_drew)); exact HO_3.out⟩, ⟨by repeat (first | (with_reducible first | exact HB.out | apply ba_ | apply pd_ | apply d1_) | exact HB.out)⟩⟩
               ·rw [if_neg c30] at H
                exact absurd H (by simp)
              ·rw [if_neg c29] at H
               exact absurd H (by simp)
             ·rw [if_neg c27] at H
              have c27b0 : decide (0 < x8_2) = false := df_ c27
              clear c27
              have H' := sd_ H
              clear H
              obtain ⟨Ao33, co33, eo33⟩ := Kd.R_slice HO_3.out
              subst eo33
              have p254 : 0 ≤ (x8_2 : Int) := od_ (by first | (with_reducible assumption) | assumption)
              have q254 : x8_2 < (t249.length : Int) := od_ (by first | (with_reducible assumption) | assumption)
              obtain ⟨ad254, e254, hx254_0⟩ := Kd.at_int (Kd.R_reads' HO_3.out).2.2 x8_2 p254 q254
              cases e254
              replace p254 := eq_true p254
              replace q254 := eq_true q254
              have p255 : 0 ≤ (x8_2 : Int) := od_ (by first | (with_reducible assumption) | assumption)
              have q255 : x8_2 < (t249.length : Int) := od_ (by first | (with_reducible assumption) | assumption)
              obtain ⟨ad255, e255, hx255_0⟩ := Kd.at_int (Kd.R_reads' HO_3.out).2.2 x8_2 p255 q255
              obtain rfl : ad254 = ad255 := (by injection e255)
              replace p255 := eq_true p255
              replace q255 := eq_true q255
              have p261 : 0 ≤ (x8_2 : Int) := od_ (by first | (with_reducible assumption) | assumption)
              have q261 : x8_2 < (t249.length : Int) := od_ (by first | (with_reducible assumption) | assumption)
              obtain ⟨ad261, e261, hx261_0⟩ := Kd.at_int (Kd.R_reads' HO_3.out).2.2 x8_2 p261 q261
              obtain rfl : ad254 = ad261 := (by injection e261)
              replace p261 := eq_true p261
              replace q261 := eq_true q261
              have p262 : 0 ≤ (x8_2 : Int) := od_ (by first | (with_reducible assumption) | assumption)
              have q262 : x8_2 < (t249.length : Int) := od_ (by first | (with_reducible assumption) | assumption)
              obtain ⟨ad262, e262, hx262_0⟩ := Kd.at_int (Kd.R_reads' HO_3.out).2.2 x8_2 p262 q262
              obtain rfl : ad254 = ad262 := (by injection e262)
              replace p262 := eq_true p262
              replace q262 := eq_true q262
              go_wp2
              repeat (go_quiet (fail); try go_wp2)
              go_roundg k2
              case measure => have := HK1.out; have := HK2.out; omega
              case rel => exact ⟨(wrap64 (x7_2 + 1)), (wrap64 (x8_2 + 1)), (by first | rfl | (simp; done) | (simp [*]; done) | (simp [bne]; done)), (by first | rfl | (simp; done) | (simp [*]; done) | (simp [bne]; done)), H', ⟨by have := HK1.out; have := HK2.out; omega⟩, ⟨by (with_reducible repeat (first | apply Kd.R_alloc | apply Kd.R_drewN | apply Kd.R_drew)); exact HO_3.out⟩, ⟨by repeat (first | (with_reducible first | exact HB.out | apply ba_ | apply pd_ | apply d1_) | exact HB.out)⟩⟩
         ·rw [if_neg c13] at H
          have c13b0 : ((Int.tmod (rd t249 x8_2) 2) == 0) = false := beq_eq_false_iff_ne.mpr c13
          have c13b1 : ((Int.tmod (rd t249 x8_2) 2) != 0) = true := bne_iff_ne.mpr c13
          exact absurd ((Option.some.inj H).trans hxt.out) (by decide)
        ·rw [if_neg c12] at H
         exact absurd H (by simp)
       ·rw [if_neg c11] at H
        have c11b0 : decide (x8_2 < (t249.length : Int)) = false := df_ c11
        clear c11
        have HC34 := sd_ H
        clear H
        obtain ⟨Ao35, co35, eo35⟩ := Kd.R_slice HO_3.out
        subst eo35
        go_upto_region 16 with (fail)
        repeat (go_quiet (fail); go_upto_region 16 with (fail))
        go_cut [108] (fun v108 wc => ∃ (kq : Nat) (x108_33 : Bool), v108 = .bool x108_33 ∧ Aside0 (neumelaw20_DotsLedgers.j2 kq x4_1 x5_1 x7_2 x108_33 = some r) ∧ Aside0 (kq ≤ k2) ∧ Aside0 (Below w.heap.size w wc))
        case first =>
         have H := HC34.out
         clear HC34
         by_cases c36 : (l0.length : Int) < 1
         ·rw [if_pos c36] at H
          have c36b0 : decide ((l0.length : Int) < 1) = true := dt_ c36
          have c36b1 : decide (l0.length < 1) = true := dt_ (by omega)
          clear c36
          (first | rw [c36b0] | (simp only [i64_w, i32_w]; rw [c36b0]) | skip)
          have H' := sd_ H
          clear H
          go_wp2
          repeat (go_quiet (fail); try go_wp2)
          go_meet
          case rel => exact ⟨_, (true), (by first | rfl | (simp; done) | (simp [*]; done) | (simp [bne]; done)), H', ⟨by have := HK1.out; have := HK2.out; first | omega | exact Nat.le_refl _⟩, ⟨by repeat (first | (with_reducible first | exact HB.out | apply ba_ | apply pd_ | apply d1_) | exact HB.out)⟩⟩
         ·rw [if_neg c36] at H
          have c36b0 : decide ((l0.length : Int) < 1) = false := df_ c36
          have c36b1 : decide (l0.length < 1) = false := df_ (by omega)
          clear c36
          (first | rw [c36b0] | (simp only [i64_w, i32_w]; rw [c36b0]) | skip)
          by_cases c37 : (l0.length : Int) > 16
          ·rw [if_pos c37] at H
           have c37b0 : decide (16 < (l0.length : Int)) = true := dt_ c37
           have c37b1 : decide (16 < l0.length) = true := dt_ (by omega)
           clear c37
           have H' := sd_ H
           clear H
           go_wp2
           repeat (go_quiet (fail); try go_wp2)
           go_meet
           case rel => exact ⟨_, (true), (by first | rfl | (simp; done) | (simp [*]; done) | (simp [bne]; done)), H', ⟨by have := HK1.out; have := HK2.out; first | omega | exact Nat.le_refl _⟩, ⟨by repeat (first | (with_reducible first | exact HB.out | apply ba_ | apply pd_ | apply d1_) | exact HB.out)⟩⟩
          ·rw [if_neg c37] at H
           have c37b0 : decide (16 < (l0.length : Int)) = false := df_ c37
           have c37b1 : decide (16 < l0.length) = false := df_ (by omega)
           clear c37
           by_cases c38 : x4_1 > 200
           ·rw [if_pos c38] at H
            have c38b0 : decide (200 < x4_1) = true := dt_ c38
            clear c38
            have H' := sd_ H
            clear H
            go_wp2
            repeat (go_quiet (fail); try go_wp2)
            go_meet
            case rel => exact ⟨_, (true), (by first | rfl | (simp; done) | (simp [*]; done) | (simp [bne]; done)), H', ⟨by have := HK1.out; have := HK2.out; first | omega | exact Nat.le_refl _⟩, ⟨by repeat (first | (with_reducible first | exact HB.out | apply ba_ | apply pd_ | apply d1_) | exact HB.out)⟩⟩
           ·rw [if_neg c38] at H
            have c38b0 : decide (200 < x4_1) = false := df_ c38
            clear c38
            have H' := sd_ H
            clear H
            go_wp2
            repeat (go_quiet (fail); try go_wp2)
            go_meet
            case rel => exact ⟨_, (decide (x5_1 < (-200))), (by first | rfl | (simp; done) | (simp [*]; done) | (simp [bne]; done)), H', ⟨by have := HK1.out; have := HK2.out; first | omega | exact Nat.le_refl _⟩, ⟨by repeat (first | (with_reducible first | exact HB.out | apply ba_ | apply pd_ | apply d1_) | exact HB.out)⟩⟩
        case rest =>
         clear HC34
         try clear c1; try clear c2; try clear c2b0; try clear c2b1; try clear p2; try clear q2; try clear hx2; try clear c3; try clear c5; try clear p6; try clear c7; try clear c7b0; try clear c8; try clear c8b0; try clear c11; try clear c11b0; try clear c12; try clear c12b0; try clear c13; try clear c13b0; try clear c13b1; try clear c14; try clear c14b0; try clear c15; try clear c15b0; try clear c16; try clear c16b0; try clear c17; try clear c17b0; try clear c18; try clear c18b0; try clear c20; try clear c20b0; try clear c21; try clear c21b0; try clear c22; try clear c22b0; try clear c25; try clear c25b0; try clear p25; try clear q25; try clear hx25; try clear c26; try clear c26b0; try clear p26; try clear q26; try clear hx26; try clear c27; try clear c27b0; try clear c29; try clear c29b0; try clear c30; try clear c30b0; try clear c31; try clear c31b0; try clear c36; try clear c36b0; try clear c36b1; try clear c37; try clear c37b0; try clear c37b1; try clear c38; try clear c38b0; try clear hx252_0; try clear hx253_0; try clear hx254_0; try clear hx255_0; try clear hx256_0; try clear hx257_0; try clear hx258_0; try clear hx259_0; try clear hx260_0; try clear hx261_0; try clear hx262_0; try clear hx263_0; try clear hx264_0; try clear p2; try clear p252; try clear p253; try clear p254; try clear p255; try clear p256; try clear p257; try clear p258; try clear p259; try clear p260; try clear p261; try clear p262; try clear p263; try clear p264; try clear p6; try clear q2; try clear q252; try clear q253; try clear q254; try clear q255; try clear q256; try clear q257; try clear q258; try clear q259; try clear q260; try clear q261; try clear q262; try clear q263; try clear q264
         obtain ⟨kq, x108_33, rfl, HA, HJ33, HB⟩ := hcut
         cases kq with
         | zero => exact absurd HA.out (by simp [neumelaw20_DotsLedgers.j2])
         | succ kj33 =>
          have H := HA.out
          clear HA
          simp only [neumelaw20_DotsLedgers.j2] at H
          by_cases c39 : x108_33 = true
          ·subst c39
           have H1 : (if x7_2 = 0 then ((neumelaw20_heads.f kj33).bind fun t265 => (some t265)) else (some false)) = some r := by rw [if_pos rfl] at H; exact H
           clear H; have H := H1; clear H1
           by_cases c40 : x7_2 = 0
           ·rw [if_pos c40] at H
            have c40b0 : (x7_2 == 0) = true := beq_iff_eq.mpr c40
            have c40b1 : (x7_2 != 0) = false := bne_eq_false_iff_eq.mpr c40
            clear c40
            replace H := ob_ H
            obtain ⟨t265, A410, H⟩ := H
            replace H : (some t265) = some r := H
            have A41 := sd_ A410
            clear A410
            obtain rfl := Option.some.inj H
            go_wp2_with (first | (go_at_call 6; (with_reducible refine (neumelaw20_heads.calls kj33  t265 _ A41.out).mono ?_); rintro e w42 ⟨rfl, hb⟩; replace HB := hb_ HB e0_ hb; (try clear hb); (try clear hb2); (try clear hk); (try clear hi)))
            repeat (go_quiet (first | (go_at_call 6; (with_reducible refine (neumelaw20_heads.calls kj33  t265 _ A41.out).mono ?_); rintro e w42 ⟨rfl, hb⟩; replace HB := hb_ HB e0_ hb; (try clear hb); (try clear hb2); (try clear hk); (try clear hi))); try go_wp2_with (first | (go_at_call 6; (with_reducible refine (neumelaw20_heads.calls kj33  t265 _ A41.out).mono ?_); rintro e w42 ⟨rfl, hb⟩; replace HB := hb_ HB e0_ hb; (try clear hb); (try clear hb2); (try clear hk); (try clear hi))))
            go_ret
            exact ⟨by first | rfl | (simp [errW_none, errW_some] <;> rfl) | (simp [*, errW_none, errW_some] <;> rfl), by repeat (first | (with_reducible first | exact HB.out | apply ba_ | apply pd_ | apply d1_) | exact HB.out)⟩
           ·rw [if_neg c40] at H
            have c40b0 : (x7_2 == 0) = false := beq_eq_false_iff_ne.mpr c40
            have c40b1 : (x7_2 != 0) = true := bne_iff_ne.mpr c40
            exact absurd ((Option.some.inj H).trans hxt.out) (by decide)
          ·replace c39 := bf_ c39
           subst c39
           have H1 : (if x7_2 = (wrap64 ((mx 0 (wrap64 ((wrap64 (Int.tdiv x4_1 2)) - 2))) + (mx 0 (wrap64 ((wrap64 (Int.tdiv (wrap64 (-x5_1)) 2)) - 2))))) then ((neumelaw20_heads.f kj33).bind fun t266 => (some t266)) else (some false)) = some r := by rw [if_neg (show ¬ (false = true) by decide)] at H; exact H
           clear H; have H := H1; clear H1
           obtain ⟨ji43, hji43⟩ : ∃ j_ : Int, (mx 0 (wrap64 ((wrap64 (Int.tdiv x4_1 2)) - 2))) = j_ := ⟨_, rfl⟩
           replace H : (if x7_2 = (wrap64 ((ji43) + (mx 0 (wrap64 ((wrap64 (Int.tdiv (wrap64 (-x5_1)) 2)) - 2))))) then ((neumelaw20_heads.f kj33).bind fun t266 => (some t266)) else (some false)) = some r := by first | (rw [hji43] at H; exact H) | (simp only [hji43] at H ⊢; exact H)
           have hji43_ : (if 0 < (wrap64 ((wrap64 (Int.tdiv x4_1 2)) - 2)) then (wrap64 ((wrap64 (Int.tdiv x4_1 2)) - 2)) else 0) = ji43 := hji43
           obtain ⟨ji44, hji44⟩ : ∃ j_ : Int, (mx 0 (wrap64 ((wrap64 (Int.tdiv (wrap64 (-x5_1)) 2)) - 2))) = j_ := ⟨_, rfl⟩
           replace H : (if x7_2 = (wrap64 ((ji43) + (ji44))) then ((neumelaw20_heads.f kj33).bind fun t266 => (some t266)) else (some false)) = some r := by first | (rw [hji44] at H; exact H) | (simp only [hji44] at H ⊢; exact H)
           have hji44_ : (if 0 < (wrap64 ((wrap64 (Int.tdiv (wrap64 (-x5_1)) 2)) - 2)) then (wrap64 ((wrap64 (Int.tdiv (wrap64 (-x5_1)) 2)) - 2)) else 0) = ji44 := hji44
           by_cases c45 : x7_2 = (wrap64 ((ji43) + (ji44)))
           ·rw [if_pos c45] at H
            have c45b0 : (x7_2 == (wrap64 ((ji43) + (ji44)))) = true := beq_iff_eq.mpr c45
            have c45b1 : (x7_2 != (wrap64 ((ji43) + (ji44)))) = false := bne_eq_false_iff_eq.mpr c45
            clear c45
            replace H := ob_ H
            obtain ⟨t266, A460, H⟩ := H
            replace H : (some t266) = some r := H
            have A46 := sd_ A460
            clear A460
            obtain rfl := Option.some.inj H
            go_wp2_with (first | (go_at_call 6; (with_reducible refine (neumelaw20_heads.calls kj33  t266 _ A46.out).mono ?_); rintro e w47 ⟨rfl, hb⟩; replace HB := hb_ HB e0_ hb; (try clear hb); (try clear hb2); (try clear hk); (try clear hi)))
            repeat (go_quiet (first | (go_at_call 6; (with_reducible refine (neumelaw20_heads.calls kj33  t266 _ A46.out).mono ?_); rintro e w47 ⟨rfl, hb⟩; replace HB := hb_ HB e0_ hb; (try clear hb); (try clear hb2); (try clear hk); (try clear hi))); try go_wp2_with (first | (go_at_call 6; (with_reducible refine (neumelaw20_heads.calls kj33  t266 _ A46.out).mono ?_); rintro e w47 ⟨rfl, hb⟩; replace HB := hb_ HB e0_ hb; (try clear hb); (try clear hb2); (try clear hk); (try clear hi))))
            go_ret
            exact ⟨by first | rfl | (simp [errW_none, errW_some] <;> rfl) | (simp only [← hji43, ← hji44]; first | rfl | (simp [errW_none, errW_some] <;> rfl)) | (simp [*, errW_none, errW_some] <;> rfl), by repeat (first | (with_reducible first | exact HB.out | apply ba_ | apply pd_ | apply d1_) | exact HB.out)⟩
           ·rw [if_neg c45] at H
            have c45b0 : (x7_2 == (wrap64 ((ji43) + (ji44)))) = false := beq_eq_false_iff_ne.mpr c45
            have c45b1 : (x7_2 != (wrap64 ((ji43) + (ji44)))) = true := bne_iff_ne.mpr c45
            exact absurd ((Option.some.inj H).trans hxt.out) (by decide)

/-- THE ONE PURE STATEMENT of neumelaw20_DotsLedgers: yours. -/
def neumelaw20_DotsLedgers.Pure : Prop := ∀ (l0 : List Int), l0.length ≤ maxLen → l0.length * 8 ≤ 140737488351232 → (∀ x ∈ l0, (Lit.int .i64 x).wf = true) → ∃ k, neumelaw20_DotsLedgers.f k l0 = some true
theorem neumelaw20_DotsLedgers.walk (P : neumelaw20_DotsLedgers.Pure) (a0 : Option Addr) (len0 cap0 : Nat) (z0 : List Int) (w : World) (w0 : (a0 = none ∧ len0 = 0 ∧ cap0 = 0 ∧ z0 = []) ∨ ∃ x, a0 = some x ∧ len0 ≤ cap0 ∧ cap0 ≤ maxLen ∧ z0.length = cap0 ∧ (∀ i, i < z0.length → w.cell? (x.add i) = some (.int .i64 (z0.getD i 0))) ∧ ∀ n ∈ z0, (Lit.int .i64 n).wf = true) (y0 : len0 * 8 ≤ 140737488351232) :
  Calls Try.prog 5 #[.slice a0 len0 cap0] w fun e w' => e = .returned (.bool true) ∧ Below w.heap.size w w' := by
 obtain ⟨l0, rfl, hr0, hm0, hw0, hc0⟩ := ReadsInt.ofRowC w0
 obtain ⟨k, h⟩ := P l0 hm0 y0 hw0
 refine (neumelaw20_DotsLedgers.calls k _ _ l0 true w (Kd.C_of_reads (d := (0 : Int)) (h1 := fun _ => rfl) hr0) hc0 ⟨rfl⟩ h).mono ?_
 rintro e w' ⟨rfl, hd⟩
 exact ⟨rfl, hd⟩

end Go.Proofs.Ytochpedmjpidkaa.P
