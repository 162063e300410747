-- Written by a program of this session (wip/tools/xprint.py, over the kit's print): Lean checks it.
import Derived.Test.YtcokemaiploejaaDoorPx0
import Derived.Test.YtcokemaiploejaaDoorPx7
namespace Go.Proofs.YtcokemaiploejaaDoor.P
open Go.RowKit Go.Proofs.YtcokemaiploejaaDoorW.PrintWords Go.Proofs.YtcokemaiploejaaDoorW.PrintLast Go.Proofs.YtcokemaiploejaaDoorW.PrintMore
attribute [local go_sem] max2_int min2_int max_two min_two max_three min_three max_four min_four   -- for this text's walks alone
set_option linter.unusedVariables false
set_option linter.unusedSimpArgs false

/-! ### neumeref01_ratio: function 61 -/
mutual
def neumeref01_ratio.j0 : Nat → Int → Int → Int → Bool → Option (Int × Int)
 | 0, _, _, _, _ => none
 | k + 1, x0, x1, x2, x8 => (neumeref01_abs.f x0).bind fun t409 => ((neumeref01_abs.f x1).bind fun t410 => ((neumeref01_abs.f x2).bind fun t411 => (neumeref01_ratio.l0 k x8 t409 t410 t411 0 0 40)))
def neumeref01_ratio.l0 : Nat → Bool → Int → Int → Int → Int → Int → Int → Option (Int × Int)
 | 0, _, _, _, _, _, _, _ => none
 | k + 1, x8, x9, x10, x11, x12, x13, x14 => if x14 ≥ 0 then (if 0 ≤ (IntKind.u64.wrap (x14)) then (if (Int.tmod (shr .i64 x10 (IntKind.u64.wrap (x14))) 2) = 1 then (if x11 = 0 then (none) else (neumeref01_ratio.j2 k x8 x9 x10 x11 (wrap64 ((wrap64 (2 * x12)) + (wrap64 (Int.tdiv x9 x11)))) (wrap64 ((wrap64 (2 * x13)) + (Int.tmod x9 x11))) x14)) else (neumeref01_ratio.j2 k x8 x9 x10 x11 (wrap64 (2 * x12)) (wrap64 (2 * x13)) x14)) else (none)) else (if x13 ≥ (wrap64 (x11 - x13)) then (neumeref01_ratio.j4 k x8 (wrap64 (x12 + 1))) else (neumeref01_ratio.j4 k x8 x12))
def neumeref01_ratio.j2 : Nat → Bool → Int → Int → Int → Int → Int → Int → Option (Int × Int)
 | 0, _, _, _, _, _, _, _ => none
 | k + 1, x8, x9, x10, x11, x12, x13, x14 => neumeref01_ratio.l1 k x8 x9 x10 x11 x12 x13 x14
def neumeref01_ratio.l1 : Nat → Bool → Int → Int → Int → Int → Int → Int → Option (Int × Int)
 | 0, _, _, _, _, _, _, _ => none
 | k + 1, x8, x9, x10, x11, x12, x13, x14 => if x13 ≥ x11 then (neumeref01_ratio.l1 k x8 x9 x10 x11 (wrap64 (x12 + 1)) (wrap64 (x13 - x11)) x14) else (if x12 > 1099511627776 then (some (0, 3)) else (neumeref01_ratio.l0 k x8 x9 x10 x11 x12 x13 (wrap64 (x14 - 1))))
def neumeref01_ratio.j4 : Nat → Bool → Int → Option (Int × Int)
 | 0, _, _ => none
 | k + 1, x8, x12 => if x12 > 1099511627776 then (some (0, 3)) else (if x8 = true then (some (wrap64 (-x12), 0)) else (some (x12, 0)))
end
def neumeref01_ratio.f (k : Nat) (a0 : Int) (a1 : Int) (a2 : Int) : Option (Int × Int) := if a2 < 0 then (neumeref01_ratio.j0 k a0 a1 a2 (!((decide (a0 < 0)) != (decide (a1 < 0))))) else (neumeref01_ratio.j0 k a0 a1 a2 ((decide (a0 < 0)) != (decide (a1 < 0))))
theorem neumeref01_ratio.mono_l : ∀ k, (∀ y0 y1 y2 y3, LeO (neumeref01_ratio.j0 k y0 y1 y2 y3) (neumeref01_ratio.j0 (k + 1) y0 y1 y2 y3)) ∧ (∀ y0 y1 y2 y3 y4 y5 y6, LeO (neumeref01_ratio.l0 k y0 y1 y2 y3 y4 y5 y6) (neumeref01_ratio.l0 (k + 1) y0 y1 y2 y3 y4 y5 y6)) ∧ (∀ y0 y1 y2 y3 y4 y5 y6, LeO (neumeref01_ratio.j2 k y0 y1 y2 y3 y4 y5 y6) (neumeref01_ratio.j2 (k + 1) y0 y1 y2 y3 y4 y5 y6)) ∧ (∀ y0 y1 y2 y3 y4 y5 y6, LeO (neumeref01_ratio.l1 k y0 y1 y2 y3 y4 y5 y6) (neumeref01_ratio.l1 (k + 1) y0 y1 y2 y3 y4 y5 y6)) ∧ (∀ y0 y1, LeO (neumeref01_ratio.j4 k y0 y1) (neumeref01_ratio.j4 (k + 1) y0 y1))
 | 0 => ⟨fun _ _ _ _ r h => by simp [neumeref01_ratio.j0] at h, fun _ _ _ _ _ _ _ r h => by simp [neumeref01_ratio.l0] at h, fun _ _ _ _ _ _ _ r h => by simp [neumeref01_ratio.j2] at h, fun _ _ _ _ _ _ _ r h => by simp [neumeref01_ratio.l1] at h, fun _ _ r h => by simp [neumeref01_ratio.j4] at h⟩
 | k + 1 => by
  obtain ⟨ih0, ih1, ih2, ih3, ih4⟩ := neumeref01_ratio.mono_l k
  refine ⟨?_, ?_, ?_, ?_, ?_⟩
  ·intro y0 y1 y2 y3
   unfold neumeref01_ratio.j0
   repeat' first
   | (with_reducible exact ih0 _ _ _ _)
   | (with_reducible exact ih1 _ _ _ _ _ _ _)
   | (with_reducible exact ih2 _ _ _ _ _ _ _)
   | (with_reducible exact ih3 _ _ _ _ _ _ _)
   | (with_reducible exact ih4 _ _)
   | (with_reducible exact LeO.refl _)
   | (with_reducible exact LeO.none _)
   | (with_reducible refine LeO.ite ?_ ?_)
   | (with_reducible refine LeO.bind ?_ (fun _ => ?_))
   | exact ih0 _ _ _ _
   | exact ih1 _ _ _ _ _ _ _
   | exact ih2 _ _ _ _ _ _ _
   | exact ih3 _ _ _ _ _ _ _
   | exact ih4 _ _
   | exact LeO.none _
   | refine LeO.ite ?_ ?_
   | refine LeO.bind ?_ (fun _ => ?_)
  ·intro y0 y1 y2 y3 y4 y5 y6
   unfold neumeref01_ratio.l0
   repeat' first
   | (with_reducible exact ih0 _ _ _ _)
   | (with_reducible exact ih1 _ _ _ _ _ _ _)
   | (with_reducible exact ih2 _ _ _ _ _ _ _)
   | (with_reducible exact ih3 _ _ _ _ _ _ _)
   | (with_reducible exact ih4 _ _)
   | (with_reducible exact LeO.refl _)
   | (with_reducible exact LeO.none _)
   | (with_reducible refine LeO.ite ?_ ?_)
   | (with_reducible refine LeO.bind ?_ (fun _ => ?_))
   | exact ih0 _ _ _ _
   | exact ih1 _ _ _ _ _ _ _
   | exact ih2 _ _ _ _ _ _ _
   | exact ih3 _ _ _ _ _ _ _
   | exact ih4 _ _
   | exact LeO.none _
   | refine LeO.ite ?_ ?_
   | refine LeO.bind ?_ (fun _ => ?_)
  ·intro y0 y1 y2 y3 y4 y5 y6
   unfold neumeref01_ratio.j2
   repeat' first
   | (with_reducible exact ih0 _ _ _ _)
   | (with_reducible exact ih1 _ _ _ _ _ _ _)
   | (with_reducible exact ih2 _ _ _ _ _ _ _)
   | (with_reducible exact ih3 _ _ _ _ _ _ _)
   | (with_reducible exact ih4 _ _)
   | (with_reducible exact LeO.refl _)
   | (with_reducible exact LeO.none _)
   | (with_reducible refine LeO.ite ?_ ?_)
   | (with_reducible refine LeO.bind ?_ (fun _ => ?_))
   | exact ih0 _ _ _ _
   | exact ih1 _ _ _ _ _ _ _
   | exact ih2 _ _ _ _ _ _ _
   | exact ih3 _ _ _ _ _ _ _
   | exact ih4 _ _
   | exact LeO.none _
   | refine LeO.ite ?_ ?_
   | refine LeO.bind ?_ (fun _ => ?_)
  ·intro y0 y1 y2 y3 y4 y5 y6
   unfold neumeref01_ratio.l1
   repeat' first
   | (with_reducible exact ih0 _ _ _ _)
   | (with_reducible exact ih1 _ _ _ _ _ _ _)
   | (with_reducible exact ih2 _ _ _ _ _ _ _)
   | (with_reducible exact ih3 _ _ _ _ _ _ _)
   | (with_reducible exact ih4 _ _)
   | (with_reducible exact LeO.refl _)
   | (with_reducible exact LeO.none _)
   | (with_reducible refine LeO.ite ?_ ?_)
   | (with_reducible refine LeO.bind ?_ (fun _ => ?_))
   | exact ih0 _ _ _ _
   | exact ih1 _ _ _ _ _ _ _
   | exact ih2 _ _ _ _ _ _ _
   | exact ih3 _ _ _ _ _ _ _
   | exact ih4 _ _
   | exact LeO.none _
   | refine LeO.ite ?_ ?_
   | refine LeO.bind ?_ (fun _ => ?_)
  ·intro y0 y1
   unfold neumeref01_ratio.j4
   repeat' first
   | (with_reducible exact ih0 _ _ _ _)
   | (with_reducible exact ih1 _ _ _ _ _ _ _)
   | (with_reducible exact ih2 _ _ _ _ _ _ _)
   | (with_reducible exact ih3 _ _ _ _ _ _ _)
   | (with_reducible exact ih4 _ _)
   | (with_reducible exact LeO.refl _)
   | (with_reducible exact LeO.none _)
   | (with_reducible refine LeO.ite ?_ ?_)
   | (with_reducible refine LeO.bind ?_ (fun _ => ?_))
   | exact ih0 _ _ _ _
   | exact ih1 _ _ _ _ _ _ _
   | exact ih2 _ _ _ _ _ _ _
   | exact ih3 _ _ _ _ _ _ _
   | exact ih4 _ _
   | exact LeO.none _
   | refine LeO.ite ?_ ?_
   | refine LeO.bind ?_ (fun _ => ?_)
theorem neumeref01_ratio.mono : ∀ a0 a1 a2 k, LeO (neumeref01_ratio.f k a0 a1 a2) (neumeref01_ratio.f (k + 1) a0 a1 a2) := by
 intro a0 a1 a2 k
 obtain ⟨ih0, ih1, ih2, ih3, ih4⟩ := neumeref01_ratio.mono_l k
 unfold neumeref01_ratio.f
 repeat' first
   | (with_reducible exact ih0 _ _ _ _)
   | (with_reducible exact ih1 _ _ _ _ _ _ _)
   | (with_reducible exact ih2 _ _ _ _ _ _ _)
   | (with_reducible exact ih3 _ _ _ _ _ _ _)
   | (with_reducible exact ih4 _ _)
   | (with_reducible exact LeO.refl _)
   | (with_reducible exact LeO.none _)
   | (with_reducible refine LeO.ite ?_ ?_)
   | (with_reducible refine LeO.bind ?_ (fun _ => ?_))
   | exact ih0 _ _ _ _
   | exact ih1 _ _ _ _ _ _ _
   | exact ih2 _ _ _ _ _ _ _
   | exact ih3 _ _ _ _ _ _ _
   | exact ih4 _ _
   | exact LeO.none _
   | refine LeO.ite ?_ ?_
   | refine LeO.bind ?_ (fun _ => ?_)
set_option maxHeartbeats 8000000 in
set_option maxRecDepth 100000 in
theorem neumeref01_ratio.calls (k : Nat) (a0 : Int) (a1 : Int) (a2 : Int) (r1 : Int) (r2 : Int) (w : World) (h : neumeref01_ratio.f k a0 a1 a2 = some (r1, r2)) :
  Calls Tryd.prog 61 #[.int .i64 a0, .int .i64 a1, .int .i64 a2] w fun e w' => e = .returned (.tuple #[.int .i64 r1, .int .i64 r2]) ∧ Below w.heap.size w w' := by
 have HB := sd_ (Below.refl w.heap.size w)
 have H : (if a2 < 0 then (neumeref01_ratio.j0 k a0 a1 a2 (!((decide (a0 < 0)) != (decide (a1 < 0))))) else (neumeref01_ratio.j0 k a0 a1 a2 ((decide (a0 < 0)) != (decide (a1 < 0))))) = some (r1, r2) := h
 clear h
 have HC4 := sd_ H
 clear H
 go_enter Tryd.func61, Tryd.ntmps61
 go_upto_if 21 with (fail)
 repeat (go_quiet (fail); go_upto_if 21 with (fail))
 go_cut [8] (fun v8 wc => ∃ (kq : Nat) (x8_3 : Bool), v8 = .bool x8_3 ∧ Aside0 (neumeref01_ratio.j0 kq a0 a1 a2 x8_3 = some (r1, r2)) ∧ Aside0 (kq ≤ k) ∧ Aside0 (Below w.heap.size w wc))
 case first =>
  have H := HC4.out
  clear HC4
  by_cases c5 : a2 < 0
  ·rw [if_pos c5] at H
   have c5b0 : decide (a2 < 0) = true := dt_ c5
   clear c5
   (first | rw [c5b0] | (simp only [i64_w, i32_w]; rw [c5b0]) | skip)
   have H' := sd_ H
   clear H
   go_wp2
   repeat (go_quiet (fail); try go_wp2)
   go_meet
   case rel => exact ⟨_, (!((decide (a0 < 0)) != (decide (a1 < 0)))), (by first | rfl | (simp; done) | (simp [*]; done) | (simp [bne]; done)), H', ⟨by first | omega | exact Nat.le_refl _⟩, ⟨by repeat (first | (with_reducible first | exact HB.out | apply ba_ | apply pd_ | apply d1_) | exact HB.out)⟩⟩
  ·rw [if_neg c5] at H
   have c5b0 : decide (a2 < 0) = false := df_ c5
   clear c5
   (first | rw [c5b0] | (simp only [i64_w, i32_w]; rw [c5b0]) | skip)
   have H' := sd_ H
   clear H
   go_wp2
   repeat (go_quiet (fail); try go_wp2)
   go_meet
   case rel => exact ⟨_, (((decide (a0 < 0)) != (decide (a1 < 0)))), (by first | rfl | (simp; done) | (simp [*]; done) | (simp [bne]; done)), H', ⟨by first | omega | exact Nat.le_refl _⟩, ⟨by repeat (first | (with_reducible first | exact HB.out | apply ba_ | apply pd_ | apply d1_) | exact HB.out)⟩⟩
 case rest =>
  clear HC4
  try clear p2; try clear c5; try clear c5b0
  obtain ⟨kq, x8_3, rfl, HA, HJ3, HB⟩ := hcut
  cases kq with
  | zero => exact absurd HA.out (by simp [neumeref01_ratio.j0])
  | succ kj3 =>
   have H := HA.out
   clear HA
   simp only [neumeref01_ratio.j0] at H
   replace H := ob_ H
   obtain ⟨t409, A60, H⟩ := H
   replace H : ((neumeref01_abs.f a1).bind fun t410 => ((neumeref01_abs.f a2).bind fun t411 => (neumeref01_ratio.l0 kj3 x8_3 t409 t410 t411 0 0 40))) = some (r1, r2) := H
   have A6 := sd_ A60
   clear A60
   replace H := ob_ H
   obtain ⟨t410, A70, H⟩ := H
   replace H : ((neumeref01_abs.f a2).bind fun t411 => (neumeref01_ratio.l0 kj3 x8_3 t409 t410 t411 0 0 40)) = some (r1, r2) := H
   have A7 := sd_ A70
   clear A70
   replace H := ob_ H
   obtain ⟨t411, A80, H⟩ := H
   replace H : (neumeref01_ratio.l0 kj3 x8_3 t409 t410 t411 0 0 40) = some (r1, r2) := H
   have A8 := sd_ A80
   clear A80
   have H' := sd_ H
   clear H
   go_wp2_with (first | (go_at_call 66; (with_reducible refine (neumeref01_abs.calls a0 t409 _ A6.out).mono ?_); rintro e w9 ⟨rfl, hb⟩; replace HB := hb_ HB e0_ hb; (try clear hb); (try clear hb2); (try clear hk); (try clear hi)) | (go_at_call 66; (with_reducible refine (neumeref01_abs.calls a1 t410 _ A7.out).mono ?_); rintro e w10 ⟨rfl, hb⟩; replace HB := hb_ HB e0_ hb; (try clear hb); (try clear hb2); (try clear hk); (try clear hi)) | (go_at_call 66; (with_reducible refine (neumeref01_abs.calls a2 t411 _ A8.out).mono ?_); rintro e w11 ⟨rfl, hb⟩; replace HB := hb_ HB e0_ hb; (try clear hb); (try clear hb2); (try clear hk); (try clear hi)))
   repeat (go_quiet (first | (go_at_call 66; (with_reducible refine (neumeref01_abs.calls a0 t409 _ A6.out).mono ?_); rintro e w9 ⟨rfl, hb⟩; replace HB := hb_ HB e0_ hb; (try clear hb); (try clear hb2); (try clear hk); (try clear hi)) | (go_at_call 66; (with_reducible refine (neumeref01_abs.calls a1 t410 _ A7.out).mono ?_); rintro e w10 ⟨rfl, hb⟩; replace HB := hb_ HB e0_ hb; (try clear hb); (try clear hb2); (try clear hk); (try clear hi)) | (go_at_call 66; (with_reducible refine (neumeref01_abs.calls a2 t411 _ A8.out).mono ?_); rintro e w11 ⟨rfl, hb⟩; replace HB := hb_ HB e0_ hb; (try clear hb); (try clear hb2); (try clear hk); (try clear hi))); try go_wp2_with (first | (go_at_call 66; (with_reducible refine (neumeref01_abs.calls a0 t409 _ A6.out).mono ?_); rintro e w9 ⟨rfl, hb⟩; replace HB := hb_ HB e0_ hb; (try clear hb); (try clear hb2); (try clear hk); (try clear hi)) | (go_at_call 66; (with_reducible refine (neumeref01_abs.calls a1 t410 _ A7.out).mono ?_); rintro e w10 ⟨rfl, hb⟩; replace HB := hb_ HB e0_ hb; (try clear hb); (try clear hb2); (try clear hk); (try clear hi)) | (go_at_call 66; (with_reducible refine (neumeref01_abs.calls a2 t411 _ A8.out).mono ?_); rintro e w11 ⟨rfl, hb⟩; replace HB := hb_ HB e0_ hb; (try clear hb); (try clear hb2); (try clear hk); (try clear hi))))
   go_loopg [12, 13, 14] kj3 (fun kq v12 v13 v14 w' => ∃ (x12_2 : Int) (x13_2 : Int) (x14_2 : Int), v12 = .int .i64 x12_2 ∧ v13 = .int .i64 x13_2 ∧ v14 = .int .i64 x14_2 ∧ Aside0 (neumeref01_ratio.l0 kq x8_3 t409 t410 t411 x12_2 x13_2 x14_2 = some (r1, r2)) ∧ Aside0 (kq ≤ kj3) ∧ Aside0 (Below w.heap.size w w'))
   case atStart => exact ⟨(0), (0), (40), (by first | rfl | (simp; done) | (simp [*]; done) | (simp [bne]; done)), (by first | rfl | (simp; done) | (simp [*]; done) | (simp [bne]; done)), (by first | rfl | (simp; done) | (simp [*]; done) | (simp [bne]; done)), H', ⟨Nat.le_refl _⟩, ⟨by repeat (first | (with_reducible first | exact HB.out | apply ba_ | apply pd_ | apply d1_) | exact HB.out)⟩⟩
   case round =>
    clear H'
    try clear p2; try clear c5; try clear c5b0; try clear c6; try clear p2
    obtain ⟨x12_2, x13_2, x14_2, rfl, rfl, rfl, HA, HK2, HB⟩ := hrel
    cases gk with
    | zero => exact absurd HA.out (by simp [neumeref01_ratio.l0])
    | succ k2 =>
     have H := HA.out
     clear HA
     simp only [neumeref01_ratio.l0] at H
     by_cases c12 : x14_2 ≥ 0
     ·rw [if_pos c12] at H
      have c12b0 : decide (0 ≤ x14_2) = true := dt_ c12
      clear c12
      obtain ⟨ji13, hji13⟩ : ∃ j_ : Int, (IntKind.u64.wrap (x14_2)) = j_ := ⟨_, rfl⟩
      replace H : (if 0 ≤ (ji13) then (if (Int.tmod (shr .i64 t410 (ji13)) 2) = 1 then (if t411 = 0 then (none) else (neumeref01_ratio.j2 k2 x8_3 t409 t410 t411 (wrap64 ((wrap64 (2 * x12_2)) + (wrap64 (Int.tdiv t409 t411)))) (wrap64 ((wrap64 (2 * x13_2)) + (Int.tmod t409 t411))) x14_2)) else (neumeref01_ratio.j2 k2 x8_3 t409 t410 t411 (wrap64 (2 * x12_2)) (wrap64 (2 * x13_2)) x14_2)) else (none)) = some (r1, r2) := by first | (rw [hji13] at H; exact H) | (simp only [hji13] at H ⊢; exact H)
      by_cases c14 : 0 ≤ (ji13)
      ·rw [if_pos c14] at H
       have c14b0 := eq_true c14
       have c14b1 : decide (0 ≤ (ji13)) = true := dt_ c14
       clear c14
       obtain ⟨ji15, hji15⟩ : ∃ j_ : Int, (shr .i64 t410 (ji13)) = j_ := ⟨_, rfl⟩
       replace H : (if (Int.tmod (ji15) 2) = 1 then (if t411 = 0 then (none) else (neumeref01_ratio.j2 k2 x8_3 t409 t410 t411 (wrap64 ((wrap64 (2 * x12_2)) + (wrap64 (Int.tdiv t409 t411)))) (wrap64 ((wrap64 (2 * x13_2)) + (Int.tmod t409 t411))) x14_2)) else (neumeref01_ratio.j2 k2 x8_3 t409 t410 t411 (wrap64 (2 * x12_2)) (wrap64 (2 * x13_2)) x14_2)) = some (r1, r2) := by first | (rw [hji15] at H; exact H) | (simp only [hji15] at H ⊢; exact H)
       have hji15_ : (t410 / 2 ^ min (ji13).toNat 64) = ji15 := hji15
       have hji15z : (ji13) ≤ 64 → (t410 / 2 ^ (ji13).toNat) = ji15 := shr_small hji15
       have HC16 := sd_ H
       clear H
       go_upto_if 43 with (fail)
       repeat (go_quiet (fail); go_upto_if 43 with (fail))
       go_cut [12, 13] (fun v12 v13 wc => ∃ (kq : Nat) (x12_15 : Int) (x13_15 : Int), v12 = .int .i64 x12_15 ∧ v13 = .int .i64 x13_15 ∧ Aside0 (neumeref01_ratio.j2 kq x8_3 t409 t410 t411 x12_15 x13_15 x14_2 = some (r1, r2)) ∧ Aside0 (kq ≤ k2) ∧ Aside0 (Below w.heap.size w wc))
       case first =>
        have H := HC16.out
        clear HC16
        by_cases c17 : (Int.tmod (ji15) 2) = 1
        ·rw [if_pos c17] at H
         have c17b0 : ((Int.tmod (ji15) 2) == 1) = true := beq_iff_eq.mpr c17
         have c17b1 : ((Int.tmod (ji15) 2) != 1) = false := bne_eq_false_iff_eq.mpr c17
         clear c17
         (first | rw [c17b0] | (simp only [i64_w, i32_w]; rw [c17b0]) | skip)
         by_cases c18 : t411 = 0
         ·rw [if_pos c18] at H
          exact absurd H (by simp)
         ·rw [if_neg c18] at H
          have c18b0 : (t411 == 0) = false := beq_eq_false_iff_ne.mpr c18
          have c18b1 : (t411 != 0) = true := bne_iff_ne.mpr c18
          have H' := sd_ H
          clear H
          go_wp2
          repeat (go_quiet (fail); try go_wp2)
          go_meet
          case rel => exact ⟨_, (wrap64 ((wrap64 (2 * x12_2)) + (wrap64 (Int.tdiv t409 t411)))), (wrap64 ((wrap64 (2 * x13_2)) + (Int.tmod t409 t411))), (by first | rfl | (simp; done) | (simp [*]; done) | (simp [bne]; done)), (by first | rfl | (simp; done) | (simp [*]; done) | (simp [bne]; done)), H', ⟨by have := HJ3.out; have := HK2.out; first | omega | exact Nat.le_refl _⟩, ⟨by repeat (first | (with_reducible first | exact HB.out | apply ba_ | apply pd_ | apply d1_) | exact HB.out)⟩⟩
        ·rw [if_neg c17] at H
         have c17b0 : ((Int.tmod (ji15) 2) == 1) = false := beq_eq_false_iff_ne.mpr c17
         have c17b1 : ((Int.tmod (ji15) 2) != 1) = true := bne_iff_ne.mpr c17
         (first | rw [c17b0] | (simp only [i64_w, i32_w]; rw [c17b0]) | skip)
         have H' := sd_ H
         clear H
         go_wp2
         repeat (go_quiet (fail); try go_wp2)
         go_meet
         case rel => exact ⟨_, (wrap64 (2 * x12_2)), (wrap64 (2 * x13_2)), (by first | rfl | (simp; done) | (simp [*]; done) | (simp [bne]; done)), (by first | rfl | (simp; done) | (simp [*]; done) | (simp [bne]; done)), H', ⟨by have := HJ3.out; have := HK2.out; first | omega | exact Nat.le_refl _⟩, ⟨by repeat (first | (with_reducible first | exact HB.out | apply ba_ | apply pd_ | apply d1_) | exact HB.out)⟩⟩
       case rest =>
        clear HC16
        try clear c1; try clear p2; try clear c5; try clear c5b0; try clear c6; try clear p6; try clear c12; try clear c12b0; try clear c14; try clear c14b0; try clear c14b1; try clear c17; try clear c17b0; try clear c17b1; try clear c18; try clear c18b0; try clear c18b1; try clear p2
        obtain ⟨kq, x12_15, x13_15, rfl, rfl, HA, HJ15, HB⟩ := hcut
        cases kq with
        | zero => exact absurd HA.out (by simp [neumeref01_ratio.j2])
        | succ kj15 =>
         have H := HA.out
         clear HA
         simp only [neumeref01_ratio.j2] at H
         have H' := sd_ H
         clear H
         go_wp2
         repeat (go_quiet (fail); try go_wp2)
         go_loopg [12, 13] kj15 (fun kq v12 v13 w' => ∃ (x12_4 : Int) (x13_4 : Int), v12 = .int .i64 x12_4 ∧ v13 = .int .i64 x13_4 ∧ Aside0 (neumeref01_ratio.l1 kq x8_3 t409 t410 t411 x12_4 x13_4 x14_2 = some (r1, r2)) ∧ Aside0 (kq ≤ kj15) ∧ Aside0 (Below w.heap.size w w'))
         case atStart => exact ⟨(x12_15), (x13_15), (by first | rfl | (simp; done) | (simp [*]; done) | (simp [bne]; done)), (by first | rfl | (simp; done) | (simp [*]; done) | (simp [bne]; done)), H', ⟨Nat.le_refl _⟩, ⟨by repeat (first | (with_reducible first | exact HB.out | apply ba_ | apply pd_ | apply d1_) | exact HB.out)⟩⟩
         case round =>
          clear H'
          try clear c1; try clear p2; try clear c5; try clear c5b0; try clear c6; try clear p6; try clear c12; try clear c12b0; try clear c14; try clear c14b0; try clear c14b1; try clear c17; try clear c17b0; try clear c17b1; try clear c18; try clear c18b0; try clear c18b1; try clear p2; try clear p6
          obtain ⟨x12_4, x13_4, rfl, rfl, HA, HK4, HB⟩ := hrel
          cases gk with
          | zero => exact absurd HA.out (by simp [neumeref01_ratio.l1])
          | succ k4 =>
           have H := HA.out
           clear HA
           simp only [neumeref01_ratio.l1] at H
           by_cases c19 : x13_4 ≥ t411
           ·rw [if_pos c19] at H
            have c19b0 : decide (t411 ≤ x13_4) = true := dt_ c19
            clear c19
            have H' := sd_ H
            clear H
            go_wp2
            repeat (go_quiet (fail); try go_wp2)
            go_roundg k4
            case measure => have := HJ3.out; have := HK2.out; have := HJ15.out; have := HK4.out; omega
            case rel => exact ⟨(wrap64 (x12_4 + 1)), (wrap64 (x13_4 - t411)), (by first | rfl | (simp; done) | (simp [*]; done) | (simp [bne]; done)), (by first | rfl | (simp; done) | (simp [*]; done) | (simp [bne]; done)), H', ⟨by have := HJ3.out; have := HK2.out; have := HJ15.out; have := HK4.out; omega⟩, ⟨by repeat (first | (with_reducible first | exact HB.out | apply ba_ | apply pd_ | apply d1_) | exact HB.out)⟩⟩
           ·rw [if_neg c19] at H
            have c19b0 : decide (t411 ≤ x13_4) = false := df_ c19
            clear c19
            by_cases c20 : x12_4 > 1099511627776
            ·rw [if_pos c20] at H
             have c20b0 : decide (1099511627776 < x12_4) = true := dt_ c20
             clear c20
             simp only [Option.some.injEq, Prod.mk.injEq] at H
             obtain ⟨rfl, rfl⟩ := H
             go_wp2
             repeat (go_quiet (fail); try go_wp2)
             go_ret2
             exact ⟨by first | rfl | (simp [errW_none, errW_some] <;> rfl) | (simp only [← hji13, ← hji15]; first | rfl | (simp [errW_none, errW_some] <;> rfl)) | (simp [*, errW_none, errW_some] <;> rfl), by repeat (first | (with_reducible first | exact HB.out | apply ba_ | apply pd_ | apply d1_) | exact HB.out)⟩
            ·rw [if_neg c20] at H
             have c20b0 : decide (1099511627776 < x12_4) = false := df_ c20
             clear c20
             have H' := sd_ H
             clear H
             go_wp2
             repeat (go_quiet (fail); try go_wp2)
             go_roundg k4
             case measure => have := HJ3.out; have := HK2.out; have := HJ15.out; have := HK4.out; omega
             case rel => exact ⟨(x12_4), (x13_4), (wrap64 (x14_2 - 1)), (by first | rfl | (simp; done) | (simp [*]; done) | (simp [bne]; done)), (by first | rfl | (simp; done) | (simp [*]; done) | (simp [bne]; done)), (by first | rfl | (simp; done) | (simp [*]; done) | (simp [bne]; done)), H', ⟨by have := HJ3.out; have := HK2.out; have := HJ15.out; have := HK4.out; omega⟩, ⟨by repeat (first | (with_reducible first | exact HB.out | apply ba_ | apply pd_ | apply d1_) | exact HB.out)⟩⟩
      ·rw [if_neg c14] at H
       exact absurd H (by simp)
     ·rw [if_neg c12] at H
      have c12b0 : decide (0 ≤ x14_2) = false := df_ c12
      clear c12
      have HC21 := sd_ H
      clear H
      go_upto_if 68 with (fail)
      repeat (go_quiet (fail); go_upto_if 68 with (fail))
      go_cut [12] (fun v12 wc => ∃ (kq : Nat) (x12_20 : Int), v12 = .int .i64 x12_20 ∧ Aside0 (neumeref01_ratio.j4 kq x8_3 x12_20 = some (r1, r2)) ∧ Aside0 (kq ≤ k2) ∧ Aside0 (Below w.heap.size w wc))
      case first =>
       have H := HC21.out
       clear HC21
       by_cases c22 : x13_2 ≥ (wrap64 (t411 - x13_2))
       ·rw [if_pos c22] at H
        have c22b0 : decide ((wrap64 (t411 - x13_2)) ≤ x13_2) = true := dt_ c22
        clear c22
        (first | rw [c22b0] | (simp only [i64_w, i32_w]; rw [c22b0]) | skip)
        have H' := sd_ H
        clear H
        go_wp2
        repeat (go_quiet (fail); try go_wp2)
        go_meet
        case rel => exact ⟨_, (wrap64 (x12_2 + 1)), (by first | rfl | (simp; done) | (simp [*]; done) | (simp [bne]; done)), H', ⟨by have := HJ3.out; have := HK2.out; first | omega | exact Nat.le_refl _⟩, ⟨by repeat (first | (with_reducible first | exact HB.out | apply ba_ | apply pd_ | apply d1_) | exact HB.out)⟩⟩
       ·rw [if_neg c22] at H
        have c22b0 : decide ((wrap64 (t411 - x13_2)) ≤ x13_2) = false := df_ c22
        clear c22
        (first | rw [c22b0] | (simp only [i64_w, i32_w]; rw [c22b0]) | skip)
        have H' := sd_ H
        clear H
        go_wp2
        repeat (go_quiet (fail); try go_wp2)
        go_meet
        case rel => exact ⟨_, (x12_2), (by first | rfl | (simp; done) | (simp [*]; done) | (simp [bne]; done)), H', ⟨by have := HJ3.out; have := HK2.out; first | omega | exact Nat.le_refl _⟩, ⟨by repeat (first | (with_reducible first | exact HB.out | apply ba_ | apply pd_ | apply d1_) | exact HB.out)⟩⟩
      case rest =>
       clear HC21
       try clear c1; try clear c2; try clear p2; try clear c5; try clear c5b0; try clear c6; try clear p6; try clear c12; try clear c12b0; try clear c14; try clear c14b0; try clear c14b1; try clear c17; try clear c17b0; try clear c17b1; try clear c18; try clear c18b0; try clear c18b1; try clear c19; try clear c19b0; try clear c20; try clear c20b0; try clear c22; try clear c22b0; try clear p2; try clear p6
       obtain ⟨kq, x12_20, rfl, HA, HJ20, HB⟩ := hcut
       cases kq with
       | zero => exact absurd HA.out (by simp [neumeref01_ratio.j4])
       | succ kj20 =>
        have H := HA.out
        clear HA
        simp only [neumeref01_ratio.j4] at H
        by_cases c23 : x12_20 > 1099511627776
        ·rw [if_pos c23] at H
         have c23b0 : decide (1099511627776 < x12_20) = true := dt_ c23
         clear c23
         simp only [Option.some.injEq, Prod.mk.injEq] at H
         obtain ⟨rfl, rfl⟩ := H
         go_wp2
         repeat (go_quiet (fail); try go_wp2)
         go_ret2
         exact ⟨by first | rfl | (simp [errW_none, errW_some] <;> rfl) | (simp [*, errW_none, errW_some] <;> rfl), by repeat (first | (with_reducible first | exact HB.out | apply ba_ | apply pd_ | apply d1_) | exact HB.out)⟩
        ·rw [if_neg c23] at H
         have c23b0 : decide (1099511627776 < x12_20) = false := df_ c23
         clear c23
         by_cases c24 : x8_3 = true
         ·subst c24
          have H1 : (some (wrap64 (-x12_20), 0)) = some (r1, r2) := by rw [if_pos rfl] at H; exact H
          clear H; have H := H1; clear H1
          simp only [Option.some.injEq, Prod.mk.injEq] at H
          obtain ⟨rfl, rfl⟩ := H
          go_wp2
          repeat (go_quiet (fail); try go_wp2)
          go_ret2
          exact ⟨by first | rfl | (simp [errW_none, errW_some] <;> rfl) | (simp [*, errW_none, errW_some] <;> rfl), by repeat (first | (with_reducible first | exact HB.out | apply ba_ | apply pd_ | apply d1_) | exact HB.out)⟩
         ·replace c24 := bf_ c24
          subst c24
          have H1 : (some (x12_20, 0)) = some (r1, r2) := by rw [if_neg (show ¬ (false = true) by decide)] at H; exact H
          clear H; have H := H1; clear H1
          simp only [Option.some.injEq, Prod.mk.injEq] at H
          obtain ⟨rfl, rfl⟩ := H
          go_wp2
          repeat (go_quiet (fail); try go_wp2)
          go_ret2
          exact ⟨by first | rfl | (simp [errW_none, errW_some] <;> rfl) | (simp [*, errW_none, errW_some] <;> rfl), by repeat (first | (with_reducible first | exact HB.out | apply ba_ | apply pd_ | apply d1_) | exact HB.out)⟩

end Go.Proofs.YtcokemaiploejaaDoor.P
