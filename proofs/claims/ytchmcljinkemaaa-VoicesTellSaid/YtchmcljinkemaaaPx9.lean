-- Written by a program of this session (wip/tools/xprint.py, over the kit's print): Lean checks it.
import Derived.Test.YtchmcljinkemaaaPx0
import Derived.Test.YtchmcljinkemaaaPx1
import Derived.Test.YtchmcljinkemaaaPx3
import Derived.Test.YtchmcljinkemaaaPx4
import Derived.Test.YtchmcljinkemaaaPx5
import Derived.Test.YtchmcljinkemaaaPx6
import Derived.Test.YtchmcljinkemaaaPx8
namespace Go.Proofs.Ytchmcljinkemaaa.P
open Go.RowKit Go.Proofs.YtchmcljinkemaaaW.PrintWords Go.Proofs.YtchmcljinkemaaaW.PrintLast Go.Proofs.YtchmcljinkemaaaW.PrintMore
attribute [local go_sem] max2_int min2_int max_two min_two max_three min_three max_four min_four   -- for this text's walks alone
set_option linter.unusedVariables false
set_option linter.unusedSimpArgs false

/-! ### neumeref24_Span: function 16 -/
mutual
def neumeref24_Span.j0 : Nat → List (S45) → Bool → Option (Int × Int)
 | 0, _, _ => none
 | k + 1, x0, x19 => if x19 = true then (some (0, 0)) else (if 0 < (x0.length : Int) then (neumeref24_Span.l0 k x0 ((rd_T45 x0 0).f0) ((rd_T45 x0 0).f2) 0) else (none))
def neumeref24_Span.l0 : Nat → List (S45) → Int → Int → Int → Option (Int × Int)
 | 0, _, _, _, _ => none
 | k + 1, x0, x4, x5, x6 => if x6 < (x0.length : Int) then (if 0 ≤ x6 then (neumeref24_Span.l0 k x0 (mn x4 ((rd_T45 x0 x6).f0)) (mx x5 ((rd_T45 x0 x6).f2)) (wrap64 (x6 + 1))) else (none)) else (some (x4, x5))
end
def neumeref24_Span.f (k : Nat) (l0 : List (S45)) : Option (Int × Int) := if (l0.length : Int) = 0 then (neumeref24_Span.j0 k l0 true) else (if (l0.length : Int) > 2000 then (neumeref24_Span.j0 k l0 true) else ((neumeref24_fit.f k l0).bind fun t291 => (neumeref24_Span.j0 k l0 (!t291))))
theorem neumeref24_Span.mono_l : ∀ k, (∀ y0 y1, LeO (neumeref24_Span.j0 k y0 y1) (neumeref24_Span.j0 (k + 1) y0 y1)) ∧ (∀ y0 y1 y2 y3, LeO (neumeref24_Span.l0 k y0 y1 y2 y3) (neumeref24_Span.l0 (k + 1) y0 y1 y2 y3))
 | 0 => ⟨fun _ _ r h => by simp [neumeref24_Span.j0] at h, fun _ _ _ _ r h => by simp [neumeref24_Span.l0] at h⟩
 | k + 1 => by
  obtain ⟨ih0, ih1⟩ := neumeref24_Span.mono_l k
  refine ⟨?_, ?_⟩
  ·intro y0 y1
   unfold neumeref24_Span.j0
   repeat' first
   | (with_reducible exact ih0 _ _)
   | (with_reducible exact ih1 _ _ _ _)
   | (with_reducible exact neumeref24_fit.mono _ _)
   | (with_reducible exact LeO.refl _)
   | (with_reducible exact LeO.none _)
   | (with_reducible refine LeO.ite ?_ ?_)
   | (with_reducible refine LeO.bind ?_ (fun _ => ?_))
   | exact ih0 _ _
   | exact ih1 _ _ _ _
   | exact neumeref24_fit.mono _ _
   | exact LeO.none _
   | refine LeO.ite ?_ ?_
   | refine LeO.bind ?_ (fun _ => ?_)
  ·intro y0 y1 y2 y3
   unfold neumeref24_Span.l0
   repeat' first
   | (with_reducible exact ih0 _ _)
   | (with_reducible exact ih1 _ _ _ _)
   | (with_reducible exact neumeref24_fit.mono _ _)
   | (with_reducible exact LeO.refl _)
   | (with_reducible exact LeO.none _)
   | (with_reducible refine LeO.ite ?_ ?_)
   | (with_reducible refine LeO.bind ?_ (fun _ => ?_))
   | exact ih0 _ _
   | exact ih1 _ _ _ _
   | exact neumeref24_fit.mono _ _
   | exact LeO.none _
   | refine LeO.ite ?_ ?_
   | refine LeO.bind ?_ (fun _ => ?_)
theorem neumeref24_Span.mono : ∀ a0 k, LeO (neumeref24_Span.f k a0) (neumeref24_Span.f (k + 1) a0) := by
 intro a0 k
 obtain ⟨ih0, ih1⟩ := neumeref24_Span.mono_l k
 unfold neumeref24_Span.f
 repeat' first
   | (with_reducible exact ih0 _ _)
   | (with_reducible exact ih1 _ _ _ _)
   | (with_reducible exact neumeref24_fit.mono _ _)
   | (with_reducible exact LeO.refl _)
   | (with_reducible exact LeO.none _)
   | (with_reducible refine LeO.ite ?_ ?_)
   | (with_reducible refine LeO.bind ?_ (fun _ => ?_))
   | exact ih0 _ _
   | exact ih1 _ _ _ _
   | exact neumeref24_fit.mono _ _
   | exact LeO.none _
   | refine LeO.ite ?_ ?_
   | refine LeO.bind ?_ (fun _ => ?_)
set_option maxHeartbeats 8000000 in
set_option maxRecDepth 100000 in
theorem neumeref24_Span.calls (k : Nat) (A0 : Option Addr) (c0 : Nat) (l0 : List (S45)) (r1 : Int) (r2 : Int) (w : World) (hr0 : Kd.C k45 w A0 l0.length l0) (hc0 : l0.length ≤ c0) (h : neumeref24_Span.f k l0 = some (r1, r2)) :
  Calls Try.prog 16 #[.slice A0 l0.length c0] w fun e w' => e = .returned (.tuple #[.int .i64 r1, .int .i64 r2]) ∧ Below w.heap.size w w' := by
 have HR0 := sd_ hr0
 have HC0 := sd_ hc0
 clear hr0 hc0
 have HB := sd_ (Below.refl w.heap.size w)
 have H : (if (l0.length : Int) = 0 then (neumeref24_Span.j0 k l0 true) else (if (l0.length : Int) > 2000 then (neumeref24_Span.j0 k l0 true) else ((neumeref24_fit.f k l0).bind fun t291 => (neumeref24_Span.j0 k l0 (!t291))))) = some (r1, r2) := h
 clear h
 have HC2 := sd_ H
 clear H
 go_enter Try.func16, Try.ntmps16
 go_upto_region 1 with (fail)
 repeat (go_quiet (fail); go_upto_region 1 with (fail))
 go_cut [19] (fun v19 wc => ∃ (kq : Nat) (x19_1 : Bool), v19 = .bool x19_1 ∧ Aside0 (neumeref24_Span.j0 kq l0 x19_1 = some (r1, r2)) ∧ Aside0 (kq ≤ k) ∧ Aside0 (Below w.heap.size w wc))
 case first =>
  have H := HC2.out
  clear HC2
  by_cases c3 : (l0.length : Int) = 0
  ·rw [if_pos c3] at H
   have c3b0 : ((l0.length : Int) == 0) = true := beq_iff_eq.mpr c3
   have c3b1 : ((l0.length : Int) != 0) = false := bne_eq_false_iff_eq.mpr c3
   clear c3
   (first | rw [c3b0] | (simp only [i64_w, i32_w]; rw [c3b0]) | skip)
   have H' := sd_ H
   clear H
   go_wp2
   repeat (go_quiet (fail); try go_wp2)
   go_meet
   case rel => exact ⟨_, (true), (by first | rfl | (simp; done) | (simp [*]; done) | (simp [bne]; done)), H', ⟨by first | omega | exact Nat.le_refl _⟩, ⟨by repeat (first | (with_reducible first | exact HB.out | apply ba_ | apply pd_ | apply d1_) | exact HB.out)⟩⟩
  ·rw [if_neg c3] at H
   have c3b0 : ((l0.length : Int) == 0) = false := beq_eq_false_iff_ne.mpr c3
   have c3b1 : ((l0.length : Int) != 0) = true := bne_iff_ne.mpr c3
   have c3b2 : ¬ (l0 = []) := fun h_ => c3 (by rw [h_]; rfl)
   (first | rw [c3b0] | (simp only [i64_w, i32_w]; rw [c3b0]) | skip)
   by_cases c4 : (l0.length : Int) > 2000
   ·rw [if_pos c4] at H
    have c4b0 : decide (2000 < (l0.length : Int)) = true := dt_ c4
    have c4b1 : decide (2000 < l0.length) = true := dt_ (by omega)
    clear c4
    have H' := sd_ H
    clear H
    go_wp2
    repeat (go_quiet (fail); try go_wp2)
    go_meet
    case rel => exact ⟨_, (true), (by first | rfl | (simp; done) | (simp [*]; done) | (simp [bne]; done)), H', ⟨by first | omega | exact Nat.le_refl _⟩, ⟨by repeat (first | (with_reducible first | exact HB.out | apply ba_ | apply pd_ | apply d1_) | exact HB.out)⟩⟩
   ·rw [if_neg c4] at H
    have c4b0 : decide (2000 < (l0.length : Int)) = false := df_ c4
    have c4b1 : decide (2000 < l0.length) = false := df_ (by omega)
    clear c4
    replace H := ob_ H
    obtain ⟨t291, A50, H⟩ := H
    replace H : (neumeref24_Span.j0 k l0 (!t291)) = some (r1, r2) := H
    have A5 := sd_ A50
    clear A50
    have H' := sd_ H
    clear H
    go_wp2_with (first | (go_at_call 23; (with_reducible refine (neumeref24_fit.calls k _ _ l0 t291 _ ?side1 ?side2 A5.out).mono ?_); (case side1 => repeat (first | exact (Kd.C_below HR0.out HB.out) | (with_reducible refine Kd.C_alloc ?_ _) | (with_reducible refine Kd.C_drewN ?_ _) | (with_reducible refine Kd.C_drew ?_))); (case side2 => exact HC0.out); rintro e w6 ⟨rfl, hb⟩; replace HB := hb_ HB e0_ hb; (try clear hb); (try clear hb2); (try clear hk); (try clear hi)))
    repeat (go_quiet (first | (go_at_call 23; (with_reducible refine (neumeref24_fit.calls k _ _ l0 t291 _ ?side1 ?side2 A5.out).mono ?_); (case side1 => repeat (first | exact (Kd.C_below HR0.out HB.out) | (with_reducible refine Kd.C_alloc ?_ _) | (with_reducible refine Kd.C_drewN ?_ _) | (with_reducible refine Kd.C_drew ?_))); (case side2 => exact HC0.out); rintro e w6 ⟨rfl, hb⟩; replace HB := hb_ HB e0_ hb; (try clear hb); (try clear hb2); (try clear hk); (try clear hi))); try go_wp2_with (first | (go_at_call 23; (with_reducible refine (neumeref24_fit.calls k _ _ l0 t291 _ ?side1 ?side2 A5.out).mono ?_); (case side1 => repeat (first | exact (Kd.C_below HR0.out HB.out) | (with_reducible refine Kd.C_alloc ?_ _) | (with_reducible refine Kd.C_drewN ?_ _) | (with_reducible refine Kd.C_drew ?_))); (case side2 => exact HC0.out); rintro e w6 ⟨rfl, hb⟩; replace HB := hb_ HB e0_ hb; (try clear hb); (try clear hb2); (try clear hk); (try clear hi))))
    go_meet
    case rel => exact ⟨_, (!t291), (by first | rfl | (simp; done) | (simp [*]; done) | (simp [bne]; done)), H', ⟨by first | omega | exact Nat.le_refl _⟩, ⟨by repeat (first | (with_reducible first | exact HB.out | apply ba_ | apply pd_ | apply d1_) | exact HB.out)⟩⟩
 case rest =>
  clear HC2
  try clear c1; try clear p2; try clear c3; try clear c3b0; try clear c3b1; try clear c3b2; try clear c4; try clear c4b0; try clear c4b1
  obtain ⟨kq, x19_1, rfl, HA, HJ1, HB⟩ := hcut
  cases kq with
  | zero => exact absurd HA.out (by simp [neumeref24_Span.j0])
  | succ kj1 =>
   have H := HA.out
   clear HA
   simp only [neumeref24_Span.j0] at H
   by_cases c7 : x19_1 = true
   ·subst c7
    have H1 : (some (0, 0)) = some (r1, r2) := by rw [if_pos rfl] at H; exact H
    clear H; have H := H1; clear H1
    simp only [Option.some.injEq, Prod.mk.injEq] at H
    obtain ⟨rfl, rfl⟩ := H
    go_wp2
    repeat (go_quiet (fail); try go_wp2)
    go_ret2
    exact ⟨by first | rfl | (simp [errW_none, errW_some] <;> rfl) | (simp [*, errW_none, errW_some] <;> rfl), by repeat (first | (with_reducible first | exact HB.out | apply ba_ | apply pd_ | apply d1_) | exact HB.out)⟩
   ·replace c7 := bf_ c7
    subst c7
    have H1 : (if 0 < (l0.length : Int) then (neumeref24_Span.l0 kj1 l0 ((rd_T45 l0 0).f0) ((rd_T45 l0 0).f2) 0) else (none)) = some (r1, r2) := by rw [if_neg (show ¬ (false = true) by decide)] at H; exact H
    clear H; have H := H1; clear H1
    by_cases c8 : 0 < (l0.length : Int)
    ·rw [if_pos c8] at H
     have c8b0 : decide (0 < (l0.length : Int)) = true := dt_ c8
     have c8b1 : decide (0 < l0.length) = true := dt_ (by omega)
     clear c8
     have H' := sd_ H
     clear H
     have p292 : 0 ≤ (0 : Int) := (by omega)
     have q292 : 0 < (l0.length : Int) := od_ (by first | (with_reducible assumption) | assumption)
     obtain ⟨ad292, e292, hx292_0, hx292_1, hx292_2, hx292_3⟩ := at_T45 HR0.out 0 p292 q292
     cases e292
     have qi292 : (0 < l0.length) = True := eq_true (by omega)
     (try rw [show ((0 : Int)).toNat = 0 from rfl] at hx292_0)
     (try rw [show 0 * 4 = 0 from rfl] at hx292_0)
     (try rw [Addr.add_zero'] at hx292_0)
     (try rw [show ((0 : Int)).toNat = 0 from rfl] at hx292_1)
     (try rw [show 0 * 4 = 0 from rfl] at hx292_1)
     (try rw [Addr.add_zero'] at hx292_1)
     (try rw [show ((0 : Int)).toNat = 0 from rfl] at hx292_2)
     (try rw [show 0 * 4 = 0 from rfl] at hx292_2)
     (try rw [Addr.add_zero'] at hx292_2)
     (try rw [show ((0 : Int)).toNat = 0 from rfl] at hx292_3)
     (try rw [show 0 * 4 = 0 from rfl] at hx292_3)
     (try rw [Addr.add_zero'] at hx292_3)
     replace hx292_0 := (HB.out.cell (wb_ w _ hx292_0)).trans hx292_0
     replace hx292_1 := (HB.out.cell (wb_ w _ hx292_1)).trans hx292_1
     replace hx292_2 := (HB.out.cell (wb_ w _ hx292_2)).trans hx292_2
     replace hx292_3 := (HB.out.cell (wb_ w _ hx292_3)).trans hx292_3
     replace p292 := eq_true p292
     replace q292 := eq_true q292
     have p293 : 0 ≤ (0 : Int) := (by omega)
     have q293 : 0 < (l0.length : Int) := od_ (by first | (with_reducible assumption) | assumption)
     obtain ⟨ad293, e293, hx293_0, hx293_1, hx293_2, hx293_3⟩ := at_T45 HR0.out 0 p293 q293
     obtain rfl : ad292 = ad293 := (by injection e293)
     have qi293 : (0 < l0.length) = True := eq_true (by omega)
     (try rw [show ((0 : Int)).toNat = 0 from rfl] at hx293_0)
     (try rw [show 0 * 4 = 0 from rfl] at hx293_0)
     (try rw [Addr.add_zero'] at hx293_0)
     (try rw [show ((0 : Int)).toNat = 0 from rfl] at hx293_1)
     (try rw [show 0 * 4 = 0 from rfl] at hx293_1)
     (try rw [Addr.add_zero'] at hx293_1)
     (try rw [show ((0 : Int)).toNat = 0 from rfl] at hx293_2)
     (try rw [show 0 * 4 = 0 from rfl] at hx293_2)
     (try rw [Addr.add_zero'] at hx293_2)
     (try rw [show ((0 : Int)).toNat = 0 from rfl] at hx293_3)
     (try rw [show 0 * 4 = 0 from rfl] at hx293_3)
     (try rw [Addr.add_zero'] at hx293_3)
     replace hx293_0 := (HB.out.cell (wb_ w _ hx293_0)).trans hx293_0
     replace hx293_1 := (HB.out.cell (wb_ w _ hx293_1)).trans hx293_1
     replace hx293_2 := (HB.out.cell (wb_ w _ hx293_2)).trans hx293_2
     replace hx293_3 := (HB.out.cell (wb_ w _ hx293_3)).trans hx293_3
     replace p293 := eq_true p293
     replace q293 := eq_true q293
     go_wp2
     repeat (go_quiet (fail); try go_wp2)
     go_loopg [4, 5, 6] kj1 (fun kq v4 v5 v6 w' => ∃ (x4_2 : Int) (x5_2 : Int) (x6_2 : Int), v4 = .int .i64 x4_2 ∧ v5 = .int .i64 x5_2 ∧ v6 = .int .i64 x6_2 ∧ Aside0 (neumeref24_Span.l0 kq l0 x4_2 x5_2 x6_2 = some (r1, r2)) ∧ Aside0 (kq ≤ kj1) ∧ Aside0 (Below w.heap.size w w'))
     case atStart => exact ⟨((rd_T45 l0 0).f0), ((rd_T45 l0 0).f2), (0), (by first | rfl | (simp; done) | (simp [*]; done) | (simp [bne]; done)), (by first | rfl | (simp; done) | (simp [*]; done) | (simp [bne]; done)), (by first | rfl | (simp; done) | (simp [*]; done) | (simp [bne]; done)), H', ⟨Nat.le_refl _⟩, ⟨by repeat (first | (with_reducible first | exact HB.out | apply ba_ | apply pd_ | apply d1_) | exact HB.out)⟩⟩
     case round =>
      clear H'
      try clear c1; try clear p2; try clear q2; try clear hx2; try clear qi2; try clear c3; try clear c3b0; try clear c3b1; try clear c3b2; try clear c4; try clear c4b0; try clear c4b1; try clear c7; try clear c8; try clear c8b0; try clear c8b1; try clear hx292_0; try clear hx292_1; try clear hx292_2; try clear hx292_3; try clear hx293_0; try clear hx293_1; try clear hx293_2; try clear hx293_3; try clear p2; try clear p292; try clear p293; try clear q292; try clear q293
      obtain ⟨x4_2, x5_2, x6_2, rfl, rfl, rfl, HA, HK2, HB⟩ := hrel
      cases gk with
      | zero => exact absurd HA.out (by simp [neumeref24_Span.l0])
      | succ k2 =>
       have H := HA.out
       clear HA
       simp only [neumeref24_Span.l0] at H
       by_cases c9 : x6_2 < (l0.length : Int)
       ·rw [if_pos c9] at H
        have c9b0 : decide (x6_2 < (l0.length : Int)) = true := dt_ c9
        clear c9
        by_cases c10 : 0 ≤ x6_2
        ·rw [if_pos c10] at H
         have c10b0 : decide (0 ≤ x6_2) = true := dt_ c10
         clear c10
         obtain ⟨ji11, hji11⟩ : ∃ j_ : Int, (mn x4_2 ((rd_T45 l0 x6_2).f0)) = j_ := ⟨_, rfl⟩
         replace H : (neumeref24_Span.l0 k2 l0 ji11 (mx x5_2 ((rd_T45 l0 x6_2).f2)) (wrap64 (x6_2 + 1))) = some (r1, r2) := by first | (rw [hji11] at H; exact H) | (simp only [hji11] at H ⊢; exact H)
         have hji11_ : (if ((rd_T45 l0 x6_2).f0) < x4_2 then ((rd_T45 l0 x6_2).f0) else x4_2) = ji11 := hji11
         obtain ⟨ji12, hji12⟩ : ∃ j_ : Int, (mx x5_2 ((rd_T45 l0 x6_2).f2)) = j_ := ⟨_, rfl⟩
         replace H : (neumeref24_Span.l0 k2 l0 ji11 ji12 (wrap64 (x6_2 + 1))) = some (r1, r2) := by first | (rw [hji12] at H; exact H) | (simp only [hji12] at H ⊢; exact H)
         have hji12_ : (if x5_2 < ((rd_T45 l0 x6_2).f2) then ((rd_T45 l0 x6_2).f2) else x5_2) = ji12 := hji12
         have H' := sd_ H
         clear H
         have p294 : 0 ≤ (x6_2 : Int) := od_ (by first | (with_reducible assumption) | assumption)
         have q294 : x6_2 < (l0.length : Int) := od_ (by first | (with_reducible assumption) | assumption)
         obtain ⟨ad294, e294, hx294_0, hx294_1, hx294_2, hx294_3⟩ := at_T45 HR0.out x6_2 p294 q294
         obtain rfl : ad292 = ad294 := (by injection e294)
         replace hx294_0 := (HB.out.cell (wb_ w _ hx294_0)).trans hx294_0
         replace hx294_1 := (HB.out.cell (wb_ w _ hx294_1)).trans hx294_1
         replace hx294_2 := (HB.out.cell (wb_ w _ hx294_2)).trans hx294_2
         replace hx294_3 := (HB.out.cell (wb_ w _ hx294_3)).trans hx294_3
         replace p294 := eq_true p294
         replace q294 := eq_true q294
         have p295 : 0 ≤ (x6_2 : Int) := od_ (by first | (with_reducible assumption) | assumption)
         have q295 : x6_2 < (l0.length : Int) := od_ (by first | (with_reducible assumption) | assumption)
         obtain ⟨ad295, e295, hx295_0, hx295_1, hx295_2, hx295_3⟩ := at_T45 HR0.out x6_2 p295 q295
         obtain rfl : ad292 = ad295 := (by injection e295)
         replace hx295_0 := (HB.out.cell (wb_ w _ hx295_0)).trans hx295_0
         replace hx295_1 := (HB.out.cell (wb_ w _ hx295_1)).trans hx295_1
         replace hx295_2 := (HB.out.cell (wb_ w _ hx295_2)).trans hx295_2
         replace hx295_3 := (HB.out.cell (wb_ w _ hx295_3)).trans hx295_3
         replace p295 := eq_true p295
         replace q295 := eq_true q295
         go_wp2
         repeat (go_quiet (fail); try go_wp2)
         go_roundg k2
         case measure => have := HJ1.out; have := HK2.out; omega
         case rel => exact ⟨(ji11), (ji12), (wrap64 (x6_2 + 1)), (by first | rfl | (simp; done) | (simp only [← hji11] <;> (first | rfl | simp)) | (simp [*]; done)), (by first | rfl | (simp; done) | (simp only [← hji12] <;> (first | rfl | simp)) | (simp [*]; done)), (by first | rfl | (simp; done) | (simp [*]; done) | (simp [bne]; done)), H', ⟨by have := HJ1.out; have := HK2.out; omega⟩, ⟨by repeat (first | (with_reducible first | exact HB.out | apply ba_ | apply pd_ | apply d1_) | exact HB.out)⟩⟩
        ·rw [if_neg c10] at H
         exact absurd H (by simp)
       ·rw [if_neg c9] at H
        have c9b0 : decide (x6_2 < (l0.length : Int)) = false := df_ c9
        clear c9
        simp only [Option.some.injEq, Prod.mk.injEq] at H
        obtain ⟨rfl, rfl⟩ := H
        go_wp2
        repeat (go_quiet (fail); try go_wp2)
        go_ret2
        exact ⟨by first | rfl | (simp [errW_none, errW_some] <;> rfl) | (simp [*, errW_none, errW_some] <;> rfl), by repeat (first | (with_reducible first | exact HB.out | apply ba_ | apply pd_ | apply d1_) | exact HB.out)⟩
    ·rw [if_neg c8] at H
     exact absurd H (by simp)

/-! ### neumelaw24_VoicesTell: function 3 -/
mutual
def neumelaw24_VoicesTell.j0 : Nat → List (S45) → List (List (S45)) → Bool → Bool → Option (Bool)
 | 0, _, _, _, _ => none
 | k + 1, x0, x1, x2, x72 => if x72 = true then (some false) else (neumelaw24_VoicesTell.l0 k x0 x1 x2 0)
def neumelaw24_VoicesTell.l0 : Nat → List (S45) → List (List (S45)) → Bool → Int → Option (Bool)
 | 0, _, _, _, _ => none
 | k + 1, x0, x1, x2, x15 => if x15 < (x1.length : Int) then (if 0 ≤ x15 then ((voices_Push.f k x0 (rd_L2 x1 x15) x2).bind fun bt322 => ((neumeref24_Push.f k x0 (rd_L2 x1 x15) x2).bind fun bt325 => (if bt322.1 = bt325.1 then (if bt322.2 = bt325.2 then (neumelaw24_VoicesTell.l0 k x0 x1 x2 (wrap64 (x15 + 1))) else (some false)) else (some false)))) else (none)) else ((voices_Span.f x0).bind fun bt316 => ((neumeref24_Span.f k x0).bind fun bt318 => (if bt316.1 = bt318.1 then (if bt316.2 = bt318.2 then ((neumelaw24_heads.f k).bind fun t320 => (some t320)) else (some false)) else (some false))))
end
def neumelaw24_VoicesTell.f (k : Nat) (l0 : List (S45)) (l1 : List (List (S45))) (a2 : Bool) : Option (Bool) := (neumelaw24_few.f k l0 l1).bind fun t296 => (if t296 = true then ((voices_Row.f k l0 l1 a2).bind fun bt298 => ((neumeref24_Row.f k l0 l1 a2).bind fun bt302 => ((voices_Shifts.f k l1).bind fun bt306 => ((neumeref24_Shifts.f k l1).bind fun bt310 => ((neumeref18_Numbers.f k bt298.1 bt302.1).bind fun t314 => (if t314 = true then (if bt298.2 = bt302.2 then ((neumeref18_Numbers.f k bt306.1 bt310.1).bind fun t315 => (if t315 = true then (neumelaw24_VoicesTell.j0 k l0 l1 a2 (bt306.2 != bt310.2)) else (neumelaw24_VoicesTell.j0 k l0 l1 a2 true))) else (neumelaw24_VoicesTell.j0 k l0 l1 a2 true)) else (neumelaw24_VoicesTell.j0 k l0 l1 a2 true))))))) else ((neumelaw24_heads.f k).bind fun t297 => (some t297)))
theorem neumelaw24_VoicesTell.mono_l : ∀ k, (∀ y0 y1 y2 y3, LeO (neumelaw24_VoicesTell.j0 k y0 y1 y2 y3) (neumelaw24_VoicesTell.j0 (k + 1) y0 y1 y2 y3)) ∧ (∀ y0 y1 y2 y3, LeO (neumelaw24_VoicesTell.l0 k y0 y1 y2 y3) (neumelaw24_VoicesTell.l0 (k + 1) y0 y1 y2 y3))
 | 0 => ⟨fun _ _ _ _ r h => by simp [neumelaw24_VoicesTell.j0] at h, fun _ _ _ _ r h => by simp [neumelaw24_VoicesTell.l0] at h⟩
 | k + 1 => by
  obtain ⟨ih0, ih1⟩ := neumelaw24_VoicesTell.mono_l k
  refine ⟨?_, ?_⟩
  ·intro y0 y1 y2 y3
   unfold neumelaw24_VoicesTell.j0
   repeat' first
   | (with_reducible exact ih0 _ _ _ _)
   | (with_reducible exact ih1 _ _ _ _)
   | (with_reducible exact neumelaw24_few.mono _ _ _)
   | (with_reducible exact neumelaw24_heads.mono _)
   | (with_reducible exact neumeref18_Numbers.mono _ _ _)
   | (with_reducible exact neumeref24_Push.mono _ _ _ _)
   | (with_reducible exact neumeref24_Row.mono _ _ _ _)
   | (with_reducible exact neumeref24_Shifts.mono _ _)
   | (with_reducible exact neumeref24_Span.mono _ _)
   | (with_reducible exact voices_Push.mono _ _ _ _)
   | (with_reducible exact voices_Row.mono _ _ _ _)
   | (with_reducible exact voices_Shifts.mono _ _)
   | (with_reducible exact LeO.refl _)
   | (with_reducible exact LeO.none _)
   | (with_reducible refine LeO.ite ?_ ?_)
   | (with_reducible refine LeO.bind ?_ (fun _ => ?_))
   | exact ih0 _ _ _ _
   | exact ih1 _ _ _ _
   | exact neumelaw24_few.mono _ _ _
   | exact neumelaw24_heads.mono _
   | exact neumeref18_Numbers.mono _ _ _
   | exact neumeref24_Push.mono _ _ _ _
   | exact neumeref24_Row.mono _ _ _ _
   | exact neumeref24_Shifts.mono _ _
   | exact neumeref24_Span.mono _ _
   | exact voices_Push.mono _ _ _ _
   | exact voices_Row.mono _ _ _ _
   | exact voices_Shifts.mono _ _
   | exact LeO.none _
   | refine LeO.ite ?_ ?_
   | refine LeO.bind ?_ (fun _ => ?_)
  ·intro y0 y1 y2 y3
   unfold neumelaw24_VoicesTell.l0
   repeat' first
   | (with_reducible exact ih0 _ _ _ _)
   | (with_reducible exact ih1 _ _ _ _)
   | (with_reducible exact neumelaw24_few.mono _ _ _)
   | (with_reducible exact neumelaw24_heads.mono _)
   | (with_reducible exact neumeref18_Numbers.mono _ _ _)
   | (with_reducible exact neumeref24_Push.mono _ _ _ _)
   | (with_reducible exact neumeref24_Row.mono _ _ _ _)
   | (with_reducible exact neumeref24_Shifts.mono _ _)
   | (with_reducible exact neumeref24_Span.mono _ _)
   | (with_reducible exact voices_Push.mono _ _ _ _)
   | (with_reducible exact voices_Row.mono _ _ _ _)
   | (with_reducible exact voices_Shifts.mono _ _)
   | (with_reducible exact LeO.refl _)
   | (with_reducible exact LeO.none _)
   | (with_reducible refine LeO.ite ?_ ?_)
   | (with_reducible refine LeO.bind ?_ (fun _ => ?_))
   | exact ih0 _ _ _ _
   | exact ih1 _ _ _ _
   | exact neumelaw24_few.mono _ _ _
   | exact neumelaw24_heads.mono _
   | exact neumeref18_Numbers.mono _ _ _
   | exact neumeref24_Push.mono _ _ _ _
   | exact neumeref24_Row.mono _ _ _ _
   | exact neumeref24_Shifts.mono _ _
   | exact neumeref24_Span.mono _ _
   | exact voices_Push.mono _ _ _ _
   | exact voices_Row.mono _ _ _ _
   | exact voices_Shifts.mono _ _
   | exact LeO.none _
   | refine LeO.ite ?_ ?_
   | refine LeO.bind ?_ (fun _ => ?_)
theorem neumelaw24_VoicesTell.mono : ∀ a0 a1 a2 k, LeO (neumelaw24_VoicesTell.f k a0 a1 a2) (neumelaw24_VoicesTell.f (k + 1) a0 a1 a2) := by
 intro a0 a1 a2 k
 obtain ⟨ih0, ih1⟩ := neumelaw24_VoicesTell.mono_l k
 unfold neumelaw24_VoicesTell.f
 repeat' first
   | (with_reducible exact ih0 _ _ _ _)
   | (with_reducible exact ih1 _ _ _ _)
   | (with_reducible exact neumelaw24_few.mono _ _ _)
   | (with_reducible exact neumelaw24_heads.mono _)
   | (with_reducible exact neumeref18_Numbers.mono _ _ _)
   | (with_reducible exact neumeref24_Push.mono _ _ _ _)
   | (with_reducible exact neumeref24_Row.mono _ _ _ _)
   | (with_reducible exact neumeref24_Shifts.mono _ _)
   | (with_reducible exact neumeref24_Span.mono _ _)
   | (with_reducible exact voices_Push.mono _ _ _ _)
   | (with_reducible exact voices_Row.mono _ _ _ _)
   | (with_reducible exact voices_Shifts.mono _ _)
   | (with_reducible exact LeO.refl _)
   | (with_reducible exact LeO.none _)
   | (with_reducible refine LeO.ite ?_ ?_)
   | (with_reducible refine LeO.bind ?_ (fun _ => ?_))
   | exact ih0 _ _ _ _
   | exact ih1 _ _ _ _
   | exact neumelaw24_few.mono _ _ _
   | exact neumelaw24_heads.mono _
   | exact neumeref18_Numbers.mono _ _ _
   | exact neumeref24_Push.mono _ _ _ _
   | exact neumeref24_Row.mono _ _ _ _
   | exact neumeref24_Shifts.mono _ _
   | exact neumeref24_Span.mono _ _
   | exact voices_Push.mono _ _ _ _
   | exact voices_Row.mono _ _ _ _
   | exact voices_Shifts.mono _ _
   | exact LeO.none _
   | refine LeO.ite ?_ ?_
   | refine LeO.bind ?_ (fun _ => ?_)
set_option maxHeartbeats 8000000 in
set_option maxRecDepth 100000 in
theorem neumelaw24_VoicesTell.calls (k : Nat) (A0 : Option Addr) (c0 : Nat) (l0 : List (S45)) (A1 : Option Addr) (c1 : Nat) (l1 : List (List (S45))) (a2 : Bool) (r : Bool) (w : World) (hr0 : Kd.C k45 w A0 l0.length l0) (hc0 : l0.length ≤ c0) (hr1 : Kd.C (Kd.slice 45 k45) w A1 l1.length l1) (hc1 : l1.length ≤ c1) (hxt : Aside0 (r = true)) (h : neumelaw24_VoicesTell.f k l0 l1 a2 = some r) :
  Calls Try.prog 3 #[.slice A0 l0.length c0, .slice A1 l1.length c1, .bool a2] w fun e w' => e = .returned (.bool r) ∧ Below w.heap.size w w' := by
 have HR0 := sd_ hr0
 have HC0 := sd_ hc0
 clear hr0 hc0
 have HR1 := sd_ hr1
 have HC1 := sd_ hc1
 clear hr1 hc1
 have HB := sd_ (Below.refl w.heap.size w)
 have H : ((neumelaw24_few.f k l0 l1).bind fun t296 => (if t296 = true then ((voices_Row.f k l0 l1 a2).bind fun bt298 => ((neumeref24_Row.f k l0 l1 a2).bind fun bt302 => ((voices_Shifts.f k l1).bind fun bt306 => ((neumeref24_Shifts.f k l1).bind fun bt310 => ((neumeref18_Numbers.f k bt298.1 bt302.1).bind fun t314 => (if t314 = true then (if bt298.2 = bt302.2 then ((neumeref18_Numbers.f k bt306.1 bt310.1).bind fun t315 => (if t315 = true then (neumelaw24_VoicesTell.j0 k l0 l1 a2 (bt306.2 != bt310.2)) else (neumelaw24_VoicesTell.j0 k l0 l1 a2 true))) else (neumelaw24_VoicesTell.j0 k l0 l1 a2 true)) else (neumelaw24_VoicesTell.j0 k l0 l1 a2 true))))))) else ((neumelaw24_heads.f k).bind fun t297 => (some t297)))) = some r := h
 clear h
 replace H := ob_ H
 obtain ⟨t296, A40, H⟩ := H
 replace H : (if t296 = true then ((voices_Row.f k l0 l1 a2).bind fun bt298 => ((neumeref24_Row.f k l0 l1 a2).bind fun bt302 => ((voices_Shifts.f k l1).bind fun bt306 => ((neumeref24_Shifts.f k l1).bind fun bt310 => ((neumeref18_Numbers.f k bt298.1 bt302.1).bind fun t314 => (if t314 = true then (if bt298.2 = bt302.2 then ((neumeref18_Numbers.f k bt306.1 bt310.1).bind fun t315 => (if t315 = true then (neumelaw24_VoicesTell.j0 k l0 l1 a2 (bt306.2 != bt310.2)) else (neumelaw24_VoicesTell.j0 k l0 l1 a2 true))) else (neumelaw24_VoicesTell.j0 k l0 l1 a2 true)) else (neumelaw24_VoicesTell.j0 k l0 l1 a2 true))))))) else ((neumelaw24_heads.f k).bind fun t297 => (some t297))) = some r := H
 have A4 := sd_ A40
 clear A40
 by_cases c5 : t296 = true
 ·subst c5
  have H1 : ((voices_Row.f k l0 l1 a2).bind fun bt298 => ((neumeref24_Row.f k l0 l1 a2).bind fun bt302 => ((voices_Shifts.f k l1).bind fun bt306 => ((neumeref24_Shifts.f k l1).bind fun bt310 => ((neumeref18_Numbers.f k bt298.1 bt302.1).bind fun t314 => (if t314 = true then (if bt298.2 = bt302.2 then ((neumeref18_Numbers.f k bt306.1 bt310.1).bind fun t315 => (if t315 = true then (neumelaw24_VoicesTell.j0 k l0 l1 a2 (bt306.2 != bt310.2)) else (neumelaw24_VoicesTell.j0 k l0 l1 a2 true))) else (neumelaw24_VoicesTell.j0 k l0 l1 a2 true)) else (neumelaw24_VoicesTell.j0 k l0 l1 a2 true))))))) = some r := by rw [if_pos rfl] at H; exact H
  clear H; have H := H1; clear H1
  replace H := ob_ H
  obtain ⟨⟨t298, t299⟩, A60, H⟩ := H
  replace H : ((neumeref24_Row.f k l0 l1 a2).bind fun bt302 => ((voices_Shifts.f k l1).bind fun bt306 => ((neumeref24_Shifts.f k l1).bind fun bt310 => ((neumeref18_Numbers.f k t298 bt302.1).bind fun t314 => (if t314 = true then (if t299 = bt302.2 then ((neumeref18_Numbers.f k bt306.1 bt310.1).bind fun t315 => (if t315 = true then (neumelaw24_VoicesTell.j0 k l0 l1 a2 (bt306.2 != bt310.2)) else (neumelaw24_VoicesTell.j0 k l0 l1 a2 true))) else (neumelaw24_VoicesTell.j0 k l0 l1 a2 true)) else (neumelaw24_VoicesTell.j0 k l0 l1 a2 true)))))) = some r := H
  have A6 := sd_ A60
  clear A60
  replace H := ob_ H
  obtain ⟨⟨t302, t303⟩, A70, H⟩ := H
  replace H : ((voices_Shifts.f k l1).bind fun bt306 => ((neumeref24_Shifts.f k l1).bind fun bt310 => ((neumeref18_Numbers.f k t298 t302).bind fun t314 => (if t314 = true then (if t299 = t303 then ((neumeref18_Numbers.f k bt306.1 bt310.1).bind fun t315 => (if t315 = true then (neumelaw24_VoicesTell.j0 k l0 l1 a2 (bt306.2 != bt310.2)) else (neumelaw24_VoicesTell.j0 k l0 l1 a2 true))) else (neumelaw24_VoicesTell.j0 k l0 l1 a2 true)) else (neumelaw24_VoicesTell.j0 k l0 l1 a2 true))))) = some r := H
  have A7 := sd_ A70
  clear A70
  replace H := ob_ H
  obtain ⟨⟨t306, t307⟩, A80, H⟩ := H
  replace H : ((neumeref24_Shifts.f k l1).bind fun bt310 => ((neumeref18_Numbers.f k t298 t302).bind fun t314 => (if t314 = true then (if t299 = t303 then ((neumeref18_Numbers.f k t306 bt310.1).bind fun t315 => (if t315 = true then (neumelaw24_VoicesTell.j0 k l0 l1 a2 (t307 != bt310.2)) else (neumelaw24_VoicesTell.j0 k l0 l1 a2 true))) else (neumelaw24_VoicesTell.j0 k l0 l1 a2 true)) else (neumelaw24_VoicesTell.j0 k l0 l1 a2 true)))) = some r := H
  have A8 := sd_ A80
  clear A80
  replace H := ob_ H
  obtain ⟨⟨t310, t311⟩, A90, H⟩ := H
  replace H : ((neumeref18_Numbers.f k t298 t302).bind fun t314 => (if t314 = true then (if t299 = t303 then ((neumeref18_Numbers.f k t306 t310).bind fun t315 => (if t315 = true then (neumelaw24_VoicesTell.j0 k l0 l1 a2 (t307 != t311)) else (neumelaw24_VoicesTell.j0 k l0 l1 a2 true))) else (neumelaw24_VoicesTell.j0 k l0 l1 a2 true)) else (neumelaw24_VoicesTell.j0 k l0 l1 a2 true))) = some r := H
  have A9 := sd_ A90
  clear A90
  have HC10 := sd_ H
  clear H
  go_enter Try.func3, Try.ntmps3
  go_upto_region 7 with (first | ((with_reducible refine gate_callee (f := 6) rfl ?_); refine goesL_ (some 26) rfl rfl Try.func6 (by kernel_rfl) rfl #[.slice A0 l0.length c0, .slice A1 l1.length c1] rfl (by (try simp only [lm_, lq_, lx_]); first | done | rfl | (simp only [ld_, lt_]; rfl)) ?_; (with_reducible refine (neumelaw24_few.calls k _ _ l0 _ _ l1 true _ ?side1 ?side2 ?side3 ?side4 A4.out).mono ?_); (case side1 => repeat (first | exact HR0.out | (with_reducible refine Kd.C_alloc ?_ _) | (with_reducible refine Kd.C_drewN ?_ _) | (with_reducible refine Kd.C_drew ?_))); (case side2 => exact HC0.out); (case side3 => repeat (first | exact HR1.out | (with_reducible refine Kd.C_alloc ?_ _) | (with_reducible refine Kd.C_drewN ?_ _) | (with_reducible refine Kd.C_drew ?_))); (case side4 => exact HC1.out); rintro e w' ⟨rfl, ⟨nd, rfl⟩⟩; refine ⟨_, rfl, ?_⟩) | ((with_reducible refine gate_callee (f := 8) rfl ?_); refine goesL_ (some 33) rfl rfl Try.func8 (by kernel_rfl) rfl #[.slice A0 l0.length c0, .slice A1 l1.length c1, .bool a2] rfl (by (try simp only [lm_, lq_, lx_]); first | done | rfl | (simp only [ld_, lt_]; rfl)) ?_; (with_reducible refine (voices_Row.calls k _ _ l0 _ _ l1 a2 t298 t299 _ ?side1 ?side2 ?side3 ?side4 A6.out).mono ?_); (case side1 => repeat (first | exact HR0.out | (with_reducible refine Kd.C_alloc ?_ _) | (with_reducible refine Kd.C_drewN ?_ _) | (with_reducible refine Kd.C_drew ?_))); (case side2 => exact HC0.out); (case side3 => repeat (first | exact HR1.out | (with_reducible refine Kd.C_alloc ?_ _) | (with_reducible refine Kd.C_drewN ?_ _) | (with_reducible refine Kd.C_drew ?_))); (case side4 => exact HC1.out); rintro e w11 ⟨v300, rfl, ho0, hb⟩; refine ⟨_, rfl, ?_⟩; have HO301 := sd_ (Kd.R_lower ho0 (bz_ (bb_ HB.out e0_))); replace HB := hb_ HB e0_ hb; (try clear hb); (try clear hb2); (try clear hk); (try clear hi); (try clear ho0)) | ((with_reducible refine gate_callee (f := 9) rfl ?_); refine goesL_ (some 40) rfl rfl Try.func9 (by kernel_rfl) rfl #[.slice A0 l0.length c0, .slice A1 l1.length c1, .bool a2] rfl (by (try simp only [lm_, lq_, lx_]); first | done | rfl | (simp only [ld_, lt_]; rfl)) ?_; (with_reducible refine (neumeref24_Row.calls k _ _ l0 _ _ l1 a2 t302 t303 _ ?side1 ?side2 ?side3 ?side4 A7.out).mono ?_); (case side1 => repeat (first | exact (Kd.C_below HR0.out HB.out) | (with_reducible refine Kd.C_alloc ?_ _) | (with_reducible refine Kd.C_drewN ?_ _) | (with_reducible refine Kd.C_drew ?_))); (case side2 => exact HC0.out); (case side3 => repeat (first | exact (Kd.C_below HR1.out HB.out) | (with_reducible refine Kd.C_alloc ?_ _) | (with_reducible refine Kd.C_drewN ?_ _) | (with_reducible refine Kd.C_drew ?_))); (case side4 => exact HC1.out); rintro e w12 ⟨v304, rfl, ho0, hb⟩; refine ⟨_, rfl, ?_⟩; have HO305 := sd_ (Kd.R_lower (Kd.R_new' ho0 (Kd.R_lt (by (with_reducible repeat (first | apply Kd.R_alloc | apply Kd.R_drewN | apply Kd.R_drew)); exact HO301.out))) (bz_ (bb_ HB.out e0_))); replace HO301 := sd_ (Kd.R_elder' (by (with_reducible repeat (first | apply Kd.R_alloc | apply Kd.R_drewN | apply Kd.R_drew)); exact HO301.out) (Kd.R_base ho0) hb); replace HB := hb_ HB e0_ hb; (try clear hb); (try clear hb2); (try clear hk); (try clear hi); (try clear ho0)) | ((with_reducible refine gate_callee (f := 10) rfl ?_); refine goesL_ (some 45) rfl rfl Try.func10 (by kernel_rfl) rfl #[.slice A1 l1.length c1] rfl (by (try simp only [lm_, lq_, lx_]); first | done | rfl | (simp only [ld_, lt_]; rfl)) ?_; (with_reducible refine (voices_Shifts.calls k _ _ l1 t306 t307 _ ?side1 ?side2 A8.out).mono ?_); (case side1 => repeat (first | exact (Kd.C_below HR1.out HB.out) | (with_reducible refine Kd.C_alloc ?_ _) | (with_reducible refine Kd.C_drewN ?_ _) | (with_reducible refine Kd.C_drew ?_))); (case side2 => exact HC1.out); rintro e w13 ⟨v308, rfl, ho0, hb⟩; refine ⟨_, rfl, ?_⟩; have HO309 := sd_ (Kd.R_lower (Kd.R_new' (Kd.R_new' ho0 (Kd.R_lt (by (with_reducible repeat (first | apply Kd.R_alloc | apply Kd.R_drewN | apply Kd.R_drew)); exact HO301.out))) (Kd.R_lt (by (with_reducible repeat (first | apply Kd.R_alloc | apply Kd.R_drewN | apply Kd.R_drew)); exact HO305.out))) (bz_ (bb_ HB.out e0_))); replace HO301 := sd_ (Kd.R_elder' (by (with_reducible repeat (first | apply Kd.R_alloc | apply Kd.R_drewN | apply Kd.R_drew)); exact HO301.out) (Kd.R_base ho0) hb); replace HO305 := sd_ (Kd.R_elder' (by (with_reducible repeat (first | apply Kd.R_alloc | apply Kd.R_drewN | apply Kd.R_drew)); exact HO305.out) (Kd.R_base ho0) hb); replace HB := hb_ HB e0_ hb; (try clear hb); (try clear hb2); (try clear hk); (try clear hi); (try clear ho0)) | ((with_reducible refine gate_callee (f := 11) rfl ?_); refine goesL_ (some 50) rfl rfl Try.func11 (by kernel_rfl) rfl #[.slice A1 l1.length c1] rfl (by (try simp only [lm_, lq_, lx_]); first | done | rfl | (simp only [ld_, lt_]; rfl)) ?_; (with_reducible refine (neumeref24_Shifts.calls k _ _ l1 t310 t311 _ ?side1 ?side2 A9.out).mono ?_); (case side1 => repeat (first | exact (Kd.C_below HR1.out HB.out) | (with_reducible refine Kd.C_alloc ?_ _) | (with_reducible refine Kd.C_drewN ?_ _) | (with_reducible refine Kd.C_drew ?_))); (case side2 => exact HC1.out); rintro e w14 ⟨v312, rfl, ho0, hb⟩; refine ⟨_, rfl, ?_⟩; have HO313 := sd_ (Kd.R_lower (Kd.R_new' (Kd.R_new' (Kd.R_new' ho0 (Kd.R_lt (by (with_reducible repeat (first | apply Kd.R_alloc | apply Kd.R_drewN | apply Kd.R_drew)); exact HO301.out))) (Kd.R_lt (by (with_reducible repeat (first | apply Kd.R_alloc | apply Kd.R_drewN | apply Kd.R_drew)); exact HO305.out))) (Kd.R_lt (by (with_reducible repeat (first | apply Kd.R_alloc | apply Kd.R_drewN | apply Kd.R_drew)); exact HO309.out))) (bz_ (bb_ HB.out e0_))); replace HO301 := sd_ (Kd.R_elder' (by (with_reducible repeat (first | apply Kd.R_alloc | apply Kd.R_drewN | apply Kd.R_drew)); exact HO301.out) (Kd.R_base ho0) hb); replace HO305 := sd_ (Kd.R_elder' (by (with_reducible repeat (first | apply Kd.R_alloc | apply Kd.R_drewN | apply Kd.R_drew)); exact HO305.out) (Kd.R_base ho0) hb); replace HO309 := sd_ (Kd.R_elder' (by (with_reducible repeat (first | apply Kd.R_alloc | apply Kd.R_drewN | apply Kd.R_drew)); exact HO309.out) (Kd.R_base ho0) hb); replace HB := hb_ HB e0_ hb; (try clear hb); (try clear hb2); (try clear hk); (try clear hi); (try clear ho0)))
  (try simp only [Act.put, ls_, lz_, lc_])
  go_cut [72] (fun v72 wc => ∃ (kq : Nat) (x72_9 : Bool), v72 = .bool x72_9 ∧ Aside0 (neumelaw24_VoicesTell.j0 kq l0 l1 a2 x72_9 = some r) ∧ Aside0 (kq ≤ k) ∧ Aside0 (Below w.heap.size w wc))
  case first =>
   have H := HC10.out
   clear HC10
   replace H := ob_ H
   obtain ⟨t314, A150, H⟩ := H
   replace H : (if t314 = true then (if t299 = t303 then ((neumeref18_Numbers.f k t306 t310).bind fun t315 => (if t315 = true then (neumelaw24_VoicesTell.j0 k l0 l1 a2 (t307 != t311)) else (neumelaw24_VoicesTell.j0 k l0 l1 a2 true))) else (neumelaw24_VoicesTell.j0 k l0 l1 a2 true)) else (neumelaw24_VoicesTell.j0 k l0 l1 a2 true)) = some r := H
   have A15 := sd_ A150
   clear A150
   by_cases c16 : t314 = true
   ·subst c16
    have H1 : (if t299 = t303 then ((neumeref18_Numbers.f k t306 t310).bind fun t315 => (if t315 = true then (neumelaw24_VoicesTell.j0 k l0 l1 a2 (t307 != t311)) else (neumelaw24_VoicesTell.j0 k l0 l1 a2 true))) else (neumelaw24_VoicesTell.j0 k l0 l1 a2 true)) = some r := by rw [if_pos rfl] at H; exact H
    clear H; have H := H1; clear H1
    by_cases c17 : t299 = t303
    ·rw [if_pos c17] at H
     have c17b0 : (t299 == t303) = true := beq_iff_eq.mpr c17
     have c17b1 : (t299 != t303) = false := bne_eq_false_iff_eq.mpr c17
     clear c17
     (first | rw [c17b0] | (simp only [i64_w, i32_w]; rw [c17b0]) | skip)
     replace H := ob_ H
     obtain ⟨t315, A180, H⟩ := H
     replace H : (if t315 = true then (neumelaw24_VoicesTell.j0 k l0 l1 a2 (t307 != t311)) else (neumelaw24_VoicesTell.j0 k l0 l1 a2 true)) = some r := H
     have A18 := sd_ A180
     clear A180
     by_cases c19 : t315 = true
     ·subst c19
      have H1 : (neumelaw24_VoicesTell.j0 k l0 l1 a2 (t307 != t311)) = some r := by rw [if_pos rfl] at H; exact H
      clear H; have H := H1; clear H1
      have H' := sd_ H
      clear H
      obtain ⟨Ao20, co20, eo20⟩ := Kd.R_slice HO301.out
      subst eo20
      obtain ⟨Ao21, co21, eo21⟩ := Kd.R_slice HO305.out
      subst eo21
      go_wp2_with (first | ((with_reducible refine gate_callee (f := 12) rfl ?_); refine goesL_ (some 55) rfl rfl Try.func12 (by kernel_rfl) rfl #[.slice Ao20 t298.length co20, .slice Ao21 t302.length co21] rfl (by (try simp only [lm_, lq_, lx_]); first | done | rfl | (simp only [ld_, lt_]; rfl)) ?_; (with_reducible refine (neumeref18_Numbers.calls k _ _ t298 _ _ t302 true _ ?side1 ?side2 ?side3 ?side4 A15.out).mono ?_); (case side1 => repeat (first | exact (Kd.R_reads' HO301.out).2.2 | (with_reducible refine Kd.C_alloc ?_ _) | (with_reducible refine Kd.C_drewN ?_ _) | (with_reducible refine Kd.C_drew ?_))); (case side2 => exact (Kd.R_reads' HO301.out).2.1); (case side3 => repeat (first | exact (Kd.R_reads' HO305.out).2.2 | (with_reducible refine Kd.C_alloc ?_ _) | (with_reducible refine Kd.C_drewN ?_ _) | (with_reducible refine Kd.C_drew ?_))); (case side4 => exact (Kd.R_reads' HO305.out).2.1); rintro e w' ⟨rfl, ⟨nd, rfl⟩⟩; refine ⟨_, rfl, ?_⟩; obtain ⟨Ao22, co22, eo22⟩ := Kd.R_slice HO309.out; subst eo22; obtain ⟨Ao23, co23, eo23⟩ := Kd.R_slice HO313.out; subst eo23) | (go_at_call 12; (with_reducible refine (neumeref18_Numbers.calls k _ _ t306 _ _ t310 true _ ?side1 ?side2 ?side3 ?side4 A18.out).mono ?_); (case side1 => repeat (first | exact (Kd.R_reads' HO309.out).2.2 | (with_reducible refine Kd.C_alloc ?_ _) | (with_reducible refine Kd.C_drewN ?_ _) | (with_reducible refine Kd.C_drew ?_))); (case side2 => exact (Kd.R_reads' HO309.out).2.1); (case side3 => repeat (first | exact (Kd.R_reads' HO313.out).2.2 | (with_reducible refine Kd.C_alloc ?_ _) | (with_reducible refine Kd.C_drewN ?_ _) | (with_reducible refine Kd.C_drew ?_))); (case side4 => exact (Kd.R_reads' HO313.out).2.1); rintro e w' ⟨rfl, ⟨nd, rfl⟩⟩))
      go_meet
      case rel => exact ⟨_, ((t307 != t311)), (by first | rfl | (simp; done) | (simp [*]; done) | (simp [bne]; done)), H', ⟨by first | omega | exact Nat.le_refl _⟩, ⟨by repeat (first | (with_reducible first | exact HB.out | apply ba_ | apply pd_ | apply d1_) | exact HB.out)⟩⟩
     ·replace c19 := bf_ c19
      subst c19
      have H1 : (neumelaw24_VoicesTell.j0 k l0 l1 a2 true) = some r := by rw [if_neg (show ¬ (false = true) by decide)] at H; exact H
      clear H; have H := H1; clear H1
      have H' := sd_ H
      clear H
      obtain ⟨Ao24, co24, eo24⟩ := Kd.R_slice HO301.out
      subst eo24
      obtain ⟨Ao25, co25, eo25⟩ := Kd.R_slice HO305.out
      subst eo25
      go_wp2_with (first | ((with_reducible refine gate_callee (f := 12) rfl ?_); refine goesL_ (some 55) rfl rfl Try.func12 (by kernel_rfl) rfl #[.slice Ao24 t298.length co24, .slice Ao25 t302.length co25] rfl (by (try simp only [lm_, lq_, lx_]); first | done | rfl | (simp only [ld_, lt_]; rfl)) ?_; (with_reducible refine (neumeref18_Numbers.calls k _ _ t298 _ _ t302 true _ ?side1 ?side2 ?side3 ?side4 A15.out).mono ?_); (case side1 => repeat (first | exact (Kd.R_reads' HO301.out).2.2 | (with_reducible refine Kd.C_alloc ?_ _) | (with_reducible refine Kd.C_drewN ?_ _) | (with_reducible refine Kd.C_drew ?_))); (case side2 => exact (Kd.R_reads' HO301.out).2.1); (case side3 => repeat (first | exact (Kd.R_reads' HO305.out).2.2 | (with_reducible refine Kd.C_alloc ?_ _) | (with_reducible refine Kd.C_drewN ?_ _) | (with_reducible refine Kd.C_drew ?_))); (case side4 => exact (Kd.R_reads' HO305.out).2.1); rintro e w' ⟨rfl, ⟨nd, rfl⟩⟩; refine ⟨_, rfl, ?_⟩; obtain ⟨Ao26, co26, eo26⟩ := Kd.R_slice HO309.out; subst eo26; obtain ⟨Ao27, co27, eo27⟩ := Kd.R_slice HO313.out; subst eo27) | (go_at_call 12; (with_reducible refine (neumeref18_Numbers.calls k _ _ t306 _ _ t310 false _ ?side1 ?side2 ?side3 ?side4 A18.out).mono ?_); (case side1 => repeat (first | exact (Kd.R_reads' HO309.out).2.2 | (with_reducible refine Kd.C_alloc ?_ _) | (with_reducible refine Kd.C_drewN ?_ _) | (with_reducible refine Kd.C_drew ?_))); (case side2 => exact (Kd.R_reads' HO309.out).2.1); (case side3 => repeat (first | exact (Kd.R_reads' HO313.out).2.2 | (with_reducible refine Kd.C_alloc ?_ _) | (with_reducible refine Kd.C_drewN ?_ _) | (with_reducible refine Kd.C_drew ?_))); (case side4 => exact (Kd.R_reads' HO313.out).2.1); rintro e w' ⟨rfl, ⟨nd, rfl⟩⟩))
      go_meet
      case rel => exact ⟨_, (true), (by first | rfl | (simp; done) | (simp [*]; done) | (simp [bne]; done)), H', ⟨by first | omega | exact Nat.le_refl _⟩, ⟨by repeat (first | (with_reducible first | exact HB.out | apply ba_ | apply pd_ | apply d1_) | exact HB.out)⟩⟩
    ·rw [if_neg c17] at H
     have c17b0 : (t299 == t303) = false := beq_eq_false_iff_ne.mpr c17
     have c17b1 : (t299 != t303) = true := bne_iff_ne.mpr c17
     (first | rw [c17b0] | (simp only [i64_w, i32_w]; rw [c17b0]) | skip)
     have H' := sd_ H
     clear H
     obtain ⟨Ao28, co28, eo28⟩ := Kd.R_slice HO301.out
     subst eo28
     obtain ⟨Ao29, co29, eo29⟩ := Kd.R_slice HO305.out
     subst eo29
     go_wp2_with (first | ((with_reducible refine gate_callee (f := 12) rfl ?_); refine goesL_ (some 55) rfl rfl Try.func12 (by kernel_rfl) rfl #[.slice Ao28 t298.length co28, .slice Ao29 t302.length co29] rfl (by (try simp only [lm_, lq_, lx_]); first | done | rfl | (simp only [ld_, lt_]; rfl)) ?_; (with_reducible refine (neumeref18_Numbers.calls k _ _ t298 _ _ t302 true _ ?side1 ?side2 ?side3 ?side4 A15.out).mono ?_); (case side1 => repeat (first | exact (Kd.R_reads' HO301.out).2.2 | (with_reducible refine Kd.C_alloc ?_ _) | (with_reducible refine Kd.C_drewN ?_ _) | (with_reducible refine Kd.C_drew ?_))); (case side2 => exact (Kd.R_reads' HO301.out).2.1); (case side3 => repeat (first | exact (Kd.R_reads' HO305.out).2.2 | (with_reducible refine Kd.C_alloc ?_ _) | (with_reducible refine Kd.C_drewN ?_ _) | (with_reducible refine Kd.C_drew ?_))); (case side4 => exact (Kd.R_reads' HO305.out).2.1); rintro e w' ⟨rfl, ⟨nd, rfl⟩⟩; refine ⟨_, rfl, ?_⟩))
     go_meet
     case rel => exact ⟨_, (true), (by first | rfl | (simp; done) | (simp [*]; done) | (simp [bne]; done)), H', ⟨by first | omega | exact Nat.le_refl _⟩, ⟨by repeat (first | (with_reducible first | exact HB.out | apply ba_ | apply pd_ | apply d1_) | exact HB.out)⟩⟩
   ·replace c16 := bf_ c16
    subst c16
    have H1 : (neumelaw24_VoicesTell.j0 k l0 l1 a2 true) = some r := by rw [if_neg (show ¬ (false = true) by decide)] at H; exact H
    clear H; have H := H1; clear H1
    have H' := sd_ H
    clear H
    obtain ⟨Ao30, co30, eo30⟩ := Kd.R_slice HO301.out
    subst eo30
    obtain ⟨Ao31, co31, eo31⟩ := Kd.R_slice HO305.out
    subst eo31
    go_wp2_with (first | ((with_reducible refine gate_callee (f := 12) rfl ?_); refine goesL_ (some 55) rfl rfl Try.func12 (by kernel_rfl) rfl #[.slice Ao30 t298.length co30, .slice Ao31 t302.length co31] rfl (by (try simp only [lm_, lq_, lx_]); first | done | rfl | (simp only [ld_, lt_]; rfl)) ?_; (with_reducible refine (neumeref18_Numbers.calls k _ _ t298 _ _ t302 false _ ?side1 ?side2 ?side3 ?side4 A15.out).mono ?_); (case side1 => repeat (first | exact (Kd.R_reads' HO301.out).2.2 | (with_reducible refine Kd.C_alloc ?_ _) | (with_reducible refine Kd.C_drewN ?_ _) | (with_reducible refine Kd.C_drew ?_))); (case side2 => exact (Kd.R_reads' HO301.out).2.1); (case side3 => repeat (first | exact (Kd.R_reads' HO305.out).2.2 | (with_reducible refine Kd.C_alloc ?_ _) | (with_reducible refine Kd.C_drewN ?_ _) | (with_reducible refine Kd.C_drew ?_))); (case side4 => exact (Kd.R_reads' HO305.out).2.1); rintro e w' ⟨rfl, ⟨nd, rfl⟩⟩; refine ⟨_, rfl, ?_⟩))
    go_meet
    case rel => exact ⟨_, (true), (by first | rfl | (simp; done) | (simp [*]; done) | (simp [bne]; done)), H', ⟨by first | omega | exact Nat.le_refl _⟩, ⟨by repeat (first | (with_reducible first | exact HB.out | apply ba_ | apply pd_ | apply d1_) | exact HB.out)⟩⟩
  case rest =>
   clear HC10
   try clear c1; try clear p2; try clear c3; try clear c5; try clear c6; try clear c8; try clear c9; try clear c10; try clear c11; try clear c12; try clear c16; try clear c17; try clear c17b0; try clear c17b1; try clear c19
   obtain ⟨kq, x72_9, rfl, HA, HJ9, HB⟩ := hcut
   cases kq with
   | zero => exact absurd HA.out (by simp [neumelaw24_VoicesTell.j0])
   | succ kj9 =>
    have H := HA.out
    clear HA
    simp only [neumelaw24_VoicesTell.j0] at H
    by_cases c32 : x72_9 = true
    ·subst c32
     have H1 : (some false) = some r := by rw [if_pos rfl] at H; exact H
     clear H; have H := H1; clear H1
     exact absurd ((Option.some.inj H).trans hxt.out) (by decide)
    ·replace c32 := bf_ c32
     subst c32
     have H1 : (neumelaw24_VoicesTell.l0 kj9 l0 l1 a2 0) = some r := by rw [if_neg (show ¬ (false = true) by decide)] at H; exact H
     clear H; have H := H1; clear H1
     have H' := sd_ H
     clear H
     go_wp2
     go_loopg [15] kj9 (fun kq v15 w' => ∃ (x15_2 : Int), v15 = .int .i64 x15_2 ∧ Aside0 (neumelaw24_VoicesTell.l0 kq l0 l1 a2 x15_2 = some r) ∧ Aside0 (kq ≤ kj9) ∧ Aside0 (Below w.heap.size w w'))
     case atStart => exact ⟨(0), (by first | rfl | (simp; done) | (simp [*]; done) | (simp [bne]; done)), H', ⟨Nat.le_refl _⟩, ⟨by repeat (first | (with_reducible first | exact HB.out | apply ba_ | apply pd_ | apply d1_) | exact HB.out)⟩⟩
     case round =>
      clear H'
      try clear c1; try clear p2; try clear c3; try clear c5; try clear c6; try clear c8; try clear c9; try clear c10; try clear c11; try clear c12; try clear c16; try clear c17; try clear c17b0; try clear c17b1; try clear c19; try clear c32; try clear p2
      obtain ⟨x15_2, rfl, HA, HK2, HB⟩ := hrel
      cases gk with
      | zero => exact absurd HA.out (by simp [neumelaw24_VoicesTell.l0])
      | succ k2 =>
       have H := HA.out
       clear HA
       simp only [neumelaw24_VoicesTell.l0] at H
       by_cases c33 : x15_2 < (l1.length : Int)
       ·rw [if_pos c33] at H
        have c33b0 : decide (x15_2 < (l1.length : Int)) = true := dt_ c33
        clear c33
        by_cases c34 : 0 ≤ x15_2
        ·rw [if_pos c34] at H
         have c34b0 : decide (0 ≤ x15_2) = true := dt_ c34
         clear c34
         replace H := ob_ H
         obtain ⟨⟨t322, t323⟩, A350, H⟩ := H
         replace H : ((neumeref24_Push.f k2 l0 (rd_L2 l1 x15_2) a2).bind fun bt325 => (if t322 = bt325.1 then (if t323 = bt325.2 then (neumelaw24_VoicesTell.l0 k2 l0 l1 a2 (wrap64 (x15_2 + 1))) else (some false)) else (some false))) = some r := H
         have A35 := sd_ A350
         clear A350
         replace H := ob_ H
         obtain ⟨⟨t325, t326⟩, A360, H⟩ := H
         replace H : (if t322 = t325 then (if t323 = t326 then (neumelaw24_VoicesTell.l0 k2 l0 l1 a2 (wrap64 (x15_2 + 1))) else (some false)) else (some false)) = some r := H
         have A36 := sd_ A360
         clear A360
         by_cases c37 : t322 = t325
         ·rw [if_pos c37] at H
          have c37b0 : (t322 == t325) = true := beq_iff_eq.mpr c37
          have c37b1 : (t322 != t325) = false := bne_eq_false_iff_eq.mpr c37
          clear c37
          by_cases c38 : t323 = t326
          ·rw [if_pos c38] at H
           have c38b0 : (t323 == t326) = true := beq_iff_eq.mpr c38
           have c38b1 : (t323 != t326) = false := bne_eq_false_iff_eq.mpr c38
           clear c38
           have H' := sd_ H
           clear H
           have p321 : 0 ≤ (x15_2 : Int) := od_ (by first | (with_reducible assumption) | assumption)
           have q321 : x15_2 < (l1.length : Int) := od_ (by first | (with_reducible assumption) | assumption)
           obtain ⟨ad321, A321_0, c321_0, e321, hx321_0, hl321_0, hi321_0⟩ := at_L2 HR1.out x15_2 p321 q321
           cases e321
           replace hx321_0 := (HB.out.cell (wb_ w _ hx321_0)).trans hx321_0
           have HR321_0 := sd_ hi321_0
           have HC321_0 := sd_ hl321_0
           clear hi321_0 hl321_0
           replace p321 := eq_true p321
           replace q321 := eq_true q321
           go_wp2_with (first | ((with_reducible refine gate_callee (f := 13) rfl ?_); refine goesL_ (some 86) rfl rfl Try.func13 (by kernel_rfl) rfl #[.slice A0 l0.length c0, .slice A321_0 (rd_L2 l1 x15_2).length c321_0, .bool a2] rfl (by (try simp only [lm_, lq_, lx_]); first | done | rfl | (simp only [ld_, lt_]; rfl)) ?_; (with_reducible refine (voices_Push.calls k2 _ _ l0 _ _ (rd_L2 l1 x15_2) a2 t322 t323 _ ?side1 ?side2 ?side3 ?side4 A35.out).mono ?_); (case side1 => repeat (first | exact (Kd.C_below HR0.out HB.out) | (with_reducible refine Kd.C_alloc ?_ _) | (with_reducible refine Kd.C_drewN ?_ _) | (with_reducible refine Kd.C_drew ?_))); (case side2 => exact HC0.out); (case side3 => repeat (first | exact (Kd.C_below HR321_0.out HB.out) | (with_reducible refine Kd.C_alloc ?_ _) | (with_reducible refine Kd.C_drewN ?_ _) | (with_reducible refine Kd.C_drew ?_))); (case side4 => exact HC321_0.out); rintro e w39 ⟨rfl, hb⟩; refine ⟨_, rfl, ?_⟩; replace HB := hb_ HB e0_ hb; (try clear hb); (try clear hb2); (try clear hk); (try clear hi); have p324 : 0 ≤ (x15_2 : Int) := od_ (by first | (with_reducible assumption) | assumption); have q324 : x15_2 < (l1.length : Int) := od_ (by first | (with_reducible assumption) | assumption); obtain ⟨ad324, A324_0, c324_0, e324, hx324_0, hl324_0, hi324_0⟩ := at_L2 HR1.out x15_2 p324 q324; obtain rfl : ad321 = ad324 := (by injection e324); replace hx324_0 := (HB.out.cell (wb_ w _ hx324_0)).trans hx324_0; have HR324_0 := sd_ hi324_0; have HC324_0 := sd_ hl324_0; clear hi324_0 hl324_0; replace p324 := eq_true p324; replace q324 := eq_true q324) | ((with_reducible refine gate_callee (f := 14) rfl ?_); refine goesL_ (some 96) rfl rfl Try.func14 (by kernel_rfl) rfl #[.slice A0 l0.length c0, .slice A324_0 (rd_L2 l1 x15_2).length c324_0, .bool a2] rfl (by (try simp only [lm_, lq_, lx_]); first | done | rfl | (simp only [ld_, lt_]; rfl)) ?_; (with_reducible refine (neumeref24_Push.calls k2 _ _ l0 _ _ (rd_L2 l1 x15_2) a2 t325 t326 _ ?side1 ?side2 ?side3 ?side4 A36.out).mono ?_); (case side1 => repeat (first | exact (Kd.C_below HR0.out HB.out) | (with_reducible refine Kd.C_alloc ?_ _) | (with_reducible refine Kd.C_drewN ?_ _) | (with_reducible refine Kd.C_drew ?_))); (case side2 => exact HC0.out); (case side3 => repeat (first | exact (Kd.C_below HR324_0.out HB.out) | (with_reducible refine Kd.C_alloc ?_ _) | (with_reducible refine Kd.C_drewN ?_ _) | (with_reducible refine Kd.C_drew ?_))); (case side4 => exact HC324_0.out); rintro e w40 ⟨rfl, hb⟩; refine ⟨_, rfl, ?_⟩; replace HB := hb_ HB e0_ hb; (try clear hb); (try clear hb2); (try clear hk); (try clear hi)))
           go_roundg k2
           case measure => have := HJ9.out; have := HK2.out; omega
           case rel => exact ⟨(wrap64 (x15_2 + 1)), (by first | rfl | (simp; done) | (simp [*]; done) | (simp [bne]; done)), H', ⟨by have := HJ9.out; have := HK2.out; omega⟩, ⟨by repeat (first | (with_reducible first | exact HB.out | apply ba_ | apply pd_ | apply d1_) | exact HB.out)⟩⟩
          ·rw [if_neg c38] at H
           have c38b0 : (t323 == t326) = false := beq_eq_false_iff_ne.mpr c38
           have c38b1 : (t323 != t326) = true := bne_iff_ne.mpr c38
           exact absurd ((Option.some.inj H).trans hxt.out) (by decide)
         ·rw [if_neg c37] at H
          have c37b0 : (t322 == t325) = false := beq_eq_false_iff_ne.mpr c37
          have c37b1 : (t322 != t325) = true := bne_iff_ne.mpr c37
          exact absurd ((Option.some.inj H).trans hxt.out) (by decide)
        ·rw [if_neg c34] at H
         exact absurd H (by simp)
       ·rw [if_neg c33] at H
        have c33b0 : decide (x15_2 < (l1.length : Int)) = false := df_ c33
        clear c33
        replace H := ob_ H
        obtain ⟨⟨t316, t317⟩, A410, H⟩ := H
        replace H : ((neumeref24_Span.f k2 l0).bind fun bt318 => (if t316 = bt318.1 then (if t317 = bt318.2 then ((neumelaw24_heads.f k2).bind fun t320 => (some t320)) else (some false)) else (some false))) = some r := H
        have A41 := sd_ A410
        clear A410
        replace H := ob_ H
        obtain ⟨⟨t318, t319⟩, A420, H⟩ := H
        replace H : (if t316 = t318 then (if t317 = t319 then ((neumelaw24_heads.f k2).bind fun t320 => (some t320)) else (some false)) else (some false)) = some r := H
        have A42 := sd_ A420
        clear A420
        by_cases c43 : t316 = t318
        ·rw [if_pos c43] at H
         have c43b0 : (t316 == t318) = true := beq_iff_eq.mpr c43
         have c43b1 : (t316 != t318) = false := bne_eq_false_iff_eq.mpr c43
         clear c43
         by_cases c44 : t317 = t319
         ·rw [if_pos c44] at H
          have c44b0 : (t317 == t319) = true := beq_iff_eq.mpr c44
          have c44b1 : (t317 != t319) = false := bne_eq_false_iff_eq.mpr c44
          clear c44
          replace H := ob_ H
          obtain ⟨t320, A450, H⟩ := H
          replace H : (some t320) = some r := H
          have A45 := sd_ A450
          clear A450
          obtain rfl := Option.some.inj H
          go_wp2_with (first | ((with_reducible refine gate_callee (f := 15) rfl ?_); refine goesL_ (some 109) rfl rfl Try.func15 (by kernel_rfl) rfl #[.slice A0 l0.length c0] rfl (by (try simp only [lm_, lq_, lx_]); first | done | rfl | (simp only [ld_, lt_]; rfl)) ?_; (with_reducible refine (voices_Span.calls _ _ l0 t316 t317 _ ?side1 ?side2 A41.out).mono ?_); (case side1 => repeat (first | exact (Kd.C_below HR0.out HB.out) | (with_reducible refine Kd.C_alloc ?_ _) | (with_reducible refine Kd.C_drewN ?_ _) | (with_reducible refine Kd.C_drew ?_))); (case side2 => exact HC0.out); rintro e w46 ⟨rfl, hb⟩; refine ⟨_, rfl, ?_⟩; replace HB := hb_ HB e0_ hb; (try clear hb); (try clear hb2); (try clear hk); (try clear hi)) | ((with_reducible refine gate_callee (f := 16) rfl ?_); refine goesL_ (some 114) rfl rfl Try.func16 (by kernel_rfl) rfl #[.slice A0 l0.length c0] rfl (by (try simp only [lm_, lq_, lx_]); first | done | rfl | (simp only [ld_, lt_]; rfl)) ?_; (with_reducible refine (neumeref24_Span.calls k2 _ _ l0 t318 t319 _ ?side1 ?side2 A42.out).mono ?_); (case side1 => repeat (first | exact (Kd.C_below HR0.out HB.out) | (with_reducible refine Kd.C_alloc ?_ _) | (with_reducible refine Kd.C_drewN ?_ _) | (with_reducible refine Kd.C_drew ?_))); (case side2 => exact HC0.out); rintro e w47 ⟨rfl, hb⟩; refine ⟨_, rfl, ?_⟩; replace HB := hb_ HB e0_ hb; (try clear hb); (try clear hb2); (try clear hk); (try clear hi)) | (go_at_call 7; (with_reducible refine (neumelaw24_heads.calls k2  t320 _ A45.out).mono ?_); rintro e w48 ⟨rfl, hb⟩; replace HB := hb_ HB e0_ hb; (try clear hb); (try clear hb2); (try clear hk); (try clear hi)))
          go_ret
          exact ⟨by first | rfl | (simp [errW_none, errW_some] <;> rfl) | (simp [*, errW_none, errW_some] <;> rfl), by repeat (first | (with_reducible first | exact HB.out | apply ba_ | apply pd_ | apply d1_) | exact HB.out)⟩
         ·rw [if_neg c44] at H
          have c44b0 : (t317 == t319) = false := beq_eq_false_iff_ne.mpr c44
          have c44b1 : (t317 != t319) = true := bne_iff_ne.mpr c44
          exact absurd ((Option.some.inj H).trans hxt.out) (by decide)
        ·rw [if_neg c43] at H
         have c43b0 : (t316 == t318) = false := beq_eq_false_iff_ne.mpr c43
         have c43b1 : (t316 != t318) = true := bne_iff_ne.mpr c43
         exact absurd ((Option.some.inj H).trans hxt.out) (by decide)
 ·replace c5 := bf_ c5
  subst c5
  have H1 : ((neumelaw24_heads.f k).bind fun t297 => (some t297)) = some r := by rw [if_neg (show ¬ (false = true) by decide)] at H; exact H
  clear H; have H := H1; clear H1
  replace H := ob_ H
  obtain ⟨t297, A490, H⟩ := H
  replace H : (some t297) = some r := H
  have A49 := sd_ A490
  clear A490
  obtain rfl := Option.some.inj H
  go_enter Try.func3, Try.ntmps3
  go_wp2_with (first | ((with_reducible refine gate_callee (f := 6) rfl ?_); refine goesL_ (some 26) rfl rfl Try.func6 (by kernel_rfl) rfl #[.slice A0 l0.length c0, .slice A1 l1.length c1] rfl (by (try simp only [lm_, lq_, lx_]); first | done | rfl | (simp only [ld_, lt_]; rfl)) ?_; (with_reducible refine (neumelaw24_few.calls k _ _ l0 _ _ l1 false _ ?side1 ?side2 ?side3 ?side4 A4.out).mono ?_); (case side1 => repeat (first | exact HR0.out | (with_reducible refine Kd.C_alloc ?_ _) | (with_reducible refine Kd.C_drewN ?_ _) | (with_reducible refine Kd.C_drew ?_))); (case side2 => exact HC0.out); (case side3 => repeat (first | exact HR1.out | (with_reducible refine Kd.C_alloc ?_ _) | (with_reducible refine Kd.C_drewN ?_ _) | (with_reducible refine Kd.C_drew ?_))); (case side4 => exact HC1.out); rintro e w' ⟨rfl, ⟨nd, rfl⟩⟩; refine ⟨_, rfl, ?_⟩) | ((with_reducible refine gate_callee (f := 7) rfl ?_); refine goesL_ (some 28) rfl rfl Try.func7 (by kernel_rfl) rfl #[] rfl (by (try simp only [lm_, lq_, lx_]); first | done | rfl | (simp only [ld_, lt_]; rfl)) ?_; (with_reducible refine (neumelaw24_heads.calls k  t297 _ A49.out).mono ?_); rintro e w50 ⟨rfl, hb⟩; refine ⟨_, rfl, ?_⟩; replace HB := hb_ HB e0_ hb; (try clear hb); (try clear hb2); (try clear hk); (try clear hi)))
  go_ret
  exact ⟨by first | rfl | (simp [errW_none, errW_some] <;> rfl) | (simp [*, errW_none, errW_some] <;> rfl), by repeat (first | (with_reducible first | exact HB.out | apply ba_ | apply pd_ | apply d1_) | exact HB.out)⟩

end Go.Proofs.Ytchmcljinkemaaa.P
