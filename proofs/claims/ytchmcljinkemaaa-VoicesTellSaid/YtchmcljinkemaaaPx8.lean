-- Written by a program of this session (wip/tools/xprint.py, over the kit's print): Lean checks it.
import Derived.Test.YtchmcljinkemaaaPx0
import Derived.Test.YtchmcljinkemaaaPx6
import Derived.Test.YtchmcljinkemaaaPx7
namespace Go.Proofs.Ytchmcljinkemaaa.P
open Go.RowKit Go.Proofs.YtchmcljinkemaaaW.PrintWords Go.Proofs.YtchmcljinkemaaaW.PrintLast Go.Proofs.YtchmcljinkemaaaW.PrintMore
attribute [local go_sem] max2_int min2_int max_two min_two max_three min_three max_four min_four   -- for this text's walks alone
set_option linter.unusedVariables false
set_option linter.unusedSimpArgs false

/-! ### neumeref24_Row: function 9 -/
mutual
def neumeref24_Row.j0 : Nat → List (S45) → List (List (S45)) → Bool → Bool → Option (List Int × Int)
 | 0, _, _, _, _ => none
 | k + 1, x0, x1, x2, x28 => if x28 = true then (some (([] : List Int), 2)) else (neumeref24_Row.l0 k x0 x1 x2 (x0.length : Int) 0)
def neumeref24_Row.l0 : Nat → List (S45) → List (List (S45)) → Bool → Int → Int → Option (List Int × Int)
 | 0, _, _, _, _, _ => none
 | k + 1, x0, x1, x2, x8, x9 => if x9 < (x1.length : Int) then (if 0 ≤ x9 then (if ((rd_L2 x1 x9).length : Int) > (wrap64 (2000 - x8)) then (some (([] : List Int), 2)) else ((neumeref24_fit.f k (rd_L2 x1 x9)).bind fun t259 => (if t259 = true then (neumeref24_Row.l0 k x0 x1 x2 (wrap64 (x8 + ((rd_L2 x1 x9).length : Int))) (wrap64 (x9 + 1))) else (some (([] : List Int), 2))))) else (none)) else ((some (([] : List (S45)) : List (S45))).bind fun y261 => (if y261.length + x0.length < 4398046511104 then (neumeref24_Row.l1 k x1 x2 (y261 ++ x0) ([] : List Int) 0) else (none)))
def neumeref24_Row.l1 : Nat → List (List (S45)) → Bool → List (S45) → List Int → Int → Option (List Int × Int)
 | 0, _, _, _, _, _ => none
 | k + 1, x1, x2, x10, x11, x12 => if x12 < (x1.length : Int) then (if 0 ≤ x12 then ((neumeref24_push.f k x10 (rd_L2 x1 x12) x2).bind fun bt268 => (if bt268.2 = 0 then (if x11.length < 17592186044416 then (neumeref24_Row.l2 k x1 x2 x10 (x11 ++ [bt268.1]) x12 bt268.1 0) else (none)) else (some (([] : List Int), bt268.2)))) else (none)) else (some (x11, 0))
def neumeref24_Row.l2 : Nat → List (List (S45)) → Bool → List (S45) → List Int → Int → Int → Int → Option (List Int × Int)
 | 0, _, _, _, _, _, _, _ => none
 | k + 1, x1, x2, x10, x11, x12, x13, x15 => if 0 ≤ x12 then (if x12 < (x1.length : Int) then (if x15 < ((rd_L2 x1 x12).length : Int) then (if 0 ≤ x15 then ((neumeref24_moved.f ((rd_T45 (rd_L2 x1 x12) x15).f0) ((rd_T45 (rd_L2 x1 x12) x15).f1) ((rd_T45 (rd_L2 x1 x12) x15).f2) ((rd_T45 (rd_L2 x1 x12) x15).f3) x13).bind fun bt276 => (if x10.length < 4398046511104 then (neumeref24_Row.l2 k x1 x2 (x10 ++ [(⟨bt276.1, bt276.2.1, bt276.2.2.1, bt276.2.2.2⟩ : S45)]) x11 x12 x13 (wrap64 (x15 + 1))) else (none))) else (none)) else (neumeref24_Row.l1 k x1 x2 x10 x11 (wrap64 (x12 + 1)))) else (none)) else (none)
end
def neumeref24_Row.f (k : Nat) (l0 : List (S45)) (l1 : List (List (S45))) (a2 : Bool) : Option (List Int × Int) := if (l1.length : Int) > 200 then (neumeref24_Row.j0 k l0 l1 a2 true) else (if (l0.length : Int) > 2000 then (neumeref24_Row.j0 k l0 l1 a2 true) else ((neumeref24_fit.f k l0).bind fun t256 => (neumeref24_Row.j0 k l0 l1 a2 (!t256))))
theorem neumeref24_Row.mono_l : ∀ k, (∀ y0 y1 y2 y3, LeO (neumeref24_Row.j0 k y0 y1 y2 y3) (neumeref24_Row.j0 (k + 1) y0 y1 y2 y3)) ∧ (∀ y0 y1 y2 y3 y4, LeO (neumeref24_Row.l0 k y0 y1 y2 y3 y4) (neumeref24_Row.l0 (k + 1) y0 y1 y2 y3 y4)) ∧ (∀ y0 y1 y2 y3 y4, LeO (neumeref24_Row.l1 k y0 y1 y2 y3 y4) (neumeref24_Row.l1 (k + 1) y0 y1 y2 y3 y4)) ∧ (∀ y0 y1 y2 y3 y4 y5 y6, LeO (neumeref24_Row.l2 k y0 y1 y2 y3 y4 y5 y6) (neumeref24_Row.l2 (k + 1) y0 y1 y2 y3 y4 y5 y6))
 | 0 => ⟨fun _ _ _ _ r h => by simp [neumeref24_Row.j0] at h, fun _ _ _ _ _ r h => by simp [neumeref24_Row.l0] at h, fun _ _ _ _ _ r h => by simp [neumeref24_Row.l1] at h, fun _ _ _ _ _ _ _ r h => by simp [neumeref24_Row.l2] at h⟩
 | k + 1 => by
  obtain ⟨ih0, ih1, ih2, ih3⟩ := neumeref24_Row.mono_l k
  refine ⟨?_, ?_, ?_, ?_⟩
  ·intro y0 y1 y2 y3
   unfold neumeref24_Row.j0
   repeat' first
   | (with_reducible exact ih0 _ _ _ _)
   | (with_reducible exact ih1 _ _ _ _ _)
   | (with_reducible exact ih2 _ _ _ _ _)
   | (with_reducible exact ih3 _ _ _ _ _ _ _)
   | (with_reducible exact neumeref24_fit.mono _ _)
   | (with_reducible exact neumeref24_push.mono _ _ _ _)
   | (with_reducible exact LeO.refl _)
   | (with_reducible exact LeO.none _)
   | (with_reducible refine LeO.ite ?_ ?_)
   | (with_reducible refine LeO.bind ?_ (fun _ => ?_))
   | exact ih0 _ _ _ _
   | exact ih1 _ _ _ _ _
   | exact ih2 _ _ _ _ _
   | exact ih3 _ _ _ _ _ _ _
   | exact neumeref24_fit.mono _ _
   | exact neumeref24_push.mono _ _ _ _
   | exact LeO.none _
   | refine LeO.ite ?_ ?_
   | refine LeO.bind ?_ (fun _ => ?_)
  ·intro y0 y1 y2 y3 y4
   unfold neumeref24_Row.l0
   repeat' first
   | (with_reducible exact ih0 _ _ _ _)
   | (with_reducible exact ih1 _ _ _ _ _)
   | (with_reducible exact ih2 _ _ _ _ _)
   | (with_reducible exact ih3 _ _ _ _ _ _ _)
   | (with_reducible exact neumeref24_fit.mono _ _)
   | (with_reducible exact neumeref24_push.mono _ _ _ _)
   | (with_reducible exact LeO.refl _)
   | (with_reducible exact LeO.none _)
   | (with_reducible refine LeO.ite ?_ ?_)
   | (with_reducible refine LeO.bind ?_ (fun _ => ?_))
   | exact ih0 _ _ _ _
   | exact ih1 _ _ _ _ _
   | exact ih2 _ _ _ _ _
   | exact ih3 _ _ _ _ _ _ _
   | exact neumeref24_fit.mono _ _
   | exact neumeref24_push.mono _ _ _ _
   | exact LeO.none _
   | refine LeO.ite ?_ ?_
   | refine LeO.bind ?_ (fun _ => ?_)
  ·intro y0 y1 y2 y3 y4
   unfold neumeref24_Row.l1
   repeat' first
   | (with_reducible exact ih0 _ _ _ _)
   | (with_reducible exact ih1 _ _ _ _ _)
   | (with_reducible exact ih2 _ _ _ _ _)
   | (with_reducible exact ih3 _ _ _ _ _ _ _)
   | (with_reducible exact neumeref24_fit.mono _ _)
   | (with_reducible exact neumeref24_push.mono _ _ _ _)
   | (with_reducible exact LeO.refl _)
   | (with_reducible exact LeO.none _)
   | (with_reducible refine LeO.ite ?_ ?_)
   | (with_reducible refine LeO.bind ?_ (fun _ => ?_))
   | exact ih0 _ _ _ _
   | exact ih1 _ _ _ _ _
   | exact ih2 _ _ _ _ _
   | exact ih3 _ _ _ _ _ _ _
   | exact neumeref24_fit.mono _ _
   | exact neumeref24_push.mono _ _ _ _
   | exact LeO.none _
   | refine LeO.ite ?_ ?_
   | refine LeO.bind ?_ (fun _ => ?_)
  ·intro y0 y1 y2 y3 y4 y5 y6
   unfold neumeref24_Row.l2
   repeat' first
   | (with_reducible exact ih0 _ _ _ _)
   | (with_reducible exact ih1 _ _ _ _ _)
   | (with_reducible exact ih2 _ _ _ _ _)
   | (with_reducible exact ih3 _ _ _ _ _ _ _)
   | (with_reducible exact neumeref24_fit.mono _ _)
   | (with_reducible exact neumeref24_push.mono _ _ _ _)
   | (with_reducible exact LeO.refl _)
   | (with_reducible exact LeO.none _)
   | (with_reducible refine LeO.ite ?_ ?_)
   | (with_reducible refine LeO.bind ?_ (fun _ => ?_))
   | exact ih0 _ _ _ _
   | exact ih1 _ _ _ _ _
   | exact ih2 _ _ _ _ _
   | exact ih3 _ _ _ _ _ _ _
   | exact neumeref24_fit.mono _ _
   | exact neumeref24_push.mono _ _ _ _
   | exact LeO.none _
   | refine LeO.ite ?_ ?_
   | refine LeO.bind ?_ (fun _ => ?_)
theorem neumeref24_Row.mono : ∀ a0 a1 a2 k, LeO (neumeref24_Row.f k a0 a1 a2) (neumeref24_Row.f (k + 1) a0 a1 a2) := by
 intro a0 a1 a2 k
 obtain ⟨ih0, ih1, ih2, ih3⟩ := neumeref24_Row.mono_l k
 unfold neumeref24_Row.f
 repeat' first
   | (with_reducible exact ih0 _ _ _ _)
   | (with_reducible exact ih1 _ _ _ _ _)
   | (with_reducible exact ih2 _ _ _ _ _)
   | (with_reducible exact ih3 _ _ _ _ _ _ _)
   | (with_reducible exact neumeref24_fit.mono _ _)
   | (with_reducible exact neumeref24_push.mono _ _ _ _)
   | (with_reducible exact LeO.refl _)
   | (with_reducible exact LeO.none _)
   | (with_reducible refine LeO.ite ?_ ?_)
   | (with_reducible refine LeO.bind ?_ (fun _ => ?_))
   | exact ih0 _ _ _ _
   | exact ih1 _ _ _ _ _
   | exact ih2 _ _ _ _ _
   | exact ih3 _ _ _ _ _ _ _
   | exact neumeref24_fit.mono _ _
   | exact neumeref24_push.mono _ _ _ _
   | exact LeO.none _
   | refine LeO.ite ?_ ?_
   | refine LeO.bind ?_ (fun _ => ?_)
set_option maxHeartbeats 8000000 in
set_option maxRecDepth 100000 in
theorem neumeref24_Row.calls (k : Nat) (A0 : Option Addr) (c0 : Nat) (l0 : List (S45)) (A1 : Option Addr) (c1 : Nat) (l1 : List (List (S45))) (a2 : Bool) (r1 : List Int) (r2 : Int) (w : World) (hr0 : Kd.C k45 w A0 l0.length l0) (hc0 : l0.length ≤ c0) (hr1 : Kd.C (Kd.slice 45 k45) w A1 l1.length l1) (hc1 : l1.length ≤ c1) (h : neumeref24_Row.f k l0 l1 a2 = some (r1, r2)) :
  Calls Try.prog 9 #[.slice A0 l0.length c0, .slice A1 l1.length c1, .bool a2] w fun e w' => ∃ v0_ : Value, e = .returned (.tuple #[v0_, .int .i64 r2]) ∧ Kd.R (Kd.int .i64) 3 w' w.heap.size (fun _ => True) v0_ r1 ∧ Below w.heap.size w w' := by
 have hu45 := Try.underlying45
 have HR0 := sd_ hr0
 have HC0 := sd_ hc0
 clear hr0 hc0
 have HR1 := sd_ hr1
 have HC1 := sd_ hc1
 clear hr1 hc1
 have HB := sd_ (Below.refl w.heap.size w)
 have H : (if (l1.length : Int) > 200 then (neumeref24_Row.j0 k l0 l1 a2 true) else (if (l0.length : Int) > 2000 then (neumeref24_Row.j0 k l0 l1 a2 true) else ((neumeref24_fit.f k l0).bind fun t256 => (neumeref24_Row.j0 k l0 l1 a2 (!t256))))) = some (r1, r2) := h
 clear h
 have HC4 := sd_ H
 clear H
 go_enter Try.func9, Try.ntmps9
 go_upto_region 1 with (fail)
 go_cut [28] (fun v28 wc => ∃ (kq : Nat) (x28_3 : Bool), v28 = .bool x28_3 ∧ Aside0 (neumeref24_Row.j0 kq l0 l1 a2 x28_3 = some (r1, r2)) ∧ Aside0 (kq ≤ k) ∧ Aside0 (Below w.heap.size w wc))
 case first =>
  have H := HC4.out
  clear HC4
  by_cases c5 : (l1.length : Int) > 200
  ·rw [if_pos c5] at H
   have c5b0 : decide (200 < (l1.length : Int)) = true := dt_ c5
   have c5b1 : decide (200 < l1.length) = true := dt_ (by omega)
   clear c5
   (first | rw [c5b0] | (simp only [i64_w, i32_w]; rw [c5b0]) | skip)
   have H' := sd_ H
   clear H
   go_wp2
   go_meet
   case rel => exact ⟨_, (true), (by first | rfl | (simp; done) | (simp [*]; done) | (simp [bne]; done)), H', ⟨by first | omega | exact Nat.le_refl _⟩, ⟨by repeat (first | (with_reducible first | exact HB.out | apply ba_ | apply pd_ | apply d1_) | exact HB.out)⟩⟩
  ·rw [if_neg c5] at H
   have c5b0 : decide (200 < (l1.length : Int)) = false := df_ c5
   have c5b1 : decide (200 < l1.length) = false := df_ (by omega)
   clear c5
   (first | rw [c5b0] | (simp only [i64_w, i32_w]; rw [c5b0]) | skip)
   by_cases c6 : (l0.length : Int) > 2000
   ·rw [if_pos c6] at H
    have c6b0 : decide (2000 < (l0.length : Int)) = true := dt_ c6
    have c6b1 : decide (2000 < l0.length) = true := dt_ (by omega)
    clear c6
    have H' := sd_ H
    clear H
    go_wp2
    go_meet
    case rel => exact ⟨_, (true), (by first | rfl | (simp; done) | (simp [*]; done) | (simp [bne]; done)), H', ⟨by first | omega | exact Nat.le_refl _⟩, ⟨by repeat (first | (with_reducible first | exact HB.out | apply ba_ | apply pd_ | apply d1_) | exact HB.out)⟩⟩
   ·rw [if_neg c6] at H
    have c6b0 : decide (2000 < (l0.length : Int)) = false := df_ c6
    have c6b1 : decide (2000 < l0.length) = false := df_ (by omega)
    clear c6
    replace H := ob_ H
    obtain ⟨t256, A70, H⟩ := H
    replace H : (neumeref24_Row.j0 k l0 l1 a2 (!t256)) = some (r1, r2) := H
    have A7 := sd_ A70
    clear A70
    have H' := sd_ H
    clear H
    go_wp2_with (first | (go_at_call 23; (with_reducible refine (neumeref24_fit.calls k _ _ l0 t256 _ ?side1 ?side2 A7.out).mono ?_); (case side1 => repeat (first | exact (Kd.C_below HR0.out HB.out) | (with_reducible refine Kd.C_alloc ?_ _) | (with_reducible refine Kd.C_drewN ?_ _) | (with_reducible refine Kd.C_drew ?_))); (case side2 => exact HC0.out); rintro e w8 ⟨rfl, hb⟩; replace HB := hb_ HB e0_ hb; (try clear hb); (try clear hb2); (try clear hk); (try clear hi)))
    go_meet
    case rel => exact ⟨_, (!t256), (by first | rfl | (simp; done) | (simp [*]; done) | (simp [bne]; done)), H', ⟨by first | omega | exact Nat.le_refl _⟩, ⟨by repeat (first | (with_reducible first | exact HB.out | apply ba_ | apply pd_ | apply d1_) | exact HB.out)⟩⟩
 case rest =>
  clear HC4
  try clear c1; try clear p2; try clear c5; try clear c5b0; try clear c5b1; try clear c6; try clear c6b0; try clear c6b1
  obtain ⟨kq, x28_3, rfl, HA, HJ3, HB⟩ := hcut
  cases kq with
  | zero => exact absurd HA.out (by simp [neumeref24_Row.j0])
  | succ kj3 =>
   have H := HA.out
   clear HA
   simp only [neumeref24_Row.j0] at H
   by_cases c9 : x28_3 = true
   ·subst c9
    have H1 : (some (([] : List Int), 2)) = some (r1, r2) := by rw [if_pos rfl] at H; exact H
    clear H; have H := H1; clear H1
    simp only [Option.some.injEq, Prod.mk.injEq] at H
    obtain ⟨rfl, rfl⟩ := H
    go_wp2
    go_ret2
    exact ⟨_, by first | rfl | (simp [errW_none, errW_some] <;> rfl) | (simp [*, errW_none, errW_some] <;> rfl), by first | exact Kd.R_nil _ _ _ _ _ | exact Kd.N_nil _ _ _ _ _ | exact Kd.V_nil _ _ _ _ _ | exact Kd.Q_nil _ _ _ _ _ | exact Kd.S_nil _ _ _ _ _, by repeat (first | (with_reducible first | exact HB.out | apply ba_ | apply pd_ | apply d1_) | exact HB.out)⟩
   ·replace c9 := bf_ c9
    subst c9
    have H1 : (neumeref24_Row.l0 kj3 l0 l1 a2 (l0.length : Int) 0) = some (r1, r2) := by rw [if_neg (show ¬ (false = true) by decide)] at H; exact H
    clear H; have H := H1; clear H1
    have H' := sd_ H
    clear H
    go_wp2
    go_loopg [8, 9] kj3 (fun kq v8 v9 w' => ∃ (x8_2 : Int) (x9_2 : Int), v8 = .int .i64 x8_2 ∧ v9 = .int .i64 x9_2 ∧ Aside0 (neumeref24_Row.l0 kq l0 l1 a2 x8_2 x9_2 = some (r1, r2)) ∧ Aside0 (kq ≤ kj3) ∧ Aside0 (Below w.heap.size w w'))
    case atStart => exact ⟨((l0.length : Int)), (0), (by first | rfl | (simp; done) | (simp [*]; done) | (simp [bne]; done)), (by first | rfl | (simp; done) | (simp [*]; done) | (simp [bne]; done)), H', ⟨Nat.le_refl _⟩, ⟨by repeat (first | (with_reducible first | exact HB.out | apply ba_ | apply pd_ | apply d1_) | exact HB.out)⟩⟩
    case round =>
     clear H'
     try clear c1; try clear p2; try clear c5; try clear c5b0; try clear c5b1; try clear c6; try clear c6b0; try clear c6b1; try clear c9; try clear p2
     obtain ⟨x8_2, x9_2, rfl, rfl, HA, HK2, HB⟩ := hrel
     cases gk with
     | zero => exact absurd HA.out (by simp [neumeref24_Row.l0])
     | succ k2 =>
      have H := HA.out
      clear HA
      simp only [neumeref24_Row.l0] at H
      by_cases c10 : x9_2 < (l1.length : Int)
      ·rw [if_pos c10] at H
       have c10b0 : decide (x9_2 < (l1.length : Int)) = true := dt_ c10
       clear c10
       by_cases c11 : 0 ≤ x9_2
       ·rw [if_pos c11] at H
        have c11b0 : decide (0 ≤ x9_2) = true := dt_ c11
        clear c11
        by_cases c12 : ((rd_L2 l1 x9_2).length : Int) > (wrap64 (2000 - x8_2))
        ·rw [if_pos c12] at H
         have c12b0 : decide ((wrap64 (2000 - x8_2)) < ((rd_L2 l1 x9_2).length : Int)) = true := dt_ c12
         clear c12
         simp only [Option.some.injEq, Prod.mk.injEq] at H
         obtain ⟨rfl, rfl⟩ := H
         have p257 : 0 ≤ (x9_2 : Int) := od_ (by first | (with_reducible assumption) | assumption)
         have q257 : x9_2 < (l1.length : Int) := od_ (by first | (with_reducible assumption) | assumption)
         obtain ⟨ad257, A257_0, c257_0, e257, hx257_0, hl257_0, hi257_0⟩ := at_L2 HR1.out x9_2 p257 q257
         cases e257
         replace hx257_0 := (HB.out.cell (wb_ w _ hx257_0)).trans hx257_0
         have HR257_0 := sd_ hi257_0
         have HC257_0 := sd_ hl257_0
         clear hi257_0 hl257_0
         replace p257 := eq_true p257
         replace q257 := eq_true q257
         go_wp2
         go_ret2
         exact ⟨_, by first | rfl | (simp [errW_none, errW_some] <;> rfl) | (simp [*, errW_none, errW_some] <;> rfl), by first | exact Kd.R_nil _ _ _ _ _ | exact Kd.N_nil _ _ _ _ _ | exact Kd.V_nil _ _ _ _ _ | exact Kd.Q_nil _ _ _ _ _ | exact Kd.S_nil _ _ _ _ _, by repeat (first | (with_reducible first | exact HB.out | apply ba_ | apply pd_ | apply d1_) | exact HB.out)⟩
        ·rw [if_neg c12] at H
         have c12b0 : decide ((wrap64 (2000 - x8_2)) < ((rd_L2 l1 x9_2).length : Int)) = false := df_ c12
         clear c12
         replace H := ob_ H
         obtain ⟨t259, A130, H⟩ := H
         replace H : (if t259 = true then (neumeref24_Row.l0 k2 l0 l1 a2 (wrap64 (x8_2 + ((rd_L2 l1 x9_2).length : Int))) (wrap64 (x9_2 + 1))) else (some (([] : List Int), 2))) = some (r1, r2) := H
         have A13 := sd_ A130
         clear A130
         by_cases c14 : t259 = true
         ·subst c14
          have H1 : (neumeref24_Row.l0 k2 l0 l1 a2 (wrap64 (x8_2 + ((rd_L2 l1 x9_2).length : Int))) (wrap64 (x9_2 + 1))) = some (r1, r2) := by rw [if_pos rfl] at H; exact H
          clear H; have H := H1; clear H1
          have H' := sd_ H
          clear H
          have p257 : 0 ≤ (x9_2 : Int) := od_ (by first | (with_reducible assumption) | assumption)
          have q257 : x9_2 < (l1.length : Int) := od_ (by first | (with_reducible assumption) | assumption)
          obtain ⟨ad257, A257_0, c257_0, e257, hx257_0, hl257_0, hi257_0⟩ := at_L2 HR1.out x9_2 p257 q257
          cases e257
          replace hx257_0 := (HB.out.cell (wb_ w _ hx257_0)).trans hx257_0
          have HR257_0 := sd_ hi257_0
          have HC257_0 := sd_ hl257_0
          clear hi257_0 hl257_0
          replace p257 := eq_true p257
          replace q257 := eq_true q257
          have p258 : 0 ≤ (x9_2 : Int) := od_ (by first | (with_reducible assumption) | assumption)
          have q258 : x9_2 < (l1.length : Int) := od_ (by first | (with_reducible assumption) | assumption)
          obtain ⟨ad258, A258_0, c258_0, e258, hx258_0, hl258_0, hi258_0⟩ := at_L2 HR1.out x9_2 p258 q258
          obtain rfl : ad257 = ad258 := (by injection e258)
          replace hx258_0 := (HB.out.cell (wb_ w _ hx258_0)).trans hx258_0
          have HR258_0 := sd_ hi258_0
          have HC258_0 := sd_ hl258_0
          clear hi258_0 hl258_0
          replace p258 := eq_true p258
          replace q258 := eq_true q258
          have ea_ := Option.some.inj (hx257_0.symm.trans hx258_0)
          injection ea_ with ea_ en_ ec_
          subst ea_
          subst ec_
          clear en_
          go_wp2_with (first | (go_at_call 23; (with_reducible refine (neumeref24_fit.calls k2 _ _ (rd_L2 l1 x9_2) true _ ?side1 ?side2 A13.out).mono ?_); (case side1 => repeat (first | exact (Kd.C_below HR258_0.out HB.out) | (with_reducible refine Kd.C_alloc ?_ _) | (with_reducible refine Kd.C_drewN ?_ _) | (with_reducible refine Kd.C_drew ?_))); (case side2 => exact HC258_0.out); rintro e w15 ⟨rfl, hb⟩; replace HB := hb_ HB e0_ hb; (try clear hb); (try clear hb2); (try clear hk); (try clear hi); have p260 : 0 ≤ (x9_2 : Int) := od_ (by first | (with_reducible assumption) | assumption); have q260 : x9_2 < (l1.length : Int) := od_ (by first | (with_reducible assumption) | assumption); obtain ⟨ad260, A260_0, c260_0, e260, hx260_0, hl260_0, hi260_0⟩ := at_L2 HR1.out x9_2 p260 q260; obtain rfl : ad257 = ad260 := (by injection e260); replace hx260_0 := (HB.out.cell (wb_ w _ hx260_0)).trans hx260_0; have HR260_0 := sd_ hi260_0; have HC260_0 := sd_ hl260_0; clear hi260_0 hl260_0; replace p260 := eq_true p260; replace q260 := eq_true q260))
          go_roundg k2
          case measure => have := HJ3.out; have := HK2.out; omega
          case rel => exact ⟨(wrap64 (x8_2 + ((rd_L2 l1 x9_2).length : Int))), (wrap64 (x9_2 + 1)), (by first | rfl | (simp; done) | (simp [*]; done) | (simp [bne]; done)), (by first | rfl | (simp; done) | (simp [*]; done) | (simp [bne]; done)), H', ⟨by have := HJ3.out; have := HK2.out; omega⟩, ⟨by repeat (first | (with_reducible first | exact HB.out | apply ba_ | apply pd_ | apply d1_) | exact HB.out)⟩⟩
         ·replace c14 := bf_ c14
          subst c14
          have H1 : (some (([] : List Int), 2)) = some (r1, r2) := by rw [if_neg (show ¬ (false = true) by decide)] at H; exact H
          clear H; have H := H1; clear H1
          simp only [Option.some.injEq, Prod.mk.injEq] at H
          obtain ⟨rfl, rfl⟩ := H
          have p257 : 0 ≤ (x9_2 : Int) := od_ (by first | (with_reducible assumption) | assumption)
          have q257 : x9_2 < (l1.length : Int) := od_ (by first | (with_reducible assumption) | assumption)
          obtain ⟨ad257, A257_0, c257_0, e257, hx257_0, hl257_0, hi257_0⟩ := at_L2 HR1.out x9_2 p257 q257
          cases e257
          replace hx257_0 := (HB.out.cell (wb_ w _ hx257_0)).trans hx257_0
          have HR257_0 := sd_ hi257_0
          have HC257_0 := sd_ hl257_0
          clear hi257_0 hl257_0
          replace p257 := eq_true p257
          replace q257 := eq_true q257
          have p258 : 0 ≤ (x9_2 : Int) := od_ (by first | (with_reducible assumption) | assumption)
          have q258 : x9_2 < (l1.length : Int) := od_ (by first | (with_reducible assumption) | assumption)
          obtain ⟨ad258, A258_0, c258_0, e258, hx258_0, hl258_0, hi258_0⟩ := at_L2 HR1.out x9_2 p258 q258
          obtain rfl : ad257 = ad258 := (by injection e258)
          replace hx258_0 := (HB.out.cell (wb_ w _ hx258_0)).trans hx258_0
          have HR258_0 := sd_ hi258_0
          have HC258_0 := sd_ hl258_0
          clear hi258_0 hl258_0
          replace p258 := eq_true p258
          replace q258 := eq_true q258
          have ea_ := Option.some.inj (hx257_0.symm.trans hx258_0)
          injection ea_ with ea_ en_ ec_
          subst ea_
          subst ec_
          clear en_
          go_wp2_with (first | (go_at_call 23; (with_reducible refine (neumeref24_fit.calls k2 _ _ (rd_L2 l1 x9_2) false _ ?side1 ?side2 A13.out).mono ?_); (case side1 => repeat (first | exact (Kd.C_below HR258_0.out HB.out) | (with_reducible refine Kd.C_alloc ?_ _) | (with_reducible refine Kd.C_drewN ?_ _) | (with_reducible refine Kd.C_drew ?_))); (case side2 => exact HC258_0.out); rintro e w16 ⟨rfl, hb⟩; replace HB := hb_ HB e0_ hb; (try clear hb); (try clear hb2); (try clear hk); (try clear hi)))
          go_ret2
          exact ⟨_, by first | rfl | (simp [errW_none, errW_some] <;> rfl) | (simp [*, errW_none, errW_some] <;> rfl), by first | exact Kd.R_nil _ _ _ _ _ | exact Kd.N_nil _ _ _ _ _ | exact Kd.V_nil _ _ _ _ _ | exact Kd.Q_nil _ _ _ _ _ | exact Kd.S_nil _ _ _ _ _, by repeat (first | (with_reducible first | exact HB.out | apply ba_ | apply pd_ | apply d1_) | exact HB.out)⟩
       ·rw [if_neg c11] at H
        exact absurd H (by simp)
      ·rw [if_neg c10] at H
       have c10b0 : decide (x9_2 < (l1.length : Int)) = false := df_ c10
       clear c10
       obtain ⟨y261, hy261⟩ : ∃ y_ : List (S45), y_ = (([] : List (S45))) := ⟨_, rfl⟩
       replace H : (if y261.length + l0.length < 4398046511104 then (neumeref24_Row.l1 k2 l1 a2 (y261 ++ l0) ([] : List Int) 0) else (none)) = some (r1, r2) := by first | (rw [hy261]; with_reducible exact H) | (have H2_ := (Option.bind_some _ _).symm.trans H; rw [hy261]; with_reducible exact H2_) | (have H2_ := (Option.bind_some _ _).symm.trans H; with_reducible exact H2_) | with_reducible exact H | (rw [hy261]; exact H) | exact H
       have Ny261 := sd_ hy261
       clear hy261
       by_cases c17 : y261.length + l0.length < 4398046511104
       ·rw [if_pos c17] at H
        have LMc17 := sd_ c17
        clear c17
        obtain ⟨y264, hy264⟩ : ∃ y_ : List (S45), y_ = (y261 ++ l0) := ⟨_, rfl⟩
        replace H : (neumeref24_Row.l1 k2 l1 a2 y264 ([] : List Int) 0) = some (r1, r2) := by first | (rw [hy264]; with_reducible exact H) | (have H2_ := (Option.bind_some _ _).symm.trans H; rw [hy264]; with_reducible exact H2_) | (have H2_ := (Option.bind_some _ _).symm.trans H; with_reducible exact H2_) | with_reducible exact H | (rw [hy264]; exact H) | exact H
        have Ny264 := sd_ hy264
        clear hy264
        have H' := sd_ H
        clear H
        go_wp2_with (first | ((with_reducible refine gate_dst (N := 60) rfl ?_); (try (refine gate_guard (by rfl) ?_; dsimp only)); refine Kd.R_lit k45 _ 45 ?hg (N := 60) ?hd (xs := ([] : List (S45))) (inner := []) (ok := fun _ => True) (okp := fun _ => True) ?hr ?hp (fun _ hk => hk) trivial (Below.refl _ _) (Nat.le_refl _) (by simp) ?_; (case hd => rfl); (case hg => rfl); (case hr => first | (go_simp; done) | (go_simp; rfl)); (case hp => exact (Reps.none _ _)); intro v262 w18 ho19 hb hg_ hnew_; clear hg_ hnew_; (first | rw [← Ny261.out] at ho19 | (simp only [Int.reduceToNat] at ho19; rw [← Ny261.out] at ho19)); have HO263 := sd_ (Kd.R_lower ho19 (bz_ (bb_ HB.out e0_))); replace HB := hb_ HB e0_ hb; clear hb ho19) | ((with_reducible refine gate_builtin (b := .append) (xs := #[.tmp 60, .tmp 61]) rfl ?_); (try (refine gate_guard (by rfl) ?_; dsimp only)); at_builtin; refine Kd.R_append_rows k45 (w0 := w) w.heap.size rfl (.tmp 60) (.tmp 61) 22 45 (.agg #[(.int .i64 0), (.int .i64 0), (.int .i64 0), (.int .i64 0)]) 32 rfl Try.underlying22 info45 rfl (by decide) (by omega) v262 y261 l0 _ _ _ (fun _ => True) (fun _ => False) rfl rfl ?aO ?aR (fun _ _ h => h) (fun _ h => h.elim) ?aF ?aB ?aS ?aL ?_; (case aR => repeat (first | exact (Kd.C_below HR0.out HB.out) | (with_reducible refine Kd.C_alloc ?_ _) | (with_reducible refine Kd.C_drewN ?_ _) | (with_reducible refine Kd.C_drew ?_))); (case aB => exact (bb_ HB.out e0_)); (case aF => exact (fun _ _ => trivial)); (case aO => exact (by (with_reducible repeat (first | apply Kd.R_alloc | apply Kd.R_drewN | apply Kd.R_drew)); exact HO263.out)); (case aS => exact (bz_ (bb_ HB.out e0_))); (case aL => have := LMc17.out; omega); intro v265 w20 ho hb hg hat; rw [← Ny264.out] at ho; have HO266 := sd_ (ho); replace HB := sd_ (hb); clear HO263; clear ho hb hg hat))
        go_loopg [10, 11, 12] k2 (fun kq v10 v11 v12 w' => ∃ (x10_3 : List (S45)) (x11_3 : List Int) (x12_3 : Int), v12 = .int .i64 x12_3 ∧ Aside0 (neumeref24_Row.l1 kq l1 a2 x10_3 x11_3 x12_3 = some (r1, r2)) ∧ Aside0 (kq ≤ k2) ∧ Aside0 (Kd.R k45 45 w' w.heap.size (fun _ => True) v10 x10_3) ∧ Aside0 (Kd.R (Kd.int .i64) 3 w' w.heap.size (fun _ => True) v11 x11_3) ∧ Aside0 (Below w.heap.size w w'))
        case atStart => exact ⟨(y264), (([] : List Int)), (0), (by first | rfl | (simp; done) | (simp [*]; done) | (simp [bne]; done)), H', ⟨Nat.le_refl _⟩, ⟨by (with_reducible repeat (first | apply Kd.R_alloc | apply Kd.R_drewN | apply Kd.R_drew)); exact HO266.out⟩, ⟨by first | exact Kd.R_nil _ _ _ _ _ | exact Kd.N_nil _ _ _ _ _ | exact Kd.V_nil _ _ _ _ _ | exact Kd.Q_nil _ _ _ _ _ | exact Kd.S_nil _ _ _ _ _⟩, ⟨by repeat (first | (with_reducible first | exact HB.out | apply ba_ | apply pd_ | apply d1_) | exact HB.out)⟩⟩
        case round =>
         clear H'
         try clear c1; try clear c2; try clear p2; try clear q2; try clear hx2; try clear c5; try clear c5b0; try clear c5b1; try clear c6; try clear c6b0; try clear c6b1; try clear p6; try clear c9; try clear c10; try clear c10b0; try clear c11; try clear c11b0; try clear c12; try clear c12b0; try clear c14; try clear c17; try clear hx257_0; try clear hx258_0; try clear hx260_0; try clear p2; try clear p257; try clear p258; try clear p260; try clear q257; try clear q258; try clear q260
         obtain ⟨x10_3, x11_3, x12_3, rfl, HA, HK3, HO_10, HO_11, HB⟩ := hrel
         cases gk with
         | zero => exact absurd HA.out (by simp [neumeref24_Row.l1])
         | succ k3 =>
          have H := HA.out
          clear HA
          simp only [neumeref24_Row.l1] at H
          by_cases c21 : x12_3 < (l1.length : Int)
          ·rw [if_pos c21] at H
           have c21b0 : decide (x12_3 < (l1.length : Int)) = true := dt_ c21
           clear c21
           by_cases c22 : 0 ≤ x12_3
           ·rw [if_pos c22] at H
            have c22b0 : decide (0 ≤ x12_3) = true := dt_ c22
            clear c22
            replace H := ob_ H
            obtain ⟨⟨t268, t269⟩, A230, H⟩ := H
            replace H : (if t269 = 0 then (if x11_3.length < 17592186044416 then (neumeref24_Row.l2 k3 l1 a2 x10_3 (x11_3 ++ [t268]) x12_3 t268 0) else (none)) else (some (([] : List Int), t269))) = some (r1, r2) := H
            have A23 := sd_ A230
            clear A230
            by_cases c24 : t269 = 0
            ·rw [if_pos c24] at H
             have c24b0 : (t269 == 0) = true := beq_iff_eq.mpr c24
             have c24b1 : (t269 != 0) = false := bne_eq_false_iff_eq.mpr c24
             clear c24
             by_cases c25 : x11_3.length < 17592186044416
             ·rw [if_pos c25] at H
              have LMc25 := sd_ c25
              clear c25
              obtain ⟨y270, hy270⟩ : ∃ y_ : List Int, y_ = (x11_3 ++ [t268]) := ⟨_, rfl⟩
              replace H : (neumeref24_Row.l2 k3 l1 a2 x10_3 y270 x12_3 t268 0) = some (r1, r2) := by first | (rw [hy270]; with_reducible exact H) | (have H2_ := (Option.bind_some _ _).symm.trans H; rw [hy270]; with_reducible exact H2_) | (have H2_ := (Option.bind_some _ _).symm.trans H; with_reducible exact H2_) | with_reducible exact H | (rw [hy270]; exact H) | exact H
              have Ny270 := sd_ hy270
              clear hy270
              have H' := sd_ H
              clear H
              have p267 : 0 ≤ (x12_3 : Int) := od_ (by first | (with_reducible assumption) | assumption)
              have q267 : x12_3 < (l1.length : Int) := od_ (by first | (with_reducible assumption) | assumption)
              obtain ⟨ad267, A267_0, c267_0, e267, hx267_0, hl267_0, hi267_0⟩ := at_L2 HR1.out x12_3 p267 q267
              cases e267
              replace hx267_0 := (HB.out.cell (wb_ w _ hx267_0)).trans hx267_0
              have HR267_0 := sd_ hi267_0
              have HC267_0 := sd_ hl267_0
              clear hi267_0 hl267_0
              replace p267 := eq_true p267
              replace q267 := eq_true q267
              obtain ⟨Ao26, co26, eo26⟩ := Kd.R_slice HO_10.out
              subst eo26
              go_wp2_with (first | ((with_reducible refine gate_callee (f := 24) rfl ?_); refine goesL_ (some 76) rfl rfl Try.func24 (by kernel_rfl) rfl #[.slice Ao26 x10_3.length co26, .slice A267_0 (rd_L2 l1 x12_3).length c267_0, .bool a2] rfl (by (try simp only [lm_, lq_, lx_]); first | done | rfl | (simp only [ld_, lt_]; rfl)) ?_; (with_reducible refine (neumeref24_push.calls k3 _ _ x10_3 _ _ (rd_L2 l1 x12_3) a2 t268 t269 _ ?side1 ?side2 ?side3 ?side4 A23.out).mono ?_); (case side1 => repeat (first | exact (Kd.R_reads' HO_10.out).2.2 | (with_reducible refine Kd.C_alloc ?_ _) | (with_reducible refine Kd.C_drewN ?_ _) | (with_reducible refine Kd.C_drew ?_))); (case side2 => exact (Kd.R_reads' HO_10.out).2.1); (case side3 => repeat (first | exact (Kd.C_below HR267_0.out HB.out) | (with_reducible refine Kd.C_alloc ?_ _) | (with_reducible refine Kd.C_drewN ?_ _) | (with_reducible refine Kd.C_drew ?_))); (case side4 => exact HC267_0.out); rintro e w27 ⟨rfl, hb⟩; refine ⟨_, rfl, ?_⟩; replace HO_10 := sd_ (Kd.R_below (by (with_reducible repeat (first | apply Kd.R_alloc | apply Kd.R_drewN | apply Kd.R_drew)); exact HO_10.out) hb); replace HO_11 := sd_ (Kd.R_below (by (with_reducible repeat (first | apply Kd.R_alloc | apply Kd.R_drewN | apply Kd.R_drew)); exact HO_11.out) hb); replace HB := hb_ HB e0_ hb; (try clear hb); (try clear hb2); (try clear hk); (try clear hi)) | ((with_reducible refine gate_builtin (b := .append) (xs := #[.tmp 82, .tmp 84]) rfl ?_); (try (refine gate_guard (by rfl) ?_; dsimp only)); at_builtin; refine Kd.R_append (Kd.int .i64) (w0 := w) w.heap.size rfl (.tmp 82) (.tmp 84) 26 3 (.int .i64 0) 8 rfl Try.underlying26 info3 rfl (by decide) (by omega) u11 x11_3 t268 [.int .i64 t268] (fun _ => True) (fun _ => False) rfl rfl ?aP (fun _ hk => hk.elim) ?aF ?aO ?aB ?aS ?aL ?_; (case aP => exact rfl); (case aB => exact (bb_ HB.out e0_)); (case aF => exact (fun _ _ => trivial)); (case aO => exact (by (with_reducible repeat (first | apply Kd.R_alloc | apply Kd.R_drewN | apply Kd.R_drew)); exact HO_11.out)); (case aS => exact (bz_ (bb_ HB.out e0_))); (case aL => have := LMc25.out; omega); intro v271 w28 ho hb hg hat; rw [← Ny270.out] at ho; have n0_ := sd_ (Kd.R_over' (by (with_reducible repeat (first | apply Kd.R_alloc | apply Kd.R_drewN | apply Kd.R_drew)); exact HO_10.out) (Kd.R_typed (by (with_reducible repeat (first | apply Kd.R_alloc | apply Kd.R_drewN | apply Kd.R_drew)); exact HO_11.out)) (by decide) hg); have n1_ := sd_ (hb); have n2_ := sd_ (ho); clear HO_10; clear HB; clear HO_11; have HO_10 := n0_; have HB := n1_; have HO272 := n2_; clear n0_ n1_ n2_; clear ho hb hg hat))
              go_loopg [10, 15] k3 (fun kq v10 v15 w' => ∃ (x10_4 : List (S45)) (x15_4 : Int), v15 = .int .i64 x15_4 ∧ Aside0 (neumeref24_Row.l2 kq l1 a2 x10_4 y270 x12_3 t268 x15_4 = some (r1, r2)) ∧ Aside0 (kq ≤ k3) ∧ Aside0 (Kd.R k45 45 w' w.heap.size (fun _ => True) v10 x10_4) ∧ Aside0 (Kd.R (Kd.int .i64) 3 w' w.heap.size (fun _ => True) v271 y270) ∧ Aside0 (Below w.heap.size w w'))
              case atStart => exact ⟨(x10_3), (0), (by first | rfl | (simp; done) | (simp [*]; done) | (simp [bne]; done)), H', ⟨Nat.le_refl _⟩, ⟨by (with_reducible repeat (first | apply Kd.R_alloc | apply Kd.R_drewN | apply Kd.R_drew)); exact HO_10.out⟩, ⟨by (with_reducible repeat (first | apply Kd.R_alloc | apply Kd.R_drewN | apply Kd.R_drew)); exact HO272.out⟩, ⟨by repeat (first | (with_reducible first | exact HB.out | apply ba_ | apply pd_ | apply d1_) | exact HB.out)⟩⟩
              case round =>
               clear H'
               try clear c1; try clear c2; try clear p2; try clear q2; try clear hx2; try clear c5; try clear c5b0; try clear c5b1; try clear c6; try clear c6b0; try clear c6b1; try clear p6; try clear c9; try clear c10; try clear c10b0; try clear c11; try clear c11b0; try clear c12; try clear c12b0; try clear c14; try clear c17; try clear c21; try clear c21b0; try clear c22; try clear c22b0; try clear c24; try clear c24b0; try clear c24b1; try clear c25; try clear p25; try clear q25; try clear hx25; try clear c26; try clear p26; try clear q26; try clear hx26; try clear hx257_0; try clear hx258_0; try clear hx260_0; try clear hx267_0; try clear p2; try clear p257; try clear p258; try clear p260; try clear p267; try clear p6; try clear q2; try clear q257; try clear q258; try clear q260; try clear q267
               obtain ⟨x10_4, x15_4, rfl, HA, HK4, HO_10, HO_11, HB⟩ := hrel
               cases gk with
               | zero => exact absurd HA.out (by simp [neumeref24_Row.l2])
               | succ k4 =>
                have H := HA.out
                clear HA
                simp only [neumeref24_Row.l2] at H
                by_cases c29 : 0 ≤ x12_3
                ·rw [if_pos c29] at H
                 have c29b0 : decide (0 ≤ x12_3) = true := dt_ c29
                 clear c29
                 by_cases c30 : x12_3 < (l1.length : Int)
                 ·rw [if_pos c30] at H
                  have c30b0 : decide (x12_3 < (l1.length : Int)) = true := dt_ c30
                  clear c30
                  by_cases c31 : x15_4 < ((rd_L2 l1 x12_3).length : Int)
                  ·rw [if_pos c31] at H
                   have c31b0 : decide (x15_4 < ((rd_L2 l1 x12_3).length : Int)) = true := dt_ c31
                   clear c31
                   by_cases c32 : 0 ≤ x15_4
                   ·rw [if_pos c32] at H
                    have c32b0 : decide (0 ≤ x15_4) = true := dt_ c32
                    clear c32
                    replace H := ob_ H
                    obtain ⟨⟨t276, t277, t278, t279⟩, A330, H⟩ := H
                    replace H : (if x10_4.length < 4398046511104 then (neumeref24_Row.l2 k4 l1 a2 (x10_4 ++ [(⟨t276, t277, t278, t279⟩ : S45)]) y270 x12_3 t268 (wrap64 (x15_4 + 1))) else (none)) = some (r1, r2) := H
                    have A33 := sd_ A330
                    clear A330
                    by_cases c34 : x10_4.length < 4398046511104
                    ·rw [if_pos c34] at H
                     have LMc34 := sd_ c34
                     clear c34
                     obtain ⟨y280, hy280⟩ : ∃ y_ : List (S45), y_ = (x10_4 ++ [(⟨t276, t277, t278, t279⟩ : S45)]) := ⟨_, rfl⟩
                     replace H : (neumeref24_Row.l2 k4 l1 a2 y280 y270 x12_3 t268 (wrap64 (x15_4 + 1))) = some (r1, r2) := by first | (rw [hy280]; with_reducible exact H) | (have H2_ := (Option.bind_some _ _).symm.trans H; rw [hy280]; with_reducible exact H2_) | (have H2_ := (Option.bind_some _ _).symm.trans H; with_reducible exact H2_) | with_reducible exact H | (rw [hy280]; exact H) | exact H
                     have Ny280 := sd_ hy280
                     clear hy280
                     have H' := sd_ H
                     clear H
                     have p273 : 0 ≤ (x12_3 : Int) := od_ (by first | (with_reducible assumption) | assumption)
                     have q273 : x12_3 < (l1.length : Int) := od_ (by first | (with_reducible assumption) | assumption)
                     obtain ⟨ad273, A273_0, c273_0, e273, hx273_0, hl273_0, hi273_0⟩ := at_L2 HR1.out x12_3 p273 q273
                     obtain rfl : ad267 = ad273 := (by injection e273)
                     replace hx273_0 := (HB.out.cell (wb_ w _ hx273_0)).trans hx273_0
                     have HR273_0 := sd_ hi273_0
                     have HC273_0 := sd_ hl273_0
                     clear hi273_0 hl273_0
                     replace p273 := eq_true p273
                     replace q273 := eq_true q273
                     have p274 : 0 ≤ (x12_3 : Int) := od_ (by first | (with_reducible assumption) | assumption)
                     have q274 : x12_3 < (l1.length : Int) := od_ (by first | (with_reducible assumption) | assumption)
                     obtain ⟨ad274, A274_0, c274_0, e274, hx274_0, hl274_0, hi274_0⟩ := at_L2 HR1.out x12_3 p274 q274
                     obtain rfl : ad267 = ad274 := (by injection e274)
                     replace hx274_0 := (HB.out.cell (wb_ w _ hx274_0)).trans hx274_0
                     have HR274_0 := sd_ hi274_0
                     have HC274_0 := sd_ hl274_0
                     clear hi274_0 hl274_0
                     replace p274 := eq_true p274
                     replace q274 := eq_true q274
                     have ea_ := Option.some.inj (hx273_0.symm.trans hx274_0)
                     injection ea_ with ea_ en_ ec_
                     subst ea_
                     subst ec_
                     clear en_
                     have p275 : 0 ≤ (x15_4 : Int) := od_ (by first | (with_reducible assumption) | assumption)
                     have q275 : x15_4 < ((rd_L2 l1 x12_3).length : Int) := od_ (by first | (with_reducible assumption) | assumption)
                     obtain ⟨ad275, e275, hx275_0, hx275_1, hx275_2, hx275_3⟩ := at_T45 HR274_0.out x15_4 p275 q275
                     cases e275
                     replace hx275_0 := (HB.out.cell (wb_ w _ hx275_0)).trans hx275_0
                     replace hx275_1 := (HB.out.cell (wb_ w _ hx275_1)).trans hx275_1
                     replace hx275_2 := (HB.out.cell (wb_ w _ hx275_2)).trans hx275_2
                     replace hx275_3 := (HB.out.cell (wb_ w _ hx275_3)).trans hx275_3
                     replace p275 := eq_true p275
                     replace q275 := eq_true q275
                     go_wp2_with (first | ((with_reducible refine gate_callee (f := 25) rfl ?_); refine goesL_ (some 104) rfl rfl Try.func25 (by kernel_rfl) rfl #[.agg #[.int .i64 ((rd_T45 (rd_L2 l1 x12_3) x15_4).f0), .int .i64 ((rd_T45 (rd_L2 l1 x12_3) x15_4).f1), .int .i64 ((rd_T45 (rd_L2 l1 x12_3) x15_4).f2), .int .i64 ((rd_T45 (rd_L2 l1 x12_3) x15_4).f3)], .int .i64 t268] rfl (by (try simp only [lm_, lq_, lx_]); first | done | rfl | (simp only [ld_, lt_]; rfl)) ?_; (with_reducible refine (neumeref24_moved.calls ((rd_T45 (rd_L2 l1 x12_3) x15_4).f0) ((rd_T45 (rd_L2 l1 x12_3) x15_4).f1) ((rd_T45 (rd_L2 l1 x12_3) x15_4).f2) ((rd_T45 (rd_L2 l1 x12_3) x15_4).f3) t268 t276 t277 t278 t279 _ A33.out).mono ?_); rintro e w35 ⟨rfl, hb⟩; refine ⟨_, rfl, ?_⟩; replace HO_10 := sd_ (Kd.R_below (by (with_reducible repeat (first | apply Kd.R_alloc | apply Kd.R_drewN | apply Kd.R_drew)); exact HO_10.out) hb); replace HO_11 := sd_ (Kd.R_below (by (with_reducible repeat (first | apply Kd.R_alloc | apply Kd.R_drewN | apply Kd.R_drew)); exact HO_11.out) hb); replace HB := hb_ HB e0_ hb; (try clear hb); (try clear hb2); (try clear hk); (try clear hi)) | ((with_reducible refine gate_builtin (b := .append) (xs := #[.tmp 95, .tmp 105]) rfl ?_); (try (refine gate_guard (by rfl) ?_; dsimp only)); at_builtin; refine Kd.R_append k45 (w0 := w) w.heap.size rfl (.tmp 95) (.tmp 105) 22 45 (.agg #[(.int .i64 0), (.int .i64 0), (.int .i64 0), (.int .i64 0)]) 32 rfl Try.underlying22 info45 rfl (by decide) (by omega) u10 x10_4 (⟨t276, t277, t278, t279⟩ : S45) [.int .i64 t276, .int .i64 t277, .int .i64 t278, .int .i64 t279] (fun _ => True) (fun _ => False) rfl rfl ?aP (fun _ hk => hk.elim) ?aF ?aO ?aB ?aS ?aL ?_; (case aP => exact k45_mkM _ _ _ (⟨t276, t277, t278, t279⟩ : S45)); (case aB => exact (bb_ HB.out e0_)); (case aF => exact (fun _ _ => trivial)); (case aO => exact (by (with_reducible repeat (first | apply Kd.R_alloc | apply Kd.R_drewN | apply Kd.R_drew)); exact HO_10.out)); (case aS => exact (bz_ (bb_ HB.out e0_))); (case aL => have := LMc34.out; omega); intro v281 w36 ho hb hg hat; rw [← Ny280.out] at ho; have n0_ := sd_ (Kd.R_over' (by (with_reducible repeat (first | apply Kd.R_alloc | apply Kd.R_drewN | apply Kd.R_drew)); exact HO_11.out) (Kd.R_typed (by (with_reducible repeat (first | apply Kd.R_alloc | apply Kd.R_drewN | apply Kd.R_drew)); exact HO_10.out)) (by decide) hg); have n1_ := sd_ (hb); have n2_ := sd_ (ho); clear HO_11; clear HB; clear HO_10; have HO_11 := n0_; have HB := n1_; have HO282 := n2_; clear n0_ n1_ n2_; clear ho hb hg hat))
                     go_roundg k4
                     case measure => have := HJ3.out; have := HK2.out; have := HK3.out; have := HK4.out; omega
                     case rel => exact ⟨(y280), (wrap64 (x15_4 + 1)), (by first | rfl | (simp; done) | (simp [*]; done) | (simp [bne]; done)), H', ⟨by have := HJ3.out; have := HK2.out; have := HK3.out; have := HK4.out; omega⟩, ⟨by (with_reducible repeat (first | apply Kd.R_alloc | apply Kd.R_drewN | apply Kd.R_drew)); exact HO282.out⟩, ⟨by (with_reducible repeat (first | apply Kd.R_alloc | apply Kd.R_drewN | apply Kd.R_drew)); exact HO_11.out⟩, ⟨by repeat (first | (with_reducible first | exact HB.out | apply ba_ | apply pd_ | apply d1_) | exact HB.out)⟩⟩
                    ·rw [if_neg c34] at H
                     exact absurd H (by simp)
                   ·rw [if_neg c32] at H
                    exact absurd H (by simp)
                  ·rw [if_neg c31] at H
                   have c31b0 : decide (x15_4 < ((rd_L2 l1 x12_3).length : Int)) = false := df_ c31
                   clear c31
                   have H' := sd_ H
                   clear H
                   have p273 : 0 ≤ (x12_3 : Int) := od_ (by first | (with_reducible assumption) | assumption)
                   have q273 : x12_3 < (l1.length : Int) := od_ (by first | (with_reducible assumption) | assumption)
                   obtain ⟨ad273, A273_0, c273_0, e273, hx273_0, hl273_0, hi273_0⟩ := at_L2 HR1.out x12_3 p273 q273
                   obtain rfl : ad267 = ad273 := (by injection e273)
                   replace hx273_0 := (HB.out.cell (wb_ w _ hx273_0)).trans hx273_0
                   have HR273_0 := sd_ hi273_0
                   have HC273_0 := sd_ hl273_0
                   clear hi273_0 hl273_0
                   replace p273 := eq_true p273
                   replace q273 := eq_true q273
                   go_wp2
                   go_roundg k4
                   case measure => have := HJ3.out; have := HK2.out; have := HK3.out; have := HK4.out; omega
                   case rel => exact ⟨(x10_4), (y270), (wrap64 (x12_3 + 1)), (by first | rfl | (simp; done) | (simp [*]; done) | (simp [bne]; done)), H', ⟨by have := HJ3.out; have := HK2.out; have := HK3.out; have := HK4.out; omega⟩, ⟨by (with_reducible repeat (first | apply Kd.R_alloc | apply Kd.R_drewN | apply Kd.R_drew)); exact HO_10.out⟩, ⟨by (with_reducible repeat (first | apply Kd.R_alloc | apply Kd.R_drewN | apply Kd.R_drew)); exact HO_11.out⟩, ⟨by repeat (first | (with_reducible first | exact HB.out | apply ba_ | apply pd_ | apply d1_) | exact HB.out)⟩⟩
                 ·rw [if_neg c30] at H
                  exact absurd H (by simp)
                ·rw [if_neg c29] at H
                 exact absurd H (by simp)
             ·rw [if_neg c25] at H
              exact absurd H (by simp)
            ·rw [if_neg c24] at H
             have c24b0 : (t269 == 0) = false := beq_eq_false_iff_ne.mpr c24
             have c24b1 : (t269 != 0) = true := bne_iff_ne.mpr c24
             simp only [Option.some.injEq, Prod.mk.injEq] at H
             obtain ⟨rfl, rfl⟩ := H
             have p267 : 0 ≤ (x12_3 : Int) := od_ (by first | (with_reducible assumption) | assumption)
             have q267 : x12_3 < (l1.length : Int) := od_ (by first | (with_reducible assumption) | assumption)
             obtain ⟨ad267, A267_0, c267_0, e267, hx267_0, hl267_0, hi267_0⟩ := at_L2 HR1.out x12_3 p267 q267
             cases e267
             replace hx267_0 := (HB.out.cell (wb_ w _ hx267_0)).trans hx267_0
             have HR267_0 := sd_ hi267_0
             have HC267_0 := sd_ hl267_0
             clear hi267_0 hl267_0
             replace p267 := eq_true p267
             replace q267 := eq_true q267
             obtain ⟨Ao37, co37, eo37⟩ := Kd.R_slice HO_10.out
             subst eo37
             go_wp2_with (first | ((with_reducible refine gate_callee (f := 24) rfl ?_); refine goesL_ (some 76) rfl rfl Try.func24 (by kernel_rfl) rfl #[.slice Ao37 x10_3.length co37, .slice A267_0 (rd_L2 l1 x12_3).length c267_0, .bool a2] rfl (by (try simp only [lm_, lq_, lx_]); first | done | rfl | (simp only [ld_, lt_]; rfl)) ?_; (with_reducible refine (neumeref24_push.calls k3 _ _ x10_3 _ _ (rd_L2 l1 x12_3) a2 t268 t269 _ ?side1 ?side2 ?side3 ?side4 A23.out).mono ?_); (case side1 => repeat (first | exact (Kd.R_reads' HO_10.out).2.2 | (with_reducible refine Kd.C_alloc ?_ _) | (with_reducible refine Kd.C_drewN ?_ _) | (with_reducible refine Kd.C_drew ?_))); (case side2 => exact (Kd.R_reads' HO_10.out).2.1); (case side3 => repeat (first | exact (Kd.C_below HR267_0.out HB.out) | (with_reducible refine Kd.C_alloc ?_ _) | (with_reducible refine Kd.C_drewN ?_ _) | (with_reducible refine Kd.C_drew ?_))); (case side4 => exact HC267_0.out); rintro e w38 ⟨rfl, hb⟩; refine ⟨_, rfl, ?_⟩; replace HO_10 := sd_ (Kd.R_below (by (with_reducible repeat (first | apply Kd.R_alloc | apply Kd.R_drewN | apply Kd.R_drew)); exact HO_10.out) hb); replace HO_11 := sd_ (Kd.R_below (by (with_reducible repeat (first | apply Kd.R_alloc | apply Kd.R_drewN | apply Kd.R_drew)); exact HO_11.out) hb); replace HB := hb_ HB e0_ hb; (try clear hb); (try clear hb2); (try clear hk); (try clear hi)))
             go_ret2
             exact ⟨_, by first | rfl | (simp [errW_none, errW_some] <;> rfl) | (simp [*, errW_none, errW_some] <;> rfl), by first | exact Kd.R_nil _ _ _ _ _ | exact Kd.N_nil _ _ _ _ _ | exact Kd.V_nil _ _ _ _ _ | exact Kd.Q_nil _ _ _ _ _ | exact Kd.S_nil _ _ _ _ _, by repeat (first | (with_reducible first | exact HB.out | apply ba_ | apply pd_ | apply d1_) | exact HB.out)⟩
           ·rw [if_neg c22] at H
            exact absurd H (by simp)
          ·rw [if_neg c21] at H
           have c21b0 : decide (x12_3 < (l1.length : Int)) = false := df_ c21
           clear c21
           simp only [Option.some.injEq, Prod.mk.injEq] at H
           obtain ⟨rfl, rfl⟩ := H
           go_wp2
           go_ret2
           exact ⟨_, by first | rfl | (simp [errW_none, errW_some] <;> rfl) | (simp [*, errW_none, errW_some] <;> rfl), by (with_reducible repeat (first | apply Kd.R_alloc | apply Kd.R_drewN | apply Kd.R_drew)); exact HO_11.out, by repeat (first | (with_reducible first | exact HB.out | apply ba_ | apply pd_ | apply d1_) | exact HB.out)⟩
       ·rw [if_neg c17] at H
        exact absurd H (by simp)

/-! ### neumeref24_Shifts: function 11 -/
def neumeref24_Shifts.f (k : Nat) (l0 : List (List (S45))) : Option (List Int × Int) := (neumeref24_Row.f k ([] : List (S45)) l0 true).bind fun bt283 => (some (bt283.1, bt283.2))
theorem neumeref24_Shifts.mono : ∀ a0 k, LeO (neumeref24_Shifts.f k a0) (neumeref24_Shifts.f (k + 1) a0) := by
 intro a0 k
 unfold neumeref24_Shifts.f
 repeat' first
   | (with_reducible exact neumeref24_Row.mono _ _ _ _)
   | (with_reducible exact LeO.refl _)
   | (with_reducible exact LeO.none _)
   | (with_reducible refine LeO.ite ?_ ?_)
   | (with_reducible refine LeO.bind ?_ (fun _ => ?_))
   | exact neumeref24_Row.mono _ _ _ _
   | exact LeO.none _
   | refine LeO.ite ?_ ?_
   | refine LeO.bind ?_ (fun _ => ?_)
set_option maxHeartbeats 8000000 in
set_option maxRecDepth 100000 in
theorem neumeref24_Shifts.calls (k : Nat) (A0 : Option Addr) (c0 : Nat) (l0 : List (List (S45))) (r1 : List Int) (r2 : Int) (w : World) (hr0 : Kd.C (Kd.slice 45 k45) w A0 l0.length l0) (hc0 : l0.length ≤ c0) (h : neumeref24_Shifts.f k l0 = some (r1, r2)) :
  Calls Try.prog 11 #[.slice A0 l0.length c0] w fun e w' => ∃ v0_ : Value, e = .returned (.tuple #[v0_, .int .i64 r2]) ∧ Kd.R (Kd.int .i64) 3 w' w.heap.size (fun _ => True) v0_ r1 ∧ Below w.heap.size w w' := by
 have HR0 := sd_ hr0
 have HC0 := sd_ hc0
 clear hr0 hc0
 have HB := sd_ (Below.refl w.heap.size w)
 have H : ((neumeref24_Row.f k ([] : List (S45)) l0 true).bind fun bt283 => (some (bt283.1, bt283.2))) = some (r1, r2) := h
 clear h
 replace H := ob_ H
 obtain ⟨⟨t283, t284⟩, A20, H⟩ := H
 replace H : (some (t283, t284)) = some (r1, r2) := H
 have A2 := sd_ A20
 clear A20
 simp only [Option.some.injEq, Prod.mk.injEq] at H
 obtain ⟨rfl, rfl⟩ := H
 go_enter Try.func11, Try.ntmps11
 go_wp2_with (first | ((with_reducible refine gate_callee (f := 9) rfl ?_); refine goesL_ (some 5) rfl rfl Try.func9 (by kernel_rfl) rfl #[.slice none 0 0, .slice A0 l0.length c0, .bool true] rfl (by (try simp only [lm_, lq_, lx_]); first | done | rfl | (simp only [ld_, lt_]; rfl)) ?_; (refine (neumeref24_Row.calls k _ _ ([] : List (S45)) _ _ l0 true t283 t284 _ ?side1 ?side2 ?side3 ?side4 A2.out).mono ?_); (case side1 => exact Kd.C_nil _ _); (case side2 => exact Nat.le_refl _); (case side3 => repeat (first | exact HR0.out | (with_reducible refine Kd.C_alloc ?_ _) | (with_reducible refine Kd.C_drewN ?_ _) | (with_reducible refine Kd.C_drew ?_))); (case side4 => exact HC0.out); rintro e w3 ⟨v285, rfl, ho0, hb⟩; refine ⟨_, rfl, ?_⟩; have HO286 := sd_ (Kd.R_lower ho0 (bz_ (bb_ HB.out e0_))); replace HB := hb_ HB e0_ hb; (try clear hb); (try clear hb2); (try clear hk); (try clear hi); (try clear ho0)))
 go_ret2
 exact ⟨_, by first | rfl | (simp [errW_none, errW_some] <;> rfl) | (simp [*, errW_none, errW_some] <;> rfl), by (with_reducible repeat (first | apply Kd.R_alloc | apply Kd.R_drewN | apply Kd.R_drew)); exact HO286.out, by repeat (first | (with_reducible first | exact HB.out | apply ba_ | apply pd_ | apply d1_) | exact HB.out)⟩

/-! ### neumeref24_Push: function 14 -/
def neumeref24_Push.f (k : Nat) (l0 : List (S45)) (l1 : List (S45)) (a2 : Bool) : Option (Int × Int) := if (l0.length : Int) > 2000 then (some (0, 2)) else (if (l1.length : Int) > (wrap64 (2000 - (l0.length : Int))) then (some (0, 2)) else ((neumeref24_fit.f k l0).bind fun t287 => (if t287 = true then ((neumeref24_fit.f k l1).bind fun t288 => (if t288 = true then ((neumeref24_push.f k l0 l1 a2).bind fun bt289 => (some (bt289.1, bt289.2))) else (some (0, 2)))) else (some (0, 2)))))
theorem neumeref24_Push.mono : ∀ a0 a1 a2 k, LeO (neumeref24_Push.f k a0 a1 a2) (neumeref24_Push.f (k + 1) a0 a1 a2) := by
 intro a0 a1 a2 k
 unfold neumeref24_Push.f
 repeat' first
   | (with_reducible exact neumeref24_fit.mono _ _)
   | (with_reducible exact neumeref24_push.mono _ _ _ _)
   | (with_reducible exact LeO.refl _)
   | (with_reducible exact LeO.none _)
   | (with_reducible refine LeO.ite ?_ ?_)
   | (with_reducible refine LeO.bind ?_ (fun _ => ?_))
   | exact neumeref24_fit.mono _ _
   | exact neumeref24_push.mono _ _ _ _
   | exact LeO.none _
   | refine LeO.ite ?_ ?_
   | refine LeO.bind ?_ (fun _ => ?_)
set_option maxHeartbeats 8000000 in
set_option maxRecDepth 100000 in
theorem neumeref24_Push.calls (k : Nat) (A0 : Option Addr) (c0 : Nat) (l0 : List (S45)) (A1 : Option Addr) (c1 : Nat) (l1 : List (S45)) (a2 : Bool) (r1 : Int) (r2 : Int) (w : World) (hr0 : Kd.C k45 w A0 l0.length l0) (hc0 : l0.length ≤ c0) (hr1 : Kd.C k45 w A1 l1.length l1) (hc1 : l1.length ≤ c1) (h : neumeref24_Push.f k l0 l1 a2 = some (r1, r2)) :
  Calls Try.prog 14 #[.slice A0 l0.length c0, .slice A1 l1.length c1, .bool a2] w fun e w' => e = .returned (.tuple #[.int .i64 r1, .int .i64 r2]) ∧ Below w.heap.size w w' := by
 have HR0 := sd_ hr0
 have HC0 := sd_ hc0
 clear hr0 hc0
 have HR1 := sd_ hr1
 have HC1 := sd_ hc1
 clear hr1 hc1
 have HB := sd_ (Below.refl w.heap.size w)
 have H : (if (l0.length : Int) > 2000 then (some (0, 2)) else (if (l1.length : Int) > (wrap64 (2000 - (l0.length : Int))) then (some (0, 2)) else ((neumeref24_fit.f k l0).bind fun t287 => (if t287 = true then ((neumeref24_fit.f k l1).bind fun t288 => (if t288 = true then ((neumeref24_push.f k l0 l1 a2).bind fun bt289 => (some (bt289.1, bt289.2))) else (some (0, 2)))) else (some (0, 2)))))) = some (r1, r2) := h
 clear h
 by_cases c4 : (l0.length : Int) > 2000
 ·rw [if_pos c4] at H
  have c4b0 : decide (2000 < (l0.length : Int)) = true := dt_ c4
  have c4b1 : decide (2000 < l0.length) = true := dt_ (by omega)
  clear c4
  simp only [Option.some.injEq, Prod.mk.injEq] at H
  obtain ⟨rfl, rfl⟩ := H
  go_enter Try.func14, Try.ntmps14
  go_wp2
  go_ret2
  exact ⟨by first | rfl | (simp [errW_none, errW_some] <;> rfl) | (simp [*, errW_none, errW_some] <;> rfl), by repeat (first | (with_reducible first | exact HB.out | apply ba_ | apply pd_ | apply d1_) | exact HB.out)⟩
 ·rw [if_neg c4] at H
  have c4b0 : decide (2000 < (l0.length : Int)) = false := df_ c4
  have c4b1 : decide (2000 < l0.length) = false := df_ (by omega)
  clear c4
  by_cases c5 : (l1.length : Int) > (wrap64 (2000 - (l0.length : Int)))
  ·rw [if_pos c5] at H
   have c5b0 : decide ((wrap64 (2000 - (l0.length : Int))) < (l1.length : Int)) = true := dt_ c5
   clear c5
   simp only [Option.some.injEq, Prod.mk.injEq] at H
   obtain ⟨rfl, rfl⟩ := H
   go_enter Try.func14, Try.ntmps14
   go_wp2
   go_ret2
   exact ⟨by first | rfl | (simp [errW_none, errW_some] <;> rfl) | (simp [*, errW_none, errW_some] <;> rfl), by repeat (first | (with_reducible first | exact HB.out | apply ba_ | apply pd_ | apply d1_) | exact HB.out)⟩
  ·rw [if_neg c5] at H
   have c5b0 : decide ((wrap64 (2000 - (l0.length : Int))) < (l1.length : Int)) = false := df_ c5
   clear c5
   replace H := ob_ H
   obtain ⟨t287, A60, H⟩ := H
   replace H : (if t287 = true then ((neumeref24_fit.f k l1).bind fun t288 => (if t288 = true then ((neumeref24_push.f k l0 l1 a2).bind fun bt289 => (some (bt289.1, bt289.2))) else (some (0, 2)))) else (some (0, 2))) = some (r1, r2) := H
   have A6 := sd_ A60
   clear A60
   by_cases c7 : t287 = true
   ·subst c7
    have H1 : ((neumeref24_fit.f k l1).bind fun t288 => (if t288 = true then ((neumeref24_push.f k l0 l1 a2).bind fun bt289 => (some (bt289.1, bt289.2))) else (some (0, 2)))) = some (r1, r2) := by rw [if_pos rfl] at H; exact H
    clear H; have H := H1; clear H1
    replace H := ob_ H
    obtain ⟨t288, A80, H⟩ := H
    replace H : (if t288 = true then ((neumeref24_push.f k l0 l1 a2).bind fun bt289 => (some (bt289.1, bt289.2))) else (some (0, 2))) = some (r1, r2) := H
    have A8 := sd_ A80
    clear A80
    by_cases c9 : t288 = true
    ·subst c9
     have H1 : ((neumeref24_push.f k l0 l1 a2).bind fun bt289 => (some (bt289.1, bt289.2))) = some (r1, r2) := by rw [if_pos rfl] at H; exact H
     clear H; have H := H1; clear H1
     replace H := ob_ H
     obtain ⟨⟨t289, t290⟩, A100, H⟩ := H
     replace H : (some (t289, t290)) = some (r1, r2) := H
     have A10 := sd_ A100
     clear A100
     simp only [Option.some.injEq, Prod.mk.injEq] at H
     obtain ⟨rfl, rfl⟩ := H
     go_enter Try.func14, Try.ntmps14
     go_wp2_with (first | (go_at_call 23; (with_reducible refine (neumeref24_fit.calls k _ _ l0 true _ ?side1 ?side2 A6.out).mono ?_); (case side1 => repeat (first | exact HR0.out | (with_reducible refine Kd.C_alloc ?_ _) | (with_reducible refine Kd.C_drewN ?_ _) | (with_reducible refine Kd.C_drew ?_))); (case side2 => exact HC0.out); rintro e w11 ⟨rfl, hb⟩; replace HB := hb_ HB e0_ hb; (try clear hb); (try clear hb2); (try clear hk); (try clear hi)) | (go_at_call 23; (with_reducible refine (neumeref24_fit.calls k _ _ l1 true _ ?side1 ?side2 A8.out).mono ?_); (case side1 => repeat (first | exact (Kd.C_below HR1.out HB.out) | (with_reducible refine Kd.C_alloc ?_ _) | (with_reducible refine Kd.C_drewN ?_ _) | (with_reducible refine Kd.C_drew ?_))); (case side2 => exact HC1.out); rintro e w12 ⟨rfl, hb⟩; replace HB := hb_ HB e0_ hb; (try clear hb); (try clear hb2); (try clear hk); (try clear hi)) | ((with_reducible refine gate_callee (f := 24) rfl ?_); refine goesL_ (some 32) rfl rfl Try.func24 (by kernel_rfl) rfl #[.slice A0 l0.length c0, .slice A1 l1.length c1, .bool a2] rfl (by (try simp only [lm_, lq_, lx_]); first | done | rfl | (simp only [ld_, lt_]; rfl)) ?_; (with_reducible refine (neumeref24_push.calls k _ _ l0 _ _ l1 a2 t289 t290 _ ?side1 ?side2 ?side3 ?side4 A10.out).mono ?_); (case side1 => repeat (first | exact (Kd.C_below HR0.out HB.out) | (with_reducible refine Kd.C_alloc ?_ _) | (with_reducible refine Kd.C_drewN ?_ _) | (with_reducible refine Kd.C_drew ?_))); (case side2 => exact HC0.out); (case side3 => repeat (first | exact (Kd.C_below HR1.out HB.out) | (with_reducible refine Kd.C_alloc ?_ _) | (with_reducible refine Kd.C_drewN ?_ _) | (with_reducible refine Kd.C_drew ?_))); (case side4 => exact HC1.out); rintro e w13 ⟨rfl, hb⟩; refine ⟨_, rfl, ?_⟩; replace HB := hb_ HB e0_ hb; (try clear hb); (try clear hb2); (try clear hk); (try clear hi)))
     go_ret2
     exact ⟨by first | rfl | (simp [errW_none, errW_some] <;> rfl) | (simp [*, errW_none, errW_some] <;> rfl), by repeat (first | (with_reducible first | exact HB.out | apply ba_ | apply pd_ | apply d1_) | exact HB.out)⟩
    ·replace c9 := bf_ c9
     subst c9
     have H1 : (some (0, 2)) = some (r1, r2) := by rw [if_neg (show ¬ (false = true) by decide)] at H; exact H
     clear H; have H := H1; clear H1
     simp only [Option.some.injEq, Prod.mk.injEq] at H
     obtain ⟨rfl, rfl⟩ := H
     go_enter Try.func14, Try.ntmps14
     go_wp2_with (first | (go_at_call 23; (with_reducible refine (neumeref24_fit.calls k _ _ l0 true _ ?side1 ?side2 A6.out).mono ?_); (case side1 => repeat (first | exact HR0.out | (with_reducible refine Kd.C_alloc ?_ _) | (with_reducible refine Kd.C_drewN ?_ _) | (with_reducible refine Kd.C_drew ?_))); (case side2 => exact HC0.out); rintro e w14 ⟨rfl, hb⟩; replace HB := hb_ HB e0_ hb; (try clear hb); (try clear hb2); (try clear hk); (try clear hi)) | (go_at_call 23; (with_reducible refine (neumeref24_fit.calls k _ _ l1 false _ ?side1 ?side2 A8.out).mono ?_); (case side1 => repeat (first | exact (Kd.C_below HR1.out HB.out) | (with_reducible refine Kd.C_alloc ?_ _) | (with_reducible refine Kd.C_drewN ?_ _) | (with_reducible refine Kd.C_drew ?_))); (case side2 => exact HC1.out); rintro e w15 ⟨rfl, hb⟩; replace HB := hb_ HB e0_ hb; (try clear hb); (try clear hb2); (try clear hk); (try clear hi)))
     go_ret2
     exact ⟨by first | rfl | (simp [errW_none, errW_some] <;> rfl) | (simp [*, errW_none, errW_some] <;> rfl), by repeat (first | (with_reducible first | exact HB.out | apply ba_ | apply pd_ | apply d1_) | exact HB.out)⟩
   ·replace c7 := bf_ c7
    subst c7
    have H1 : (some (0, 2)) = some (r1, r2) := by rw [if_neg (show ¬ (false = true) by decide)] at H; exact H
    clear H; have H := H1; clear H1
    simp only [Option.some.injEq, Prod.mk.injEq] at H
    obtain ⟨rfl, rfl⟩ := H
    go_enter Try.func14, Try.ntmps14
    go_wp2_with (first | (go_at_call 23; (with_reducible refine (neumeref24_fit.calls k _ _ l0 false _ ?side1 ?side2 A6.out).mono ?_); (case side1 => repeat (first | exact HR0.out | (with_reducible refine Kd.C_alloc ?_ _) | (with_reducible refine Kd.C_drewN ?_ _) | (with_reducible refine Kd.C_drew ?_))); (case side2 => exact HC0.out); rintro e w16 ⟨rfl, hb⟩; replace HB := hb_ HB e0_ hb; (try clear hb); (try clear hb2); (try clear hk); (try clear hi)))
    go_ret2
    exact ⟨by first | rfl | (simp [errW_none, errW_some] <;> rfl) | (simp [*, errW_none, errW_some] <;> rfl), by repeat (first | (with_reducible first | exact HB.out | apply ba_ | apply pd_ | apply d1_) | exact HB.out)⟩

end Go.Proofs.Ytchmcljinkemaaa.P
