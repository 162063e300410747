-- Written by a program of this session (wip/tools/xprint.py, over the kit's print): Lean checks it.
import Derived.Test.YtchmcljinkemaaaPx0
import Derived.Test.YtchmcljinkemaaaPx6
namespace Go.Proofs.Ytchmcljinkemaaa.P
open Go.RowKit Go.Proofs.YtchmcljinkemaaaW.PrintWords Go.Proofs.YtchmcljinkemaaaW.PrintLast Go.Proofs.YtchmcljinkemaaaW.PrintMore
attribute [local go_sem] max2_int min2_int max_two min_two max_three min_three max_four min_four   -- for this text's walks alone
set_option linter.unusedVariables false
set_option linter.unusedSimpArgs false

/-! ### neumeref24_push: function 24 -/
mutual
def neumeref24_push.l0 : Nat → List (S45) → List (S45) → Bool → Int → Bool → Int → Option (Int × Int)
 | 0, _, _, _, _, _, _ => none
 | k + 1, x0, x1, x2, x8, x9, x10 => if x10 < (x0.length : Int) then (if x9 = true then (neumeref24_push.j1 k x0 x1 x2 x8 x9 x10 (!(x8 == 0))) else (neumeref24_push.j1 k x0 x1 x2 x8 x9 x10 (!false))) else (neumeref24_push.j1 k x0 x1 x2 x8 x9 x10 false)
def neumeref24_push.j1 : Nat → List (S45) → List (S45) → Bool → Int → Bool → Int → Bool → Option (Int × Int)
 | 0, _, _, _, _, _, _, _ => none
 | k + 1, x0, x1, x2, x8, x9, x10, x30 => if x30 = true then (neumeref24_push.l1 k x0 x1 x2 x8 x9 x10 0) else (neumeref24_push.l2 k x1 x8 0)
def neumeref24_push.l1 : Nat → List (S45) → List (S45) → Bool → Int → Bool → Int → Int → Option (Int × Int)
 | 0, _, _, _, _, _, _, _ => none
 | k + 1, x0, x1, x2, x8, x9, x10, x11 => if x11 < (x1.length : Int) then (if 0 ≤ x10 then (if x10 < (x0.length : Int) then (if 0 ≤ x11 then (if x2 = true then (neumeref24_push.j3 k x0 x1 x2 x8 x9 x10 x11 (wrap64 (((rd_T45 x0 x10).f2) - ((rd_T45 x1 x11).f0)))) else (neumeref24_push.j3 k x0 x1 x2 x8 x9 x10 x11 (wrap64 (((rd_T45 x0 x10).f0) - ((rd_T45 x1 x11).f2))))) else (none)) else (none)) else (none)) else (neumeref24_push.l0 k x0 x1 x2 x8 x9 (wrap64 (x10 + 1)))
def neumeref24_push.j3 : Nat → List (S45) → List (S45) → Bool → Int → Bool → Int → Int → Int → Option (Int × Int)
 | 0, _, _, _, _, _, _, _, _ => none
 | k + 1, x0, x1, x2, x8, x9, x10, x11, x12 => if x2 = true then (if x12 < 0 then (neumeref24_push.j4 k x0 x1 x2 x8 x9 x10 x11 x12 true) else (neumeref24_push.j4 k x0 x1 x2 x8 x9 x10 x11 x12 false)) else (neumeref24_push.j4 k x0 x1 x2 x8 x9 x10 x11 x12 (decide (x12 > 0)))
def neumeref24_push.j4 : Nat → List (S45) → List (S45) → Bool → Int → Bool → Int → Int → Int → Bool → Option (Int × Int)
 | 0, _, _, _, _, _, _, _, _, _ => none
 | k + 1, x0, x1, x2, x8, x9, x10, x11, x12, x75 => if x75 = true then (neumeref24_push.l1 k x0 x1 x2 x8 x9 x10 (wrap64 (x11 + 1))) else (if x2 = true then (if x12 < x8 then (if x9 = true then ((neumeref24_meets.f k x0 x1 x12).bind fun t245 => (if t245 = true then (neumeref24_push.l1 k x0 x1 x2 x8 x9 x10 (wrap64 (x11 + 1))) else (neumeref24_push.l1 k x0 x1 x2 x12 true x10 (wrap64 (x11 + 1))))) else ((neumeref24_meets.f k x0 x1 x12).bind fun t246 => (if t246 = true then (neumeref24_push.l1 k x0 x1 x2 x8 x9 x10 (wrap64 (x11 + 1))) else (neumeref24_push.l1 k x0 x1 x2 x12 true x10 (wrap64 (x11 + 1)))))) else (if x9 = true then (neumeref24_push.l1 k x0 x1 x2 x8 x9 x10 (wrap64 (x11 + 1))) else ((neumeref24_meets.f k x0 x1 x12).bind fun t247 => (if t247 = true then (neumeref24_push.l1 k x0 x1 x2 x8 x9 x10 (wrap64 (x11 + 1))) else (neumeref24_push.l1 k x0 x1 x2 x12 true x10 (wrap64 (x11 + 1))))))) else (if x9 = true then (if x12 > x8 then ((neumeref24_meets.f k x0 x1 x12).bind fun t248 => (if t248 = true then (neumeref24_push.l1 k x0 x1 x2 x8 x9 x10 (wrap64 (x11 + 1))) else (neumeref24_push.l1 k x0 x1 x2 x12 true x10 (wrap64 (x11 + 1))))) else (neumeref24_push.l1 k x0 x1 x2 x8 x9 x10 (wrap64 (x11 + 1)))) else ((neumeref24_meets.f k x0 x1 x12).bind fun t249 => (if t249 = true then (neumeref24_push.l1 k x0 x1 x2 x8 x9 x10 (wrap64 (x11 + 1))) else (neumeref24_push.l1 k x0 x1 x2 x12 true x10 (wrap64 (x11 + 1)))))))
def neumeref24_push.l2 : Nat → List (S45) → Int → Int → Option (Int × Int)
 | 0, _, _, _ => none
 | k + 1, x1, x8, x14 => if x14 < (x1.length : Int) then (if 0 ≤ x14 then ((neumeref24_moved.f ((rd_T45 x1 x14).f0) ((rd_T45 x1 x14).f1) ((rd_T45 x1 x14).f2) ((rd_T45 x1 x14).f3) x8).bind fun bt251 => ((neumeref24_near.f bt251.1 bt251.2.1 bt251.2.2.1 bt251.2.2.2).bind fun t255 => (if t255 = true then (neumeref24_push.l2 k x1 x8 (wrap64 (x14 + 1))) else (some (0, 3))))) else (none)) else (some (x8, 0))
end
def neumeref24_push.f (k : Nat) (l0 : List (S45)) (l1 : List (S45)) (a2 : Bool) : Option (Int × Int) := (neumeref24_meets.f k l0 l1 0).bind fun t240 => (neumeref24_push.l0 k l0 l1 a2 0 (!t240) 0)
theorem neumeref24_push.mono_l : ∀ k, (∀ y0 y1 y2 y3 y4 y5, LeO (neumeref24_push.l0 k y0 y1 y2 y3 y4 y5) (neumeref24_push.l0 (k + 1) y0 y1 y2 y3 y4 y5)) ∧ (∀ y0 y1 y2 y3 y4 y5 y6, LeO (neumeref24_push.j1 k y0 y1 y2 y3 y4 y5 y6) (neumeref24_push.j1 (k + 1) y0 y1 y2 y3 y4 y5 y6)) ∧ (∀ y0 y1 y2 y3 y4 y5 y6, LeO (neumeref24_push.l1 k y0 y1 y2 y3 y4 y5 y6) (neumeref24_push.l1 (k + 1) y0 y1 y2 y3 y4 y5 y6)) ∧ (∀ y0 y1 y2 y3 y4 y5 y6 y7, LeO (neumeref24_push.j3 k y0 y1 y2 y3 y4 y5 y6 y7) (neumeref24_push.j3 (k + 1) y0 y1 y2 y3 y4 y5 y6 y7)) ∧ (∀ y0 y1 y2 y3 y4 y5 y6 y7 y8, LeO (neumeref24_push.j4 k y0 y1 y2 y3 y4 y5 y6 y7 y8) (neumeref24_push.j4 (k + 1) y0 y1 y2 y3 y4 y5 y6 y7 y8)) ∧ (∀ y0 y1 y2, LeO (neumeref24_push.l2 k y0 y1 y2) (neumeref24_push.l2 (k + 1) y0 y1 y2))
 | 0 => ⟨fun _ _ _ _ _ _ r h => by simp [neumeref24_push.l0] at h, fun _ _ _ _ _ _ _ r h => by simp [neumeref24_push.j1] at h, fun _ _ _ _ _ _ _ r h => by simp [neumeref24_push.l1] at h, fun _ _ _ _ _ _ _ _ r h => by simp [neumeref24_push.j3] at h, fun _ _ _ _ _ _ _ _ _ r h => by simp [neumeref24_push.j4] at h, fun _ _ _ r h => by simp [neumeref24_push.l2] at h⟩
 | k + 1 => by
  obtain ⟨ih0, ih1, ih2, ih3, ih4, ih5⟩ := neumeref24_push.mono_l k
  refine ⟨?_, ?_, ?_, ?_, ?_, ?_⟩
  ·intro y0 y1 y2 y3 y4 y5
   unfold neumeref24_push.l0
   repeat' first
   | (with_reducible exact ih0 _ _ _ _ _ _)
   | (with_reducible exact ih1 _ _ _ _ _ _ _)
   | (with_reducible exact ih2 _ _ _ _ _ _ _)
   | (with_reducible exact ih3 _ _ _ _ _ _ _ _)
   | (with_reducible exact ih4 _ _ _ _ _ _ _ _ _)
   | (with_reducible exact ih5 _ _ _)
   | (with_reducible exact neumeref24_meets.mono _ _ _ _)
   | (with_reducible exact LeO.refl _)
   | (with_reducible exact LeO.none _)
   | (with_reducible refine LeO.ite ?_ ?_)
   | (with_reducible refine LeO.bind ?_ (fun _ => ?_))
   | exact ih0 _ _ _ _ _ _
   | exact ih1 _ _ _ _ _ _ _
   | exact ih2 _ _ _ _ _ _ _
   | exact ih3 _ _ _ _ _ _ _ _
   | exact ih4 _ _ _ _ _ _ _ _ _
   | exact ih5 _ _ _
   | exact neumeref24_meets.mono _ _ _ _
   | exact LeO.none _
   | refine LeO.ite ?_ ?_
   | refine LeO.bind ?_ (fun _ => ?_)
  ·intro y0 y1 y2 y3 y4 y5 y6
   unfold neumeref24_push.j1
   repeat' first
   | (with_reducible exact ih0 _ _ _ _ _ _)
   | (with_reducible exact ih1 _ _ _ _ _ _ _)
   | (with_reducible exact ih2 _ _ _ _ _ _ _)
   | (with_reducible exact ih3 _ _ _ _ _ _ _ _)
   | (with_reducible exact ih4 _ _ _ _ _ _ _ _ _)
   | (with_reducible exact ih5 _ _ _)
   | (with_reducible exact neumeref24_meets.mono _ _ _ _)
   | (with_reducible exact LeO.refl _)
   | (with_reducible exact LeO.none _)
   | (with_reducible refine LeO.ite ?_ ?_)
   | (with_reducible refine LeO.bind ?_ (fun _ => ?_))
   | exact ih0 _ _ _ _ _ _
   | exact ih1 _ _ _ _ _ _ _
   | exact ih2 _ _ _ _ _ _ _
   | exact ih3 _ _ _ _ _ _ _ _
   | exact ih4 _ _ _ _ _ _ _ _ _
   | exact ih5 _ _ _
   | exact neumeref24_meets.mono _ _ _ _
   | exact LeO.none _
   | refine LeO.ite ?_ ?_
   | refine LeO.bind ?_ (fun _ => ?_)
  ·intro y0 y1 y2 y3 y4 y5 y6
   unfold neumeref24_push.l1
   repeat' first
   | (with_reducible exact ih0 _ _ _ _ _ _)
   | (with_reducible exact ih1 _ _ _ _ _ _ _)
   | (with_reducible exact ih2 _ _ _ _ _ _ _)
   | (with_reducible exact ih3 _ _ _ _ _ _ _ _)
   | (with_reducible exact ih4 _ _ _ _ _ _ _ _ _)
   | (with_reducible exact ih5 _ _ _)
   | (with_reducible exact neumeref24_meets.mono _ _ _ _)
   | (with_reducible exact LeO.refl _)
   | (with_reducible exact LeO.none _)
   | (with_reducible refine LeO.ite ?_ ?_)
   | (with_reducible refine LeO.bind ?_ (fun _ => ?_))
   | exact ih0 _ _ _ _ _ _
   | exact ih1 _ _ _ _ _ _ _
   | exact ih2 _ _ _ _ _ _ _
   | exact ih3 _ _ _ _ _ _ _ _
   | exact ih4 _ _ _ _ _ _ _ _ _
   | exact ih5 _ _ _
   | exact neumeref24_meets.mono _ _ _ _
   | exact LeO.none _
   | refine LeO.ite ?_ ?_
   | refine LeO.bind ?_ (fun _ => ?_)
  ·intro y0 y1 y2 y3 y4 y5 y6 y7
   unfold neumeref24_push.j3
   repeat' first
   | (with_reducible exact ih0 _ _ _ _ _ _)
   | (with_reducible exact ih1 _ _ _ _ _ _ _)
   | (with_reducible exact ih2 _ _ _ _ _ _ _)
   | (with_reducible exact ih3 _ _ _ _ _ _ _ _)
   | (with_reducible exact ih4 _ _ _ _ _ _ _ _ _)
   | (with_reducible exact ih5 _ _ _)
   | (with_reducible exact neumeref24_meets.mono _ _ _ _)
   | (with_reducible exact LeO.refl _)
   | (with_reducible exact LeO.none _)
   | (with_reducible refine LeO.ite ?_ ?_)
   | (with_reducible refine LeO.bind ?_ (fun _ => ?_))
   | exact ih0 _ _ _ _ _ _
   | exact ih1 _ _ _ _ _ _ _
   | exact ih2 _ _ _ _ _ _ _
   | exact ih3 _ _ _ _ _ _ _ _
   | exact ih4 _ _ _ _ _ _ _ _ _
   | exact ih5 _ _ _
   | exact neumeref24_meets.mono _ _ _ _
   | exact LeO.none _
   | refine LeO.ite ?_ ?_
   | refine LeO.bind ?_ (fun _ => ?_)
  ·intro y0 y1 y2 y3 y4 y5 y6 y7 y8
   unfold neumeref24_push.j4
   repeat' first
   | (with_reducible exact ih0 _ _ _ _ _ _)
   | (with_reducible exact ih1 _ _ _ _ _ _ _)
   | (with_reducible exact ih2 _ _ _ _ _ _ _)
   | (with_reducible exact ih3 _ _ _ _ _ _ _ _)
   | (with_reducible exact ih4 _ _ _ _ _ _ _ _ _)
   | (with_reducible exact ih5 _ _ _)
   | (with_reducible exact neumeref24_meets.mono _ _ _ _)
   | (with_reducible exact LeO.refl _)
   | (with_reducible exact LeO.none _)
   | (with_reducible refine LeO.ite ?_ ?_)
   | (with_reducible refine LeO.bind ?_ (fun _ => ?_))
   | exact ih0 _ _ _ _ _ _
   | exact ih1 _ _ _ _ _ _ _
   | exact ih2 _ _ _ _ _ _ _
   | exact ih3 _ _ _ _ _ _ _ _
   | exact ih4 _ _ _ _ _ _ _ _ _
   | exact ih5 _ _ _
   | exact neumeref24_meets.mono _ _ _ _
   | exact LeO.none _
   | refine LeO.ite ?_ ?_
   | refine LeO.bind ?_ (fun _ => ?_)
  ·intro y0 y1 y2
   unfold neumeref24_push.l2
   repeat' first
   | (with_reducible exact ih0 _ _ _ _ _ _)
   | (with_reducible exact ih1 _ _ _ _ _ _ _)
   | (with_reducible exact ih2 _ _ _ _ _ _ _)
   | (with_reducible exact ih3 _ _ _ _ _ _ _ _)
   | (with_reducible exact ih4 _ _ _ _ _ _ _ _ _)
   | (with_reducible exact ih5 _ _ _)
   | (with_reducible exact neumeref24_meets.mono _ _ _ _)
   | (with_reducible exact LeO.refl _)
   | (with_reducible exact LeO.none _)
   | (with_reducible refine LeO.ite ?_ ?_)
   | (with_reducible refine LeO.bind ?_ (fun _ => ?_))
   | exact ih0 _ _ _ _ _ _
   | exact ih1 _ _ _ _ _ _ _
   | exact ih2 _ _ _ _ _ _ _
   | exact ih3 _ _ _ _ _ _ _ _
   | exact ih4 _ _ _ _ _ _ _ _ _
   | exact ih5 _ _ _
   | exact neumeref24_meets.mono _ _ _ _
   | exact LeO.none _
   | refine LeO.ite ?_ ?_
   | refine LeO.bind ?_ (fun _ => ?_)
theorem neumeref24_push.mono : ∀ a0 a1 a2 k, LeO (neumeref24_push.f k a0 a1 a2) (neumeref24_push.f (k + 1) a0 a1 a2) := by
 intro a0 a1 a2 k
 obtain ⟨ih0, ih1, ih2, ih3, ih4, ih5⟩ := neumeref24_push.mono_l k
 unfold neumeref24_push.f
 repeat' first
   | (with_reducible exact ih0 _ _ _ _ _ _)
   | (with_reducible exact ih1 _ _ _ _ _ _ _)
   | (with_reducible exact ih2 _ _ _ _ _ _ _)
   | (with_reducible exact ih3 _ _ _ _ _ _ _ _)
   | (with_reducible exact ih4 _ _ _ _ _ _ _ _ _)
   | (with_reducible exact ih5 _ _ _)
   | (with_reducible exact neumeref24_meets.mono _ _ _ _)
   | (with_reducible exact LeO.refl _)
   | (with_reducible exact LeO.none _)
   | (with_reducible refine LeO.ite ?_ ?_)
   | (with_reducible refine LeO.bind ?_ (fun _ => ?_))
   | exact ih0 _ _ _ _ _ _
   | exact ih1 _ _ _ _ _ _ _
   | exact ih2 _ _ _ _ _ _ _
   | exact ih3 _ _ _ _ _ _ _ _
   | exact ih4 _ _ _ _ _ _ _ _ _
   | exact ih5 _ _ _
   | exact neumeref24_meets.mono _ _ _ _
   | exact LeO.none _
   | refine LeO.ite ?_ ?_
   | refine LeO.bind ?_ (fun _ => ?_)
set_option maxHeartbeats 8000000 in
set_option maxRecDepth 100000 in
theorem neumeref24_push.calls (k : Nat) (A0 : Option Addr) (c0 : Nat) (l0 : List (S45)) (A1 : Option Addr) (c1 : Nat) (l1 : List (S45)) (a2 : Bool) (r1 : Int) (r2 : Int) (w : World) (hr0 : Kd.C k45 w A0 l0.length l0) (hc0 : l0.length ≤ c0) (hr1 : Kd.C k45 w A1 l1.length l1) (hc1 : l1.length ≤ c1) (h : neumeref24_push.f k l0 l1 a2 = some (r1, r2)) :
  Calls Try.prog 24 #[.slice A0 l0.length c0, .slice A1 l1.length c1, .bool a2] w fun e w' => e = .returned (.tuple #[.int .i64 r1, .int .i64 r2]) ∧ Below w.heap.size w w' := by
 have hu45 := Try.underlying45
 have HR0 := sd_ hr0
 have HC0 := sd_ hc0
 clear hr0 hc0
 have HR1 := sd_ hr1
 have HC1 := sd_ hc1
 clear hr1 hc1
 have HB := sd_ (Below.refl w.heap.size w)
 have H : ((neumeref24_meets.f k l0 l1 0).bind fun t240 => (neumeref24_push.l0 k l0 l1 a2 0 (!t240) 0)) = some (r1, r2) := h
 clear h
 replace H := ob_ H
 obtain ⟨t240, A40, H⟩ := H
 replace H : (neumeref24_push.l0 k l0 l1 a2 0 (!t240) 0) = some (r1, r2) := H
 have A4 := sd_ A40
 clear A40
 have H' := sd_ H
 clear H
 go_enter Try.func24, Try.ntmps24
 go_wp2_with (first | (go_at_call 36; (with_reducible refine (neumeref24_meets.calls k _ _ l0 _ _ l1 0 t240 _ ?side1 ?side2 ?side3 ?side4 A4.out).mono ?_); (case side1 => repeat (first | exact HR0.out | (with_reducible refine Kd.C_alloc ?_ _) | (with_reducible refine Kd.C_drewN ?_ _) | (with_reducible refine Kd.C_drew ?_))); (case side2 => exact HC0.out); (case side3 => repeat (first | exact HR1.out | (with_reducible refine Kd.C_alloc ?_ _) | (with_reducible refine Kd.C_drewN ?_ _) | (with_reducible refine Kd.C_drew ?_))); (case side4 => exact HC1.out); rintro e w5 ⟨rfl, hb⟩; replace HB := hb_ HB e0_ hb; (try clear hb); (try clear hb2); (try clear hk); (try clear hi)))
 repeat (go_quiet (first | (go_at_call 36; (with_reducible refine (neumeref24_meets.calls k _ _ l0 _ _ l1 0 t240 _ ?side1 ?side2 ?side3 ?side4 A4.out).mono ?_); (case side1 => repeat (first | exact HR0.out | (with_reducible refine Kd.C_alloc ?_ _) | (with_reducible refine Kd.C_drewN ?_ _) | (with_reducible refine Kd.C_drew ?_))); (case side2 => exact HC0.out); (case side3 => repeat (first | exact HR1.out | (with_reducible refine Kd.C_alloc ?_ _) | (with_reducible refine Kd.C_drewN ?_ _) | (with_reducible refine Kd.C_drew ?_))); (case side4 => exact HC1.out); rintro e w5 ⟨rfl, hb⟩; replace HB := hb_ HB e0_ hb; (try clear hb); (try clear hb2); (try clear hk); (try clear hi))); try go_wp2_with (first | (go_at_call 36; (with_reducible refine (neumeref24_meets.calls k _ _ l0 _ _ l1 0 t240 _ ?side1 ?side2 ?side3 ?side4 A4.out).mono ?_); (case side1 => repeat (first | exact HR0.out | (with_reducible refine Kd.C_alloc ?_ _) | (with_reducible refine Kd.C_drewN ?_ _) | (with_reducible refine Kd.C_drew ?_))); (case side2 => exact HC0.out); (case side3 => repeat (first | exact HR1.out | (with_reducible refine Kd.C_alloc ?_ _) | (with_reducible refine Kd.C_drewN ?_ _) | (with_reducible refine Kd.C_drew ?_))); (case side4 => exact HC1.out); rintro e w5 ⟨rfl, hb⟩; replace HB := hb_ HB e0_ hb; (try clear hb); (try clear hb2); (try clear hk); (try clear hi))))
 go_loopg [8, 9, 10] k (fun kq v8 v9 v10 w' => ∃ (x8_1 : Int) (x9_1 : Bool) (x10_1 : Int), v8 = .int .i64 x8_1 ∧ v9 = .bool x9_1 ∧ v10 = .int .i64 x10_1 ∧ Aside0 (neumeref24_push.l0 kq l0 l1 a2 x8_1 x9_1 x10_1 = some (r1, r2)) ∧ Aside0 (kq ≤ k) ∧ Aside0 (Below w.heap.size w w'))
 case atStart => exact ⟨(0), (!t240), (0), (by first | rfl | (simp; done) | (simp [*]; done) | (simp [bne]; done)), (by first | rfl | (simp; done) | (simp [*]; done) | (simp [bne]; done)), (by first | rfl | (simp; done) | (simp [*]; done) | (simp [bne]; done)), H', ⟨Nat.le_refl _⟩, ⟨by repeat (first | (with_reducible first | exact HB.out | apply ba_ | apply pd_ | apply d1_) | exact HB.out)⟩⟩
 case round =>
  clear H'
  try clear c1; try clear c2; try clear p2
  obtain ⟨x8_1, x9_1, x10_1, rfl, rfl, rfl, HA, HK1, HB⟩ := hrel
  cases gk with
  | zero => exact absurd HA.out (by simp [neumeref24_push.l0])
  | succ k1 =>
   have H := HA.out
   clear HA
   simp only [neumeref24_push.l0] at H
   have HC6 := sd_ H
   clear H
   go_upto_region 3 with (fail)
   repeat (go_quiet (fail); go_upto_region 3 with (fail))
   go_cut [30] (fun v30 wc => ∃ (kq : Nat) (x30_5 : Bool), v30 = .bool x30_5 ∧ Aside0 (neumeref24_push.j1 kq l0 l1 a2 x8_1 x9_1 x10_1 x30_5 = some (r1, r2)) ∧ Aside0 (kq ≤ k1) ∧ Aside0 (Below w.heap.size w wc))
   case first =>
    have H := HC6.out
    clear HC6
    by_cases c7 : x10_1 < (l0.length : Int)
    ·rw [if_pos c7] at H
     have c7b0 : decide (x10_1 < (l0.length : Int)) = true := dt_ c7
     clear c7
     (first | rw [c7b0] | (simp only [i64_w, i32_w]; rw [c7b0]) | skip)
     by_cases c8 : x9_1 = true
     ·subst c8
      have H1 : (neumeref24_push.j1 k1 l0 l1 a2 x8_1 true x10_1 (!(x8_1 == 0))) = some (r1, r2) := by rw [if_pos rfl] at H; exact H
      clear H; have H := H1; clear H1
      have H' := sd_ H
      clear H
      go_wp2
      repeat (go_quiet (fail); try go_wp2)
      go_meet
      case rel => exact ⟨_, (!(x8_1 == 0)), (by first | rfl | (simp; done) | (simp [*]; done) | (simp [bne]; done)), H', ⟨by have := HK1.out; first | omega | exact Nat.le_refl _⟩, ⟨by repeat (first | (with_reducible first | exact HB.out | apply ba_ | apply pd_ | apply d1_) | exact HB.out)⟩⟩
     ·replace c8 := bf_ c8
      subst c8
      have H1 : (neumeref24_push.j1 k1 l0 l1 a2 x8_1 false x10_1 (!false)) = some (r1, r2) := by rw [if_neg (show ¬ (false = true) by decide)] at H; exact H
      clear H; have H := H1; clear H1
      have H' := sd_ H
      clear H
      go_wp2
      repeat (go_quiet (fail); try go_wp2)
      go_meet
      case rel => exact ⟨_, (!false), (by first | rfl | (simp; done) | (simp [*]; done) | (simp [bne]; done)), H', ⟨by have := HK1.out; first | omega | exact Nat.le_refl _⟩, ⟨by repeat (first | (with_reducible first | exact HB.out | apply ba_ | apply pd_ | apply d1_) | exact HB.out)⟩⟩
    ·rw [if_neg c7] at H
     have c7b0 : decide (x10_1 < (l0.length : Int)) = false := df_ c7
     clear c7
     (first | rw [c7b0] | (simp only [i64_w, i32_w]; rw [c7b0]) | skip)
     have H' := sd_ H
     clear H
     go_wp2
     repeat (go_quiet (fail); try go_wp2)
     go_meet
     case rel => exact ⟨_, (false), (by first | rfl | (simp; done) | (simp [*]; done) | (simp [bne]; done)), H', ⟨by have := HK1.out; first | omega | exact Nat.le_refl _⟩, ⟨by repeat (first | (with_reducible first | exact HB.out | apply ba_ | apply pd_ | apply d1_) | exact HB.out)⟩⟩
   case rest =>
    clear HC6
    try clear c1; try clear c2; try clear p2; try clear c7; try clear c7b0; try clear c8; try clear p2
    obtain ⟨kq, x30_5, rfl, HA, HJ5, HB⟩ := hcut
    cases kq with
    | zero => exact absurd HA.out (by simp [neumeref24_push.j1])
    | succ kj5 =>
     have H := HA.out
     clear HA
     simp only [neumeref24_push.j1] at H
     by_cases c9 : x30_5 = true
     ·subst c9
      have H1 : (neumeref24_push.l1 kj5 l0 l1 a2 x8_1 x9_1 x10_1 0) = some (r1, r2) := by rw [if_pos rfl] at H; exact H
      clear H; have H := H1; clear H1
      have H' := sd_ H
      clear H
      go_wp2
      repeat (go_quiet (fail); try go_wp2)
      go_loopg [8, 9, 11] kj5 (fun kq v8 v9 v11 w' => ∃ (x8_3 : Int) (x9_3 : Bool) (x11_3 : Int), v8 = .int .i64 x8_3 ∧ v9 = .bool x9_3 ∧ v11 = .int .i64 x11_3 ∧ Aside0 (neumeref24_push.l1 kq l0 l1 a2 x8_3 x9_3 x10_1 x11_3 = some (r1, r2)) ∧ Aside0 (kq ≤ kj5) ∧ Aside0 (Below w.heap.size w w'))
      case atStart => exact ⟨(x8_1), (x9_1), (0), (by first | rfl | (simp; done) | (simp [*]; done) | (simp [bne]; done)), (by first | rfl | (simp; done) | (simp [*]; done) | (simp [bne]; done)), (by first | rfl | (simp; done) | (simp [*]; done) | (simp [bne]; done)), H', ⟨Nat.le_refl _⟩, ⟨by repeat (first | (with_reducible first | exact HB.out | apply ba_ | apply pd_ | apply d1_) | exact HB.out)⟩⟩
      case round =>
       clear H'
       try clear c1; try clear c2; try clear p2; try clear c7; try clear c7b0; try clear c8; try clear c9; try clear p2
       obtain ⟨x8_3, x9_3, x11_3, rfl, rfl, rfl, HA, HK3, HB⟩ := hrel
       cases gk with
       | zero => exact absurd HA.out (by simp [neumeref24_push.l1])
       | succ k3 =>
        have H := HA.out
        clear HA
        simp only [neumeref24_push.l1] at H
        by_cases c10 : x11_3 < (l1.length : Int)
        ·rw [if_pos c10] at H
         have c10b0 : decide (x11_3 < (l1.length : Int)) = true := dt_ c10
         clear c10
         by_cases c11 : 0 ≤ x10_1
         ·rw [if_pos c11] at H
          have c11b0 : decide (0 ≤ x10_1) = true := dt_ c11
          clear c11
          by_cases c12 : x10_1 < (l0.length : Int)
          ·rw [if_pos c12] at H
           have c12b0 : decide (x10_1 < (l0.length : Int)) = true := dt_ c12
           clear c12
           by_cases c13 : 0 ≤ x11_3
           ·rw [if_pos c13] at H
            have c13b0 : decide (0 ≤ x11_3) = true := dt_ c13
            clear c13
            have HC14 := sd_ H
            clear H
            have p241 : 0 ≤ (x10_1 : Int) := od_ (by first | (with_reducible assumption) | assumption)
            have q241 : x10_1 < (l0.length : Int) := od_ (by first | (with_reducible assumption) | assumption)
            obtain ⟨ad241, e241, hx241_0, hx241_1, hx241_2, hx241_3⟩ := at_T45 HR0.out x10_1 p241 q241
            cases e241
            replace hx241_0 := (HB.out.cell (wb_ w _ hx241_0)).trans hx241_0
            replace hx241_1 := (HB.out.cell (wb_ w _ hx241_1)).trans hx241_1
            replace hx241_2 := (HB.out.cell (wb_ w _ hx241_2)).trans hx241_2
            replace hx241_3 := (HB.out.cell (wb_ w _ hx241_3)).trans hx241_3
            replace p241 := eq_true p241
            replace q241 := eq_true q241
            have p242 : 0 ≤ (x11_3 : Int) := od_ (by first | (with_reducible assumption) | assumption)
            have q242 : x11_3 < (l1.length : Int) := od_ (by first | (with_reducible assumption) | assumption)
            obtain ⟨ad242, e242, hx242_0, hx242_1, hx242_2, hx242_3⟩ := at_T45 HR1.out x11_3 p242 q242
            cases e242
            replace hx242_0 := (HB.out.cell (wb_ w _ hx242_0)).trans hx242_0
            replace hx242_1 := (HB.out.cell (wb_ w _ hx242_1)).trans hx242_1
            replace hx242_2 := (HB.out.cell (wb_ w _ hx242_2)).trans hx242_2
            replace hx242_3 := (HB.out.cell (wb_ w _ hx242_3)).trans hx242_3
            replace p242 := eq_true p242
            replace q242 := eq_true q242
            go_upto_if 51 with (fail)
            repeat (go_quiet (fail); go_upto_if 51 with (fail))
            go_cut [12] (fun v12 wc => ∃ (kq : Nat) (x12_13 : Int), v12 = .int .i64 x12_13 ∧ Aside0 (neumeref24_push.j3 kq l0 l1 a2 x8_3 x9_3 x10_1 x11_3 x12_13 = some (r1, r2)) ∧ Aside0 (kq ≤ k3) ∧ Aside0 (Below w.heap.size w wc))
            case first =>
             have H := HC14.out
             clear HC14
             by_cases c15 : a2 = true
             ·subst c15
              have H1 : (neumeref24_push.j3 k3 l0 l1 true x8_3 x9_3 x10_1 x11_3 (wrap64 (((rd_T45 l0 x10_1).f2) - ((rd_T45 l1 x11_3).f0)))) = some (r1, r2) := by rw [if_pos rfl] at H; exact H
              clear H; have H := H1; clear H1
              have H' := sd_ H
              clear H
              go_wp2
              repeat (go_quiet (fail); try go_wp2)
              go_meet
              case rel => exact ⟨_, (wrap64 (((rd_T45 l0 x10_1).f2) - ((rd_T45 l1 x11_3).f0))), (by first | rfl | (simp; done) | (simp [*]; done) | (simp [bne]; done)), H', ⟨by have := HK1.out; have := HJ5.out; have := HK3.out; first | omega | exact Nat.le_refl _⟩, ⟨by repeat (first | (with_reducible first | exact HB.out | apply ba_ | apply pd_ | apply d1_) | exact HB.out)⟩⟩
             ·replace c15 := bf_ c15
              subst c15
              have H1 : (neumeref24_push.j3 k3 l0 l1 false x8_3 x9_3 x10_1 x11_3 (wrap64 (((rd_T45 l0 x10_1).f0) - ((rd_T45 l1 x11_3).f2)))) = some (r1, r2) := by rw [if_neg (show ¬ (false = true) by decide)] at H; exact H
              clear H; have H := H1; clear H1
              have H' := sd_ H
              clear H
              have p243 : 0 ≤ (x10_1 : Int) := od_ (by first | (with_reducible assumption) | assumption)
              have q243 : x10_1 < (l0.length : Int) := od_ (by first | (with_reducible assumption) | assumption)
              obtain ⟨ad243, e243, hx243_0, hx243_1, hx243_2, hx243_3⟩ := at_T45 HR0.out x10_1 p243 q243
              obtain rfl : ad241 = ad243 := (by injection e243)
              replace hx243_0 := (HB.out.cell (wb_ w _ hx243_0)).trans hx243_0
              replace hx243_1 := (HB.out.cell (wb_ w _ hx243_1)).trans hx243_1
              replace hx243_2 := (HB.out.cell (wb_ w _ hx243_2)).trans hx243_2
              replace hx243_3 := (HB.out.cell (wb_ w _ hx243_3)).trans hx243_3
              replace p243 := eq_true p243
              replace q243 := eq_true q243
              have p244 : 0 ≤ (x11_3 : Int) := od_ (by first | (with_reducible assumption) | assumption)
              have q244 : x11_3 < (l1.length : Int) := od_ (by first | (with_reducible assumption) | assumption)
              obtain ⟨ad244, e244, hx244_0, hx244_1, hx244_2, hx244_3⟩ := at_T45 HR1.out x11_3 p244 q244
              obtain rfl : ad242 = ad244 := (by injection e244)
              replace hx244_0 := (HB.out.cell (wb_ w _ hx244_0)).trans hx244_0
              replace hx244_1 := (HB.out.cell (wb_ w _ hx244_1)).trans hx244_1
              replace hx244_2 := (HB.out.cell (wb_ w _ hx244_2)).trans hx244_2
              replace hx244_3 := (HB.out.cell (wb_ w _ hx244_3)).trans hx244_3
              replace p244 := eq_true p244
              replace q244 := eq_true q244
              go_wp2
              repeat (go_quiet (fail); try go_wp2)
              go_meet
              case rel => exact ⟨_, (wrap64 (((rd_T45 l0 x10_1).f0) - ((rd_T45 l1 x11_3).f2))), (by first | rfl | (simp; done) | (simp [*]; done) | (simp [bne]; done)), H', ⟨by have := HK1.out; have := HJ5.out; have := HK3.out; first | omega | exact Nat.le_refl _⟩, ⟨by repeat (first | (with_reducible first | exact HB.out | apply ba_ | apply pd_ | apply d1_) | exact HB.out)⟩⟩
            case rest =>
             clear HC14
             try clear c1; try clear c2; try clear p2; try clear q2; try clear hx2; try clear p6; try clear c7; try clear c7b0; try clear c8; try clear c9; try clear c10; try clear c10b0; try clear c11; try clear c11b0; try clear c12; try clear c12b0; try clear c13; try clear c13b0; try clear c15; try clear hx241_0; try clear hx241_1; try clear hx241_2; try clear hx241_3; try clear hx242_0; try clear hx242_1; try clear hx242_2; try clear hx242_3; try clear hx243_0; try clear hx243_1; try clear hx243_2; try clear hx243_3; try clear hx244_0; try clear hx244_1; try clear hx244_2; try clear hx244_3; try clear p2; try clear p241; try clear p242; try clear p243; try clear p244; try clear q241; try clear q242; try clear q243; try clear q244
             obtain ⟨kq, x12_13, rfl, HA, HJ13, HB⟩ := hcut
             cases kq with
             | zero => exact absurd HA.out (by simp [neumeref24_push.j3])
             | succ kj13 =>
              have H := HA.out
              clear HA
              simp only [neumeref24_push.j3] at H
              have HC16 := sd_ H
              clear H
              go_upto_region 11 with (fail)
              repeat (go_quiet (fail); go_upto_region 11 with (fail))
              go_cut [75] (fun v75 wc => ∃ (kq : Nat) (x75_15 : Bool), v75 = .bool x75_15 ∧ Aside0 (neumeref24_push.j4 kq l0 l1 a2 x8_3 x9_3 x10_1 x11_3 x12_13 x75_15 = some (r1, r2)) ∧ Aside0 (kq ≤ kj13) ∧ Aside0 (Below w.heap.size w wc))
              case first =>
               have H := HC16.out
               clear HC16
               by_cases c17 : a2 = true
               ·subst c17
                have H1 : (if x12_13 < 0 then (neumeref24_push.j4 kj13 l0 l1 true x8_3 x9_3 x10_1 x11_3 x12_13 true) else (neumeref24_push.j4 kj13 l0 l1 true x8_3 x9_3 x10_1 x11_3 x12_13 false)) = some (r1, r2) := by rw [if_pos rfl] at H; exact H
                clear H; have H := H1; clear H1
                by_cases c18 : x12_13 < 0
                ·rw [if_pos c18] at H
                 have c18b0 : decide (x12_13 < 0) = true := dt_ c18
                 clear c18
                 (first | rw [c18b0] | (simp only [i64_w, i32_w]; rw [c18b0]) | skip)
                 have H' := sd_ H
                 clear H
                 go_wp2
                 repeat (go_quiet (fail); try go_wp2)
                 go_meet
                 case rel => exact ⟨_, (true), (by first | rfl | (simp; done) | (simp [*]; done) | (simp [bne]; done)), H', ⟨by have := HK1.out; have := HJ5.out; have := HK3.out; have := HJ13.out; first | omega | exact Nat.le_refl _⟩, ⟨by repeat (first | (with_reducible first | exact HB.out | apply ba_ | apply pd_ | apply d1_) | exact HB.out)⟩⟩
                ·rw [if_neg c18] at H
                 have c18b0 : decide (x12_13 < 0) = false := df_ c18
                 clear c18
                 (first | rw [c18b0] | (simp only [i64_w, i32_w]; rw [c18b0]) | skip)
                 have H' := sd_ H
                 clear H
                 go_wp2
                 repeat (go_quiet (fail); try go_wp2)
                 go_meet
                 case rel => exact ⟨_, (false), (by first | rfl | (simp; done) | (simp [*]; done) | (simp [bne]; done)), H', ⟨by have := HK1.out; have := HJ5.out; have := HK3.out; have := HJ13.out; first | omega | exact Nat.le_refl _⟩, ⟨by repeat (first | (with_reducible first | exact HB.out | apply ba_ | apply pd_ | apply d1_) | exact HB.out)⟩⟩
               ·replace c17 := bf_ c17
                subst c17
                have H1 : (neumeref24_push.j4 kj13 l0 l1 false x8_3 x9_3 x10_1 x11_3 x12_13 (decide (x12_13 > 0))) = some (r1, r2) := by rw [if_neg (show ¬ (false = true) by decide)] at H; exact H
                clear H; have H := H1; clear H1
                have H' := sd_ H
                clear H
                go_wp2
                repeat (go_quiet (fail); try go_wp2)
                go_meet
                case rel => exact ⟨_, (decide (x12_13 > 0)), (by first | rfl | (simp; done) | (simp [*]; done) | (simp [bne]; done)), H', ⟨by have := HK1.out; have := HJ5.out; have := HK3.out; have := HJ13.out; first | omega | exact Nat.le_refl _⟩, ⟨by repeat (first | (with_reducible first | exact HB.out | apply ba_ | apply pd_ | apply d1_) | exact HB.out)⟩⟩
              case rest =>
               clear HC16
               try clear c1; try clear c2; try clear p2; try clear q2; try clear hx2; try clear p6; try clear c7; try clear c7b0; try clear c8; try clear c9; try clear c10; try clear c10b0; try clear c11; try clear c11b0; try clear c12; try clear c12b0; try clear c13; try clear c13b0; try clear c15; try clear c17; try clear c18; try clear c18b0; try clear hx241_0; try clear hx241_1; try clear hx241_2; try clear hx241_3; try clear hx242_0; try clear hx242_1; try clear hx242_2; try clear hx242_3; try clear hx243_0; try clear hx243_1; try clear hx243_2; try clear hx243_3; try clear hx244_0; try clear hx244_1; try clear hx244_2; try clear hx244_3; try clear p2; try clear p241; try clear p242; try clear p243; try clear p244; try clear p6; try clear q2; try clear q241; try clear q242; try clear q243; try clear q244
               obtain ⟨kq, x75_15, rfl, HA, HJ15, HB⟩ := hcut
               cases kq with
               | zero => exact absurd HA.out (by simp [neumeref24_push.j4])
               | succ kj15 =>
                have H := HA.out
                clear HA
                simp only [neumeref24_push.j4] at H
                by_cases c19 : x75_15 = true
                ·subst c19
                 have H1 : (neumeref24_push.l1 kj15 l0 l1 a2 x8_3 x9_3 x10_1 (wrap64 (x11_3 + 1))) = some (r1, r2) := by rw [if_pos rfl] at H; exact H
                 clear H; have H := H1; clear H1
                 have H' := sd_ H
                 clear H
                 go_wp2
                 repeat (go_quiet (fail); try go_wp2)
                 go_roundg kj15
                 case measure => have := HK1.out; have := HJ5.out; have := HK3.out; have := HJ13.out; have := HJ15.out; omega
                 case rel => exact ⟨(x8_3), (x9_3), (wrap64 (x11_3 + 1)), (by first | rfl | (simp; done) | (simp [*]; done) | (simp [bne]; done)), (by first | rfl | (simp; done) | (simp [*]; done) | (simp [bne]; done)), (by first | rfl | (simp; done) | (simp [*]; done) | (simp [bne]; done)), H', ⟨by have := HK1.out; have := HJ5.out; have := HK3.out; have := HJ13.out; have := HJ15.out; omega⟩, ⟨by repeat (first | (with_reducible first | exact HB.out | apply ba_ | apply pd_ | apply d1_) | exact HB.out)⟩⟩
                ·replace c19 := bf_ c19
                 subst c19
                 have H1 : (if a2 = true then (if x12_13 < x8_3 then (if x9_3 = true then ((neumeref24_meets.f kj15 l0 l1 x12_13).bind fun t245 => (if t245 = true then (neumeref24_push.l1 kj15 l0 l1 a2 x8_3 x9_3 x10_1 (wrap64 (x11_3 + 1))) else (neumeref24_push.l1 kj15 l0 l1 a2 x12_13 true x10_1 (wrap64 (x11_3 + 1))))) else ((neumeref24_meets.f kj15 l0 l1 x12_13).bind fun t246 => (if t246 = true then (neumeref24_push.l1 kj15 l0 l1 a2 x8_3 x9_3 x10_1 (wrap64 (x11_3 + 1))) else (neumeref24_push.l1 kj15 l0 l1 a2 x12_13 true x10_1 (wrap64 (x11_3 + 1)))))) else (if x9_3 = true then (neumeref24_push.l1 kj15 l0 l1 a2 x8_3 x9_3 x10_1 (wrap64 (x11_3 + 1))) else ((neumeref24_meets.f kj15 l0 l1 x12_13).bind fun t247 => (if t247 = true then (neumeref24_push.l1 kj15 l0 l1 a2 x8_3 x9_3 x10_1 (wrap64 (x11_3 + 1))) else (neumeref24_push.l1 kj15 l0 l1 a2 x12_13 true x10_1 (wrap64 (x11_3 + 1))))))) else (if x9_3 = true then (if x12_13 > x8_3 then ((neumeref24_meets.f kj15 l0 l1 x12_13).bind fun t248 => (if t248 = true then (neumeref24_push.l1 kj15 l0 l1 a2 x8_3 x9_3 x10_1 (wrap64 (x11_3 + 1))) else (neumeref24_push.l1 kj15 l0 l1 a2 x12_13 true x10_1 (wrap64 (x11_3 + 1))))) else (neumeref24_push.l1 kj15 l0 l1 a2 x8_3 x9_3 x10_1 (wrap64 (x11_3 + 1)))) else ((neumeref24_meets.f kj15 l0 l1 x12_13).bind fun t249 => (if t249 = true then (neumeref24_push.l1 kj15 l0 l1 a2 x8_3 x9_3 x10_1 (wrap64 (x11_3 + 1))) else (neumeref24_push.l1 kj15 l0 l1 a2 x12_13 true x10_1 (wrap64 (x11_3 + 1))))))) = some (r1, r2) := by rw [if_neg (show ¬ (false = true) by decide)] at H; exact H
                 clear H; have H := H1; clear H1
                 by_cases c20 : a2 = true
                 ·subst c20
                  have H1 : (if x12_13 < x8_3 then (if x9_3 = true then ((neumeref24_meets.f kj15 l0 l1 x12_13).bind fun t245 => (if t245 = true then (neumeref24_push.l1 kj15 l0 l1 true x8_3 x9_3 x10_1 (wrap64 (x11_3 + 1))) else (neumeref24_push.l1 kj15 l0 l1 true x12_13 true x10_1 (wrap64 (x11_3 + 1))))) else ((neumeref24_meets.f kj15 l0 l1 x12_13).bind fun t246 => (if t246 = true then (neumeref24_push.l1 kj15 l0 l1 true x8_3 x9_3 x10_1 (wrap64 (x11_3 + 1))) else (neumeref24_push.l1 kj15 l0 l1 true x12_13 true x10_1 (wrap64 (x11_3 + 1)))))) else (if x9_3 = true then (neumeref24_push.l1 kj15 l0 l1 true x8_3 x9_3 x10_1 (wrap64 (x11_3 + 1))) else ((neumeref24_meets.f kj15 l0 l1 x12_13).bind fun t247 => (if t247 = true then (neumeref24_push.l1 kj15 l0 l1 true x8_3 x9_3 x10_1 (wrap64 (x11_3 + 1))) else (neumeref24_push.l1 kj15 l0 l1 true x12_13 true x10_1 (wrap64 (x11_3 + 1))))))) = some (r1, r2) := by rw [if_pos rfl] at H; exact H
                  clear H; have H := H1; clear H1
                  by_cases c21 : x12_13 < x8_3
                  ·rw [if_pos c21] at H
                   have c21b0 : decide (x12_13 < x8_3) = true := dt_ c21
                   clear c21
                   by_cases c22 : x9_3 = true
                   ·subst c22
                    have H1 : ((neumeref24_meets.f kj15 l0 l1 x12_13).bind fun t245 => (if t245 = true then (neumeref24_push.l1 kj15 l0 l1 true x8_3 true x10_1 (wrap64 (x11_3 + 1))) else (neumeref24_push.l1 kj15 l0 l1 true x12_13 true x10_1 (wrap64 (x11_3 + 1))))) = some (r1, r2) := by rw [if_pos rfl] at H; exact H
                    clear H; have H := H1; clear H1
                    replace H := ob_ H
                    obtain ⟨t245, A230, H⟩ := H
                    replace H : (if t245 = true then (neumeref24_push.l1 kj15 l0 l1 true x8_3 true x10_1 (wrap64 (x11_3 + 1))) else (neumeref24_push.l1 kj15 l0 l1 true x12_13 true x10_1 (wrap64 (x11_3 + 1)))) = some (r1, r2) := H
                    have A23 := sd_ A230
                    clear A230
                    by_cases c24 : t245 = true
                    ·subst c24
                     have H1 : (neumeref24_push.l1 kj15 l0 l1 true x8_3 true x10_1 (wrap64 (x11_3 + 1))) = some (r1, r2) := by rw [if_pos rfl] at H; exact H
                     clear H; have H := H1; clear H1
                     have H' := sd_ H
                     clear H
                     go_wp2_with (first | (go_at_call 36; (with_reducible refine (neumeref24_meets.calls kj15 _ _ l0 _ _ l1 x12_13 true _ ?side1 ?side2 ?side3 ?side4 A23.out).mono ?_); (case side1 => repeat (first | exact (Kd.C_below HR0.out HB.out) | (with_reducible refine Kd.C_alloc ?_ _) | (with_reducible refine Kd.C_drewN ?_ _) | (with_reducible refine Kd.C_drew ?_))); (case side2 => exact HC0.out); (case side3 => repeat (first | exact (Kd.C_below HR1.out HB.out) | (with_reducible refine Kd.C_alloc ?_ _) | (with_reducible refine Kd.C_drewN ?_ _) | (with_reducible refine Kd.C_drew ?_))); (case side4 => exact HC1.out); rintro e w25 ⟨rfl, hb⟩; replace HB := hb_ HB e0_ hb; (try clear hb); (try clear hb2); (try clear hk); (try clear hi)))
                     repeat (go_quiet (first | (go_at_call 36; (with_reducible refine (neumeref24_meets.calls kj15 _ _ l0 _ _ l1 x12_13 true _ ?side1 ?side2 ?side3 ?side4 A23.out).mono ?_); (case side1 => repeat (first | exact (Kd.C_below HR0.out HB.out) | (with_reducible refine Kd.C_alloc ?_ _) | (with_reducible refine Kd.C_drewN ?_ _) | (with_reducible refine Kd.C_drew ?_))); (case side2 => exact HC0.out); (case side3 => repeat (first | exact (Kd.C_below HR1.out HB.out) | (with_reducible refine Kd.C_alloc ?_ _) | (with_reducible refine Kd.C_drewN ?_ _) | (with_reducible refine Kd.C_drew ?_))); (case side4 => exact HC1.out); rintro e w25 ⟨rfl, hb⟩; replace HB := hb_ HB e0_ hb; (try clear hb); (try clear hb2); (try clear hk); (try clear hi))); try go_wp2_with (first | (go_at_call 36; (with_reducible refine (neumeref24_meets.calls kj15 _ _ l0 _ _ l1 x12_13 true _ ?side1 ?side2 ?side3 ?side4 A23.out).mono ?_); (case side1 => repeat (first | exact (Kd.C_below HR0.out HB.out) | (with_reducible refine Kd.C_alloc ?_ _) | (with_reducible refine Kd.C_drewN ?_ _) | (with_reducible refine Kd.C_drew ?_))); (case side2 => exact HC0.out); (case side3 => repeat (first | exact (Kd.C_below HR1.out HB.out) | (with_reducible refine Kd.C_alloc ?_ _) | (with_reducible refine Kd.C_drewN ?_ _) | (with_reducible refine Kd.C_drew ?_))); (case side4 => exact HC1.out); rintro e w25 ⟨rfl, hb⟩; replace HB := hb_ HB e0_ hb; (try clear hb); (try clear hb2); (try clear hk); (try clear hi))))
                     go_roundg kj15
                     case measure => have := HK1.out; have := HJ5.out; have := HK3.out; have := HJ13.out; have := HJ15.out; omega
                     case rel => exact ⟨(x8_3), (true), (wrap64 (x11_3 + 1)), (by first | rfl | (simp; done) | (simp [*]; done) | (simp [bne]; done)), (by first | rfl | (simp; done) | (simp [*]; done) | (simp [bne]; done)), (by first | rfl | (simp; done) | (simp [*]; done) | (simp [bne]; done)), H', ⟨by have := HK1.out; have := HJ5.out; have := HK3.out; have := HJ13.out; have := HJ15.out; omega⟩, ⟨by repeat (first | (with_reducible first | exact HB.out | apply ba_ | apply pd_ | apply d1_) | exact HB.out)⟩⟩
                    ·replace c24 := bf_ c24
                     subst c24
                     have H1 : (neumeref24_push.l1 kj15 l0 l1 true x12_13 true x10_1 (wrap64 (x11_3 + 1))) = some (r1, r2) := by rw [if_neg (show ¬ (false = true) by decide)] at H; exact H
                     clear H; have H := H1; clear H1
                     have H' := sd_ H
                     clear H
                     go_wp2_with (first | (go_at_call 36; (with_reducible refine (neumeref24_meets.calls kj15 _ _ l0 _ _ l1 x12_13 false _ ?side1 ?side2 ?side3 ?side4 A23.out).mono ?_); (case side1 => repeat (first | exact (Kd.C_below HR0.out HB.out) | (with_reducible refine Kd.C_alloc ?_ _) | (with_reducible refine Kd.C_drewN ?_ _) | (with_reducible refine Kd.C_drew ?_))); (case side2 => exact HC0.out); (case side3 => repeat (first | exact (Kd.C_below HR1.out HB.out) | (with_reducible refine Kd.C_alloc ?_ _) | (with_reducible refine Kd.C_drewN ?_ _) | (with_reducible refine Kd.C_drew ?_))); (case side4 => exact HC1.out); rintro e w26 ⟨rfl, hb⟩; replace HB := hb_ HB e0_ hb; (try clear hb); (try clear hb2); (try clear hk); (try clear hi)))
                     repeat (go_quiet (first | (go_at_call 36; (with_reducible refine (neumeref24_meets.calls kj15 _ _ l0 _ _ l1 x12_13 false _ ?side1 ?side2 ?side3 ?side4 A23.out).mono ?_); (case side1 => repeat (first | exact (Kd.C_below HR0.out HB.out) | (with_reducible refine Kd.C_alloc ?_ _) | (with_reducible refine Kd.C_drewN ?_ _) | (with_reducible refine Kd.C_drew ?_))); (case side2 => exact HC0.out); (case side3 => repeat (first | exact (Kd.C_below HR1.out HB.out) | (with_reducible refine Kd.C_alloc ?_ _) | (with_reducible refine Kd.C_drewN ?_ _) | (with_reducible refine Kd.C_drew ?_))); (case side4 => exact HC1.out); rintro e w26 ⟨rfl, hb⟩; replace HB := hb_ HB e0_ hb; (try clear hb); (try clear hb2); (try clear hk); (try clear hi))); try go_wp2_with (first | (go_at_call 36; (with_reducible refine (neumeref24_meets.calls kj15 _ _ l0 _ _ l1 x12_13 false _ ?side1 ?side2 ?side3 ?side4 A23.out).mono ?_); (case side1 => repeat (first | exact (Kd.C_below HR0.out HB.out) | (with_reducible refine Kd.C_alloc ?_ _) | (with_reducible refine Kd.C_drewN ?_ _) | (with_reducible refine Kd.C_drew ?_))); (case side2 => exact HC0.out); (case side3 => repeat (first | exact (Kd.C_below HR1.out HB.out) | (with_reducible refine Kd.C_alloc ?_ _) | (with_reducible refine Kd.C_drewN ?_ _) | (with_reducible refine Kd.C_drew ?_))); (case side4 => exact HC1.out); rintro e w26 ⟨rfl, hb⟩; replace HB := hb_ HB e0_ hb; (try clear hb); (try clear hb2); (try clear hk); (try clear hi))))
                     go_roundg kj15
                     case measure => have := HK1.out; have := HJ5.out; have := HK3.out; have := HJ13.out; have := HJ15.out; omega
                     case rel => exact ⟨(x12_13), (true), (wrap64 (x11_3 + 1)), (by first | rfl | (simp; done) | (simp [*]; done) | (simp [bne]; done)), (by first | rfl | (simp; done) | (simp [*]; done) | (simp [bne]; done)), (by first | rfl | (simp; done) | (simp [*]; done) | (simp [bne]; done)), H', ⟨by have := HK1.out; have := HJ5.out; have := HK3.out; have := HJ13.out; have := HJ15.out; omega⟩, ⟨by repeat (first | (with_reducible first | exact HB.out | apply ba_ | apply pd_ | apply d1_) | exact HB.out)⟩⟩
                   ·replace c22 := bf_ c22
                    subst c22
                    have H1 : ((neumeref24_meets.f kj15 l0 l1 x12_13).bind fun t246 => (if t246 = true then (neumeref24_push.l1 kj15 l0 l1 true x8_3 false x10_1 (wrap64 (x11_3 + 1))) else (neumeref24_push.l1 kj15 l0 l1 true x12_13 true x10_1 (wrap64 (x11_3 + 1))))) = some (r1, r2) := by rw [if_neg (show ¬ (false = true) by decide)] at H; exact H
                    clear H; have H := H1; clear H1
                    replace H := ob_ H
                    obtain ⟨t246, A270, H⟩ := H
                    replace H : (if t246 = true then (neumeref24_push.l1 kj15 l0 l1 true x8_3 false x10_1 (wrap64 (x11_3 + 1))) else (neumeref24_push.l1 kj15 l0 l1 true x12_13 true x10_1 (wrap64 (x11_3 + 1)))) = some (r1, r2) := H
                    have A27 := sd_ A270
                    clear A270
                    by_cases c28 : t246 = true
                    ·subst c28
                     have H1 : (neumeref24_push.l1 kj15 l0 l1 true x8_3 false x10_1 (wrap64 (x11_3 + 1))) = some (r1, r2) := by rw [if_pos rfl] at H; exact H
                     clear H; have H := H1; clear H1
                     have H' := sd_ H
                     clear H
                     go_wp2_with (first | (go_at_call 36; (with_reducible refine (neumeref24_meets.calls kj15 _ _ l0 _ _ l1 x12_13 true _ ?side1 ?side2 ?side3 ?side4 A27.out).mono ?_); (case side1 => repeat (first | exact (Kd.C_below HR0.out HB.out) | (with_reducible refine Kd.C_alloc ?_ _) | (with_reducible refine Kd.C_drewN ?_ _) | (with_reducible refine Kd.C_drew ?_))); (case side2 => exact HC0.out); (case side3 => repeat (first | exact (Kd.C_below HR1.out HB.out) | (with_reducible refine Kd.C_alloc ?_ _) | (with_reducible refine Kd.C_drewN ?_ _) | (with_reducible refine Kd.C_drew ?_))); (case side4 => exact HC1.out); rintro e w29 ⟨rfl, hb⟩; replace HB := hb_ HB e0_ hb; (try clear hb); (try clear hb2); (try clear hk); (try clear hi)))
                     repeat (go_quiet (first | (go_at_call 36; (with_reducible refine (neumeref24_meets.calls kj15 _ _ l0 _ _ l1 x12_13 true _ ?side1 ?side2 ?side3 ?side4 A27.out).mono ?_); (case side1 => repeat (first | exact (Kd.C_below HR0.out HB.out) | (with_reducible refine Kd.C_alloc ?_ _) | (with_reducible refine Kd.C_drewN ?_ _) | (with_reducible refine Kd.C_drew ?_))); (case side2 => exact HC0.out); (case side3 => repeat (first | exact (Kd.C_below HR1.out HB.out) | (with_reducible refine Kd.C_alloc ?_ _) | (with_reducible refine Kd.C_drewN ?_ _) | (with_reducible refine Kd.C_drew ?_))); (case side4 => exact HC1.out); rintro e w29 ⟨rfl, hb⟩; replace HB := hb_ HB e0_ hb; (try clear hb); (try clear hb2); (try clear hk); (try clear hi))); try go_wp2_with (first | (go_at_call 36; (with_reducible refine (neumeref24_meets.calls kj15 _ _ l0 _ _ l1 x12_13 true _ ?side1 ?side2 ?side3 ?side4 A27.out).mono ?_); (case side1 => repeat (first | exact (Kd.C_below HR0.out HB.out) | (with_reducible refine Kd.C_alloc ?_ _) | (with_reducible refine Kd.C_drewN ?_ _) | (with_reducible refine Kd.C_drew ?_))); (case side2 => exact HC0.out); (case side3 => repeat (first | exact (Kd.C_below HR1.out HB.out) | (with_reducible refine Kd.C_alloc ?_ _) | (with_reducible refine Kd.C_drewN ?_ _) | (with_reducible refine Kd.C_drew ?_))); (case side4 => exact HC1.out); rintro e w29 ⟨rfl, hb⟩; replace HB := hb_ HB e0_ hb; (try clear hb); (try clear hb2); (try clear hk); (try clear hi))))
                     go_roundg kj15
                     case measure => have := HK1.out; have := HJ5.out; have := HK3.out; have := HJ13.out; have := HJ15.out; omega
                     case rel => exact ⟨(x8_3), (false), (wrap64 (x11_3 + 1)), (by first | rfl | (simp; done) | (simp [*]; done) | (simp [bne]; done)), (by first | rfl | (simp; done) | (simp [*]; done) | (simp [bne]; done)), (by first | rfl | (simp; done) | (simp [*]; done) | (simp [bne]; done)), H', ⟨by have := HK1.out; have := HJ5.out; have := HK3.out; have := HJ13.out; have := HJ15.out; omega⟩, ⟨by repeat (first | (with_reducible first | exact HB.out | apply ba_ | apply pd_ | apply d1_) | exact HB.out)⟩⟩
                    ·replace c28 := bf_ c28
                     subst c28
                     have H1 : (neumeref24_push.l1 kj15 l0 l1 true x12_13 true x10_1 (wrap64 (x11_3 + 1))) = some (r1, r2) := by rw [if_neg (show ¬ (false = true) by decide)] at H; exact H
                     clear H; have H := H1; clear H1
                     have H' := sd_ H
                     clear H
                     go_wp2_with (first | (go_at_call 36; (with_reducible refine (neumeref24_meets.calls kj15 _ _ l0 _ _ l1 x12_13 false _ ?side1 ?side2 ?side3 ?side4 A27.out).mono ?_); (case side1 => repeat (first | exact (Kd.C_below HR0.out HB.out) | (with_reducible refine Kd.C_alloc ?_ _) | (with_reducible refine Kd.C_drewN ?_ _) | (with_reducible refine Kd.C_drew ?_))); (case side2 => exact HC0.out); (case side3 => repeat (first | exact (Kd.C_below HR1.out HB.out) | (with_reducible refine Kd.C_alloc ?_ _) | (with_reducible refine Kd.C_drewN ?_ _) | (with_reducible refine Kd.C_drew ?_))); (case side4 => exact HC1.out); rintro e w30 ⟨rfl, hb⟩; replace HB := hb_ HB e0_ hb; (try clear hb); (try clear hb2); (try clear hk); (try clear hi)))
                     repeat (go_quiet (first | (go_at_call 36; (with_reducible refine (neumeref24_meets.calls kj15 _ _ l0 _ _ l1 x12_13 false _ ?side1 ?side2 ?side3 ?side4 A27.out).mono ?_); (case side1 => repeat (first | exact (Kd.C_below HR0.out HB.out) | (with_reducible refine Kd.C_alloc ?_ _) | (with_reducible refine Kd.C_drewN ?_ _) | (with_reducible refine Kd.C_drew ?_))); (case side2 => exact HC0.out); (case side3 => repeat (first | exact (Kd.C_below HR1.out HB.out) | (with_reducible refine Kd.C_alloc ?_ _) | (with_reducible refine Kd.C_drewN ?_ _) | (with_reducible refine Kd.C_drew ?_))); (case side4 => exact HC1.out); rintro e w30 ⟨rfl, hb⟩; replace HB := hb_ HB e0_ hb; (try clear hb); (try clear hb2); (try clear hk); (try clear hi))); try go_wp2_with (first | (go_at_call 36; (with_reducible refine (neumeref24_meets.calls kj15 _ _ l0 _ _ l1 x12_13 false _ ?side1 ?side2 ?side3 ?side4 A27.out).mono ?_); (case side1 => repeat (first | exact (Kd.C_below HR0.out HB.out) | (with_reducible refine Kd.C_alloc ?_ _) | (with_reducible refine Kd.C_drewN ?_ _) | (with_reducible refine Kd.C_drew ?_))); (case side2 => exact HC0.out); (case side3 => repeat (first | exact (Kd.C_below HR1.out HB.out) | (with_reducible refine Kd.C_alloc ?_ _) | (with_reducible refine Kd.C_drewN ?_ _) | (with_reducible refine Kd.C_drew ?_))); (case side4 => exact HC1.out); rintro e w30 ⟨rfl, hb⟩; replace HB := hb_ HB e0_ hb; (try clear hb); (try clear hb2); (try clear hk); (try clear hi))))
                     go_roundg kj15
                     case measure => have := HK1.out; have := HJ5.out; have := HK3.out; have := HJ13.out; have := HJ15.out; omega
                     case rel => exact ⟨(x12_13), (true), (wrap64 (x11_3 + 1)), (by first | rfl | (simp; done) | (simp [*]; done) | (simp [bne]; done)), (by first | rfl | (simp; done) | (simp [*]; done) | (simp [bne]; done)), (by first | rfl | (simp; done) | (simp [*]; done) | (simp [bne]; done)), H', ⟨by have := HK1.out; have := HJ5.out; have := HK3.out; have := HJ13.out; have := HJ15.out; omega⟩, ⟨by repeat (first | (with_reducible first | exact HB.out | apply ba_ | apply pd_ | apply d1_) | exact HB.out)⟩⟩
                  ·rw [if_neg c21] at H
                   have c21b0 : decide (x12_13 < x8_3) = false := df_ c21
                   clear c21
                   by_cases c31 : x9_3 = true
                   ·subst c31
                    have H1 : (neumeref24_push.l1 kj15 l0 l1 true x8_3 true x10_1 (wrap64 (x11_3 + 1))) = some (r1, r2) := by rw [if_pos rfl] at H; exact H
                    clear H; have H := H1; clear H1
                    have H' := sd_ H
                    clear H
                    go_wp2
                    repeat (go_quiet (fail); try go_wp2)
                    go_roundg kj15
                    case measure => have := HK1.out; have := HJ5.out; have := HK3.out; have := HJ13.out; have := HJ15.out; omega
                    case rel => exact ⟨(x8_3), (true), (wrap64 (x11_3 + 1)), (by first | rfl | (simp; done) | (simp [*]; done) | (simp [bne]; done)), (by first | rfl | (simp; done) | (simp [*]; done) | (simp [bne]; done)), (by first | rfl | (simp; done) | (simp [*]; done) | (simp [bne]; done)), H', ⟨by have := HK1.out; have := HJ5.out; have := HK3.out; have := HJ13.out; have := HJ15.out; omega⟩, ⟨by repeat (first | (with_reducible first | exact HB.out | apply ba_ | apply pd_ | apply d1_) | exact HB.out)⟩⟩
                   ·replace c31 := bf_ c31
                    subst c31
                    have H1 : ((neumeref24_meets.f kj15 l0 l1 x12_13).bind fun t247 => (if t247 = true then (neumeref24_push.l1 kj15 l0 l1 true x8_3 false x10_1 (wrap64 (x11_3 + 1))) else (neumeref24_push.l1 kj15 l0 l1 true x12_13 true x10_1 (wrap64 (x11_3 + 1))))) = some (r1, r2) := by rw [if_neg (show ¬ (false = true) by decide)] at H; exact H
                    clear H; have H := H1; clear H1
                    replace H := ob_ H
                    obtain ⟨t247, A320, H⟩ := H
                    replace H : (if t247 = true then (neumeref24_push.l1 kj15 l0 l1 true x8_3 false x10_1 (wrap64 (x11_3 + 1))) else (neumeref24_push.l1 kj15 l0 l1 true x12_13 true x10_1 (wrap64 (x11_3 + 1)))) = some (r1, r2) := H
                    have A32 := sd_ A320
                    clear A320
                    by_cases c33 : t247 = true
                    ·subst c33
                     have H1 : (neumeref24_push.l1 kj15 l0 l1 true x8_3 false x10_1 (wrap64 (x11_3 + 1))) = some (r1, r2) := by rw [if_pos rfl] at H; exact H
                     clear H; have H := H1; clear H1
                     have H' := sd_ H
                     clear H
                     go_wp2_with (first | (go_at_call 36; (with_reducible refine (neumeref24_meets.calls kj15 _ _ l0 _ _ l1 x12_13 true _ ?side1 ?side2 ?side3 ?side4 A32.out).mono ?_); (case side1 => repeat (first | exact (Kd.C_below HR0.out HB.out) | (with_reducible refine Kd.C_alloc ?_ _) | (with_reducible refine Kd.C_drewN ?_ _) | (with_reducible refine Kd.C_drew ?_))); (case side2 => exact HC0.out); (case side3 => repeat (first | exact (Kd.C_below HR1.out HB.out) | (with_reducible refine Kd.C_alloc ?_ _) | (with_reducible refine Kd.C_drewN ?_ _) | (with_reducible refine Kd.C_drew ?_))); (case side4 => exact HC1.out); rintro e w34 ⟨rfl, hb⟩; replace HB := hb_ HB e0_ hb; (try clear hb); (try clear hb2); (try clear hk); (try clear hi)))
                     repeat (go_quiet (first | (go_at_call 36; (with_reducible refine (neumeref24_meets.calls kj15 _ _ l0 _ _ l1 x12_13 true _ ?side1 ?side2 ?side3 ?side4 A32.out).mono ?_); (case side1 => repeat (first | exact (Kd.C_below HR0.out HB.out) | (with_reducible refine Kd.C_alloc ?_ _) | (with_reducible refine Kd.C_drewN ?_ _) | (with_reducible refine Kd.C_drew ?_))); (case side2 => exact HC0.out); (case side3 => repeat (first | exact (Kd.C_below HR1.out HB.out) | (with_reducible refine Kd.C_alloc ?_ _) | (with_reducible refine Kd.C_drewN ?_ _) | (with_reducible refine Kd.C_drew ?_))); (case side4 => exact HC1.out); rintro e w34 ⟨rfl, hb⟩; replace HB := hb_ HB e0_ hb; (try clear hb); (try clear hb2); (try clear hk); (try clear hi))); try go_wp2_with (first | (go_at_call 36; (with_reducible refine (neumeref24_meets.calls kj15 _ _ l0 _ _ l1 x12_13 true _ ?side1 ?side2 ?side3 ?side4 A32.out).mono ?_); (case side1 => repeat (first | exact (Kd.C_below HR0.out HB.out) | (with_reducible refine Kd.C_alloc ?_ _) | (with_reducible refine Kd.C_drewN ?_ _) | (with_reducible refine Kd.C_drew ?_))); (case side2 => exact HC0.out); (case side3 => repeat (first | exact (Kd.C_below HR1.out HB.out) | (with_reducible refine Kd.C_alloc ?_ _) | (with_reducible refine Kd.C_drewN ?_ _) | (with_reducible refine Kd.C_drew ?_))); (case side4 => exact HC1.out); rintro e w34 ⟨rfl, hb⟩; replace HB := hb_ HB e0_ hb; (try clear hb); (try clear hb2); (try clear hk); (try clear hi))))
                     go_roundg kj15
                     case measure => have := HK1.out; have := HJ5.out; have := HK3.out; have := HJ13.out; have := HJ15.out; omega
                     case rel => exact ⟨(x8_3), (false), (wrap64 (x11_3 + 1)), (by first | rfl | (simp; done) | (simp [*]; done) | (simp [bne]; done)), (by first | rfl | (simp; done) | (simp [*]; done) | (simp [bne]; done)), (by first | rfl | (simp; done) | (simp [*]; done) | (simp [bne]; done)), H', ⟨by have := HK1.out; have := HJ5.out; have := HK3.out; have := HJ13.out; have := HJ15.out; omega⟩, ⟨by repeat (first | (with_reducible first | exact HB.out | apply ba_ | apply pd_ | apply d1_) | exact HB.out)⟩⟩
                    ·replace c33 := bf_ c33
                     subst c33
                     have H1 : (neumeref24_push.l1 kj15 l0 l1 true x12_13 true x10_1 (wrap64 (x11_3 + 1))) = some (r1, r2) := by rw [if_neg (show ¬ (false = true) by decide)] at H; exact H
                     clear H; have H := H1; clear H1
                     have H' := sd_ H
                     clear H
                     go_wp2_with (first | (go_at_call 36; (with_reducible refine (neumeref24_meets.calls kj15 _ _ l0 _ _ l1 x12_13 false _ ?side1 ?side2 ?side3 ?side4 A32.out).mono ?_); (case side1 => repeat (first | exact (Kd.C_below HR0.out HB.out) | (with_reducible refine Kd.C_alloc ?_ _) | (with_reducible refine Kd.C_drewN ?_ _) | (with_reducible refine Kd.C_drew ?_))); (case side2 => exact HC0.out); (case side3 => repeat (first | exact (Kd.C_below HR1.out HB.out) | (with_reducible refine Kd.C_alloc ?_ _) | (with_reducible refine Kd.C_drewN ?_ _) | (with_reducible refine Kd.C_drew ?_))); (case side4 => exact HC1.out); rintro e w35 ⟨rfl, hb⟩; replace HB := hb_ HB e0_ hb; (try clear hb); (try clear hb2); (try clear hk); (try clear hi)))
                     repeat (go_quiet (first | (go_at_call 36; (with_reducible refine (neumeref24_meets.calls kj15 _ _ l0 _ _ l1 x12_13 false _ ?side1 ?side2 ?side3 ?side4 A32.out).mono ?_); (case side1 => repeat (first | exact (Kd.C_below HR0.out HB.out) | (with_reducible refine Kd.C_alloc ?_ _) | (with_reducible refine Kd.C_drewN ?_ _) | (with_reducible refine Kd.C_drew ?_))); (case side2 => exact HC0.out); (case side3 => repeat (first | exact (Kd.C_below HR1.out HB.out) | (with_reducible refine Kd.C_alloc ?_ _) | (with_reducible refine Kd.C_drewN ?_ _) | (with_reducible refine Kd.C_drew ?_))); (case side4 => exact HC1.out); rintro e w35 ⟨rfl, hb⟩; replace HB := hb_ HB e0_ hb; (try clear hb); (try clear hb2); (try clear hk); (try clear hi))); try go_wp2_with (first | (go_at_call 36; (with_reducible refine (neumeref24_meets.calls kj15 _ _ l0 _ _ l1 x12_13 false _ ?side1 ?side2 ?side3 ?side4 A32.out).mono ?_); (case side1 => repeat (first | exact (Kd.C_below HR0.out HB.out) | (with_reducible refine Kd.C_alloc ?_ _) | (with_reducible refine Kd.C_drewN ?_ _) | (with_reducible refine Kd.C_drew ?_))); (case side2 => exact HC0.out); (case side3 => repeat (first | exact (Kd.C_below HR1.out HB.out) | (with_reducible refine Kd.C_alloc ?_ _) | (with_reducible refine Kd.C_drewN ?_ _) | (with_reducible refine Kd.C_drew ?_))); (case side4 => exact HC1.out); rintro e w35 ⟨rfl, hb⟩; replace HB := hb_ HB e0_ hb; (try clear hb); (try clear hb2); (try clear hk); (try clear hi))))
                     go_roundg kj15
                     case measure => have := HK1.out; have := HJ5.out; have := HK3.out; have := HJ13.out; have := HJ15.out; omega
                     case rel => exact ⟨(x12_13), (true), (wrap64 (x11_3 + 1)), (by first | rfl | (simp; done) | (simp [*]; done) | (simp [bne]; done)), (by first | rfl | (simp; done) | (simp [*]; done) | (simp [bne]; done)), (by first | rfl | (simp; done) | (simp [*]; done) | (simp [bne]; done)), H', ⟨by have := HK1.out; have := HJ5.out; have := HK3.out; have := HJ13.out; have := HJ15.out; omega⟩, ⟨by repeat (first | (with_reducible first | exact HB.out | apply ba_ | apply pd_ | apply d1_) | exact HB.out)⟩⟩
                 ·replace c20 := bf_ c20
                  subst c20
                  have H1 : (if x9_3 = true then (if x12_13 > x8_3 then ((neumeref24_meets.f kj15 l0 l1 x12_13).bind fun t248 => (if t248 = true then (neumeref24_push.l1 kj15 l0 l1 false x8_3 x9_3 x10_1 (wrap64 (x11_3 + 1))) else (neumeref24_push.l1 kj15 l0 l1 false x12_13 true x10_1 (wrap64 (x11_3 + 1))))) else (neumeref24_push.l1 kj15 l0 l1 false x8_3 x9_3 x10_1 (wrap64 (x11_3 + 1)))) else ((neumeref24_meets.f kj15 l0 l1 x12_13).bind fun t249 => (if t249 = true then (neumeref24_push.l1 kj15 l0 l1 false x8_3 x9_3 x10_1 (wrap64 (x11_3 + 1))) else (neumeref24_push.l1 kj15 l0 l1 false x12_13 true x10_1 (wrap64 (x11_3 + 1)))))) = some (r1, r2) := by rw [if_neg (show ¬ (false = true) by decide)] at H; exact H
                  clear H; have H := H1; clear H1
                  by_cases c36 : x9_3 = true
                  ·subst c36
                   have H1 : (if x12_13 > x8_3 then ((neumeref24_meets.f kj15 l0 l1 x12_13).bind fun t248 => (if t248 = true then (neumeref24_push.l1 kj15 l0 l1 false x8_3 true x10_1 (wrap64 (x11_3 + 1))) else (neumeref24_push.l1 kj15 l0 l1 false x12_13 true x10_1 (wrap64 (x11_3 + 1))))) else (neumeref24_push.l1 kj15 l0 l1 false x8_3 true x10_1 (wrap64 (x11_3 + 1)))) = some (r1, r2) := by rw [if_pos rfl] at H; exact H
                   clear H; have H := H1; clear H1
                   by_cases c37 : x12_13 > x8_3
                   ·rw [if_pos c37] at H
                    have c37b0 : decide (x8_3 < x12_13) = true := dt_ c37
                    clear c37
                    replace H := ob_ H
                    obtain ⟨t248, A380, H⟩ := H
                    replace H : (if t248 = true then (neumeref24_push.l1 kj15 l0 l1 false x8_3 true x10_1 (wrap64 (x11_3 + 1))) else (neumeref24_push.l1 kj15 l0 l1 false x12_13 true x10_1 (wrap64 (x11_3 + 1)))) = some (r1, r2) := H
                    have A38 := sd_ A380
                    clear A380
                    by_cases c39 : t248 = true
                    ·subst c39
                     have H1 : (neumeref24_push.l1 kj15 l0 l1 false x8_3 true x10_1 (wrap64 (x11_3 + 1))) = some (r1, r2) := by rw [if_pos rfl] at H; exact H
                     clear H; have H := H1; clear H1
                     have H' := sd_ H
                     clear H
                     go_wp2_with (first | (go_at_call 36; (with_reducible refine (neumeref24_meets.calls kj15 _ _ l0 _ _ l1 x12_13 true _ ?side1 ?side2 ?side3 ?side4 A38.out).mono ?_); (case side1 => repeat (first | exact (Kd.C_below HR0.out HB.out) | (with_reducible refine Kd.C_alloc ?_ _) | (with_reducible refine Kd.C_drewN ?_ _) | (with_reducible refine Kd.C_drew ?_))); (case side2 => exact HC0.out); (case side3 => repeat (first | exact (Kd.C_below HR1.out HB.out) | (with_reducible refine Kd.C_alloc ?_ _) | (with_reducible refine Kd.C_drewN ?_ _) | (with_reducible refine Kd.C_drew ?_))); (case side4 => exact HC1.out); rintro e w40 ⟨rfl, hb⟩; replace HB := hb_ HB e0_ hb; (try clear hb); (try clear hb2); (try clear hk); (try clear hi)))
                     repeat (go_quiet (first | (go_at_call 36; (with_reducible refine (neumeref24_meets.calls kj15 _ _ l0 _ _ l1 x12_13 true _ ?side1 ?side2 ?side3 ?side4 A38.out).mono ?_); (case side1 => repeat (first | exact (Kd.C_below HR0.out HB.out) | (with_reducible refine Kd.C_alloc ?_ _) | (with_reducible refine Kd.C_drewN ?_ _) | (with_reducible refine Kd.C_drew ?_))); (case side2 => exact HC0.out); (case side3 => repeat (first | exact (Kd.C_below HR1.out HB.out) | (with_reducible refine Kd.C_alloc ?_ _) | (with_reducible refine Kd.C_drewN ?_ _) | (with_reducible refine Kd.C_drew ?_))); (case side4 => exact HC1.out); rintro e w40 ⟨rfl, hb⟩; replace HB := hb_ HB e0_ hb; (try clear hb); (try clear hb2); (try clear hk); (try clear hi))); try go_wp2_with (first | (go_at_call 36; (with_reducible refine (neumeref24_meets.calls kj15 _ _ l0 _ _ l1 x12_13 true _ ?side1 ?side2 ?side3 ?side4 A38.out).mono ?_); (case side1 => repeat (first | exact (Kd.C_below HR0.out HB.out) | (with_reducible refine Kd.C_alloc ?_ _) | (with_reducible refine Kd.C_drewN ?_ _) | (with_reducible refine Kd.C_drew ?_))); (case side2 => exact HC0.out); (case side3 => repeat (first | exact (Kd.C_below HR1.out HB.out) | (with_reducible refine Kd.C_alloc ?_ _) | (with_reducible refine Kd.C_drewN ?_ _) | (with_reducible refine Kd.C_drew ?_))); (case side4 => exact HC1.out); rintro e w40 ⟨rfl, hb⟩; replace HB := hb_ HB e0_ hb; (try clear hb); (try clear hb2); (try clear hk); (try clear hi))))
                     go_roundg kj15
                     case measure => have := HK1.out; have := HJ5.out; have := HK3.out; have := HJ13.out; have := HJ15.out; omega
                     case rel => exact ⟨(x8_3), (true), (wrap64 (x11_3 + 1)), (by first | rfl | (simp; done) | (simp [*]; done) | (simp [bne]; done)), (by first | rfl | (simp; done) | (simp [*]; done) | (simp [bne]; done)), (by first | rfl | (simp; done) | (simp [*]; done) | (simp [bne]; done)), H', ⟨by have := HK1.out; have := HJ5.out; have := HK3.out; have := HJ13.out; have := HJ15.out; omega⟩, ⟨by repeat (first | (with_reducible first | exact HB.out | apply ba_ | apply pd_ | apply d1_) | exact HB.out)⟩⟩
                    ·replace c39 := bf_ c39
                     subst c39
                     have H1 : (neumeref24_push.l1 kj15 l0 l1 false x12_13 true x10_1 (wrap64 (x11_3 + 1))) = some (r1, r2) := by rw [if_neg (show ¬ (false = true) by decide)] at H; exact H
                     clear H; have H := H1; clear H1
                     have H' := sd_ H
                     clear H
                     go_wp2_with (first | (go_at_call 36; (with_reducible refine (neumeref24_meets.calls kj15 _ _ l0 _ _ l1 x12_13 false _ ?side1 ?side2 ?side3 ?side4 A38.out).mono ?_); (case side1 => repeat (first | exact (Kd.C_below HR0.out HB.out) | (with_reducible refine Kd.C_alloc ?_ _) | (with_reducible refine Kd.C_drewN ?_ _) | (with_reducible refine Kd.C_drew ?_))); (case side2 => exact HC0.out); (case side3 => repeat (first | exact (Kd.C_below HR1.out HB.out) | (with_reducible refine Kd.C_alloc ?_ _) | (with_reducible refine Kd.C_drewN ?_ _) | (with_reducible refine Kd.C_drew ?_))); (case side4 => exact HC1.out); rintro e w41 ⟨rfl, hb⟩; replace HB := hb_ HB e0_ hb; (try clear hb); (try clear hb2); (try clear hk); (try clear hi)))
                     repeat (go_quiet (first | (go_at_call 36; (with_reducible refine (neumeref24_meets.calls kj15 _ _ l0 _ _ l1 x12_13 false _ ?side1 ?side2 ?side3 ?side4 A38.out).mono ?_); (case side1 => repeat (first | exact (Kd.C_below HR0.out HB.out) | (with_reducible refine Kd.C_alloc ?_ _) | (with_reducible refine Kd.C_drewN ?_ _) | (with_reducible refine Kd.C_drew ?_))); (case side2 => exact HC0.out); (case side3 => repeat (first | exact (Kd.C_below HR1.out HB.out) | (with_reducible refine Kd.C_alloc ?_ _) | (with_reducible refine Kd.C_drewN ?_ _) | (with_reducible refine Kd.C_drew ?_))); (case side4 => exact HC1.out); rintro e w41 ⟨rfl, hb⟩; replace HB := hb_ HB e0_ hb; (try clear hb); (try clear hb2); (try clear hk); (try clear hi))); try go_wp2_with (first | (go_at_call 36; (with_reducible refine (neumeref24_meets.calls kj15 _ _ l0 _ _ l1 x12_13 false _ ?side1 ?side2 ?side3 ?side4 A38.out).mono ?_); (case side1 => repeat (first | exact (Kd.C_below HR0.out HB.out) | (with_reducible refine Kd.C_alloc ?_ _) | (with_reducible refine Kd.C_drewN ?_ _) | (with_reducible refine Kd.C_drew ?_))); (case side2 => exact HC0.out); (case side3 => repeat (first | exact (Kd.C_below HR1.out HB.out) | (with_reducible refine Kd.C_alloc ?_ _) | (with_reducible refine Kd.C_drewN ?_ _) | (with_reducible refine Kd.C_drew ?_))); (case side4 => exact HC1.out); rintro e w41 ⟨rfl, hb⟩; replace HB := hb_ HB e0_ hb; (try clear hb); (try clear hb2); (try clear hk); (try clear hi))))
                     go_roundg kj15
                     case measure => have := HK1.out; have := HJ5.out; have := HK3.out; have := HJ13.out; have := HJ15.out; omega
                     case rel => exact ⟨(x12_13), (true), (wrap64 (x11_3 + 1)), (by first | rfl | (simp; done) | (simp [*]; done) | (simp [bne]; done)), (by first | rfl | (simp; done) | (simp [*]; done) | (simp [bne]; done)), (by first | rfl | (simp; done) | (simp [*]; done) | (simp [bne]; done)), H', ⟨by have := HK1.out; have := HJ5.out; have := HK3.out; have := HJ13.out; have := HJ15.out; omega⟩, ⟨by repeat (first | (with_reducible first | exact HB.out | apply ba_ | apply pd_ | apply d1_) | exact HB.out)⟩⟩
                   ·rw [if_neg c37] at H
                    have c37b0 : decide (x8_3 < x12_13) = false := df_ c37
                    clear c37
                    have H' := sd_ H
                    clear H
                    go_wp2
                    repeat (go_quiet (fail); try go_wp2)
                    go_roundg kj15
                    case measure => have := HK1.out; have := HJ5.out; have := HK3.out; have := HJ13.out; have := HJ15.out; omega
                    case rel => exact ⟨(x8_3), (true), (wrap64 (x11_3 + 1)), (by first | rfl | (simp; done) | (simp [*]; done) | (simp [bne]; done)), (by first | rfl | (simp; done) | (simp [*]; done) | (simp [bne]; done)), (by first | rfl | (simp; done) | (simp [*]; done) | (simp [bne]; done)), H', ⟨by have := HK1.out; have := HJ5.out; have := HK3.out; have := HJ13.out; have := HJ15.out; omega⟩, ⟨by repeat (first | (with_reducible first | exact HB.out | apply ba_ | apply pd_ | apply d1_) | exact HB.out)⟩⟩
                  ·replace c36 := bf_ c36
                   subst c36
                   have H1 : ((neumeref24_meets.f kj15 l0 l1 x12_13).bind fun t249 => (if t249 = true then (neumeref24_push.l1 kj15 l0 l1 false x8_3 false x10_1 (wrap64 (x11_3 + 1))) else (neumeref24_push.l1 kj15 l0 l1 false x12_13 true x10_1 (wrap64 (x11_3 + 1))))) = some (r1, r2) := by rw [if_neg (show ¬ (false = true) by decide)] at H; exact H
                   clear H; have H := H1; clear H1
                   replace H := ob_ H
                   obtain ⟨t249, A420, H⟩ := H
                   replace H : (if t249 = true then (neumeref24_push.l1 kj15 l0 l1 false x8_3 false x10_1 (wrap64 (x11_3 + 1))) else (neumeref24_push.l1 kj15 l0 l1 false x12_13 true x10_1 (wrap64 (x11_3 + 1)))) = some (r1, r2) := H
                   have A42 := sd_ A420
                   clear A420
                   by_cases c43 : t249 = true
                   ·subst c43
                    have H1 : (neumeref24_push.l1 kj15 l0 l1 false x8_3 false x10_1 (wrap64 (x11_3 + 1))) = some (r1, r2) := by rw [if_pos rfl] at H; exact H
                    clear H; have H := H1; clear H1
                    have H' := sd_ H
                    clear H
                    go_wp2_with (first | (go_at_call 36; (with_reducible refine (neumeref24_meets.calls kj15 _ _ l0 _ _ l1 x12_13 true _ ?side1 ?side2 ?side3 ?side4 A42.out).mono ?_); (case side1 => repeat (first | exact (Kd.C_below HR0.out HB.out) | (with_reducible refine Kd.C_alloc ?_ _) | (with_reducible refine Kd.C_drewN ?_ _) | (with_reducible refine Kd.C_drew ?_))); (case side2 => exact HC0.out); (case side3 => repeat (first | exact (Kd.C_below HR1.out HB.out) | (with_reducible refine Kd.C_alloc ?_ _) | (with_reducible refine Kd.C_drewN ?_ _) | (with_reducible refine Kd.C_drew ?_))); (case side4 => exact HC1.out); rintro e w44 ⟨rfl, hb⟩; replace HB := hb_ HB e0_ hb; (try clear hb); (try clear hb2); (try clear hk); (try clear hi)))
                    repeat (go_quiet (first | (go_at_call 36; (with_reducible refine (neumeref24_meets.calls kj15 _ _ l0 _ _ l1 x12_13 true _ ?side1 ?side2 ?side3 ?side4 A42.out).mono ?_); (case side1 => repeat (first | exact (Kd.C_below HR0.out HB.out) | (with_reducible refine Kd.C_alloc ?_ _) | (with_reducible refine Kd.C_drewN ?_ _) | (with_reducible refine Kd.C_drew ?_))); (case side2 => exact HC0.out); (case side3 => repeat (first | exact (Kd.C_below HR1.out HB.out) | (with_reducible refine Kd.C_alloc ?_ _) | (with_reducible refine Kd.C_drewN ?_ _) | (with_reducible refine Kd.C_drew ?_))); (case side4 => exact HC1.out); rintro e w44 ⟨rfl, hb⟩; replace HB := hb_ HB e0_ hb; (try clear hb); (try clear hb2); (try clear hk); (try clear hi))); try go_wp2_with (first | (go_at_call 36; (with_reducible refine (neumeref24_meets.calls kj15 _ _ l0 _ _ l1 x12_13 true _ ?side1 ?side2 ?side3 ?side4 A42.out).mono ?_); (case side1 => repeat (first | exact (Kd.C_below HR0.out HB.out) | (with_reducible refine Kd.C_alloc ?_ _) | (with_reducible refine Kd.C_drewN ?_ _) | (with_reducible refine Kd.C_drew ?_))); (case side2 => exact HC0.out); (case side3 => repeat (first | exact (Kd.C_below HR1.out HB.out) | (with_reducible refine Kd.C_alloc ?_ _) | (with_reducible refine Kd.C_drewN ?_ _) | (with_reducible refine Kd.C_drew ?_))); (case side4 => exact HC1.out); rintro e w44 ⟨rfl, hb⟩; replace HB := hb_ HB e0_ hb; (try clear hb); (try clear hb2); (try clear hk); (try clear hi))))
                    go_roundg kj15
                    case measure => have := HK1.out; have := HJ5.out; have := HK3.out; have := HJ13.out; have := HJ15.out; omega
                    case rel => exact ⟨(x8_3), (false), (wrap64 (x11_3 + 1)), (by first | rfl | (simp; done) | (simp [*]; done) | (simp [bne]; done)), (by first | rfl | (simp; done) | (simp [*]; done) | (simp [bne]; done)), (by first | rfl | (simp; done) | (simp [*]; done) | (simp [bne]; done)), H', ⟨by have := HK1.out; have := HJ5.out; have := HK3.out; have := HJ13.out; have := HJ15.out; omega⟩, ⟨by repeat (first | (with_reducible first | exact HB.out | apply ba_ | apply pd_ | apply d1_) | exact HB.out)⟩⟩
                   ·replace c43 := bf_ c43
                    subst c43
                    have H1 : (neumeref24_push.l1 kj15 l0 l1 false x12_13 true x10_1 (wrap64 (x11_3 + 1))) = some (r1, r2) := by rw [if_neg (show ¬ (false = true) by decide)] at H; exact H
                    clear H; have H := H1; clear H1
                    have H' := sd_ H
                    clear H
                    go_wp2_with (first | (go_at_call 36; (with_reducible refine (neumeref24_meets.calls kj15 _ _ l0 _ _ l1 x12_13 false _ ?side1 ?side2 ?side3 ?side4 A42.out).mono ?_); (case side1 => repeat (first | exact (Kd.C_below HR0.out HB.out) | (with_reducible refine Kd.C_alloc ?_ _) | (with_reducible refine Kd.C_drewN ?_ _) | (with_reducible refine Kd.C_drew ?_))); (case side2 => exact HC0.out); (case side3 => repeat (first | exact (Kd.C_below HR1.out HB.out) | (with_reducible refine Kd.C_alloc ?_ _) | (with_reducible refine Kd.C_drewN ?_ _) | (with_reducible refine Kd.C_drew ?_))); (case side4 => exact HC1.out); rintro e w45 ⟨rfl, hb⟩; replace HB := hb_ HB e0_ hb; (try clear hb); (try clear hb2); (try clear hk); (try clear hi)))
                    repeat (go_quiet (first | (go_at_call 36; (with_reducible refine (neumeref24_meets.calls kj15 _ _ l0 _ _ l1 x12_13 false _ ?side1 ?side2 ?side3 ?side4 A42.out).mono ?_); (case side1 => repeat (first | exact (Kd.C_below HR0.out HB.out) | (with_reducible refine Kd.C_alloc ?_ _) | (with_reducible refine Kd.C_drewN ?_ _) | (with_reducible refine Kd.C_drew ?_))); (case side2 => exact HC0.out); (case side3 => repeat (first | exact (Kd.C_below HR1.out HB.out) | (with_reducible refine Kd.C_alloc ?_ _) | (with_reducible refine Kd.C_drewN ?_ _) | (with_reducible refine Kd.C_drew ?_))); (case side4 => exact HC1.out); rintro e w45 ⟨rfl, hb⟩; replace HB := hb_ HB e0_ hb; (try clear hb); (try clear hb2); (try clear hk); (try clear hi))); try go_wp2_with (first | (go_at_call 36; (with_reducible refine (neumeref24_meets.calls kj15 _ _ l0 _ _ l1 x12_13 false _ ?side1 ?side2 ?side3 ?side4 A42.out).mono ?_); (case side1 => repeat (first | exact (Kd.C_below HR0.out HB.out) | (with_reducible refine Kd.C_alloc ?_ _) | (with_reducible refine Kd.C_drewN ?_ _) | (with_reducible refine Kd.C_drew ?_))); (case side2 => exact HC0.out); (case side3 => repeat (first | exact (Kd.C_below HR1.out HB.out) | (with_reducible refine Kd.C_alloc ?_ _) | (with_reducible refine Kd.C_drewN ?_ _) | (with_reducible refine Kd.C_drew ?_))); (case side4 => exact HC1.out); rintro e w45 ⟨rfl, hb⟩; replace HB := hb_ HB e0_ hb; (try clear hb); (try clear hb2); (try clear hk); (try clear hi))))
                    go_roundg kj15
                    case measure => have := HK1.out; have := HJ5.out; have := HK3.out; have := HJ13.out; have := HJ15.out; omega
                    case rel => exact ⟨(x12_13), (true), (wrap64 (x11_3 + 1)), (by first | rfl | (simp; done) | (simp [*]; done) | (simp [bne]; done)), (by first | rfl | (simp; done) | (simp [*]; done) | (simp [bne]; done)), (by first | rfl | (simp; done) | (simp [*]; done) | (simp [bne]; done)), H', ⟨by have := HK1.out; have := HJ5.out; have := HK3.out; have := HJ13.out; have := HJ15.out; omega⟩, ⟨by repeat (first | (with_reducible first | exact HB.out | apply ba_ | apply pd_ | apply d1_) | exact HB.out)⟩⟩
           ·rw [if_neg c13] at H
            exact absurd H (by simp)
          ·rw [if_neg c12] at H
           exact absurd H (by simp)
         ·rw [if_neg c11] at H
          exact absurd H (by simp)
        ·rw [if_neg c10] at H
         have c10b0 : decide (x11_3 < (l1.length : Int)) = false := df_ c10
         clear c10
         have H' := sd_ H
         clear H
         go_wp2
         repeat (go_quiet (fail); try go_wp2)
         go_roundg k3
         case measure => have := HK1.out; have := HJ5.out; have := HK3.out; omega
         case rel => exact ⟨(x8_3), (x9_3), (wrap64 (x10_1 + 1)), (by first | rfl | (simp; done) | (simp [*]; done) | (simp [bne]; done)), (by first | rfl | (simp; done) | (simp [*]; done) | (simp [bne]; done)), (by first | rfl | (simp; done) | (simp [*]; done) | (simp [bne]; done)), H', ⟨by have := HK1.out; have := HJ5.out; have := HK3.out; omega⟩, ⟨by repeat (first | (with_reducible first | exact HB.out | apply ba_ | apply pd_ | apply d1_) | exact HB.out)⟩⟩
     ·replace c9 := bf_ c9
      subst c9
      have H1 : (neumeref24_push.l2 kj5 l1 x8_1 0) = some (r1, r2) := by rw [if_neg (show ¬ (false = true) by decide)] at H; exact H
      clear H; have H := H1; clear H1
      have H' := sd_ H
      clear H
      go_wp2
      repeat (go_quiet (fail); try go_wp2)
      go_loopg [14] kj5 (fun kq v14 w' => ∃ (x14_3 : Int), v14 = .int .i64 x14_3 ∧ Aside0 (neumeref24_push.l2 kq l1 x8_1 x14_3 = some (r1, r2)) ∧ Aside0 (kq ≤ kj5) ∧ Aside0 (Below w.heap.size w w'))
      case atStart => exact ⟨(0), (by first | rfl | (simp; done) | (simp [*]; done) | (simp [bne]; done)), H', ⟨Nat.le_refl _⟩, ⟨by repeat (first | (with_reducible first | exact HB.out | apply ba_ | apply pd_ | apply d1_) | exact HB.out)⟩⟩
      case round =>
       clear H'
       try clear c1; try clear c2; try clear p2; try clear q2; try clear hx2; try clear c3; try clear c4; try clear p6; try clear c7; try clear c7b0; try clear c8; try clear c9; try clear c10; try clear c10b0; try clear c11; try clear c11b0; try clear c12; try clear c12b0; try clear c13; try clear c13b0; try clear c15; try clear c17; try clear c18; try clear c18b0; try clear c19; try clear c20; try clear c21; try clear c21b0; try clear c22; try clear c24; try clear p24; try clear q24; try clear hx24; try clear c28; try clear c31; try clear c33; try clear c36; try clear c37; try clear c37b0; try clear c39; try clear c43; try clear hx241_0; try clear hx241_1; try clear hx241_2; try clear hx241_3; try clear hx242_0; try clear hx242_1; try clear hx242_2; try clear hx242_3; try clear hx243_0; try clear hx243_1; try clear hx243_2; try clear hx243_3; try clear hx244_0; try clear hx244_1; try clear hx244_2; try clear hx244_3; try clear p2; try clear p241; try clear p242; try clear p243; try clear p244; try clear p6; try clear q2; try clear q241; try clear q242; try clear q243; try clear q244
       obtain ⟨x14_3, rfl, HA, HK3, HB⟩ := hrel
       cases gk with
       | zero => exact absurd HA.out (by simp [neumeref24_push.l2])
       | succ k3 =>
        have H := HA.out
        clear HA
        simp only [neumeref24_push.l2] at H
        by_cases c46 : x14_3 < (l1.length : Int)
        ·rw [if_pos c46] at H
         have c46b0 : decide (x14_3 < (l1.length : Int)) = true := dt_ c46
         clear c46
         by_cases c47 : 0 ≤ x14_3
         ·rw [if_pos c47] at H
          have c47b0 : decide (0 ≤ x14_3) = true := dt_ c47
          clear c47
          replace H := ob_ H
          obtain ⟨⟨t251, t252, t253, t254⟩, A480, H⟩ := H
          replace H : ((neumeref24_near.f t251 t252 t253 t254).bind fun t255 => (if t255 = true then (neumeref24_push.l2 k3 l1 x8_1 (wrap64 (x14_3 + 1))) else (some (0, 3)))) = some (r1, r2) := H
          have A48 := sd_ A480
          clear A480
          replace H := ob_ H
          obtain ⟨t255, A490, H⟩ := H
          replace H : (if t255 = true then (neumeref24_push.l2 k3 l1 x8_1 (wrap64 (x14_3 + 1))) else (some (0, 3))) = some (r1, r2) := H
          have A49 := sd_ A490
          clear A490
          by_cases c50 : t255 = true
          ·subst c50
           have H1 : (neumeref24_push.l2 k3 l1 x8_1 (wrap64 (x14_3 + 1))) = some (r1, r2) := by rw [if_pos rfl] at H; exact H
           clear H; have H := H1; clear H1
           have H' := sd_ H
           clear H
           have p250 : 0 ≤ (x14_3 : Int) := od_ (by first | (with_reducible assumption) | assumption)
           have q250 : x14_3 < (l1.length : Int) := od_ (by first | (with_reducible assumption) | assumption)
           obtain ⟨ad250, e250, hx250_0, hx250_1, hx250_2, hx250_3⟩ := at_T45 HR1.out x14_3 p250 q250
           cases e250
           replace hx250_0 := (HB.out.cell (wb_ w _ hx250_0)).trans hx250_0
           replace hx250_1 := (HB.out.cell (wb_ w _ hx250_1)).trans hx250_1
           replace hx250_2 := (HB.out.cell (wb_ w _ hx250_2)).trans hx250_2
           replace hx250_3 := (HB.out.cell (wb_ w _ hx250_3)).trans hx250_3
           replace p250 := eq_true p250
           replace q250 := eq_true q250
           go_wp2_with (first | (go_at_call 25; (with_reducible refine (neumeref24_moved.calls ((rd_T45 l1 x14_3).f0) ((rd_T45 l1 x14_3).f1) ((rd_T45 l1 x14_3).f2) ((rd_T45 l1 x14_3).f3) x8_1 t251 t252 t253 t254 _ A48.out).mono ?_); rintro e w51 ⟨rfl, hb⟩; replace HB := hb_ HB e0_ hb; (try clear hb); (try clear hb2); (try clear hk); (try clear hi)) | (go_at_call 35; (with_reducible refine (neumeref24_near.calls t251 t252 t253 t254 true _ A49.out).mono ?_); rintro e w52 ⟨rfl, hb⟩; replace HB := hb_ HB e0_ hb; (try clear hb); (try clear hb2); (try clear hk); (try clear hi)))
           repeat (go_quiet (first | (go_at_call 25; (with_reducible refine (neumeref24_moved.calls ((rd_T45 l1 x14_3).f0) ((rd_T45 l1 x14_3).f1) ((rd_T45 l1 x14_3).f2) ((rd_T45 l1 x14_3).f3) x8_1 t251 t252 t253 t254 _ A48.out).mono ?_); rintro e w51 ⟨rfl, hb⟩; replace HB := hb_ HB e0_ hb; (try clear hb); (try clear hb2); (try clear hk); (try clear hi)) | (go_at_call 35; (with_reducible refine (neumeref24_near.calls t251 t252 t253 t254 true _ A49.out).mono ?_); rintro e w52 ⟨rfl, hb⟩; replace HB := hb_ HB e0_ hb; (try clear hb); (try clear hb2); (try clear hk); (try clear hi))); try go_wp2_with (first | (go_at_call 25; (with_reducible refine (neumeref24_moved.calls ((rd_T45 l1 x14_3).f0) ((rd_T45 l1 x14_3).f1) ((rd_T45 l1 x14_3).f2) ((rd_T45 l1 x14_3).f3) x8_1 t251 t252 t253 t254 _ A48.out).mono ?_); rintro e w51 ⟨rfl, hb⟩; replace HB := hb_ HB e0_ hb; (try clear hb); (try clear hb2); (try clear hk); (try clear hi)) | (go_at_call 35; (with_reducible refine (neumeref24_near.calls t251 t252 t253 t254 true _ A49.out).mono ?_); rintro e w52 ⟨rfl, hb⟩; replace HB := hb_ HB e0_ hb; (try clear hb); (try clear hb2); (try clear hk); (try clear hi))))
           go_roundg k3
           case measure => have := HK1.out; have := HJ5.out; have := HK3.out; omega
           case rel => exact ⟨(wrap64 (x14_3 + 1)), (by first | rfl | (simp; done) | (simp [*]; done) | (simp [bne]; done)), H', ⟨by have := HK1.out; have := HJ5.out; have := HK3.out; omega⟩, ⟨by repeat (first | (with_reducible first | exact HB.out | apply ba_ | apply pd_ | apply d1_) | exact HB.out)⟩⟩
          ·replace c50 := bf_ c50
           subst c50
           have H1 : (some (0, 3)) = some (r1, r2) := by rw [if_neg (show ¬ (false = true) by decide)] at H; exact H
           clear H; have H := H1; clear H1
           simp only [Option.some.injEq, Prod.mk.injEq] at H
           obtain ⟨rfl, rfl⟩ := H
           have p250 : 0 ≤ (x14_3 : Int) := od_ (by first | (with_reducible assumption) | assumption)
           have q250 : x14_3 < (l1.length : Int) := od_ (by first | (with_reducible assumption) | assumption)
           obtain ⟨ad250, e250, hx250_0, hx250_1, hx250_2, hx250_3⟩ := at_T45 HR1.out x14_3 p250 q250
           cases e250
           replace hx250_0 := (HB.out.cell (wb_ w _ hx250_0)).trans hx250_0
           replace hx250_1 := (HB.out.cell (wb_ w _ hx250_1)).trans hx250_1
           replace hx250_2 := (HB.out.cell (wb_ w _ hx250_2)).trans hx250_2
           replace hx250_3 := (HB.out.cell (wb_ w _ hx250_3)).trans hx250_3
           replace p250 := eq_true p250
           replace q250 := eq_true q250
           go_wp2_with (first | (go_at_call 25; (with_reducible refine (neumeref24_moved.calls ((rd_T45 l1 x14_3).f0) ((rd_T45 l1 x14_3).f1) ((rd_T45 l1 x14_3).f2) ((rd_T45 l1 x14_3).f3) x8_1 t251 t252 t253 t254 _ A48.out).mono ?_); rintro e w53 ⟨rfl, hb⟩; replace HB := hb_ HB e0_ hb; (try clear hb); (try clear hb2); (try clear hk); (try clear hi)) | (go_at_call 35; (with_reducible refine (neumeref24_near.calls t251 t252 t253 t254 false _ A49.out).mono ?_); rintro e w54 ⟨rfl, hb⟩; replace HB := hb_ HB e0_ hb; (try clear hb); (try clear hb2); (try clear hk); (try clear hi)))
           repeat (go_quiet (first | (go_at_call 25; (with_reducible refine (neumeref24_moved.calls ((rd_T45 l1 x14_3).f0) ((rd_T45 l1 x14_3).f1) ((rd_T45 l1 x14_3).f2) ((rd_T45 l1 x14_3).f3) x8_1 t251 t252 t253 t254 _ A48.out).mono ?_); rintro e w53 ⟨rfl, hb⟩; replace HB := hb_ HB e0_ hb; (try clear hb); (try clear hb2); (try clear hk); (try clear hi)) | (go_at_call 35; (with_reducible refine (neumeref24_near.calls t251 t252 t253 t254 false _ A49.out).mono ?_); rintro e w54 ⟨rfl, hb⟩; replace HB := hb_ HB e0_ hb; (try clear hb); (try clear hb2); (try clear hk); (try clear hi))); try go_wp2_with (first | (go_at_call 25; (with_reducible refine (neumeref24_moved.calls ((rd_T45 l1 x14_3).f0) ((rd_T45 l1 x14_3).f1) ((rd_T45 l1 x14_3).f2) ((rd_T45 l1 x14_3).f3) x8_1 t251 t252 t253 t254 _ A48.out).mono ?_); rintro e w53 ⟨rfl, hb⟩; replace HB := hb_ HB e0_ hb; (try clear hb); (try clear hb2); (try clear hk); (try clear hi)) | (go_at_call 35; (with_reducible refine (neumeref24_near.calls t251 t252 t253 t254 false _ A49.out).mono ?_); rintro e w54 ⟨rfl, hb⟩; replace HB := hb_ HB e0_ hb; (try clear hb); (try clear hb2); (try clear hk); (try clear hi))))
           go_ret2
           exact ⟨by first | rfl | (simp [errW_none, errW_some] <;> rfl) | (simp [*, errW_none, errW_some] <;> rfl), by repeat (first | (with_reducible first | exact HB.out | apply ba_ | apply pd_ | apply d1_) | exact HB.out)⟩
         ·rw [if_neg c47] at H
          exact absurd H (by simp)
        ·rw [if_neg c46] at H
         have c46b0 : decide (x14_3 < (l1.length : Int)) = false := df_ c46
         clear c46
         simp only [Option.some.injEq, Prod.mk.injEq] at H
         obtain ⟨rfl, rfl⟩ := H
         go_wp2
         repeat (go_quiet (fail); try go_wp2)
         go_ret2
         exact ⟨by first | rfl | (simp [errW_none, errW_some] <;> rfl) | (simp [*, errW_none, errW_some] <;> rfl), by repeat (first | (with_reducible first | exact HB.out | apply ba_ | apply pd_ | apply d1_) | exact HB.out)⟩

end Go.Proofs.Ytchmcljinkemaaa.P
