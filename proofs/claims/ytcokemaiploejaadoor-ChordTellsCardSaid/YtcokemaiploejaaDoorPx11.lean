-- Written by a program of this session (wip/tools/xprint.py, over the kit's print): Lean checks it.
import Derived.Test.YtcokemaiploejaaDoorPx0
import Derived.Test.YtcokemaiploejaaDoorPx6
import Derived.Test.YtcokemaiploejaaDoorPx10
namespace Go.Proofs.YtcokemaiploejaaDoor.P
open Go.RowKit Go.Proofs.YtcokemaiploejaaDoorW.PrintWords Go.Proofs.YtcokemaiploejaaDoorW.PrintLast Go.Proofs.YtcokemaiploejaaDoorW.PrintMore
attribute [local go_sem] max2_int min2_int max_two min_two max_three min_three max_four min_four   -- for this text's walks alone
set_option linter.unusedVariables false
set_option linter.unusedSimpArgs false

/-! ### neumeref23_Stem: function 13 -/
def neumeref23_Stem.j0 : Nat → Int → Bool → Bool → Bool → Option (Int × Int)
 | 0, _, _, _, _ => none
 | k + 1, x0, x1, x2, x13 => if x13 = true then (some (0, 2)) else (if x1 = true then ((neumeref23_width.f k x0 x2).bind fun t448 => (some (t448, 0))) else (some (0, 0)))
def neumeref23_Stem.f (k : Nat) (a0 : Int) (a1 : Bool) (a2 : Bool) : Option (Int × Int) := if a0 = 3 then (neumeref23_Stem.j0 k a0 a1 a2 false) else (neumeref23_Stem.j0 k a0 a1 a2 (a0 != 4))
theorem neumeref23_Stem.mono_l : ∀ k, (∀ y0 y1 y2 y3, LeO (neumeref23_Stem.j0 k y0 y1 y2 y3) (neumeref23_Stem.j0 (k + 1) y0 y1 y2 y3))
 | 0 => fun _ _ _ _ r h => by simp [neumeref23_Stem.j0] at h
 | k + 1 => by
  have ih0 := neumeref23_Stem.mono_l k
  ·intro y0 y1 y2 y3
   unfold neumeref23_Stem.j0
   repeat' first
   | (with_reducible exact ih0 _ _ _ _)
   | (with_reducible exact neumeref23_width.mono _ _ _)
   | (with_reducible exact LeO.refl _)
   | (with_reducible exact LeO.none _)
   | (with_reducible refine LeO.ite ?_ ?_)
   | (with_reducible refine LeO.bind ?_ (fun _ => ?_))
   | exact ih0 _ _ _ _
   | exact neumeref23_width.mono _ _ _
   | exact LeO.none _
   | refine LeO.ite ?_ ?_
   | refine LeO.bind ?_ (fun _ => ?_)
theorem neumeref23_Stem.mono : ∀ a0 a1 a2 k, LeO (neumeref23_Stem.f k a0 a1 a2) (neumeref23_Stem.f (k + 1) a0 a1 a2) := by
 intro a0 a1 a2 k
 have ih0 := neumeref23_Stem.mono_l k
 unfold neumeref23_Stem.f
 repeat' first
   | (with_reducible exact ih0 _ _ _ _)
   | (with_reducible exact neumeref23_width.mono _ _ _)
   | (with_reducible exact LeO.refl _)
   | (with_reducible exact LeO.none _)
   | (with_reducible refine LeO.ite ?_ ?_)
   | (with_reducible refine LeO.bind ?_ (fun _ => ?_))
   | exact ih0 _ _ _ _
   | exact neumeref23_width.mono _ _ _
   | exact LeO.none _
   | refine LeO.ite ?_ ?_
   | refine LeO.bind ?_ (fun _ => ?_)
set_option maxHeartbeats 8000000 in
set_option maxRecDepth 100000 in
theorem neumeref23_Stem.calls (k : Nat) (a0 : Int) (a1 : Bool) (a2 : Bool) (r1 : Int) (r2 : Int) (w : World) (h : neumeref23_Stem.f k a0 a1 a2 = some (r1, r2)) :
  Calls Tryd.prog 13 #[.int .i64 a0, .bool a1, .bool a2] w fun e w' => e = .returned (.tuple #[.int .i64 r1, .int .i64 r2]) ∧ Below w.heap.size w w' := by
 have HB := sd_ (Below.refl w.heap.size w)
 have H : (if a0 = 3 then (neumeref23_Stem.j0 k a0 a1 a2 false) else (neumeref23_Stem.j0 k a0 a1 a2 (a0 != 4))) = some (r1, r2) := h
 clear h
 have HC4 := sd_ H
 clear H
 go_enter Tryd.func13, Tryd.ntmps13
 go_upto_region 1 with (fail)
 go_cut [13] (fun v13 wc => ∃ (kq : Nat) (x13_3 : Bool), v13 = .bool x13_3 ∧ Aside0 (neumeref23_Stem.j0 kq a0 a1 a2 x13_3 = some (r1, r2)) ∧ Aside0 (kq ≤ k) ∧ Aside0 (Below w.heap.size w wc))
 case first =>
  have H := HC4.out
  clear HC4
  by_cases c5 : a0 = 3
  ·rw [if_pos c5] at H
   have c5b0 : (a0 == 3) = true := beq_iff_eq.mpr c5
   have c5b1 : (a0 != 3) = false := bne_eq_false_iff_eq.mpr c5
   clear c5
   (first | rw [c5b0] | (simp only [i64_w, i32_w]; rw [c5b0]) | skip)
   have H' := sd_ H
   clear H
   go_wp2
   go_meet
   case rel => exact ⟨_, (false), (by first | rfl | (simp; done) | (simp [*]; done) | (simp [bne]; done)), H', ⟨by first | omega | exact Nat.le_refl _⟩, ⟨by repeat (first | (with_reducible first | exact HB.out | apply ba_ | apply pd_ | apply d1_) | exact HB.out)⟩⟩
  ·rw [if_neg c5] at H
   have c5b0 : (a0 == 3) = false := beq_eq_false_iff_ne.mpr c5
   have c5b1 : (a0 != 3) = true := bne_iff_ne.mpr c5
   (first | rw [c5b0] | (simp only [i64_w, i32_w]; rw [c5b0]) | skip)
   have H' := sd_ H
   clear H
   go_wp2
   go_meet
   case rel => exact ⟨_, ((a0 != 4)), (by first | rfl | (simp; done) | (simp [*]; done) | (simp [bne]; done)), H', ⟨by first | omega | exact Nat.le_refl _⟩, ⟨by repeat (first | (with_reducible first | exact HB.out | apply ba_ | apply pd_ | apply d1_) | exact HB.out)⟩⟩
 case rest =>
  clear HC4
  try clear c1; try clear p2; try clear c5; try clear c5b0; try clear c5b1
  obtain ⟨kq, x13_3, rfl, HA, HJ3, HB⟩ := hcut
  cases kq with
  | zero => exact absurd HA.out (by simp [neumeref23_Stem.j0])
  | succ kj3 =>
   have H := HA.out
   clear HA
   simp only [neumeref23_Stem.j0] at H
   by_cases c6 : x13_3 = true
   ·subst c6
    have H1 : (some (0, 2)) = some (r1, r2) := by rw [if_pos rfl] at H; exact H
    clear H; have H := H1; clear H1
    simp only [Option.some.injEq, Prod.mk.injEq] at H
    obtain ⟨rfl, rfl⟩ := H
    go_wp2
    go_ret2
    exact ⟨by first | rfl | (simp [errW_none, errW_some] <;> rfl) | (simp [*, errW_none, errW_some] <;> rfl), by repeat (first | (with_reducible first | exact HB.out | apply ba_ | apply pd_ | apply d1_) | exact HB.out)⟩
   ·replace c6 := bf_ c6
    subst c6
    have H1 : (if a1 = true then ((neumeref23_width.f kj3 a0 a2).bind fun t448 => (some (t448, 0))) else (some (0, 0))) = some (r1, r2) := by rw [if_neg (show ¬ (false = true) by decide)] at H; exact H
    clear H; have H := H1; clear H1
    by_cases c7 : a1 = true
    ·subst c7
     have H1 : ((neumeref23_width.f kj3 a0 a2).bind fun t448 => (some (t448, 0))) = some (r1, r2) := by rw [if_pos rfl] at H; exact H
     clear H; have H := H1; clear H1
     replace H := ob_ H
     obtain ⟨t448, A80, H⟩ := H
     replace H : (some (t448, 0)) = some (r1, r2) := H
     have A8 := sd_ A80
     clear A80
     simp only [Option.some.injEq, Prod.mk.injEq] at H
     obtain ⟨rfl, rfl⟩ := H
     go_wp2_with (first | ((with_reducible refine gate_callee (f := 27) rfl ?_); refine goesL_ (some 17) rfl rfl Tryd.func27 (by kernel_rfl) rfl #[.int .i64 a0, .bool a2] rfl (by (try simp only [lm_, lq_, lx_]); first | done | rfl | (simp only [ld_, lt_]; rfl)) ?_; (with_reducible refine (neumeref23_width.calls kj3 a0 a2 t448 _ A8.out).mono ?_); rintro e w9 ⟨rfl, hb⟩; refine ⟨_, rfl, ?_⟩; replace HB := hb_ HB e0_ hb; (try clear hb); (try clear hb2); (try clear hk); (try clear hi)))
     go_ret2
     exact ⟨by first | rfl | (simp [errW_none, errW_some] <;> rfl) | (simp [*, errW_none, errW_some] <;> rfl), by repeat (first | (with_reducible first | exact HB.out | apply ba_ | apply pd_ | apply d1_) | exact HB.out)⟩
    ·replace c7 := bf_ c7
     subst c7
     have H1 : (some (0, 0)) = some (r1, r2) := by rw [if_neg (show ¬ (false = true) by decide)] at H; exact H
     clear H; have H := H1; clear H1
     simp only [Option.some.injEq, Prod.mk.injEq] at H
     obtain ⟨rfl, rfl⟩ := H
     go_wp2
     go_ret2
     exact ⟨by first | rfl | (simp [errW_none, errW_some] <;> rfl) | (simp [*, errW_none, errW_some] <;> rfl), by repeat (first | (with_reducible first | exact HB.out | apply ba_ | apply pd_ | apply d1_) | exact HB.out)⟩

/-! ### neumeref23_Boxes: function 15 -/
mutual
def neumeref23_Boxes.j0 : Nat → List Int → List Int → Int → Bool → Bool → Option ((List (S46)) × Int)
 | 0, _, _, _, _, _ => none
 | k + 1, x0, x1, x2, x3, x29 => if x29 = true then (some (([] : List (S46)), 2)) else ((neumeref05_Extent.f k x2 x3).bind fun bt451 => (neumeref23_Boxes.l0 k x0 x1 ([] : List (S46)) 0 bt451.1 bt451.2.1 bt451.2.2.1 bt451.2.2.2.1))
def neumeref23_Boxes.l0 : Nat → List Int → List Int → List (S46) → Int → Int → Int → Int → Int → Option ((List (S46)) × Int)
 | 0, _, _, _, _, _, _, _, _ => none
 | k + 1, x0, x1, x12, x13, x457000, x457001, x457002, x457003 => if x13 < (x0.length : Int) then (if 0 ≤ x13 then (if x13 < (x1.length : Int) then (if (rd x1 x13) < (-1073741824) then (some (([] : List (S46)), 2)) else (if (rd x1 x13) > 1073741824 then (some (([] : List (S46)), 2)) else (if x12.length < 4398046511104 then (neumeref23_Boxes.l0 k x0 x1 (x12 ++ [(⟨wrap64 (x457000 + (rd x1 x13)), wrap64 (x457001 + (wrap64 (512 * (rd x0 x13)))), wrap64 (x457002 + (rd x1 x13)), wrap64 (x457003 + (wrap64 (512 * (rd x0 x13))))⟩ : S46)]) (wrap64 (x13 + 1)) x457000 x457001 x457002 x457003) else (none)))) else (none)) else (none)) else (some (x12, 0))
end
def neumeref23_Boxes.f (k : Nat) (l0 : List Int) (l1 : List Int) (a2 : Int) (a3 : Bool) : Option ((List (S46)) × Int) := (neumeref23_fits.f k l0).bind fun t449 => (if t449 = true then ((neumeref23_head.f a2).bind fun t450 => (if t450 = true then (neumeref23_Boxes.j0 k l0 l1 a2 a3 ((l1.length : Int) != (l0.length : Int))) else (neumeref23_Boxes.j0 k l0 l1 a2 a3 true))) else (neumeref23_Boxes.j0 k l0 l1 a2 a3 true))
theorem neumeref23_Boxes.mono_l : ∀ k, (∀ y0 y1 y2 y3 y4, LeO (neumeref23_Boxes.j0 k y0 y1 y2 y3 y4) (neumeref23_Boxes.j0 (k + 1) y0 y1 y2 y3 y4)) ∧ (∀ y0 y1 y2 y3 y4 y5 y6 y7, LeO (neumeref23_Boxes.l0 k y0 y1 y2 y3 y4 y5 y6 y7) (neumeref23_Boxes.l0 (k + 1) y0 y1 y2 y3 y4 y5 y6 y7))
 | 0 => ⟨fun _ _ _ _ _ r h => by simp [neumeref23_Boxes.j0] at h, fun _ _ _ _ _ _ _ _ r h => by simp [neumeref23_Boxes.l0] at h⟩
 | k + 1 => by
  obtain ⟨ih0, ih1⟩ := neumeref23_Boxes.mono_l k
  refine ⟨?_, ?_⟩
  ·intro y0 y1 y2 y3 y4
   unfold neumeref23_Boxes.j0
   repeat' first
   | (with_reducible exact ih0 _ _ _ _ _)
   | (with_reducible exact ih1 _ _ _ _ _ _ _ _)
   | (with_reducible exact neumeref05_Extent.mono _ _ _)
   | (with_reducible exact neumeref23_fits.mono _ _)
   | (with_reducible exact LeO.refl _)
   | (with_reducible exact LeO.none _)
   | (with_reducible refine LeO.ite ?_ ?_)
   | (with_reducible refine LeO.bind ?_ (fun _ => ?_))
   | exact ih0 _ _ _ _ _
   | exact ih1 _ _ _ _ _ _ _ _
   | exact neumeref05_Extent.mono _ _ _
   | exact neumeref23_fits.mono _ _
   | exact LeO.none _
   | refine LeO.ite ?_ ?_
   | refine LeO.bind ?_ (fun _ => ?_)
  ·intro y0 y1 y2 y3 y4 y5 y6 y7
   unfold neumeref23_Boxes.l0
   repeat' first
   | (with_reducible exact ih0 _ _ _ _ _)
   | (with_reducible exact ih1 _ _ _ _ _ _ _ _)
   | (with_reducible exact neumeref05_Extent.mono _ _ _)
   | (with_reducible exact neumeref23_fits.mono _ _)
   | (with_reducible exact LeO.refl _)
   | (with_reducible exact LeO.none _)
   | (with_reducible refine LeO.ite ?_ ?_)
   | (with_reducible refine LeO.bind ?_ (fun _ => ?_))
   | exact ih0 _ _ _ _ _
   | exact ih1 _ _ _ _ _ _ _ _
   | exact neumeref05_Extent.mono _ _ _
   | exact neumeref23_fits.mono _ _
   | exact LeO.none _
   | refine LeO.ite ?_ ?_
   | refine LeO.bind ?_ (fun _ => ?_)
theorem neumeref23_Boxes.mono : ∀ a0 a1 a2 a3 k, LeO (neumeref23_Boxes.f k a0 a1 a2 a3) (neumeref23_Boxes.f (k + 1) a0 a1 a2 a3) := by
 intro a0 a1 a2 a3 k
 obtain ⟨ih0, ih1⟩ := neumeref23_Boxes.mono_l k
 unfold neumeref23_Boxes.f
 repeat' first
   | (with_reducible exact ih0 _ _ _ _ _)
   | (with_reducible exact ih1 _ _ _ _ _ _ _ _)
   | (with_reducible exact neumeref05_Extent.mono _ _ _)
   | (with_reducible exact neumeref23_fits.mono _ _)
   | (with_reducible exact LeO.refl _)
   | (with_reducible exact LeO.none _)
   | (with_reducible refine LeO.ite ?_ ?_)
   | (with_reducible refine LeO.bind ?_ (fun _ => ?_))
   | exact ih0 _ _ _ _ _
   | exact ih1 _ _ _ _ _ _ _ _
   | exact neumeref05_Extent.mono _ _ _
   | exact neumeref23_fits.mono _ _
   | exact LeO.none _
   | refine LeO.ite ?_ ?_
   | refine LeO.bind ?_ (fun _ => ?_)
def neumeref23_Boxes.T11 : Bool × List (List Nat × List Nat) := (true, [([], []), ([], []), ([1], [1]), ([], []), ([], []), ([3, 4], [3, 4]), ([5], [5]), ([2, 6], [2, 6]), ([], []), ([8], [8]), ([], []), ([9, 10], [9, 10]), ([], []), ([12], [12]), ([], []), ([], []), ([14, 15], [14, 15]), ([16], [16]), ([13, 17], [13, 17]), ([], []), ([19], [19]), ([], []), ([20, 21], [20, 21]), ([7, 11, 18, 22], [7, 11, 18, 22]), ([23], [23]), ([0, 24], [0, 24]), ([25, 25, 0, 1, 2, 3, 4, 5, 6, 7, 8, 9, 10, 11, 12, 13, 14, 15, 16, 17, 18, 19, 20, 21, 22, 23, 24, 25], [0, 25])])
def neumeref23_Boxes.B11 : List Nat := [0, 0, 2, 0, 0, 24, 56, 126, 0, 256, 0, 1792, 0, 4096, 0, 0, 49152, 114688, 258048, 0, 524288, 0, 3670016, 8388606, 16777214, 33554431, 67108863]
theorem neumeref23_Boxes.tab11 : rtab .any (opsOf Tryd.f15 11) = neumeref23_Boxes.T11 := by kernel_rfl
theorem neumeref23_Boxes.bits11 : waitsOk neumeref23_Boxes.T11.2 neumeref23_Boxes.B11 = true := by kernel_rfl
set_option maxHeartbeats 8000000 in
set_option maxRecDepth 100000 in
theorem neumeref23_Boxes.calls (k : Nat) (A0 : Option Addr) (c0 : Nat) (l0 : List Int) (A1 : Option Addr) (c1 : Nat) (l1 : List Int) (a2 : Int) (a3 : Bool) (r1 : List (S46)) (r2 : Int) (w : World) (hr0 : Kd.C (Kd.int .i64) w A0 l0.length l0) (hc0 : l0.length ≤ c0) (hr1 : Kd.C (Kd.int .i64) w A1 l1.length l1) (hc1 : l1.length ≤ c1) (h : neumeref23_Boxes.f k l0 l1 a2 a3 = some (r1, r2)) :
  Calls Tryd.prog 15 #[.slice A0 l0.length c0, .slice A1 l1.length c1, .int .i64 a2, .bool a3] w fun e w' => ∃ v0_ : Value, e = .returned (.tuple #[v0_, .int .i64 r2]) ∧ Kd.R k46 46 w' w.heap.size (fun _ => True) v0_ r1 ∧ Below w.heap.size w w' := by
 have hu46 := Tryd.underlying46
 have HR0 := sd_ hr0
 have HC0 := sd_ hc0
 clear hr0 hc0
 have HR1 := sd_ hr1
 have HC1 := sd_ hc1
 clear hr1 hc1
 have HB := sd_ (Below.refl w.heap.size w)
 have H : ((neumeref23_fits.f k l0).bind fun t449 => (if t449 = true then ((neumeref23_head.f a2).bind fun t450 => (if t450 = true then (neumeref23_Boxes.j0 k l0 l1 a2 a3 ((l1.length : Int) != (l0.length : Int))) else (neumeref23_Boxes.j0 k l0 l1 a2 a3 true))) else (neumeref23_Boxes.j0 k l0 l1 a2 a3 true))) = some (r1, r2) := h
 clear h
 have HC5 := sd_ H
 clear H
 go_enter Tryd.func15, Tryd.ntmps15
 go_upto_region 1 with (fail)
 go_cut [29] (fun v29 wc => ∃ (kq : Nat) (x29_4 : Bool), v29 = .bool x29_4 ∧ Aside0 (neumeref23_Boxes.j0 kq l0 l1 a2 a3 x29_4 = some (r1, r2)) ∧ Aside0 (kq ≤ k) ∧ Aside0 (Below w.heap.size w wc))
 case first =>
  have H := HC5.out
  clear HC5
  replace H := ob_ H
  obtain ⟨t449, A60, H⟩ := H
  replace H : (if t449 = true then ((neumeref23_head.f a2).bind fun t450 => (if t450 = true then (neumeref23_Boxes.j0 k l0 l1 a2 a3 ((l1.length : Int) != (l0.length : Int))) else (neumeref23_Boxes.j0 k l0 l1 a2 a3 true))) else (neumeref23_Boxes.j0 k l0 l1 a2 a3 true)) = some (r1, r2) := H
  have A6 := sd_ A60
  clear A60
  by_cases c7 : t449 = true
  ·subst c7
   have H1 : ((neumeref23_head.f a2).bind fun t450 => (if t450 = true then (neumeref23_Boxes.j0 k l0 l1 a2 a3 ((l1.length : Int) != (l0.length : Int))) else (neumeref23_Boxes.j0 k l0 l1 a2 a3 true))) = some (r1, r2) := by rw [if_pos rfl] at H; exact H
   clear H; have H := H1; clear H1
   replace H := ob_ H
   obtain ⟨t450, A80, H⟩ := H
   replace H : (if t450 = true then (neumeref23_Boxes.j0 k l0 l1 a2 a3 ((l1.length : Int) != (l0.length : Int))) else (neumeref23_Boxes.j0 k l0 l1 a2 a3 true)) = some (r1, r2) := H
   have A8 := sd_ A80
   clear A80
   by_cases c9 : t450 = true
   ·subst c9
    have H1 : (neumeref23_Boxes.j0 k l0 l1 a2 a3 ((l1.length : Int) != (l0.length : Int))) = some (r1, r2) := by rw [if_pos rfl] at H; exact H
    clear H; have H := H1; clear H1
    have H' := sd_ H
    clear H
    go_wp2_with (first | ((with_reducible refine gate_callee (f := 23) rfl ?_); refine goesL_ (some 16) rfl rfl Tryd.func23 (by kernel_rfl) rfl #[.slice A0 l0.length c0] rfl (by (try simp only [lm_, lq_, lx_]); first | done | rfl | (simp only [ld_, lt_]; rfl)) ?_; (with_reducible refine (neumeref23_fits.calls k _ _ l0 true _ ?side1 ?side2 A6.out).mono ?_); (case side1 => repeat (first | exact (Kd.C_below HR0.out HB.out) | (with_reducible refine Kd.C_alloc ?_ _) | (with_reducible refine Kd.C_drewN ?_ _) | (with_reducible refine Kd.C_drew ?_))); (case side2 => exact HC0.out); rintro e w' ⟨rfl, ⟨nd, rfl⟩⟩; refine ⟨_, rfl, ?_⟩) | (go_at_call 26; (with_reducible refine (neumeref23_head.calls a2 true _ A8.out).mono ?_); rintro e w' ⟨rfl, ⟨nd, rfl⟩⟩))
    go_meet
    case rel => exact ⟨_, (((l1.length : Int) != (l0.length : Int))), (by first | rfl | (simp; done) | (simp [*]; done) | (simp [bne]; done)), H', ⟨by first | omega | exact Nat.le_refl _⟩, ⟨by repeat (first | (with_reducible first | exact HB.out | apply ba_ | apply pd_ | apply d1_) | exact HB.out)⟩⟩
   ·replace c9 := bf_ c9
    subst c9
    have H1 : (neumeref23_Boxes.j0 k l0 l1 a2 a3 true) = some (r1, r2) := by rw [if_neg (show ¬ (false = true) by decide)] at H; exact H
    clear H; have H := H1; clear H1
    have H' := sd_ H
    clear H
    go_wp2_with (first | ((with_reducible refine gate_callee (f := 23) rfl ?_); refine goesL_ (some 16) rfl rfl Tryd.func23 (by kernel_rfl) rfl #[.slice A0 l0.length c0] rfl (by (try simp only [lm_, lq_, lx_]); first | done | rfl | (simp only [ld_, lt_]; rfl)) ?_; (with_reducible refine (neumeref23_fits.calls k _ _ l0 true _ ?side1 ?side2 A6.out).mono ?_); (case side1 => repeat (first | exact (Kd.C_below HR0.out HB.out) | (with_reducible refine Kd.C_alloc ?_ _) | (with_reducible refine Kd.C_drewN ?_ _) | (with_reducible refine Kd.C_drew ?_))); (case side2 => exact HC0.out); rintro e w' ⟨rfl, ⟨nd, rfl⟩⟩; refine ⟨_, rfl, ?_⟩) | (go_at_call 26; (with_reducible refine (neumeref23_head.calls a2 false _ A8.out).mono ?_); rintro e w' ⟨rfl, ⟨nd, rfl⟩⟩))
    go_meet
    case rel => exact ⟨_, (true), (by first | rfl | (simp; done) | (simp [*]; done) | (simp [bne]; done)), H', ⟨by first | omega | exact Nat.le_refl _⟩, ⟨by repeat (first | (with_reducible first | exact HB.out | apply ba_ | apply pd_ | apply d1_) | exact HB.out)⟩⟩
  ·replace c7 := bf_ c7
   subst c7
   have H1 : (neumeref23_Boxes.j0 k l0 l1 a2 a3 true) = some (r1, r2) := by rw [if_neg (show ¬ (false = true) by decide)] at H; exact H
   clear H; have H := H1; clear H1
   have H' := sd_ H
   clear H
   go_wp2_with (first | ((with_reducible refine gate_callee (f := 23) rfl ?_); refine goesL_ (some 16) rfl rfl Tryd.func23 (by kernel_rfl) rfl #[.slice A0 l0.length c0] rfl (by (try simp only [lm_, lq_, lx_]); first | done | rfl | (simp only [ld_, lt_]; rfl)) ?_; (with_reducible refine (neumeref23_fits.calls k _ _ l0 false _ ?side1 ?side2 A6.out).mono ?_); (case side1 => repeat (first | exact (Kd.C_below HR0.out HB.out) | (with_reducible refine Kd.C_alloc ?_ _) | (with_reducible refine Kd.C_drewN ?_ _) | (with_reducible refine Kd.C_drew ?_))); (case side2 => exact HC0.out); rintro e w' ⟨rfl, ⟨nd, rfl⟩⟩; refine ⟨_, rfl, ?_⟩))
   go_meet
   case rel => exact ⟨_, (true), (by first | rfl | (simp; done) | (simp [*]; done) | (simp [bne]; done)), H', ⟨by first | omega | exact Nat.le_refl _⟩, ⟨by repeat (first | (with_reducible first | exact HB.out | apply ba_ | apply pd_ | apply d1_) | exact HB.out)⟩⟩
 case rest =>
  clear HC5
  try clear c1; try clear c2; try clear p2; try clear c7; try clear c9
  obtain ⟨kq, x29_4, rfl, HA, HJ4, HB⟩ := hcut
  cases kq with
  | zero => exact absurd HA.out (by simp [neumeref23_Boxes.j0])
  | succ kj4 =>
   have H := HA.out
   clear HA
   simp only [neumeref23_Boxes.j0] at H
   by_cases c10 : x29_4 = true
   ·subst c10
    have H1 : (some (([] : List (S46)), 2)) = some (r1, r2) := by rw [if_pos rfl] at H; exact H
    clear H; have H := H1; clear H1
    simp only [Option.some.injEq, Prod.mk.injEq] at H
    obtain ⟨rfl, rfl⟩ := H
    go_wp2
    go_ret2
    exact ⟨_, by first | rfl | (simp [errW_none, errW_some] <;> rfl) | (simp [*, errW_none, errW_some] <;> rfl), by first | exact Kd.R_nil _ _ _ _ _ | exact Kd.N_nil _ _ _ _ _ | exact Kd.V_nil _ _ _ _ _ | exact Kd.Q_nil _ _ _ _ _ | exact Kd.S_nil _ _ _ _ _, by repeat (first | (with_reducible first | exact HB.out | apply ba_ | apply pd_ | apply d1_) | exact HB.out)⟩
   ·replace c10 := bf_ c10
    subst c10
    have H1 : ((neumeref05_Extent.f kj4 a2 a3).bind fun bt451 => (neumeref23_Boxes.l0 kj4 l0 l1 ([] : List (S46)) 0 bt451.1 bt451.2.1 bt451.2.2.1 bt451.2.2.2.1)) = some (r1, r2) := by rw [if_neg (show ¬ (false = true) by decide)] at H; exact H
    clear H; have H := H1; clear H1
    replace H := ob_ H
    obtain ⟨⟨t451, t452, t453, t454, t455⟩, A110, H⟩ := H
    replace H : (neumeref23_Boxes.l0 kj4 l0 l1 ([] : List (S46)) 0 t451 t452 t453 t454) = some (r1, r2) := H
    have A11 := sd_ A110
    clear A110
    have H' := sd_ H
    clear H
    go_wp2_with (first | ((with_reducible refine gate_callee (f := 30) rfl ?_); refine goesL_ (some 33) rfl rfl Tryd.func30 (by kernel_rfl) rfl #[.int .i64 a2, .bool a3] rfl (by (try simp only [lm_, lq_, lx_]); first | done | rfl | (simp only [ld_, lt_]; rfl)) ?_; (with_reducible refine (neumeref05_Extent.calls kj4 a2 a3 t451 t452 t453 t454 t455 _ A11.out).mono ?_); rintro e w12 ⟨rfl, hb⟩; refine ⟨_, rfl, ?_⟩; replace HB := hb_ HB e0_ hb; (try clear hb); (try clear hb2); (try clear hk); (try clear hi)) | ((with_reducible refine gate_dst (N := 10) rfl ?_); (try (refine gate_guard (by rfl) ?_; dsimp only)); refine box_event ?hg (N := 10) ?hd (cs := #[.int .i64 0, .int .i64 0, .int .i64 0, .int .i64 0]) (t := 46) ?hr ?_; (case hd => rfl); (case hg => rfl); (case hr => first | (go_simp; done) | (go_simp; rfl)); intro gb456 hg w13 hbox hb; have BK456 := sd_ hbox; have GW456 := gw_ HB e0_ hg; have GE456 := GW456; replace HB := hb_ HB e0_ hb; clear hb hbox hg; have hcz14_0 : w13.cell? ⟨gb456, 0, none⟩ = some (.int .i64 0) := (kc_ BK456.out 0).trans rfl; have hcz14_1 : w13.cell? ⟨gb456, 1, none⟩ = some (.int .i64 0) := (kc_ BK456.out 1).trans rfl; have hcz14_2 : w13.cell? ⟨gb456, 2, none⟩ = some (.int .i64 0) := (kc_ BK456.out 2).trans rfl; have hcz14_3 : w13.cell? ⟨gb456, 3, none⟩ = some (.int .i64 0) := (kc_ BK456.out 3).trans rfl; have hfz14_0 := kf_ BK456.out 0; have hfz14_1 := kf_ BK456.out 1; have hfz14_2 := kf_ BK456.out 2; have hfz14_3 := kf_ BK456.out 3))
    go_loopg [12, 13] kj4 (fun kq v12 v13 w' => ∃ (x12_2 : List (S46)) (x13_2 : Int), v13 = .int .i64 x13_2 ∧ Aside0 (neumeref23_Boxes.l0 kq l0 l1 x12_2 x13_2 t451 t452 t453 t454 = some (r1, r2)) ∧ Aside0 (kq ≤ kj4) ∧ Aside0 (Kd.R k46 46 w' w.heap.size (fun k_ => k_ ≠ gb456) v12 x12_2) ∧ Aside0 (w'.heap[gb456]? = some (.cells #[.int .i64 t451, .int .i64 t452, .int .i64 t453, .int .i64 t454] 46 (0, 0))) ∧ Aside0 (Below w.heap.size w w'))
    case atStart => exact ⟨(([] : List (S46))), (0), (by first | rfl | (simp; done) | (simp [*]; done) | (simp [bne]; done)), H', ⟨Nat.le_refl _⟩, ⟨by first | exact Kd.R_nil _ _ _ _ _ | exact Kd.N_nil _ _ _ _ _ | exact Kd.V_nil _ _ _ _ _ | exact Kd.Q_nil _ _ _ _ _ | exact Kd.S_nil _ _ _ _ _⟩, ⟨by (with_reducible repeat first | apply kn_ | apply kd_ | apply ka_); refine blk_put (cs := #[.int .i64 t451, .int .i64 t452, .int .i64 t453, .int .i64 0]) ?_ 3 _ rfl; (with_reducible repeat first | apply kn_ | apply kd_ | apply ka_); refine blk_put (cs := #[.int .i64 t451, .int .i64 t452, .int .i64 0, .int .i64 0]) ?_ 2 _ rfl; (with_reducible repeat first | apply kn_ | apply kd_ | apply ka_); refine blk_put (cs := #[.int .i64 t451, .int .i64 0, .int .i64 0, .int .i64 0]) ?_ 1 _ rfl; (with_reducible repeat first | apply kn_ | apply kd_ | apply ka_); refine blk_put (cs := #[.int .i64 0, .int .i64 0, .int .i64 0, .int .i64 0]) ?_ 0 _ rfl; (with_reducible repeat first | apply kn_ | apply kd_ | apply ka_); exact BK456.out⟩, ⟨by repeat (first | (with_reducible first | exact HB.out | apply ba_ | apply pd_ | apply d1_ | refine bs_ ?_ GE456.out) | exact HB.out)⟩⟩
    case round =>
     clear H'
     try clear c1; try clear c2; try clear p2; try clear c3; try clear c7; try clear c9; try clear c10; try clear hcz14_0; try clear hcz14_1; try clear hcz14_2; try clear hcz14_3; try clear hfz14_0; try clear hfz14_1; try clear hfz14_2; try clear hfz14_3; try clear p2
     obtain ⟨x12_2, x13_2, rfl, HA, HK2, HO_12, BK456, HB⟩ := hrel
     cases gk with
     | zero => exact absurd HA.out (by simp [neumeref23_Boxes.l0])
     | succ k2 =>
      have H := HA.out
      clear HA
      simp only [neumeref23_Boxes.l0] at H
      by_cases c15 : x13_2 < (l0.length : Int)
      ·rw [if_pos c15] at H
       have c15b0 : decide (x13_2 < (l0.length : Int)) = true := dt_ c15
       clear c15
       by_cases c16 : 0 ≤ x13_2
       ·rw [if_pos c16] at H
        have c16b0 : decide (0 ≤ x13_2) = true := dt_ c16
        clear c16
        by_cases c17 : x13_2 < (l1.length : Int)
        ·rw [if_pos c17] at H
         have c17b0 : decide (x13_2 < (l1.length : Int)) = true := dt_ c17
         clear c17
         by_cases c18 : (rd l1 x13_2) < (-1073741824)
         ·rw [if_pos c18] at H
          have c18b0 : decide ((rd l1 x13_2) < (-1073741824)) = true := dt_ c18
          clear c18
          simp only [Option.some.injEq, Prod.mk.injEq] at H
          obtain ⟨rfl, rfl⟩ := H
          have p457 : 0 ≤ (x13_2 : Int) := od_ (by first | (with_reducible assumption) | assumption)
          have q457 : x13_2 < (l1.length : Int) := od_ (by first | (with_reducible assumption) | assumption)
          obtain ⟨ad457, e457, hx457_0⟩ := Kd.at_int HR1.out x13_2 p457 q457
          cases e457
          replace hx457_0 := (HB.out.cell (wb_ w _ hx457_0)).trans hx457_0
          replace p457 := eq_true p457
          replace q457 := eq_true q457
          go_wp2
          go_ret2
          exact ⟨_, by first | rfl | (simp [errW_none, errW_some] <;> rfl) | (simp [*, errW_none, errW_some] <;> rfl), by first | exact Kd.R_nil _ _ _ _ _ | exact Kd.N_nil _ _ _ _ _ | exact Kd.V_nil _ _ _ _ _ | exact Kd.Q_nil _ _ _ _ _ | exact Kd.S_nil _ _ _ _ _, by repeat (first | (with_reducible first | exact HB.out | apply ba_ | apply pd_ | apply d1_ | refine bs_ ?_ GE456.out) | exact HB.out)⟩
         ·rw [if_neg c18] at H
          have c18b0 : decide ((rd l1 x13_2) < (-1073741824)) = false := df_ c18
          clear c18
          by_cases c19 : (rd l1 x13_2) > 1073741824
          ·rw [if_pos c19] at H
           have c19b0 : decide (1073741824 < (rd l1 x13_2)) = true := dt_ c19
           clear c19
           simp only [Option.some.injEq, Prod.mk.injEq] at H
           obtain ⟨rfl, rfl⟩ := H
           have p457 : 0 ≤ (x13_2 : Int) := od_ (by first | (with_reducible assumption) | assumption)
           have q457 : x13_2 < (l1.length : Int) := od_ (by first | (with_reducible assumption) | assumption)
           obtain ⟨ad457, e457, hx457_0⟩ := Kd.at_int HR1.out x13_2 p457 q457
           cases e457
           replace hx457_0 := (HB.out.cell (wb_ w _ hx457_0)).trans hx457_0
           replace p457 := eq_true p457
           replace q457 := eq_true q457
           have p458 : 0 ≤ (x13_2 : Int) := od_ (by first | (with_reducible assumption) | assumption)
           have q458 : x13_2 < (l1.length : Int) := od_ (by first | (with_reducible assumption) | assumption)
           obtain ⟨ad458, e458, hx458_0⟩ := Kd.at_int HR1.out x13_2 p458 q458
           obtain rfl : ad457 = ad458 := (by injection e458)
           replace hx458_0 := (HB.out.cell (wb_ w _ hx458_0)).trans hx458_0
           replace p458 := eq_true p458
           replace q458 := eq_true q458
           go_wp2
           go_ret2
           exact ⟨_, by first | rfl | (simp [errW_none, errW_some] <;> rfl) | (simp [*, errW_none, errW_some] <;> rfl), by first | exact Kd.R_nil _ _ _ _ _ | exact Kd.N_nil _ _ _ _ _ | exact Kd.V_nil _ _ _ _ _ | exact Kd.Q_nil _ _ _ _ _ | exact Kd.S_nil _ _ _ _ _, by repeat (first | (with_reducible first | exact HB.out | apply ba_ | apply pd_ | apply d1_ | refine bs_ ?_ GE456.out) | exact HB.out)⟩
          ·rw [if_neg c19] at H
           have c19b0 : decide (1073741824 < (rd l1 x13_2)) = false := df_ c19
           clear c19
           by_cases c20 : x12_2.length < 4398046511104
           ·rw [if_pos c20] at H
            have LMc20 := sd_ c20
            clear c20
            obtain ⟨y462, hy462⟩ : ∃ y_ : List (S46), y_ = (x12_2 ++ [(⟨wrap64 (t451 + (rd l1 x13_2)), wrap64 (t452 + (wrap64 (512 * (rd l0 x13_2)))), wrap64 (t453 + (rd l1 x13_2)), wrap64 (t454 + (wrap64 (512 * (rd l0 x13_2))))⟩ : S46)]) := ⟨_, rfl⟩
            replace H : (neumeref23_Boxes.l0 k2 l0 l1 y462 (wrap64 (x13_2 + 1)) t451 t452 t453 t454) = some (r1, r2) := by first | (rw [hy462]; with_reducible exact H) | (have H2_ := (Option.bind_some _ _).symm.trans H; rw [hy462]; with_reducible exact H2_) | (have H2_ := (Option.bind_some _ _).symm.trans H; with_reducible exact H2_) | with_reducible exact H | (rw [hy462]; exact H) | exact H
            have Ny462 := sd_ hy462
            clear hy462
            have H' := sd_ H
            clear H
            have p457 : 0 ≤ (x13_2 : Int) := od_ (by first | (with_reducible assumption) | assumption)
            have q457 : x13_2 < (l1.length : Int) := od_ (by first | (with_reducible assumption) | assumption)
            obtain ⟨ad457, e457, hx457_0⟩ := Kd.at_int HR1.out x13_2 p457 q457
            cases e457
            replace hx457_0 := (HB.out.cell (wb_ w _ hx457_0)).trans hx457_0
            replace p457 := eq_true p457
            replace q457 := eq_true q457
            have p458 : 0 ≤ (x13_2 : Int) := od_ (by first | (with_reducible assumption) | assumption)
            have q458 : x13_2 < (l1.length : Int) := od_ (by first | (with_reducible assumption) | assumption)
            obtain ⟨ad458, e458, hx458_0⟩ := Kd.at_int HR1.out x13_2 p458 q458
            obtain rfl : ad457 = ad458 := (by injection e458)
            replace hx458_0 := (HB.out.cell (wb_ w _ hx458_0)).trans hx458_0
            replace p458 := eq_true p458
            replace q458 := eq_true q458
            have p459 : 0 ≤ (x13_2 : Int) := od_ (by first | (with_reducible assumption) | assumption)
            have q459 : x13_2 < (l0.length : Int) := od_ (by first | (with_reducible assumption) | assumption)
            obtain ⟨ad459, e459, hx459_0⟩ := Kd.at_int HR0.out x13_2 p459 q459
            cases e459
            replace hx459_0 := (HB.out.cell (wb_ w _ hx459_0)).trans hx459_0
            replace p459 := eq_true p459
            replace q459 := eq_true q459
            try go_wp2
            replace HO_12 := sd_ (Kd.R_drew HO_12.out)
            replace BK456 := sd_ (kd_ BK456.out)
            replace HB := sd_ (d1_ HB.out)
            have p460 : 0 ≤ (x13_2 : Int) := od_ (by first | (with_reducible assumption) | assumption)
            have q460 : x13_2 < (l1.length : Int) := od_ (by first | (with_reducible assumption) | assumption)
            obtain ⟨ad460, e460, hx460_0⟩ := Kd.at_int HR1.out x13_2 p460 q460
            have hw460_0 := hx460_0
            obtain rfl : ad457 = ad460 := (by injection e460)
            replace hx460_0 := (HB.out.cell (wb_ w _ hx460_0)).trans hx460_0
            replace p460 := eq_true p460
            replace q460 := eq_true q460
            have p461 : 0 ≤ (x13_2 : Int) := od_ (by first | (with_reducible assumption) | assumption)
            have q461 : x13_2 < (l1.length : Int) := od_ (by first | (with_reducible assumption) | assumption)
            obtain ⟨ad461, e461, hx461_0⟩ := Kd.at_int HR1.out x13_2 p461 q461
            have hw461_0 := hx461_0
            obtain rfl : ad457 = ad461 := (by injection e461)
            replace hx461_0 := (HB.out.cell (wb_ w _ hx461_0)).trans hx461_0
            replace p461 := eq_true p461
            replace q461 := eq_true q461
            refine start_ (n := 27) (S := fun w' => w'.cell? ⟨gb456, 0, none⟩ = some (.int .i64 t451) ∧ w'.cell? ⟨gb456, 1, none⟩ = some (.int .i64 t452) ∧ w'.cell? ⟨gb456, 2, none⟩ = some (.int .i64 t453) ∧ w'.cell? ⟨gb456, 3, none⟩ = some (.int .i64 t454) ∧ w'.cell? (ad457.add (x13_2).toNat) = some (.int .i64 (rd l1 x13_2)) ∧ w'.cell? (ad457.add (x13_2).toNat) = some (.int .i64 (rd l1 x13_2))) (ds := []) (Array.replicate 27 false) (by kernel_rfl) rfl rfl ⟨(kc_ BK456.out 0).trans rfl, (kc_ BK456.out 1).trans rfl, (kc_ BK456.out 2).trans rfl, (kc_ BK456.out 3).trans rfl, ((HB.out.cell (wb_ w _ hw460_0)).trans hw460_0), ((HB.out.cell (wb_ w _ hw461_0)).trans hw461_0)⟩ (fun hHeld => ?_); refine with_tabW neumeref23_Boxes.tab11 neumeref23_Boxes.bits11 (fun HT_ HW_ => ?_)
            generalize wr.drew = w21 at HO_12 BK456 HB hx460_0 hx461_0 hHeld ⊢
            refine pu_ (v := ?_) (a' := ?_) 0 59 (bz 27 1) rfl rfl HT_ (by kernel_rfl) (fun _ _ _ h => h) (by rfl) ?_ ?_ ?_
            rotate_left; (intro w'; go_simp; with_reducible rfl); rotate_left; (simp only [Act.put, ls_, lz_, lc_, i64_w, i32_w]; rfl)
            refine pu_ (v := ?_) (a' := ?_) 1 60 (bz 27 3) rfl rfl HT_ (by kernel_rfl) (fun _ _ _ h => h) (by rfl) ?_ ?_ ?_
            rotate_left; (intro w'; go_simp; with_reducible rfl); rotate_left; (simp only [Act.put, ls_, lz_, lc_, i64_w, i32_w]; rfl)
            refine pu_ (v := ?_) (a' := ?_) 3 62 (bz 27 11) rfl rfl HT_ (by kernel_rfl) (fun _ _ _ h => h) (by rfl) ?_ ?_ ?_
            rotate_left; (intro w'; go_simp; with_reducible rfl); rotate_left; (simp only [Act.put, ls_, lz_, lc_, i64_w, i32_w]; rfl)
            refine pu_ (v := ?_) (a' := ?_) 4 63 (bz 27 27) rfl rfl HT_ (by kernel_rfl) (fun _ _ _ h => h) (by rfl) ?_ ?_ ?_
            rotate_left; (intro w'; go_simp; with_reducible rfl); rotate_left; (simp only [Act.put, ls_, lz_, lc_, i64_w, i32_w]; rfl)
            refine pu_ (v := ?_) (a' := ?_) 5 64 (bz 27 59) rfl rfl HT_ (by kernel_rfl) (fun _ _ _ h => h) (by rfl) ?_ ?_ ?_
            rotate_left; (intro w'; go_simp; with_reducible rfl); rotate_left; (simp only [Act.put, ls_, lz_, lc_, i64_w, i32_w]; rfl)
            refine pu_ (v := ?_) (a' := ?_) 8 67 (bz 27 315) rfl rfl HT_ (by kernel_rfl) (fun _ _ _ h => h) (by rfl) ?_ ?_ ?_
            rotate_left; (intro w'; go_simp; with_reducible rfl); rotate_left; (simp only [Act.put, ls_, lz_, lc_, i64_w, i32_w]; rfl)
            refine pu_ (v := ?_) (a' := ?_) 10 69 (bz 27 1339) rfl rfl HT_ (by kernel_rfl) (fun _ _ _ h => h) (by rfl) ?_ ?_ ?_
            rotate_left; (intro w'; go_simp; with_reducible rfl); rotate_left; (simp only [Act.put, ls_, lz_, lc_, i64_w, i32_w]; rfl)
            refine pu_ (v := ?_) (a' := ?_) 12 71 (bz 27 5435) rfl rfl HT_ (by kernel_rfl) (fun _ _ _ h => h) (by rfl) ?_ ?_ ?_
            rotate_left; (intro w'; go_simp; with_reducible rfl); rotate_left; (simp only [Act.put, ls_, lz_, lc_, i64_w, i32_w]; rfl)
            refine pu_ (v := ?_) (a' := ?_) 14 73 (bz 27 21819) rfl rfl HT_ (by kernel_rfl) (fun _ _ _ h => h) (by rfl) ?_ ?_ ?_
            rotate_left; (intro w'; go_simp; with_reducible rfl); rotate_left; (simp only [Act.put, ls_, lz_, lc_, i64_w, i32_w]; rfl)
            refine pu_ (v := ?_) (a' := ?_) 15 74 (bz 27 54587) rfl rfl HT_ (by kernel_rfl) (fun _ _ _ h => h) (by rfl) ?_ ?_ ?_
            rotate_left; (intro w'; go_simp; with_reducible rfl); rotate_left; (simp only [Act.put, ls_, lz_, lc_, i64_w, i32_w]; rfl)
            refine pu_ (v := ?_) (a' := ?_) 16 75 (bz 27 120123) rfl rfl HT_ (by kernel_rfl) (fun _ _ _ h => h) (by rfl) ?_ ?_ ?_
            rotate_left; (intro w'; go_simp; with_reducible rfl); rotate_left; (simp only [Act.put, ls_, lz_, lc_, i64_w, i32_w]; rfl)
            refine pu_ (v := ?_) (a' := ?_) 19 78 (bz 27 644411) rfl rfl HT_ (by kernel_rfl) (fun _ _ _ h => h) (by rfl) ?_ ?_ ?_
            rotate_left; (intro w'; go_simp; with_reducible rfl); rotate_left; (simp only [Act.put, ls_, lz_, lc_, i64_w, i32_w]; rfl)
            refine pu_ (v := ?_) (a' := ?_) 21 80 (bz 27 2741563) rfl rfl HT_ (by kernel_rfl) (fun _ _ _ h => h) (by rfl) ?_ ?_ ?_
            rotate_left; (intro w'; go_simp; with_reducible rfl); rotate_left; (simp only [Act.put, ls_, lz_, lc_, i64_w, i32_w]; rfl)
            refine ta_ (v := ?_) (a' := ?_) 2 61 (bz 27 2741567) rfl rfl HT_ HW_ (by kernel_rfl) (fun _ _ _ h => h) (by rfl) ?_ hHeld ?_ ?_
            rotate_left
            ·rintro w' ⟨s0, s1, s2, s3, s4, s5⟩
             go_simp
             with_reducible rfl
            rotate_left
            ·simp only [Act.put, ls_, lz_, lc_, i64_w, i32_w]
             rfl
            refine ta_ (v := ?_) (a' := ?_) 6 65 (bz 27 2741631) rfl rfl HT_ HW_ (by kernel_rfl) (fun _ _ _ h => h) (by rfl) ?_ hHeld ?_ ?_
            rotate_left
            ·rintro w' ⟨s0, s1, s2, s3, s4, s5⟩
             go_simp
             with_reducible rfl
            rotate_left
            ·simp only [Act.put, ls_, lz_, lc_, i64_w, i32_w]
             rfl
            refine pu_ (v := ?_) (a' := ?_) 7 66 (bz 27 2741759) rfl rfl HT_ (by kernel_rfl) (fun _ _ _ h => h) (by rfl) ?_ ?_ ?_
            rotate_left; (intro w'; go_simp; with_reducible rfl); rotate_left; (simp only [Act.put, ls_, lz_, lc_, i64_w, i32_w]; rfl)
            refine ta_ (v := ?_) (a' := ?_) 9 68 (bz 27 2742271) rfl rfl HT_ HW_ (by kernel_rfl) (fun _ _ _ h => h) (by rfl) ?_ hHeld ?_ ?_
            rotate_left
            ·rintro w' ⟨s0, s1, s2, s3, s4, s5⟩
             go_simp
             with_reducible rfl
            rotate_left
            ·simp only [Act.put, ls_, lz_, lc_, i64_w, i32_w]
             rfl
            refine pu_ (v := ?_) (a' := ?_) 11 70 (bz 27 2744319) rfl rfl HT_ (by kernel_rfl) (fun _ _ _ h => h) (by rfl) ?_ ?_ ?_
            rotate_left; (intro w'; go_simp; with_reducible rfl); rotate_left; (simp only [Act.put, ls_, lz_, lc_, i64_w, i32_w]; rfl)
            refine ta_ (v := ?_) (a' := ?_) 13 72 (bz 27 2752511) rfl rfl HT_ HW_ (by kernel_rfl) (fun _ _ _ h => h) (by rfl) ?_ hHeld ?_ ?_
            rotate_left
            ·rintro w' ⟨s0, s1, s2, s3, s4, s5⟩
             go_simp
             with_reducible rfl
            rotate_left
            ·simp only [Act.put, ls_, lz_, lc_, i64_w, i32_w]
             rfl
            refine ta_ (v := ?_) (a' := ?_) 17 76 (bz 27 2883583) rfl rfl HT_ HW_ (by kernel_rfl) (fun _ _ _ h => h) (by rfl) ?_ hHeld ?_ ?_
            rotate_left
            ·rintro w' ⟨s0, s1, s2, s3, s4, s5⟩
             go_simp
             with_reducible rfl
            rotate_left
            ·simp only [Act.put, ls_, lz_, lc_, i64_w, i32_w]
             rfl
            refine pu_ (v := ?_) (a' := ?_) 18 77 (bz 27 3145727) rfl rfl HT_ (by kernel_rfl) (fun _ _ _ h => h) (by rfl) ?_ ?_ ?_
            rotate_left; (intro w'; go_simp; with_reducible rfl); rotate_left; (simp only [Act.put, ls_, lz_, lc_, i64_w, i32_w]; rfl)
            refine ta_ (v := ?_) (a' := ?_) 20 79 (bz 27 4194303) rfl rfl HT_ HW_ (by kernel_rfl) (fun _ _ _ h => h) (by rfl) ?_ hHeld ?_ ?_
            rotate_left
            ·rintro w' ⟨s0, s1, s2, s3, s4, s5⟩
             go_simp
             with_reducible rfl
            rotate_left
            ·simp only [Act.put, ls_, lz_, lc_, i64_w, i32_w]
             rfl
            refine pu_ (v := ?_) (a' := ?_) 22 81 (bz 27 8388607) rfl rfl HT_ (by kernel_rfl) (fun _ _ _ h => h) (by rfl) ?_ ?_ ?_
            rotate_left; (intro w'; go_simp; with_reducible rfl); rotate_left; (simp only [Act.put, ls_, lz_, lc_, i64_w, i32_w]; rfl)
            refine pu_ (v := ?_) (a' := ?_) 23 82 (bz 27 16777215) rfl rfl HT_ (by kernel_rfl) (fun _ _ _ h => h) (by rfl) ?_ ?_ ?_
            rotate_left; (intro w'; go_simp; with_reducible rfl); rotate_left; (simp only [Act.put, ls_, lz_, lc_, i64_w, i32_w]; rfl)
            refine on_ (N := some 83) 24 (bz 27 33554431) rfl rfl HT_ (by kernel_rfl) (by decide) (fun K hK => ?_)
            refine value_ (w1 := ?_) (v := ?_) (by rfl) rfl ?_ ?_
            rotate_left 2
            ·go_simp
             constructor
             ·rfl
             ·rfl
            refine hK.out _ _ ⟨(kc_ (ka_ BK456.out _) 0).trans rfl, (kc_ (ka_ BK456.out _) 1).trans rfl, (kc_ (ka_ BK456.out _) 2).trans rfl, (kc_ (ka_ BK456.out _) 3).trans rfl, (World.cell?_alloc_lt _ _ _ (wb_ _ _ (((HB.out.cell (wb_ w _ hw460_0)).trans hw460_0)))).trans (((HB.out.cell (wb_ w _ hw460_0)).trans hw460_0)), (World.cell?_alloc_lt _ _ _ (wb_ _ _ (((HB.out.cell (wb_ w _ hw461_0)).trans hw461_0)))).trans (((HB.out.cell (wb_ w _ hw461_0)).trans hw461_0))⟩ (fun hHeld => ?_)
            clear hK K
            refine norm_ (a' := ?_) ?_ ?_
            rotate_left
            ·show Act.put _ (some 83) _ = _
             simp only [Act.put, ls_, lz_, lc_, i64_w, i32_w]
             rfl
            refine on_ (N := some 84) 25 (bz 27 67108863) rfl rfl HT_ (by kernel_rfl) (by decide) (fun K hK => ?_)
            refine Kd.R_append_step k46 (w0 := w) w.heap.size (by rfl) (.tmp 59) (.tmp 83) 36 46 (.agg #[(.int .i64 0), (.int .i64 0), (.int .i64 0), (.int .i64 0)]) 32 rfl Tryd.underlying36 info46 rfl (by decide) (by omega) u12 x12_2 (⟨wrap64 (t451 + (rd l1 x13_2)), wrap64 (t452 + (wrap64 (512 * (rd l0 x13_2)))), wrap64 (t453 + (rd l1 x13_2)), wrap64 (t454 + (wrap64 (512 * (rd l0 x13_2))))⟩ : S46) [.int .i64 (wrap64 (t451 + (rd l1 x13_2))), .int .i64 (wrap64 (t452 + (wrap64 (512 * (rd l0 x13_2))))), .int .i64 (wrap64 (t453 + (rd l1 x13_2))), .int .i64 (wrap64 (t454 + (wrap64 (512 * (rd l0 x13_2)))))] (fun k_ => k_ ≠ gb456) (fun _ => False) rfl rfl ?aP (fun _ hk => hk.elim) ?aF ?aO ?aB ?aS ?aL ?_
            (case aP => exact k46_mkM _ _ _ (⟨wrap64 (t451 + (rd l1 x13_2)), wrap64 (t452 + (wrap64 (512 * (rd l0 x13_2)))), wrap64 (t453 + (rd l1 x13_2)), wrap64 (t454 + (wrap64 (512 * (rd l0 x13_2))))⟩ : S46))
            (case aB => exact (bb_ HB.out (e_ GE456 e0_)))
            (case aF => exact (fun k_ hk => Kd.freshB (kk_ BK456.out) k_ hk))
            (case aO => exact (by (with_reducible repeat (first | apply Kd.R_alloc | apply Kd.R_drewN | apply Kd.R_drew)); exact HO_12.out))
            (case aS => exact (bz_ (bb_ HB.out (e_ GE456 e0_))))
            (case aL => have := LMc20.out; omega)
            intro v463 w22 ho hb hg hat
            rw [← Ny462.out] at ho
            have n0_ := sd_ (blk_grown (kk_ BK456.out) hg (Kd.R_away HO_12.out (fun _ hk => hk)))
            have n1_ := sd_ (hb)
            have n2_ := sd_ (ho)
            clear BK456
            clear HB
            clear HO_12
            have BK456 := n0_
            have HB := n1_
            have HO464 := n2_
            clear n0_ n1_ n2_
            clear ho hb hg hat
            refine hK.out _ _ ⟨(kc_ BK456.out 0).trans rfl, (kc_ BK456.out 1).trans rfl, (kc_ BK456.out 2).trans rfl, (kc_ BK456.out 3).trans rfl, ((HB.out.cell (wb_ w _ hw460_0)).trans hw460_0), ((HB.out.cell (wb_ w _ hw461_0)).trans hw461_0)⟩ (fun hHeld => ?_)
            clear hK K
            refine norm_ (a' := ?_) ?_ ?_
            rotate_left
            ·show Act.put _ (some 84) _ = _
             simp only [Act.put, ls_, lz_, lc_, i64_w, i32_w]
             rfl
            refine pu_ (v := ?_) (a' := ?_) 26 12 (bz 27 134217727) rfl rfl HT_ (by kernel_rfl) (fun _ _ _ h => h) (by rfl) ?_ ?_ ?_
            rotate_left; (intro w'; go_simp; with_reducible rfl); rotate_left; (simp only [Act.put, ls_, lz_, lc_, i64_w, i32_w]; rfl)
            refine done_ (done_of HT_.out (by kernel_rfl)) ?_
            try go_wp2
            go_roundg k2
            case measure => have := HJ4.out; have := HK2.out; omega
            case rel => exact ⟨(y462), (wrap64 (x13_2 + 1)), (by first | rfl | (simp; done) | (simp [*]; done) | (simp [bne]; done)), H', ⟨by have := HJ4.out; have := HK2.out; omega⟩, ⟨by (with_reducible repeat (first | apply Kd.R_alloc | apply Kd.R_drewN | apply Kd.R_drew)); exact HO464.out⟩, ⟨by (with_reducible repeat first | apply kn_ | apply kd_ | apply ka_); exact BK456.out⟩, ⟨by repeat (first | (with_reducible first | exact HB.out | apply ba_ | apply pd_ | apply d1_ | refine bs_ ?_ GE456.out) | exact HB.out)⟩⟩
           ·rw [if_neg c20] at H
            exact absurd H (by simp)
        ·rw [if_neg c17] at H
         exact absurd H (by simp)
       ·rw [if_neg c16] at H
        exact absurd H (by simp)
      ·rw [if_neg c15] at H
       have c15b0 : decide (x13_2 < (l0.length : Int)) = false := df_ c15
       clear c15
       simp only [Option.some.injEq, Prod.mk.injEq] at H
       obtain ⟨rfl, rfl⟩ := H
       go_wp2
       go_ret2
       exact ⟨_, by first | rfl | (simp [errW_none, errW_some] <;> rfl) | (simp [*, errW_none, errW_some] <;> rfl), by (with_reducible repeat (first | apply Kd.R_alloc | apply Kd.R_drewN | apply Kd.R_drew)); exact Kd.R_mono HO_12.out (fun _ hk => trivial), by repeat (first | (with_reducible first | exact HB.out | apply ba_ | apply pd_ | apply d1_ | refine bs_ ?_ GE456.out) | exact HB.out)⟩

end Go.Proofs.YtcokemaiploejaaDoor.P
