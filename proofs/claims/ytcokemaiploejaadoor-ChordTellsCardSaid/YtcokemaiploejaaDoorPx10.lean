-- Written by a program of this session (wip/tools/xprint.py, over the kit's print): Lean checks it.
import Derived.Test.YtcokemaiploejaaDoorPx0
import Derived.Test.YtcokemaiploejaaDoorPx6
import Derived.Test.YtcokemaiploejaaDoorPx7
import Derived.Test.YtcokemaiploejaaDoorPx8
import Derived.Test.YtcokemaiploejaaDoorPx9
namespace Go.Proofs.YtcokemaiploejaaDoor.P
open Go.RowKit Go.Proofs.YtcokemaiploejaaDoorW.PrintWords Go.Proofs.YtcokemaiploejaaDoorW.PrintLast Go.Proofs.YtcokemaiploejaaDoorW.PrintMore
attribute [local go_sem] max2_int min2_int max_two min_two max_three min_three max_four min_four   -- for this text's walks alone
set_option linter.unusedVariables false
set_option linter.unusedSimpArgs false

/-! ### neumeref01_Scale: function 55 -/
def neumeref01_Scale.f (k : Nat) (a0 : Int) (a1 : Int) (a2 : Int) : Option (Int × Int) := (neumeref01_Ok.f a0).bind fun t412 => (if t412 = true then (if a1 < (-1048576) then (some (0, 2)) else (if a1 > 1048576 then (some (0, 2)) else (if a2 < 1 then (some (0, 2)) else (if a2 > 1048576 then (some (0, 2)) else ((neumeref01_ratio.f k a0 a1 a2).bind fun bt413 => (some (bt413.1, bt413.2))))))) else (some (0, 3)))
theorem neumeref01_Scale.mono : ∀ a0 a1 a2 k, LeO (neumeref01_Scale.f k a0 a1 a2) (neumeref01_Scale.f (k + 1) a0 a1 a2) := by
 intro a0 a1 a2 k
 unfold neumeref01_Scale.f
 repeat' first
   | (with_reducible exact neumeref01_ratio.mono _ _ _ _)
   | (with_reducible exact LeO.refl _)
   | (with_reducible exact LeO.none _)
   | (with_reducible refine LeO.ite ?_ ?_)
   | (with_reducible refine LeO.bind ?_ (fun _ => ?_))
   | exact neumeref01_ratio.mono _ _ _ _
   | exact LeO.none _
   | refine LeO.ite ?_ ?_
   | refine LeO.bind ?_ (fun _ => ?_)
set_option maxHeartbeats 8000000 in
set_option maxRecDepth 100000 in
theorem neumeref01_Scale.calls (k : Nat) (a0 : Int) (a1 : Int) (a2 : Int) (r1 : Int) (r2 : Int) (w : World) (h : neumeref01_Scale.f k a0 a1 a2 = some (r1, r2)) :
  Calls Tryd.prog 55 #[.int .i64 a0, .int .i64 a1, .int .i64 a2] w fun e w' => e = .returned (.tuple #[.int .i64 r1, .int .i64 r2]) ∧ Below w.heap.size w w' := by
 have HB := sd_ (Below.refl w.heap.size w)
 have H : ((neumeref01_Ok.f a0).bind fun t412 => (if t412 = true then (if a1 < (-1048576) then (some (0, 2)) else (if a1 > 1048576 then (some (0, 2)) else (if a2 < 1 then (some (0, 2)) else (if a2 > 1048576 then (some (0, 2)) else ((neumeref01_ratio.f k a0 a1 a2).bind fun bt413 => (some (bt413.1, bt413.2))))))) else (some (0, 3)))) = some (r1, r2) := h
 clear h
 replace H := ob_ H
 obtain ⟨t412, A40, H⟩ := H
 replace H : (if t412 = true then (if a1 < (-1048576) then (some (0, 2)) else (if a1 > 1048576 then (some (0, 2)) else (if a2 < 1 then (some (0, 2)) else (if a2 > 1048576 then (some (0, 2)) else ((neumeref01_ratio.f k a0 a1 a2).bind fun bt413 => (some (bt413.1, bt413.2))))))) else (some (0, 3))) = some (r1, r2) := H
 have A4 := sd_ A40
 clear A40
 by_cases c5 : t412 = true
 ·subst c5
  have H1 : (if a1 < (-1048576) then (some (0, 2)) else (if a1 > 1048576 then (some (0, 2)) else (if a2 < 1 then (some (0, 2)) else (if a2 > 1048576 then (some (0, 2)) else ((neumeref01_ratio.f k a0 a1 a2).bind fun bt413 => (some (bt413.1, bt413.2))))))) = some (r1, r2) := by rw [if_pos rfl] at H; exact H
  clear H; have H := H1; clear H1
  by_cases c6 : a1 < (-1048576)
  ·rw [if_pos c6] at H
   have c6b0 : decide (a1 < (-1048576)) = true := dt_ c6
   clear c6
   simp only [Option.some.injEq, Prod.mk.injEq] at H
   obtain ⟨rfl, rfl⟩ := H
   go_enter Tryd.func55, Tryd.ntmps55
   go_wp2_with (first | ((with_reducible refine gate_callee (f := 43) rfl ?_); refine goesL_ (some 9) rfl rfl Tryd.func43 (by kernel_rfl) rfl #[.int .i64 a0] rfl (by (try simp only [lm_, lq_, lx_]); first | done | rfl | (simp only [ld_, lt_]; rfl)) ?_; (with_reducible refine (neumeref01_Ok.calls a0 true _ A4.out).mono ?_); rintro e w' ⟨rfl, ⟨nd, rfl⟩⟩; refine ⟨_, rfl, ?_⟩))
   go_ret2
   exact ⟨by first | rfl | (simp [errW_none, errW_some] <;> rfl) | (simp [*, errW_none, errW_some] <;> rfl), by repeat (first | (with_reducible first | exact HB.out | apply ba_ | apply pd_ | apply d1_) | exact HB.out)⟩
  ·rw [if_neg c6] at H
   have c6b0 : decide (a1 < (-1048576)) = false := df_ c6
   clear c6
   by_cases c7 : a1 > 1048576
   ·rw [if_pos c7] at H
    have c7b0 : decide (1048576 < a1) = true := dt_ c7
    clear c7
    simp only [Option.some.injEq, Prod.mk.injEq] at H
    obtain ⟨rfl, rfl⟩ := H
    go_enter Tryd.func55, Tryd.ntmps55
    go_wp2_with (first | ((with_reducible refine gate_callee (f := 43) rfl ?_); refine goesL_ (some 9) rfl rfl Tryd.func43 (by kernel_rfl) rfl #[.int .i64 a0] rfl (by (try simp only [lm_, lq_, lx_]); first | done | rfl | (simp only [ld_, lt_]; rfl)) ?_; (with_reducible refine (neumeref01_Ok.calls a0 true _ A4.out).mono ?_); rintro e w' ⟨rfl, ⟨nd, rfl⟩⟩; refine ⟨_, rfl, ?_⟩))
    go_ret2
    exact ⟨by first | rfl | (simp [errW_none, errW_some] <;> rfl) | (simp [*, errW_none, errW_some] <;> rfl), by repeat (first | (with_reducible first | exact HB.out | apply ba_ | apply pd_ | apply d1_) | exact HB.out)⟩
   ·rw [if_neg c7] at H
    have c7b0 : decide (1048576 < a1) = false := df_ c7
    clear c7
    by_cases c8 : a2 < 1
    ·rw [if_pos c8] at H
     have c8b0 : decide (a2 < 1) = true := dt_ c8
     clear c8
     simp only [Option.some.injEq, Prod.mk.injEq] at H
     obtain ⟨rfl, rfl⟩ := H
     go_enter Tryd.func55, Tryd.ntmps55
     go_wp2_with (first | ((with_reducible refine gate_callee (f := 43) rfl ?_); refine goesL_ (some 9) rfl rfl Tryd.func43 (by kernel_rfl) rfl #[.int .i64 a0] rfl (by (try simp only [lm_, lq_, lx_]); first | done | rfl | (simp only [ld_, lt_]; rfl)) ?_; (with_reducible refine (neumeref01_Ok.calls a0 true _ A4.out).mono ?_); rintro e w' ⟨rfl, ⟨nd, rfl⟩⟩; refine ⟨_, rfl, ?_⟩))
     go_ret2
     exact ⟨by first | rfl | (simp [errW_none, errW_some] <;> rfl) | (simp [*, errW_none, errW_some] <;> rfl), by repeat (first | (with_reducible first | exact HB.out | apply ba_ | apply pd_ | apply d1_) | exact HB.out)⟩
    ·rw [if_neg c8] at H
     have c8b0 : decide (a2 < 1) = false := df_ c8
     clear c8
     by_cases c9 : a2 > 1048576
     ·rw [if_pos c9] at H
      have c9b0 : decide (1048576 < a2) = true := dt_ c9
      clear c9
      simp only [Option.some.injEq, Prod.mk.injEq] at H
      obtain ⟨rfl, rfl⟩ := H
      go_enter Tryd.func55, Tryd.ntmps55
      go_wp2_with (first | ((with_reducible refine gate_callee (f := 43) rfl ?_); refine goesL_ (some 9) rfl rfl Tryd.func43 (by kernel_rfl) rfl #[.int .i64 a0] rfl (by (try simp only [lm_, lq_, lx_]); first | done | rfl | (simp only [ld_, lt_]; rfl)) ?_; (with_reducible refine (neumeref01_Ok.calls a0 true _ A4.out).mono ?_); rintro e w' ⟨rfl, ⟨nd, rfl⟩⟩; refine ⟨_, rfl, ?_⟩))
      go_ret2
      exact ⟨by first | rfl | (simp [errW_none, errW_some] <;> rfl) | (simp [*, errW_none, errW_some] <;> rfl), by repeat (first | (with_reducible first | exact HB.out | apply ba_ | apply pd_ | apply d1_) | exact HB.out)⟩
     ·rw [if_neg c9] at H
      have c9b0 : decide (1048576 < a2) = false := df_ c9
      clear c9
      replace H := ob_ H
      obtain ⟨⟨t413, t414⟩, A100, H⟩ := H
      replace H : (some (t413, t414)) = some (r1, r2) := H
      have A10 := sd_ A100
      clear A100
      simp only [Option.some.injEq, Prod.mk.injEq] at H
      obtain ⟨rfl, rfl⟩ := H
      go_enter Tryd.func55, Tryd.ntmps55
      go_wp2_with (first | ((with_reducible refine gate_callee (f := 43) rfl ?_); refine goesL_ (some 9) rfl rfl Tryd.func43 (by kernel_rfl) rfl #[.int .i64 a0] rfl (by (try simp only [lm_, lq_, lx_]); first | done | rfl | (simp only [ld_, lt_]; rfl)) ?_; (with_reducible refine (neumeref01_Ok.calls a0 true _ A4.out).mono ?_); rintro e w' ⟨rfl, ⟨nd, rfl⟩⟩; refine ⟨_, rfl, ?_⟩) | ((with_reducible refine gate_callee (f := 61) rfl ?_); refine goesL_ (some 28) rfl rfl Tryd.func61 (by kernel_rfl) rfl #[.int .i64 a0, .int .i64 a1, .int .i64 a2] rfl (by (try simp only [lm_, lq_, lx_]); first | done | rfl | (simp only [ld_, lt_]; rfl)) ?_; (with_reducible refine (neumeref01_ratio.calls k a0 a1 a2 t413 t414 _ A10.out).mono ?_); rintro e w11 ⟨rfl, hb⟩; refine ⟨_, rfl, ?_⟩; replace HB := hb_ HB e0_ hb; (try clear hb); (try clear hb2); (try clear hk); (try clear hi)))
      go_ret2
      exact ⟨by first | rfl | (simp [errW_none, errW_some] <;> rfl) | (simp [*, errW_none, errW_some] <;> rfl), by repeat (first | (with_reducible first | exact HB.out | apply ba_ | apply pd_ | apply d1_) | exact HB.out)⟩
 ·replace c5 := bf_ c5
  subst c5
  have H1 : (some (0, 3)) = some (r1, r2) := by rw [if_neg (show ¬ (false = true) by decide)] at H; exact H
  clear H; have H := H1; clear H1
  simp only [Option.some.injEq, Prod.mk.injEq] at H
  obtain ⟨rfl, rfl⟩ := H
  go_enter Tryd.func55, Tryd.ntmps55
  go_wp2_with (first | ((with_reducible refine gate_callee (f := 43) rfl ?_); refine goesL_ (some 9) rfl rfl Tryd.func43 (by kernel_rfl) rfl #[.int .i64 a0] rfl (by (try simp only [lm_, lq_, lx_]); first | done | rfl | (simp only [ld_, lt_]; rfl)) ?_; (with_reducible refine (neumeref01_Ok.calls a0 false _ A4.out).mono ?_); rintro e w' ⟨rfl, ⟨nd, rfl⟩⟩; refine ⟨_, rfl, ?_⟩))
  go_ret2
  exact ⟨by first | rfl | (simp [errW_none, errW_some] <;> rfl) | (simp [*, errW_none, errW_some] <;> rfl), by repeat (first | (with_reducible first | exact HB.out | apply ba_ | apply pd_ | apply d1_) | exact HB.out)⟩

/-! ### neumeref05_less: function 42 -/
def neumeref05_less.f (k : Nat) (a0 : Int) : Option (Int) := (neumeref01_Scale.f k a0 2 3).bind fun bt415 => (some bt415.1)
theorem neumeref05_less.mono : ∀ a0 k, LeO (neumeref05_less.f k a0) (neumeref05_less.f (k + 1) a0) := by
 intro a0 k
 unfold neumeref05_less.f
 repeat' first
   | (with_reducible exact neumeref01_Scale.mono _ _ _ _)
   | (with_reducible exact LeO.refl _)
   | (with_reducible exact LeO.none _)
   | (with_reducible refine LeO.ite ?_ ?_)
   | (with_reducible refine LeO.bind ?_ (fun _ => ?_))
   | exact neumeref01_Scale.mono _ _ _ _
   | exact LeO.none _
   | refine LeO.ite ?_ ?_
   | refine LeO.bind ?_ (fun _ => ?_)
set_option maxHeartbeats 8000000 in
set_option maxRecDepth 100000 in
theorem neumeref05_less.calls (k : Nat) (a0 : Int) (r : Int) (w : World) (h : neumeref05_less.f k a0 = some r) :
  Calls Tryd.prog 42 #[.int .i64 a0] w fun e w' => e = .returned (.int .i64 r) ∧ Below w.heap.size w w' := by
 have HB := sd_ (Below.refl w.heap.size w)
 have H : ((neumeref01_Scale.f k a0 2 3).bind fun bt415 => (some bt415.1)) = some r := h
 clear h
 replace H := ob_ H
 obtain ⟨⟨t415, t416⟩, A20, H⟩ := H
 replace H : (some t415) = some r := H
 have A2 := sd_ A20
 clear A20
 obtain rfl := Option.some.inj H
 go_enter Tryd.func42, Tryd.ntmps42
 go_wp2_with (first | ((with_reducible refine gate_callee (f := 55) rfl ?_); refine goesL_ (some 7) rfl rfl Tryd.func55 (by kernel_rfl) rfl #[.int .i64 a0, .int .i64 2, .int .i64 3] rfl (by (try simp only [lm_, lq_, lx_]); first | done | rfl | (simp only [ld_, lt_]; rfl)) ?_; (with_reducible refine (neumeref01_Scale.calls k a0 2 3 t415 t416 _ A2.out).mono ?_); rintro e w3 ⟨rfl, hb⟩; refine ⟨_, rfl, ?_⟩; replace HB := hb_ HB e0_ hb; (try clear hb); (try clear hb2); (try clear hk); (try clear hi)))
 go_ret
 exact ⟨by first | rfl | (simp [errW_none, errW_some] <;> rfl) | (simp [*, errW_none, errW_some] <;> rfl), by repeat (first | (with_reducible first | exact HB.out | apply ba_ | apply pd_ | apply d1_) | exact HB.out)⟩

/-! ### neumeref05_Extent: function 30 -/
def neumeref05_Extent.f (k : Nat) (a0 : Int) (a1 : Bool) : Option (Int × Int × Int × Int × Int) := (neumeref05_Known.f a0).bind fun t418 => (if t418 = true then ((neumeref05_full.f a0).bind fun bt419 => (if a1 = true then ((neumeref05_less.f k bt419.1).bind fun t424 => ((neumeref05_less.f k bt419.2.1).bind fun t425 => ((neumeref05_less.f k bt419.2.2.1).bind fun t426 => ((neumeref05_less.f k bt419.2.2.2).bind fun t427 => ((neumeref05_box.f t424 t425 t426 t427).bind fun bt428 => (some (bt428.1, bt428.2.1, bt428.2.2.1, bt428.2.2.2, 0))))))) else (some (bt419.1, bt419.2.1, bt419.2.2.1, bt419.2.2.2, 0)))) else (some (0, 0, 0, 0, 2)))
theorem neumeref05_Extent.mono : ∀ a0 a1 k, LeO (neumeref05_Extent.f k a0 a1) (neumeref05_Extent.f (k + 1) a0 a1) := by
 intro a0 a1 k
 unfold neumeref05_Extent.f
 repeat' first
   | (with_reducible exact neumeref05_less.mono _ _)
   | (with_reducible exact LeO.refl _)
   | (with_reducible exact LeO.none _)
   | (with_reducible refine LeO.ite ?_ ?_)
   | (with_reducible refine LeO.bind ?_ (fun _ => ?_))
   | exact neumeref05_less.mono _ _
   | exact LeO.none _
   | refine LeO.ite ?_ ?_
   | refine LeO.bind ?_ (fun _ => ?_)
def neumeref05_Extent.T5 : Bool × List (List Nat × List Nat) := (true, [([], []), ([0], [0]), ([1], [1]), ([], []), ([3], [3]), ([4, 2], [4]), ([], []), ([6], [6]), ([7, 5], [7]), ([], []), ([9], [9]), ([10, 8], [10]), ([2, 5, 8, 11, 11], [2, 5, 8, 11]), ([12, 12, 0, 1, 2, 3, 4, 5, 6, 7, 8, 9, 10, 11, 12], [12])])
def neumeref05_Extent.B5 : List Nat := [0, 1, 3, 0, 8, 31, 0, 64, 255, 0, 512, 2047, 4095, 8191]
theorem neumeref05_Extent.tab5 : rtab .any (opsOf Tryd.f30 5) = neumeref05_Extent.T5 := by kernel_rfl
theorem neumeref05_Extent.bits5 : waitsOk neumeref05_Extent.T5.2 neumeref05_Extent.B5 = true := by kernel_rfl
set_option maxHeartbeats 8000000 in
set_option maxRecDepth 100000 in
theorem neumeref05_Extent.calls (k : Nat) (a0 : Int) (a1 : Bool) (r1 : Int) (r2 : Int) (r3 : Int) (r4 : Int) (r5 : Int) (w : World) (h : neumeref05_Extent.f k a0 a1 = some (r1, r2, r3, r4, r5)) :
  Calls Tryd.prog 30 #[.int .i64 a0, .bool a1] w fun e w' => e = .returned (.tuple #[.agg #[.int .i64 r1, .int .i64 r2, .int .i64 r3, .int .i64 r4], .int .i64 r5]) ∧ Below w.heap.size w w' := by
 have hu46 := Tryd.underlying46
 have HB := sd_ (Below.refl w.heap.size w)
 have H : ((neumeref05_Known.f a0).bind fun t418 => (if t418 = true then ((neumeref05_full.f a0).bind fun bt419 => (if a1 = true then ((neumeref05_less.f k bt419.1).bind fun t424 => ((neumeref05_less.f k bt419.2.1).bind fun t425 => ((neumeref05_less.f k bt419.2.2.1).bind fun t426 => ((neumeref05_less.f k bt419.2.2.2).bind fun t427 => ((neumeref05_box.f t424 t425 t426 t427).bind fun bt428 => (some (bt428.1, bt428.2.1, bt428.2.2.1, bt428.2.2.2, 0))))))) else (some (bt419.1, bt419.2.1, bt419.2.2.1, bt419.2.2.2, 0)))) else (some (0, 0, 0, 0, 2)))) = some (r1, r2, r3, r4, r5) := h
 clear h
 replace H := ob_ H
 obtain ⟨t418, A30, H⟩ := H
 replace H : (if t418 = true then ((neumeref05_full.f a0).bind fun bt419 => (if a1 = true then ((neumeref05_less.f k bt419.1).bind fun t424 => ((neumeref05_less.f k bt419.2.1).bind fun t425 => ((neumeref05_less.f k bt419.2.2.1).bind fun t426 => ((neumeref05_less.f k bt419.2.2.2).bind fun t427 => ((neumeref05_box.f t424 t425 t426 t427).bind fun bt428 => (some (bt428.1, bt428.2.1, bt428.2.2.1, bt428.2.2.2, 0))))))) else (some (bt419.1, bt419.2.1, bt419.2.2.1, bt419.2.2.2, 0)))) else (some (0, 0, 0, 0, 2))) = some (r1, r2, r3, r4, r5) := H
 have A3 := sd_ A30
 clear A30
 by_cases c4 : t418 = true
 ·subst c4
  have H1 : ((neumeref05_full.f a0).bind fun bt419 => (if a1 = true then ((neumeref05_less.f k bt419.1).bind fun t424 => ((neumeref05_less.f k bt419.2.1).bind fun t425 => ((neumeref05_less.f k bt419.2.2.1).bind fun t426 => ((neumeref05_less.f k bt419.2.2.2).bind fun t427 => ((neumeref05_box.f t424 t425 t426 t427).bind fun bt428 => (some (bt428.1, bt428.2.1, bt428.2.2.1, bt428.2.2.2, 0))))))) else (some (bt419.1, bt419.2.1, bt419.2.2.1, bt419.2.2.2, 0)))) = some (r1, r2, r3, r4, r5) := by rw [if_pos rfl] at H; exact H
  clear H; have H := H1; clear H1
  replace H := ob_ H
  obtain ⟨⟨t419, t420, t421, t422⟩, A50, H⟩ := H
  replace H : (if a1 = true then ((neumeref05_less.f k t419).bind fun t424 => ((neumeref05_less.f k t420).bind fun t425 => ((neumeref05_less.f k t421).bind fun t426 => ((neumeref05_less.f k t422).bind fun t427 => ((neumeref05_box.f t424 t425 t426 t427).bind fun bt428 => (some (bt428.1, bt428.2.1, bt428.2.2.1, bt428.2.2.2, 0))))))) else (some (t419, t420, t421, t422, 0))) = some (r1, r2, r3, r4, r5) := H
  have A5 := sd_ A50
  clear A50
  by_cases c6 : a1 = true
  ·subst c6
   have H1 : ((neumeref05_less.f k t419).bind fun t424 => ((neumeref05_less.f k t420).bind fun t425 => ((neumeref05_less.f k t421).bind fun t426 => ((neumeref05_less.f k t422).bind fun t427 => ((neumeref05_box.f t424 t425 t426 t427).bind fun bt428 => (some (bt428.1, bt428.2.1, bt428.2.2.1, bt428.2.2.2, 0))))))) = some (r1, r2, r3, r4, r5) := by rw [if_pos rfl] at H; exact H
   clear H; have H := H1; clear H1
   replace H := ob_ H
   obtain ⟨t424, A70, H⟩ := H
   replace H : ((neumeref05_less.f k t420).bind fun t425 => ((neumeref05_less.f k t421).bind fun t426 => ((neumeref05_less.f k t422).bind fun t427 => ((neumeref05_box.f t424 t425 t426 t427).bind fun bt428 => (some (bt428.1, bt428.2.1, bt428.2.2.1, bt428.2.2.2, 0)))))) = some (r1, r2, r3, r4, r5) := H
   have A7 := sd_ A70
   clear A70
   replace H := ob_ H
   obtain ⟨t425, A80, H⟩ := H
   replace H : ((neumeref05_less.f k t421).bind fun t426 => ((neumeref05_less.f k t422).bind fun t427 => ((neumeref05_box.f t424 t425 t426 t427).bind fun bt428 => (some (bt428.1, bt428.2.1, bt428.2.2.1, bt428.2.2.2, 0))))) = some (r1, r2, r3, r4, r5) := H
   have A8 := sd_ A80
   clear A80
   replace H := ob_ H
   obtain ⟨t426, A90, H⟩ := H
   replace H : ((neumeref05_less.f k t422).bind fun t427 => ((neumeref05_box.f t424 t425 t426 t427).bind fun bt428 => (some (bt428.1, bt428.2.1, bt428.2.2.1, bt428.2.2.2, 0)))) = some (r1, r2, r3, r4, r5) := H
   have A9 := sd_ A90
   clear A90
   replace H := ob_ H
   obtain ⟨t427, A100, H⟩ := H
   replace H : ((neumeref05_box.f t424 t425 t426 t427).bind fun bt428 => (some (bt428.1, bt428.2.1, bt428.2.2.1, bt428.2.2.2, 0))) = some (r1, r2, r3, r4, r5) := H
   have A10 := sd_ A100
   clear A100
   replace H := ob_ H
   obtain ⟨⟨t428, t429, t430, t431⟩, A110, H⟩ := H
   replace H : (some (t428, t429, t430, t431, 0)) = some (r1, r2, r3, r4, r5) := H
   have A11 := sd_ A110
   clear A110
   simp only [Option.some.injEq, Prod.mk.injEq] at H
   obtain ⟨rfl, rfl, rfl, rfl, rfl⟩ := H
   go_enter Tryd.func30, Tryd.ntmps30
   try go_wp2_with (first | ((with_reducible refine gate_dst (N := 4) rfl ?_); refine box_event ?hg (N := 4) ?hd (cs := #[.int .i64 0, .int .i64 0, .int .i64 0, .int .i64 0]) (t := 46) ?hr ?_; (case hd => rfl); (case hg => rfl); (case hr => first | (go_simp; done) | (go_simp; rfl)); intro gb417 hg w12 hbox hb; have BK417 := sd_ hbox; have GW417 := gw_ HB e0_ hg; have GE417 := GW417; replace HB := hb_ HB e0_ hb; clear hb hbox hg) | ((with_reducible refine gate_callee (f := 39) rfl ?_); refine goesL_ (some 8) rfl rfl Tryd.func39 (by kernel_rfl) rfl #[.int .i64 a0] rfl (by (try simp only [lm_, lq_, lx_]); first | done | rfl | (simp only [ld_, lt_]; rfl)) ?_; (with_reducible refine (neumeref05_Known.calls a0 true _ A3.out).mono ?_); rintro e w' ⟨rfl, ⟨nd, rfl⟩⟩; refine ⟨_, rfl, ?_⟩; (repeat (rw [drewN_self w12]; generalize hq_ : World.drewN w12 _ = w12; have n0_ : Aside0 (w12.heap[gb417]? = some (.cells #[.int .i64 0, .int .i64 0, .int .i64 0, .int .i64 0] 46 (0, 0))) := ⟨by rw [← hq_]; exact (kk_ BK417.out)⟩; have n1_ : Aside0 (Below w.heap.size w w12) := ⟨by rw [← hq_]; exact (bb_ HB.out (e_ GE417 e0_))⟩; clear BK417 HB hq_; have BK417 := n0_; have HB := n1_; clear n0_ n1_))) | ((with_reducible refine gate_callee (f := 40) rfl ?_); refine goesL_ (some 12) rfl rfl Tryd.func40 (by kernel_rfl) rfl #[.int .i64 a0] rfl (by (try simp only [lm_, lq_, lx_]); first | done | rfl | (simp only [ld_, lt_]; rfl)) ?_; (with_reducible refine (neumeref05_full.calls a0 t419 t420 t421 t422 _ A5.out).mono ?_); rintro e w13 ⟨rfl, hb⟩; refine ⟨_, rfl, ?_⟩; replace BK417 := kb_ BK417 hb; replace HB := hb_ HB (e_ GE417 e0_) hb; (try clear hb); (try clear hb2); (try clear hk); (try clear hi)) | ((with_reducible refine gate_dst (N := 6) rfl ?_); refine box_event ?hg (N := 6) ?hd (cs := #[.int .i64 0, .int .i64 0, .int .i64 0, .int .i64 0]) (t := 46) ?hr ?_; (case hd => rfl); (case hg => rfl); (case hr => first | (go_simp; done) | (go_simp; rfl)); intro gb423 hg w14 hbox hb; have BK423 := sd_ hbox; have GW423 := gw_ HB (e_ GE417 e0_) hg; have GE423 := GW423; have NB417_423 := nb_ BK417 hg; have NB423_417 := sy_ NB417_423; replace BK417 := kb_ BK417 hb; replace HB := hb_ HB (e_ GE417 e0_) hb; clear hb hbox hg; have hnb15 := NB423_417.out; have hnc15 := NB417_423.out; have hcz16_0 : w14.cell? ⟨gb423, 0, none⟩ = some (.int .i64 0) := (kc_ BK423.out 0).trans rfl; have hcz16_1 : w14.cell? ⟨gb423, 1, none⟩ = some (.int .i64 0) := (kc_ BK423.out 1).trans rfl; have hcz16_2 : w14.cell? ⟨gb423, 2, none⟩ = some (.int .i64 0) := (kc_ BK423.out 2).trans rfl; have hcz16_3 : w14.cell? ⟨gb423, 3, none⟩ = some (.int .i64 0) := (kc_ BK423.out 3).trans rfl; have hfz16_0 := kf_ BK423.out 0; have hfz16_1 := kf_ BK423.out 1; have hfz16_2 := kf_ BK423.out 2; have hfz16_3 := kf_ BK423.out 3))
   have n0_ : Aside0 (((((w14.setCell ⟨gb423, 0, none⟩ (.int .i64 t419)).setCell ⟨gb423, 1, none⟩ (.int .i64 t420)).setCell ⟨gb423, 2, none⟩ (.int .i64 t421)).setCell ⟨gb423, 3, none⟩ (.int .i64 t422)).heap[gb417]? = some (.cells #[.int .i64 0, .int .i64 0, .int .i64 0, .int .i64 0] 46 (0, 0))) := ⟨by (with_reducible repeat first | apply kn_ | apply kd_ | apply ka_); refine blk_far ?_ NB417_423.out _; (with_reducible repeat first | apply kn_ | apply kd_ | apply ka_); refine blk_far ?_ NB417_423.out _; (with_reducible repeat first | apply kn_ | apply kd_ | apply ka_); refine blk_far ?_ NB417_423.out _; (with_reducible repeat first | apply kn_ | apply kd_ | apply ka_); refine blk_far ?_ NB417_423.out _; (with_reducible repeat first | apply kn_ | apply kd_ | apply ka_); exact BK417.out⟩
   have n1_ : Aside0 (((((w14.setCell ⟨gb423, 0, none⟩ (.int .i64 t419)).setCell ⟨gb423, 1, none⟩ (.int .i64 t420)).setCell ⟨gb423, 2, none⟩ (.int .i64 t421)).setCell ⟨gb423, 3, none⟩ (.int .i64 t422)).heap[gb423]? = some (.cells #[.int .i64 t419, .int .i64 t420, .int .i64 t421, .int .i64 t422] 46 (0, 0))) := ⟨by (with_reducible repeat first | apply kn_ | apply kd_ | apply ka_); refine blk_put (cs := #[.int .i64 t419, .int .i64 t420, .int .i64 t421, .int .i64 0]) ?_ 3 _ rfl; (with_reducible repeat first | apply kn_ | apply kd_ | apply ka_); refine blk_put (cs := #[.int .i64 t419, .int .i64 t420, .int .i64 0, .int .i64 0]) ?_ 2 _ rfl; (with_reducible repeat first | apply kn_ | apply kd_ | apply ka_); refine blk_put (cs := #[.int .i64 t419, .int .i64 0, .int .i64 0, .int .i64 0]) ?_ 1 _ rfl; (with_reducible repeat first | apply kn_ | apply kd_ | apply ka_); refine blk_put (cs := #[.int .i64 0, .int .i64 0, .int .i64 0, .int .i64 0]) ?_ 0 _ rfl; (with_reducible repeat first | apply kn_ | apply kd_ | apply ka_); exact BK423.out⟩
   have n2_ : Aside0 (Below w.heap.size w ((((w14.setCell ⟨gb423, 0, none⟩ (.int .i64 t419)).setCell ⟨gb423, 1, none⟩ (.int .i64 t420)).setCell ⟨gb423, 2, none⟩ (.int .i64 t421)).setCell ⟨gb423, 3, none⟩ (.int .i64 t422))) := ⟨by repeat (first | (with_reducible first | exact HB.out | apply ba_ | apply pd_ | apply d1_ | refine bs_ ?_ GE417.out | refine bs_ ?_ GE423.out) | exact HB.out)⟩
   (try clear BK417)
   (try clear BK423)
   (try clear HB)
   generalize ((((w14.setCell ⟨gb423, 0, none⟩ (.int .i64 t419)).setCell ⟨gb423, 1, none⟩ (.int .i64 t420)).setCell ⟨gb423, 2, none⟩ (.int .i64 t421)).setCell ⟨gb423, 3, none⟩ (.int .i64 t422)) = w17 at n0_ n1_ n2_ ⊢
   have BK417 := n0_
   have BK423 := n1_
   have HB := n2_
   clear n0_ n1_ n2_
   replace BK417 := sd_ (kd_ BK417.out)
   replace BK423 := sd_ (kd_ BK423.out)
   replace HB := sd_ (d1_ HB.out)
   refine start_ (n := 14) (S := fun w' => w'.cell? ⟨gb423, 0, none⟩ = some (.int .i64 t419) ∧ w'.cell? ⟨gb423, 1, none⟩ = some (.int .i64 t420) ∧ w'.cell? ⟨gb423, 2, none⟩ = some (.int .i64 t421) ∧ w'.cell? ⟨gb423, 3, none⟩ = some (.int .i64 t422)) (ds := [13]) (Array.replicate 14 false) (by kernel_rfl) rfl rfl ⟨(kc_ BK423.out 0).trans rfl, (kc_ BK423.out 1).trans rfl, (kc_ BK423.out 2).trans rfl, (kc_ BK423.out 3).trans rfl⟩ (fun hHeld => ?_); refine with_tabW neumeref05_Extent.tab5 neumeref05_Extent.bits5 (fun HT_ HW_ => ?_)
   generalize w17.drew = w18 at BK417 BK423 HB hHeld ⊢
   refine pu_ (v := ?_) (a' := ?_) 0 14 (bz 14 1) rfl rfl HT_ (by kernel_rfl) (fun _ _ _ h => h) (by rfl) ?_ ?_ ?_
   rotate_left; (intro w'; go_simp; with_reducible rfl); rotate_left; (simp only [Act.put, ls_, lz_, lc_, i64_w, i32_w]; rfl)
   refine pu_ (v := ?_) (a' := ?_) 3 17 (bz 14 9) rfl rfl HT_ (by kernel_rfl) (fun _ _ _ h => h) (by rfl) ?_ ?_ ?_
   rotate_left; (intro w'; go_simp; with_reducible rfl); rotate_left; (simp only [Act.put, ls_, lz_, lc_, i64_w, i32_w]; rfl)
   refine pu_ (v := ?_) (a' := ?_) 6 20 (bz 14 73) rfl rfl HT_ (by kernel_rfl) (fun _ _ _ h => h) (by rfl) ?_ ?_ ?_
   rotate_left; (intro w'; go_simp; with_reducible rfl); rotate_left; (simp only [Act.put, ls_, lz_, lc_, i64_w, i32_w]; rfl)
   refine pu_ (v := ?_) (a' := ?_) 9 23 (bz 14 585) rfl rfl HT_ (by kernel_rfl) (fun _ _ _ h => h) (by rfl) ?_ ?_ ?_
   rotate_left; (intro w'; go_simp; with_reducible rfl); rotate_left; (simp only [Act.put, ls_, lz_, lc_, i64_w, i32_w]; rfl)
   refine ta_ (v := ?_) (a' := ?_) 1 15 (bz 14 587) rfl rfl HT_ HW_ (by kernel_rfl) (fun _ _ _ h => h) (by rfl) ?_ hHeld ?_ ?_
   rotate_left
   ·rintro w' ⟨s0, s1, s2, s3⟩
    go_simp
    with_reducible rfl
   rotate_left
   ·simp only [Act.put, ls_, lz_, lc_, i64_w, i32_w]
    rfl
   refine ta_ (v := ?_) (a' := ?_) 4 18 (bz 14 603) rfl rfl HT_ HW_ (by kernel_rfl) (fun _ _ _ h => h) (by rfl) ?_ hHeld ?_ ?_
   rotate_left
   ·rintro w' ⟨s0, s1, s2, s3⟩
    go_simp
    with_reducible rfl
   rotate_left
   ·simp only [Act.put, ls_, lz_, lc_, i64_w, i32_w]
    rfl
   refine ta_ (v := ?_) (a' := ?_) 7 21 (bz 14 731) rfl rfl HT_ HW_ (by kernel_rfl) (fun _ _ _ h => h) (by rfl) ?_ hHeld ?_ ?_
   rotate_left
   ·rintro w' ⟨s0, s1, s2, s3⟩
    go_simp
    with_reducible rfl
   rotate_left
   ·simp only [Act.put, ls_, lz_, lc_, i64_w, i32_w]
    rfl
   refine ta_ (v := ?_) (a' := ?_) 10 24 (bz 14 1755) rfl rfl HT_ HW_ (by kernel_rfl) (fun _ _ _ h => h) (by rfl) ?_ hHeld ?_ ?_
   rotate_left
   ·rintro w' ⟨s0, s1, s2, s3⟩
    go_simp
    with_reducible rfl
   rotate_left
   ·simp only [Act.put, ls_, lz_, lc_, i64_w, i32_w]
    rfl
   refine on_ (N := some 16) 2 (bz 14 1759) rfl rfl HT_ (by kernel_rfl) (by decide) (fun K hK => ?_)
   refine goes_ Tryd.func42 (by kernel_rfl) rfl #[.int .i64 t419] (by rfl) rfl rfl (by (try simp only [lm_, lq_, lx_]); first | done | rfl | (simp only [ld_, lt_]; rfl)) ?_
   with_reducible refine (neumeref05_less.calls k t419 t424 _ A7.out).mono ?_
   rintro e w19 ⟨rfl, hb⟩
   refine ⟨_, rfl, ?_⟩
   replace BK417 := kb_ BK417 hb
   replace BK423 := kb_ BK423 hb
   replace HB := hb_ HB (e_ GE417 (e_ GE423 e0_)) hb
   (try clear hb)
   (try clear hb2)
   (try clear hk)
   (try clear hi)
   refine hK.out _ _ ⟨(kc_ BK423.out 0).trans rfl, (kc_ BK423.out 1).trans rfl, (kc_ BK423.out 2).trans rfl, (kc_ BK423.out 3).trans rfl⟩ (fun hHeld => ?_)
   clear hK K
   refine norm_ (a' := ?_) ?_ ?_
   rotate_left
   ·show Act.put _ (some 16) _ = _
    simp only [Act.put, ls_, lz_, lc_, i64_w, i32_w]
    rfl
   refine on_ (N := some 19) 5 (bz 14 1791) rfl rfl HT_ (by kernel_rfl) (by decide) (fun K hK => ?_)
   refine goes_ Tryd.func42 (by kernel_rfl) rfl #[.int .i64 t420] (by rfl) rfl rfl (by (try simp only [lm_, lq_, lx_]); first | done | rfl | (simp only [ld_, lt_]; rfl)) ?_
   with_reducible refine (neumeref05_less.calls k t420 t425 _ A8.out).mono ?_
   rintro e w20 ⟨rfl, hb⟩
   refine ⟨_, rfl, ?_⟩
   replace BK417 := kb_ BK417 hb
   replace BK423 := kb_ BK423 hb
   replace HB := hb_ HB (e_ GE417 (e_ GE423 e0_)) hb
   (try clear hb)
   (try clear hb2)
   (try clear hk)
   (try clear hi)
   refine hK.out _ _ ⟨(kc_ BK423.out 0).trans rfl, (kc_ BK423.out 1).trans rfl, (kc_ BK423.out 2).trans rfl, (kc_ BK423.out 3).trans rfl⟩ (fun hHeld => ?_)
   clear hK K
   refine norm_ (a' := ?_) ?_ ?_
   rotate_left
   ·show Act.put _ (some 19) _ = _
    simp only [Act.put, ls_, lz_, lc_, i64_w, i32_w]
    rfl
   refine on_ (N := some 22) 8 (bz 14 2047) rfl rfl HT_ (by kernel_rfl) (by decide) (fun K hK => ?_)
   refine goes_ Tryd.func42 (by kernel_rfl) rfl #[.int .i64 t421] (by rfl) rfl rfl (by (try simp only [lm_, lq_, lx_]); first | done | rfl | (simp only [ld_, lt_]; rfl)) ?_
   with_reducible refine (neumeref05_less.calls k t421 t426 _ A9.out).mono ?_
   rintro e w21 ⟨rfl, hb⟩
   refine ⟨_, rfl, ?_⟩
   replace BK417 := kb_ BK417 hb
   replace BK423 := kb_ BK423 hb
   replace HB := hb_ HB (e_ GE417 (e_ GE423 e0_)) hb
   (try clear hb)
   (try clear hb2)
   (try clear hk)
   (try clear hi)
   refine hK.out _ _ ⟨(kc_ BK423.out 0).trans rfl, (kc_ BK423.out 1).trans rfl, (kc_ BK423.out 2).trans rfl, (kc_ BK423.out 3).trans rfl⟩ (fun hHeld => ?_)
   clear hK K
   refine norm_ (a' := ?_) ?_ ?_
   rotate_left
   ·show Act.put _ (some 22) _ = _
    simp only [Act.put, ls_, lz_, lc_, i64_w, i32_w]
    rfl
   refine on_ (N := some 25) 11 (bz 14 4095) rfl rfl HT_ (by kernel_rfl) (by decide) (fun K hK => ?_)
   refine goes_ Tryd.func42 (by kernel_rfl) rfl #[.int .i64 t422] (by rfl) rfl rfl (by (try simp only [lm_, lq_, lx_]); first | done | rfl | (simp only [ld_, lt_]; rfl)) ?_
   with_reducible refine (neumeref05_less.calls k t422 t427 _ A10.out).mono ?_
   rintro e w22 ⟨rfl, hb⟩
   refine ⟨_, rfl, ?_⟩
   replace BK417 := kb_ BK417 hb
   replace BK423 := kb_ BK423 hb
   replace HB := hb_ HB (e_ GE417 (e_ GE423 e0_)) hb
   (try clear hb)
   (try clear hb2)
   (try clear hk)
   (try clear hi)
   refine hK.out _ _ ⟨(kc_ BK423.out 0).trans rfl, (kc_ BK423.out 1).trans rfl, (kc_ BK423.out 2).trans rfl, (kc_ BK423.out 3).trans rfl⟩ (fun hHeld => ?_)
   clear hK K
   refine norm_ (a' := ?_) ?_ ?_
   rotate_left
   ·show Act.put _ (some 25) _ = _
    simp only [Act.put, ls_, lz_, lc_, i64_w, i32_w]
    rfl
   refine on_ (N := some 26) 12 (bz 14 8191) rfl rfl HT_ (by kernel_rfl) (by decide) (fun K hK => ?_)
   refine goes_ Tryd.func41 (by kernel_rfl) rfl #[.int .i64 t424, .int .i64 t425, .int .i64 t426, .int .i64 t427] (by rfl) rfl rfl (by (try simp only [lm_, lq_, lx_]); first | done | rfl | (simp only [ld_, lt_]; rfl)) ?_
   with_reducible refine (neumeref05_box.calls t424 t425 t426 t427 t428 t429 t430 t431 _ A11.out).mono ?_
   rintro e w23 ⟨rfl, hb⟩
   refine ⟨_, rfl, ?_⟩
   replace BK417 := kb_ BK417 hb
   replace BK423 := kb_ BK423 hb
   replace HB := hb_ HB (e_ GE417 (e_ GE423 e0_)) hb
   (try clear hb)
   (try clear hb2)
   (try clear hk)
   (try clear hi)
   refine hK.out _ _ ⟨(kc_ BK423.out 0).trans rfl, (kc_ BK423.out 1).trans rfl, (kc_ BK423.out 2).trans rfl, (kc_ BK423.out 3).trans rfl⟩ (fun hHeld => ?_)
   clear hK K
   refine norm_ (a' := ?_) ?_ ?_
   rotate_left
   ·show Act.put _ (some 26) _ = _
    simp only [Act.put, ls_, lz_, lc_, i64_w, i32_w]
    rfl
   refine last_ (i := 13) (N := none) (bz 14 16383) rfl rfl (one_of HT_.out (by kernel_rfl)) (by decide) (fun K hK => ?_)
   have hs24 : w23.cell? ⟨gb423, 0, none⟩ = some (.int .i64 t419) := (kc_ BK423.out 0).trans rfl
   have hfs24 := kf_ BK423.out 0
   have hns24_0 := NB417_423.out
   have hms24_0 := NB423_417.out
   have hs25 : w23.cell? ⟨gb423, 1, none⟩ = some (.int .i64 t420) := (kc_ BK423.out 1).trans rfl
   have hfs25 := kf_ BK423.out 1
   have hns25_0 := NB417_423.out
   have hms25_0 := NB423_417.out
   have hs26 : w23.cell? ⟨gb423, 2, none⟩ = some (.int .i64 t421) := (kc_ BK423.out 2).trans rfl
   have hfs26 := kf_ BK423.out 2
   have hns26_0 := NB417_423.out
   have hms26_0 := NB423_417.out
   have hs27 : w23.cell? ⟨gb423, 3, none⟩ = some (.int .i64 t422) := (kc_ BK423.out 3).trans rfl
   have hfs27 := kf_ BK423.out 3
   have hns27_0 := NB417_423.out
   have hms27_0 := NB423_417.out
   refine skip_ (w1 := ?_) (by rfl) rfl ?_ ?_
   rotate_left
   ·go_simp
    rfl
   refine hK.out _ _ ?_
   clear hK K
   refine done_ (done_of HT_.out (by kernel_rfl)) ?_
   have hcz28_0 : w23.cell? ⟨gb423, 0, none⟩ = some (.int .i64 t419) := (kc_ BK423.out 0).trans rfl
   have hcz28_1 : w23.cell? ⟨gb423, 1, none⟩ = some (.int .i64 t420) := (kc_ BK423.out 1).trans rfl
   have hcz28_2 : w23.cell? ⟨gb423, 2, none⟩ = some (.int .i64 t421) := (kc_ BK423.out 2).trans rfl
   have hcz28_3 : w23.cell? ⟨gb423, 3, none⟩ = some (.int .i64 t422) := (kc_ BK423.out 3).trans rfl
   have hfz28_0 := kf_ BK423.out 0
   have hfz28_1 := kf_ BK423.out 1
   have hfz28_2 := kf_ BK423.out 2
   have hfz28_3 := kf_ BK423.out 3
   have hcz29_0 : w23.cell? ⟨gb417, 0, none⟩ = some (.int .i64 0) := (kc_ BK417.out 0).trans rfl
   have hcz29_1 : w23.cell? ⟨gb417, 1, none⟩ = some (.int .i64 0) := (kc_ BK417.out 1).trans rfl
   have hcz29_2 : w23.cell? ⟨gb417, 2, none⟩ = some (.int .i64 0) := (kc_ BK417.out 2).trans rfl
   have hcz29_3 : w23.cell? ⟨gb417, 3, none⟩ = some (.int .i64 0) := (kc_ BK417.out 3).trans rfl
   have hfz29_0 := kf_ BK417.out 0
   have hfz29_1 := kf_ BK417.out 1
   have hfz29_2 := kf_ BK417.out 2
   have hfz29_3 := kf_ BK417.out 3
   try go_wp2
   refine bodyPost_ret (results_ct rfl _ _ gb417 46 #[.int .i64 t428, .int .i64 t429, .int .i64 t430, .int .i64 t431] (0, 0) _ rfl (by (with_reducible repeat first | apply kn_ | apply kd_ | apply ka_); refine blk_put (cs := #[.int .i64 t428, .int .i64 t429, .int .i64 t430, .int .i64 0]) ?_ 3 _ rfl; (with_reducible repeat first | apply kn_ | apply kd_ | apply ka_); refine blk_put (cs := #[.int .i64 t428, .int .i64 t429, .int .i64 0, .int .i64 0]) ?_ 2 _ rfl; (with_reducible repeat first | apply kn_ | apply kd_ | apply ka_); refine blk_put (cs := #[.int .i64 t428, .int .i64 0, .int .i64 0, .int .i64 0]) ?_ 1 _ rfl; (with_reducible repeat first | apply kn_ | apply kd_ | apply ka_); refine blk_put (cs := #[.int .i64 0, .int .i64 0, .int .i64 0, .int .i64 0]) ?_ 0 _ rfl; (with_reducible repeat first | apply kn_ | apply kd_ | apply ka_); refine blk_far ?_ NB417_423.out _; (with_reducible repeat first | apply kn_ | apply kd_ | apply ka_); refine blk_far ?_ NB417_423.out _; (with_reducible repeat first | apply kn_ | apply kd_ | apply ka_); refine blk_far ?_ NB417_423.out _; (with_reducible repeat first | apply kn_ | apply kd_ | apply ka_); refine blk_far ?_ NB417_423.out _; (with_reducible repeat first | apply kn_ | apply kd_ | apply ka_); exact BK417.out) Tryd.underlying46 rfl (by kernel_rfl)) rfl ?_
   exact ⟨by first | rfl | (simp [errW_none, errW_some] <;> rfl) | (simp [*, errW_none, errW_some] <;> rfl), by repeat (first | (with_reducible first | exact HB.out | apply ba_ | apply pd_ | apply d1_ | refine bs_ ?_ GE417.out | refine bs_ ?_ GE423.out) | exact HB.out)⟩
  ·replace c6 := bf_ c6
   subst c6
   have H1 : (some (t419, t420, t421, t422, 0)) = some (r1, r2, r3, r4, r5) := by rw [if_neg (show ¬ (false = true) by decide)] at H; exact H
   clear H; have H := H1; clear H1
   simp only [Option.some.injEq, Prod.mk.injEq] at H
   obtain ⟨rfl, rfl, rfl, rfl, rfl⟩ := H
   go_enter Tryd.func30, Tryd.ntmps30
   go_wp2_with (first | ((with_reducible refine gate_dst (N := 4) rfl ?_); refine box_event ?hg (N := 4) ?hd (cs := #[.int .i64 0, .int .i64 0, .int .i64 0, .int .i64 0]) (t := 46) ?hr ?_; (case hd => rfl); (case hg => rfl); (case hr => first | (go_simp; done) | (go_simp; rfl)); intro gb417 hg w30 hbox hb; have BK417 := sd_ hbox; have GW417 := gw_ HB e0_ hg; have GE417 := GW417; replace HB := hb_ HB e0_ hb; clear hb hbox hg) | ((with_reducible refine gate_callee (f := 39) rfl ?_); refine goesL_ (some 8) rfl rfl Tryd.func39 (by kernel_rfl) rfl #[.int .i64 a0] rfl (by (try simp only [lm_, lq_, lx_]); first | done | rfl | (simp only [ld_, lt_]; rfl)) ?_; (with_reducible refine (neumeref05_Known.calls a0 true _ A3.out).mono ?_); rintro e w' ⟨rfl, ⟨nd, rfl⟩⟩; refine ⟨_, rfl, ?_⟩; (repeat (rw [drewN_self w30]; generalize hq_ : World.drewN w30 _ = w30; have n0_ : Aside0 (w30.heap[gb417]? = some (.cells #[.int .i64 0, .int .i64 0, .int .i64 0, .int .i64 0] 46 (0, 0))) := ⟨by rw [← hq_]; exact (kk_ BK417.out)⟩; have n1_ : Aside0 (Below w.heap.size w w30) := ⟨by rw [← hq_]; exact (bb_ HB.out (e_ GE417 e0_))⟩; clear BK417 HB hq_; have BK417 := n0_; have HB := n1_; clear n0_ n1_))) | ((with_reducible refine gate_callee (f := 40) rfl ?_); refine goesL_ (some 12) rfl rfl Tryd.func40 (by kernel_rfl) rfl #[.int .i64 a0] rfl (by (try simp only [lm_, lq_, lx_]); first | done | rfl | (simp only [ld_, lt_]; rfl)) ?_; (with_reducible refine (neumeref05_full.calls a0 t419 t420 t421 t422 _ A5.out).mono ?_); rintro e w31 ⟨rfl, hb⟩; refine ⟨_, rfl, ?_⟩; replace BK417 := kb_ BK417 hb; replace HB := hb_ HB (e_ GE417 e0_) hb; (try clear hb); (try clear hb2); (try clear hk); (try clear hi)) | ((with_reducible refine gate_dst (N := 6) rfl ?_); refine box_event ?hg (N := 6) ?hd (cs := #[.int .i64 0, .int .i64 0, .int .i64 0, .int .i64 0]) (t := 46) ?hr ?_; (case hd => rfl); (case hg => rfl); (case hr => first | (go_simp; done) | (go_simp; rfl)); intro gb423 hg w32 hbox hb; have BK423 := sd_ hbox; have GW423 := gw_ HB (e_ GE417 e0_) hg; have GE423 := GW423; have NB417_423 := nb_ BK417 hg; have NB423_417 := sy_ NB417_423; replace BK417 := kb_ BK417 hb; replace HB := hb_ HB (e_ GE417 e0_) hb; clear hb hbox hg; have hnb33 := NB423_417.out; have hnc33 := NB417_423.out; have hcz34_0 : w32.cell? ⟨gb423, 0, none⟩ = some (.int .i64 0) := (kc_ BK423.out 0).trans rfl; have hcz34_1 : w32.cell? ⟨gb423, 1, none⟩ = some (.int .i64 0) := (kc_ BK423.out 1).trans rfl; have hcz34_2 : w32.cell? ⟨gb423, 2, none⟩ = some (.int .i64 0) := (kc_ BK423.out 2).trans rfl; have hcz34_3 : w32.cell? ⟨gb423, 3, none⟩ = some (.int .i64 0) := (kc_ BK423.out 3).trans rfl; have hfz34_0 := kf_ BK423.out 0; have hfz34_1 := kf_ BK423.out 1; have hfz34_2 := kf_ BK423.out 2; have hfz34_3 := kf_ BK423.out 3; have hcz35_0 : w32.cell? ⟨gb417, 0, none⟩ = some (.int .i64 0) := (kc_ BK417.out 0).trans rfl; have hcz35_1 : w32.cell? ⟨gb417, 1, none⟩ = some (.int .i64 0) := (kc_ BK417.out 1).trans rfl; have hcz35_2 : w32.cell? ⟨gb417, 2, none⟩ = some (.int .i64 0) := (kc_ BK417.out 2).trans rfl; have hcz35_3 : w32.cell? ⟨gb417, 3, none⟩ = some (.int .i64 0) := (kc_ BK417.out 3).trans rfl; have hfz35_0 := kf_ BK417.out 0; have hfz35_1 := kf_ BK417.out 1; have hfz35_2 := kf_ BK417.out 2; have hfz35_3 := kf_ BK417.out 3))
   refine bodyPost_ret (results_ct rfl _ _ gb417 46 #[.int .i64 t419, .int .i64 t420, .int .i64 t421, .int .i64 t422] (0, 0) _ rfl (by (with_reducible repeat first | apply kn_ | apply kd_ | apply ka_); refine blk_put (cs := #[.int .i64 t419, .int .i64 t420, .int .i64 t421, .int .i64 0]) ?_ 3 _ rfl; (with_reducible repeat first | apply kn_ | apply kd_ | apply ka_); refine blk_put (cs := #[.int .i64 t419, .int .i64 t420, .int .i64 0, .int .i64 0]) ?_ 2 _ rfl; (with_reducible repeat first | apply kn_ | apply kd_ | apply ka_); refine blk_put (cs := #[.int .i64 t419, .int .i64 0, .int .i64 0, .int .i64 0]) ?_ 1 _ rfl; (with_reducible repeat first | apply kn_ | apply kd_ | apply ka_); refine blk_put (cs := #[.int .i64 0, .int .i64 0, .int .i64 0, .int .i64 0]) ?_ 0 _ rfl; (with_reducible repeat first | apply kn_ | apply kd_ | apply ka_); refine blk_far ?_ NB417_423.out _; (with_reducible repeat first | apply kn_ | apply kd_ | apply ka_); refine blk_far ?_ NB417_423.out _; (with_reducible repeat first | apply kn_ | apply kd_ | apply ka_); refine blk_far ?_ NB417_423.out _; (with_reducible repeat first | apply kn_ | apply kd_ | apply ka_); refine blk_far ?_ NB417_423.out _; (with_reducible repeat first | apply kn_ | apply kd_ | apply ka_); exact BK417.out) Tryd.underlying46 rfl (by kernel_rfl)) rfl ?_
   exact ⟨by first | rfl | (simp [errW_none, errW_some] <;> rfl) | (simp [*, errW_none, errW_some] <;> rfl), by repeat (first | (with_reducible first | exact HB.out | apply ba_ | apply pd_ | apply d1_ | refine bs_ ?_ GE417.out | refine bs_ ?_ GE423.out) | exact HB.out)⟩
 ·replace c4 := bf_ c4
  subst c4
  have H1 : (some (0, 0, 0, 0, 2)) = some (r1, r2, r3, r4, r5) := by rw [if_neg (show ¬ (false = true) by decide)] at H; exact H
  clear H; have H := H1; clear H1
  simp only [Option.some.injEq, Prod.mk.injEq] at H
  obtain ⟨rfl, rfl, rfl, rfl, rfl⟩ := H
  go_enter Tryd.func30, Tryd.ntmps30
  go_wp2_with (first | ((with_reducible refine gate_dst (N := 4) rfl ?_); refine box_event ?hg (N := 4) ?hd (cs := #[.int .i64 0, .int .i64 0, .int .i64 0, .int .i64 0]) (t := 46) ?hr ?_; (case hd => rfl); (case hg => rfl); (case hr => first | (go_simp; done) | (go_simp; rfl)); intro gb417 hg w36 hbox hb; have BK417 := sd_ hbox; have GW417 := gw_ HB e0_ hg; have GE417 := GW417; replace HB := hb_ HB e0_ hb; clear hb hbox hg) | ((with_reducible refine gate_callee (f := 39) rfl ?_); refine goesL_ (some 8) rfl rfl Tryd.func39 (by kernel_rfl) rfl #[.int .i64 a0] rfl (by (try simp only [lm_, lq_, lx_]); first | done | rfl | (simp only [ld_, lt_]; rfl)) ?_; (with_reducible refine (neumeref05_Known.calls a0 false _ A3.out).mono ?_); rintro e w' ⟨rfl, ⟨nd, rfl⟩⟩; refine ⟨_, rfl, ?_⟩; (repeat (rw [drewN_self w36]; generalize hq_ : World.drewN w36 _ = w36; have n0_ : Aside0 (w36.heap[gb417]? = some (.cells #[.int .i64 0, .int .i64 0, .int .i64 0, .int .i64 0] 46 (0, 0))) := ⟨by rw [← hq_]; exact (kk_ BK417.out)⟩; have n1_ : Aside0 (Below w.heap.size w w36) := ⟨by rw [← hq_]; exact (bb_ HB.out (e_ GE417 e0_))⟩; clear BK417 HB hq_; have BK417 := n0_; have HB := n1_; clear n0_ n1_)); have hcz37_0 : w36.cell? ⟨gb417, 0, none⟩ = some (.int .i64 0) := (kc_ BK417.out 0).trans rfl; have hcz37_1 : w36.cell? ⟨gb417, 1, none⟩ = some (.int .i64 0) := (kc_ BK417.out 1).trans rfl; have hcz37_2 : w36.cell? ⟨gb417, 2, none⟩ = some (.int .i64 0) := (kc_ BK417.out 2).trans rfl; have hcz37_3 : w36.cell? ⟨gb417, 3, none⟩ = some (.int .i64 0) := (kc_ BK417.out 3).trans rfl; have hfz37_0 := kf_ BK417.out 0; have hfz37_1 := kf_ BK417.out 1; have hfz37_2 := kf_ BK417.out 2; have hfz37_3 := kf_ BK417.out 3))
  refine bodyPost_ret (results_ct rfl _ _ gb417 46 #[.int .i64 0, .int .i64 0, .int .i64 0, .int .i64 0] (0, 0) _ rfl (by (with_reducible repeat first | apply kn_ | apply kd_ | apply ka_); refine blk_put (cs := #[.int .i64 0, .int .i64 0, .int .i64 0, .int .i64 0]) ?_ 3 _ rfl; (with_reducible repeat first | apply kn_ | apply kd_ | apply ka_); refine blk_put (cs := #[.int .i64 0, .int .i64 0, .int .i64 0, .int .i64 0]) ?_ 2 _ rfl; (with_reducible repeat first | apply kn_ | apply kd_ | apply ka_); refine blk_put (cs := #[.int .i64 0, .int .i64 0, .int .i64 0, .int .i64 0]) ?_ 1 _ rfl; (with_reducible repeat first | apply kn_ | apply kd_ | apply ka_); refine blk_put (cs := #[.int .i64 0, .int .i64 0, .int .i64 0, .int .i64 0]) ?_ 0 _ rfl; (with_reducible repeat first | apply kn_ | apply kd_ | apply ka_); exact BK417.out) Tryd.underlying46 rfl (by kernel_rfl)) rfl ?_
  exact ⟨by first | rfl | (simp [errW_none, errW_some] <;> rfl) | (simp [*, errW_none, errW_some] <;> rfl), by repeat (first | (with_reducible first | exact HB.out | apply ba_ | apply pd_ | apply d1_ | refine bs_ ?_ GE417.out) | exact HB.out)⟩

/-! ### neumeref23_width: function 27 -/
def neumeref23_width.f (k : Nat) (a0 : Int) (a1 : Bool) : Option (Int) := (neumeref05_Extent.f k a0 a1).bind fun bt432 => (some (wrap64 (bt432.2.2.1 - bt432.1)))
theorem neumeref23_width.mono : ∀ a0 a1 k, LeO (neumeref23_width.f k a0 a1) (neumeref23_width.f (k + 1) a0 a1) := by
 intro a0 a1 k
 unfold neumeref23_width.f
 repeat' first
   | (with_reducible exact neumeref05_Extent.mono _ _ _)
   | (with_reducible exact LeO.refl _)
   | (with_reducible exact LeO.none _)
   | (with_reducible refine LeO.ite ?_ ?_)
   | (with_reducible refine LeO.bind ?_ (fun _ => ?_))
   | exact neumeref05_Extent.mono _ _ _
   | exact LeO.none _
   | refine LeO.ite ?_ ?_
   | refine LeO.bind ?_ (fun _ => ?_)
set_option maxHeartbeats 8000000 in
set_option maxRecDepth 100000 in
theorem neumeref23_width.calls (k : Nat) (a0 : Int) (a1 : Bool) (r : Int) (w : World) (h : neumeref23_width.f k a0 a1 = some r) :
  Calls Tryd.prog 27 #[.int .i64 a0, .bool a1] w fun e w' => e = .returned (.int .i64 r) ∧ Below w.heap.size w w' := by
 have hu46 := Tryd.underlying46
 have HB := sd_ (Below.refl w.heap.size w)
 have H : ((neumeref05_Extent.f k a0 a1).bind fun bt432 => (some (wrap64 (bt432.2.2.1 - bt432.1)))) = some r := h
 clear h
 replace H := ob_ H
 obtain ⟨⟨t432, t433, t434, t435, t436⟩, A30, H⟩ := H
 replace H : (some (wrap64 (t434 - t432))) = some r := H
 have A3 := sd_ A30
 clear A30
 obtain rfl := Option.some.inj H
 go_enter Tryd.func27, Tryd.ntmps27
 go_wp2_with (first | ((with_reducible refine gate_callee (f := 30) rfl ?_); refine goesL_ (some 10) rfl rfl Tryd.func30 (by kernel_rfl) rfl #[.int .i64 a0, .bool a1] rfl (by (try simp only [lm_, lq_, lx_]); first | done | rfl | (simp only [ld_, lt_]; rfl)) ?_; (with_reducible refine (neumeref05_Extent.calls k a0 a1 t432 t433 t434 t435 t436 _ A3.out).mono ?_); rintro e w4 ⟨rfl, hb⟩; refine ⟨_, rfl, ?_⟩; replace HB := hb_ HB e0_ hb; (try clear hb); (try clear hb2); (try clear hk); (try clear hi)) | ((with_reducible refine gate_dst (N := 5) rfl ?_); refine box_event ?hg (N := 5) ?hd (cs := #[.int .i64 0, .int .i64 0, .int .i64 0, .int .i64 0]) (t := 46) ?hr ?_; (case hd => rfl); (case hg => rfl); (case hr => first | (go_simp; done) | (go_simp; rfl)); intro gb437 hg w5 hbox hb; have BK437 := sd_ hbox; have GW437 := gw_ HB e0_ hg; have GE437 := GW437; replace HB := hb_ HB e0_ hb; clear hb hbox hg; have hcz6_0 : w5.cell? ⟨gb437, 0, none⟩ = some (.int .i64 0) := (kc_ BK437.out 0).trans rfl; have hcz6_1 : w5.cell? ⟨gb437, 1, none⟩ = some (.int .i64 0) := (kc_ BK437.out 1).trans rfl; have hcz6_2 : w5.cell? ⟨gb437, 2, none⟩ = some (.int .i64 0) := (kc_ BK437.out 2).trans rfl; have hcz6_3 : w5.cell? ⟨gb437, 3, none⟩ = some (.int .i64 0) := (kc_ BK437.out 3).trans rfl; have hfz6_0 := kf_ BK437.out 0; have hfz6_1 := kf_ BK437.out 1; have hfz6_2 := kf_ BK437.out 2; have hfz6_3 := kf_ BK437.out 3))
 go_ret
 exact ⟨by first | rfl | (simp [errW_none, errW_some] <;> rfl) | (simp [*, errW_none, errW_some] <;> rfl), by repeat (first | (with_reducible first | exact HB.out | apply ba_ | apply pd_ | apply d1_ | refine bs_ ?_ GE437.out) | exact HB.out)⟩

/-! ### neumeref23_Spots: function 11 -/
mutual
def neumeref23_Spots.j0 : Nat → Int → Bool → Bool → List Int → Bool → Option (List Int × Int)
 | 0, _, _, _, _, _ => none
 | k + 1, x1, x2, x3, x10, x27 => if x27 = true then (some (([] : List Int), 2)) else ((neumeref23_width.f k x1 x3).bind fun t443 => (if x2 = true then (neumeref23_Spots.j1 k x10 t443) else (neumeref23_Spots.j1 k x10 (wrap64 (-t443)))))
def neumeref23_Spots.j1 : Nat → List Int → Int → Option (List Int × Int)
 | 0, _, _ => none
 | k + 1, x10, x12 => neumeref23_Spots.l0 k x10 x12 ([] : List Int) 0
def neumeref23_Spots.l0 : Nat → List Int → Int → List Int → Int → Option (List Int × Int)
 | 0, _, _, _, _ => none
 | k + 1, x10, x12, x13, x14 => if x14 < (x10.length : Int) then (if 0 ≤ x14 then (if x13.length < 17592186044416 then (neumeref23_Spots.l0 k x10 x12 (x13 ++ [wrap64 (x12 * (rd x10 x14))]) (wrap64 (x14 + 1))) else (none)) else (none)) else (some (x13, 0))
end
def neumeref23_Spots.f (k : Nat) (l0 : List Int) (a1 : Int) (a2 : Bool) (a3 : Bool) : Option (List Int × Int) := (neumeref23_Sides.f k l0 a2).bind fun bt438 => (if bt438.2 = 0 then ((neumeref23_head.f a1).bind fun t442 => (neumeref23_Spots.j0 k a1 a2 a3 bt438.1 (!t442))) else (neumeref23_Spots.j0 k a1 a2 a3 bt438.1 true))
theorem neumeref23_Spots.mono_l : ∀ k, (∀ y0 y1 y2 y3 y4, LeO (neumeref23_Spots.j0 k y0 y1 y2 y3 y4) (neumeref23_Spots.j0 (k + 1) y0 y1 y2 y3 y4)) ∧ (∀ y0 y1, LeO (neumeref23_Spots.j1 k y0 y1) (neumeref23_Spots.j1 (k + 1) y0 y1)) ∧ (∀ y0 y1 y2 y3, LeO (neumeref23_Spots.l0 k y0 y1 y2 y3) (neumeref23_Spots.l0 (k + 1) y0 y1 y2 y3))
 | 0 => ⟨fun _ _ _ _ _ r h => by simp [neumeref23_Spots.j0] at h, fun _ _ r h => by simp [neumeref23_Spots.j1] at h, fun _ _ _ _ r h => by simp [neumeref23_Spots.l0] at h⟩
 | k + 1 => by
  obtain ⟨ih0, ih1, ih2⟩ := neumeref23_Spots.mono_l k
  refine ⟨?_, ?_, ?_⟩
  ·intro y0 y1 y2 y3 y4
   unfold neumeref23_Spots.j0
   repeat' first
   | (with_reducible exact ih0 _ _ _ _ _)
   | (with_reducible exact ih1 _ _)
   | (with_reducible exact ih2 _ _ _ _)
   | (with_reducible exact neumeref23_Sides.mono _ _ _)
   | (with_reducible exact neumeref23_width.mono _ _ _)
   | (with_reducible exact LeO.refl _)
   | (with_reducible exact LeO.none _)
   | (with_reducible refine LeO.ite ?_ ?_)
   | (with_reducible refine LeO.bind ?_ (fun _ => ?_))
   | exact ih0 _ _ _ _ _
   | exact ih1 _ _
   | exact ih2 _ _ _ _
   | exact neumeref23_Sides.mono _ _ _
   | exact neumeref23_width.mono _ _ _
   | exact LeO.none _
   | refine LeO.ite ?_ ?_
   | refine LeO.bind ?_ (fun _ => ?_)
  ·intro y0 y1
   unfold neumeref23_Spots.j1
   repeat' first
   | (with_reducible exact ih0 _ _ _ _ _)
   | (with_reducible exact ih1 _ _)
   | (with_reducible exact ih2 _ _ _ _)
   | (with_reducible exact neumeref23_Sides.mono _ _ _)
   | (with_reducible exact neumeref23_width.mono _ _ _)
   | (with_reducible exact LeO.refl _)
   | (with_reducible exact LeO.none _)
   | (with_reducible refine LeO.ite ?_ ?_)
   | (with_reducible refine LeO.bind ?_ (fun _ => ?_))
   | exact ih0 _ _ _ _ _
   | exact ih1 _ _
   | exact ih2 _ _ _ _
   | exact neumeref23_Sides.mono _ _ _
   | exact neumeref23_width.mono _ _ _
   | exact LeO.none _
   | refine LeO.ite ?_ ?_
   | refine LeO.bind ?_ (fun _ => ?_)
  ·intro y0 y1 y2 y3
   unfold neumeref23_Spots.l0
   repeat' first
   | (with_reducible exact ih0 _ _ _ _ _)
   | (with_reducible exact ih1 _ _)
   | (with_reducible exact ih2 _ _ _ _)
   | (with_reducible exact neumeref23_Sides.mono _ _ _)
   | (with_reducible exact neumeref23_width.mono _ _ _)
   | (with_reducible exact LeO.refl _)
   | (with_reducible exact LeO.none _)
   | (with_reducible refine LeO.ite ?_ ?_)
   | (with_reducible refine LeO.bind ?_ (fun _ => ?_))
   | exact ih0 _ _ _ _ _
   | exact ih1 _ _
   | exact ih2 _ _ _ _
   | exact neumeref23_Sides.mono _ _ _
   | exact neumeref23_width.mono _ _ _
   | exact LeO.none _
   | refine LeO.ite ?_ ?_
   | refine LeO.bind ?_ (fun _ => ?_)
theorem neumeref23_Spots.mono : ∀ a0 a1 a2 a3 k, LeO (neumeref23_Spots.f k a0 a1 a2 a3) (neumeref23_Spots.f (k + 1) a0 a1 a2 a3) := by
 intro a0 a1 a2 a3 k
 obtain ⟨ih0, ih1, ih2⟩ := neumeref23_Spots.mono_l k
 unfold neumeref23_Spots.f
 repeat' first
   | (with_reducible exact ih0 _ _ _ _ _)
   | (with_reducible exact ih1 _ _)
   | (with_reducible exact ih2 _ _ _ _)
   | (with_reducible exact neumeref23_Sides.mono _ _ _)
   | (with_reducible exact neumeref23_width.mono _ _ _)
   | (with_reducible exact LeO.refl _)
   | (with_reducible exact LeO.none _)
   | (with_reducible refine LeO.ite ?_ ?_)
   | (with_reducible refine LeO.bind ?_ (fun _ => ?_))
   | exact ih0 _ _ _ _ _
   | exact ih1 _ _
   | exact ih2 _ _ _ _
   | exact neumeref23_Sides.mono _ _ _
   | exact neumeref23_width.mono _ _ _
   | exact LeO.none _
   | refine LeO.ite ?_ ?_
   | refine LeO.bind ?_ (fun _ => ?_)
set_option maxHeartbeats 8000000 in
set_option maxRecDepth 100000 in
theorem neumeref23_Spots.calls (k : Nat) (A0 : Option Addr) (c0 : Nat) (l0 : List Int) (a1 : Int) (a2 : Bool) (a3 : Bool) (r1 : List Int) (r2 : Int) (w : World) (hr0 : Kd.C (Kd.int .i64) w A0 l0.length l0) (hc0 : l0.length ≤ c0) (h : neumeref23_Spots.f k l0 a1 a2 a3 = some (r1, r2)) :
  Calls Tryd.prog 11 #[.slice A0 l0.length c0, .int .i64 a1, .bool a2, .bool a3] w fun e w' => ∃ v0_ : Value, e = .returned (.tuple #[v0_, .int .i64 r2]) ∧ Kd.R (Kd.int .i64) 3 w' w.heap.size (fun _ => True) v0_ r1 ∧ Below w.heap.size w w' := by
 have HR0 := sd_ hr0
 have HC0 := sd_ hc0
 clear hr0 hc0
 have HB := sd_ (Below.refl w.heap.size w)
 have H : ((neumeref23_Sides.f k l0 a2).bind fun bt438 => (if bt438.2 = 0 then ((neumeref23_head.f a1).bind fun t442 => (neumeref23_Spots.j0 k a1 a2 a3 bt438.1 (!t442))) else (neumeref23_Spots.j0 k a1 a2 a3 bt438.1 true))) = some (r1, r2) := h
 clear h
 replace H := ob_ H
 obtain ⟨⟨t438, t439⟩, A50, H⟩ := H
 replace H : (if t439 = 0 then ((neumeref23_head.f a1).bind fun t442 => (neumeref23_Spots.j0 k a1 a2 a3 t438 (!t442))) else (neumeref23_Spots.j0 k a1 a2 a3 t438 true)) = some (r1, r2) := H
 have A5 := sd_ A50
 clear A50
 have HC6 := sd_ H
 clear H
 go_enter Tryd.func11, Tryd.ntmps11
 go_upto_region 2 with (first | ((with_reducible refine gate_callee (f := 9) rfl ?_); refine goesL_ (some 18) rfl rfl Tryd.func9 (by kernel_rfl) rfl #[.slice A0 l0.length c0, .bool a2] rfl (by (try simp only [lm_, lq_, lx_]); first | done | rfl | (simp only [ld_, lt_]; rfl)) ?_; (with_reducible refine (neumeref23_Sides.calls k _ _ l0 a2 t438 t439 _ ?side1 ?side2 A5.out).mono ?_); (case side1 => repeat (first | exact HR0.out | (with_reducible refine Kd.C_alloc ?_ _) | (with_reducible refine Kd.C_drewN ?_ _) | (with_reducible refine Kd.C_drew ?_))); (case side2 => exact HC0.out); rintro e w7 ⟨v440, rfl, ho0, hb⟩; refine ⟨_, rfl, ?_⟩; have HO441 := sd_ (Kd.R_lower ho0 (bz_ (bb_ HB.out e0_))); replace HB := hb_ HB e0_ hb; (try clear hb); (try clear hb2); (try clear hk); (try clear hi); (try clear ho0)))
 (try simp only [Act.put, ls_, lz_, lc_])
 go_cut [27] (fun v27 wc => ∃ (kq : Nat) (x27_5 : Bool), v27 = .bool x27_5 ∧ Aside0 (neumeref23_Spots.j0 kq a1 a2 a3 t438 x27_5 = some (r1, r2)) ∧ Aside0 (kq ≤ k) ∧ Aside0 (Kd.R (Kd.int .i64) 3 wc w.heap.size (fun _ => True) v440 t438) ∧ Aside0 (Below w.heap.size w wc))
 case first =>
  have H := HC6.out
  clear HC6
  by_cases c8 : t439 = 0
  ·rw [if_pos c8] at H
   have c8b0 : (t439 == 0) = true := beq_iff_eq.mpr c8
   have c8b1 : (t439 != 0) = false := bne_eq_false_iff_eq.mpr c8
   clear c8
   (first | rw [c8b0] | (simp only [i64_w, i32_w]; rw [c8b0]) | skip)
   replace H := ob_ H
   obtain ⟨t442, A90, H⟩ := H
   replace H : (neumeref23_Spots.j0 k a1 a2 a3 t438 (!t442)) = some (r1, r2) := H
   have A9 := sd_ A90
   clear A90
   have H' := sd_ H
   clear H
   go_wp2_with (first | (go_at_call 26; (with_reducible refine (neumeref23_head.calls a1 t442 _ A9.out).mono ?_); rintro e w' ⟨rfl, ⟨nd, rfl⟩⟩))
   go_meet
   case rel => exact ⟨_, (!t442), (by first | rfl | (simp; done) | (simp [*]; done) | (simp [bne]; done)), H', ⟨by first | omega | exact Nat.le_refl _⟩, ⟨by (with_reducible repeat (first | apply Kd.R_alloc | apply Kd.R_drewN | apply Kd.R_drew)); exact HO441.out⟩, ⟨by repeat (first | (with_reducible first | exact HB.out | apply ba_ | apply pd_ | apply d1_) | exact HB.out)⟩⟩
  ·rw [if_neg c8] at H
   have c8b0 : (t439 == 0) = false := beq_eq_false_iff_ne.mpr c8
   have c8b1 : (t439 != 0) = true := bne_iff_ne.mpr c8
   (first | rw [c8b0] | (simp only [i64_w, i32_w]; rw [c8b0]) | skip)
   have H' := sd_ H
   clear H
   go_wp2
   go_meet
   case rel => exact ⟨_, (true), (by first | rfl | (simp; done) | (simp [*]; done) | (simp [bne]; done)), H', ⟨by first | omega | exact Nat.le_refl _⟩, ⟨by (with_reducible repeat (first | apply Kd.R_alloc | apply Kd.R_drewN | apply Kd.R_drew)); exact HO441.out⟩, ⟨by repeat (first | (with_reducible first | exact HB.out | apply ba_ | apply pd_ | apply d1_) | exact HB.out)⟩⟩
 case rest =>
  clear HC6
  try clear c1; try clear p2; try clear c8; try clear c8b0; try clear c8b1; try clear c9
  obtain ⟨kq, x27_5, rfl, HA, HJ5, HO_10, HB⟩ := hcut
  cases kq with
  | zero => exact absurd HA.out (by simp [neumeref23_Spots.j0])
  | succ kj5 =>
   have H := HA.out
   clear HA
   simp only [neumeref23_Spots.j0] at H
   by_cases c10 : x27_5 = true
   ·subst c10
    have H1 : (some (([] : List Int), 2)) = some (r1, r2) := by rw [if_pos rfl] at H; exact H
    clear H; have H := H1; clear H1
    simp only [Option.some.injEq, Prod.mk.injEq] at H
    obtain ⟨rfl, rfl⟩ := H
    go_wp2
    go_ret2
    exact ⟨_, by first | rfl | (simp [errW_none, errW_some] <;> rfl) | (simp [*, errW_none, errW_some] <;> rfl), by first | exact Kd.R_nil _ _ _ _ _ | exact Kd.N_nil _ _ _ _ _ | exact Kd.V_nil _ _ _ _ _ | exact Kd.Q_nil _ _ _ _ _ | exact Kd.S_nil _ _ _ _ _, by repeat (first | (with_reducible first | exact HB.out | apply ba_ | apply pd_ | apply d1_) | exact HB.out)⟩
   ·replace c10 := bf_ c10
    subst c10
    have H1 : ((neumeref23_width.f kj5 a1 a3).bind fun t443 => (if a2 = true then (neumeref23_Spots.j1 kj5 t438 t443) else (neumeref23_Spots.j1 kj5 t438 (wrap64 (-t443))))) = some (r1, r2) := by rw [if_neg (show ¬ (false = true) by decide)] at H; exact H
    clear H; have H := H1; clear H1
    replace H := ob_ H
    obtain ⟨t443, A110, H⟩ := H
    replace H : (if a2 = true then (neumeref23_Spots.j1 kj5 t438 t443) else (neumeref23_Spots.j1 kj5 t438 (wrap64 (-t443)))) = some (r1, r2) := H
    have A11 := sd_ A110
    clear A110
    have HC12 := sd_ H
    clear H
    go_upto_if 32 with (first | ((with_reducible refine gate_callee (f := 27) rfl ?_); refine goesL_ (some 30) rfl rfl Tryd.func27 (by kernel_rfl) rfl #[.int .i64 a1, .bool a3] rfl (by (try simp only [lm_, lq_, lx_]); first | done | rfl | (simp only [ld_, lt_]; rfl)) ?_; (with_reducible refine (neumeref23_width.calls kj5 a1 a3 t443 _ A11.out).mono ?_); rintro e w13 ⟨rfl, hb⟩; refine ⟨_, rfl, ?_⟩; replace HO_10 := sd_ (Kd.R_below (by (with_reducible repeat (first | apply Kd.R_alloc | apply Kd.R_drewN | apply Kd.R_drew)); exact HO_10.out) hb); replace HB := hb_ HB e0_ hb; (try clear hb); (try clear hb2); (try clear hk); (try clear hi)))
    (try simp only [Act.put, ls_, lz_, lc_])
    go_cut [12] (fun v12 wc => ∃ (kq : Nat) (x12_11 : Int), v12 = .int .i64 x12_11 ∧ Aside0 (neumeref23_Spots.j1 kq t438 x12_11 = some (r1, r2)) ∧ Aside0 (kq ≤ kj5) ∧ Aside0 (Kd.R (Kd.int .i64) 3 wc w.heap.size (fun _ => True) v440 t438) ∧ Aside0 (Below w.heap.size w wc))
    case first =>
     have H := HC12.out
     clear HC12
     by_cases c14 : a2 = true
     ·subst c14
      have H1 : (neumeref23_Spots.j1 kj5 t438 t443) = some (r1, r2) := by rw [if_pos rfl] at H; exact H
      clear H; have H := H1; clear H1
      have H' := sd_ H
      clear H
      go_wp2
      go_meet
      case rel => exact ⟨_, (t443), (by first | rfl | (simp; done) | (simp [*]; done) | (simp [bne]; done)), H', ⟨by have := HJ5.out; first | omega | exact Nat.le_refl _⟩, ⟨by (with_reducible repeat (first | apply Kd.R_alloc | apply Kd.R_drewN | apply Kd.R_drew)); exact HO_10.out⟩, ⟨by repeat (first | (with_reducible first | exact HB.out | apply ba_ | apply pd_ | apply d1_) | exact HB.out)⟩⟩
     ·replace c14 := bf_ c14
      subst c14
      have H1 : (neumeref23_Spots.j1 kj5 t438 (wrap64 (-t443))) = some (r1, r2) := by rw [if_neg (show ¬ (false = true) by decide)] at H; exact H
      clear H; have H := H1; clear H1
      have H' := sd_ H
      clear H
      go_wp2
      go_meet
      case rel => exact ⟨_, (wrap64 (-t443)), (by first | rfl | (simp; done) | (simp [*]; done) | (simp [bne]; done)), H', ⟨by have := HJ5.out; first | omega | exact Nat.le_refl _⟩, ⟨by (with_reducible repeat (first | apply Kd.R_alloc | apply Kd.R_drewN | apply Kd.R_drew)); exact HO_10.out⟩, ⟨by repeat (first | (with_reducible first | exact HB.out | apply ba_ | apply pd_ | apply d1_) | exact HB.out)⟩⟩
    case rest =>
     clear HC12
     try clear c1; try clear c2; try clear p2; try clear p6; try clear c8; try clear c8b0; try clear c8b1; try clear c9; try clear c10; try clear c11; try clear c14; try clear p2
     obtain ⟨kq, x12_11, rfl, HA, HJ11, HO_10, HB⟩ := hcut
     cases kq with
     | zero => exact absurd HA.out (by simp [neumeref23_Spots.j1])
     | succ kj11 =>
      have H := HA.out
      clear HA
      simp only [neumeref23_Spots.j1] at H
      have H' := sd_ H
      clear H
      go_wp2
      go_loopg [13, 14] kj11 (fun kq v13 v14 w' => ∃ (x13_3 : List Int) (x14_3 : Int), v14 = .int .i64 x14_3 ∧ Aside0 (neumeref23_Spots.l0 kq t438 x12_11 x13_3 x14_3 = some (r1, r2)) ∧ Aside0 (kq ≤ kj11) ∧ Aside0 (Kd.R (Kd.int .i64) 3 w' w.heap.size (fun k_ => some k_ ≠ (v13 : Value).ownBlock) v440 t438) ∧ Aside0 (Kd.R (Kd.int .i64) 3 w' w.heap.size (fun k_ => some k_ ≠ (v440 : Value).ownBlock) v13 x13_3) ∧ Aside0 (Below w.heap.size w w'))
      case atStart => exact ⟨(([] : List Int)), (0), (by first | rfl | (simp; done) | (simp [*]; done) | (simp [bne]; done)), H', ⟨Nat.le_refl _⟩, ⟨by (with_reducible repeat (first | apply Kd.R_alloc | apply Kd.R_drewN | apply Kd.R_drew)); exact Kd.R_mono HO_10.out (fun _ hk => (by simp [Value.ownBlock]))⟩, ⟨by first | exact Kd.R_nil _ _ _ _ _ | exact Kd.N_nil _ _ _ _ _ | exact Kd.V_nil _ _ _ _ _ | exact Kd.Q_nil _ _ _ _ _ | exact Kd.S_nil _ _ _ _ _⟩, ⟨by repeat (first | (with_reducible first | exact HB.out | apply ba_ | apply pd_ | apply d1_) | exact HB.out)⟩⟩
      case round =>
       clear H'
       try clear c1; try clear c2; try clear p2; try clear p6; try clear c8; try clear c8b0; try clear c8b1; try clear c9; try clear c10; try clear c11; try clear c14; try clear p2; try clear p6
       obtain ⟨x13_3, x14_3, rfl, HA, HK3, HO_10, HO_13, HB⟩ := hrel
       cases gk with
       | zero => exact absurd HA.out (by simp [neumeref23_Spots.l0])
       | succ k3 =>
        have H := HA.out
        clear HA
        simp only [neumeref23_Spots.l0] at H
        by_cases c15 : x14_3 < (t438.length : Int)
        ·rw [if_pos c15] at H
         have c15b0 : decide (x14_3 < (t438.length : Int)) = true := dt_ c15
         clear c15
         by_cases c16 : 0 ≤ x14_3
         ·rw [if_pos c16] at H
          have c16b0 : decide (0 ≤ x14_3) = true := dt_ c16
          clear c16
          by_cases c17 : x13_3.length < 17592186044416
          ·rw [if_pos c17] at H
           have LMc17 := sd_ c17
           clear c17
           obtain ⟨y445, hy445⟩ : ∃ y_ : List Int, y_ = (x13_3 ++ [wrap64 (x12_11 * (rd t438 x14_3))]) := ⟨_, rfl⟩
           replace H : (neumeref23_Spots.l0 k3 t438 x12_11 y445 (wrap64 (x14_3 + 1))) = some (r1, r2) := by first | (rw [hy445]; with_reducible exact H) | (have H2_ := (Option.bind_some _ _).symm.trans H; rw [hy445]; with_reducible exact H2_) | (have H2_ := (Option.bind_some _ _).symm.trans H; with_reducible exact H2_) | with_reducible exact H | (rw [hy445]; exact H) | exact H
           have Ny445 := sd_ hy445
           clear hy445
           have H' := sd_ H
           clear H
           obtain ⟨Ao18, co18, eo18⟩ := Kd.R_slice HO_10.out
           subst eo18
           have p444 : 0 ≤ (x14_3 : Int) := od_ (by first | (with_reducible assumption) | assumption)
           have q444 : x14_3 < (t438.length : Int) := od_ (by first | (with_reducible assumption) | assumption)
           obtain ⟨ad444, e444, hx444_0⟩ := Kd.at_int (Kd.R_reads' HO_10.out).2.2 x14_3 p444 q444
           cases e444
           replace p444 := eq_true p444
           replace q444 := eq_true q444
           go_wp2_with (first | ((with_reducible refine gate_builtin (b := .append) (xs := #[.tmp 41, .tmp 48]) rfl ?_); at_builtin; refine Kd.R_append (Kd.int .i64) (w0 := w) w.heap.size rfl (.tmp 41) (.tmp 48) 22 3 (.int .i64 0) 8 rfl Tryd.underlying22 info3 rfl (by decide) (by omega) u13 x13_3 (wrap64 (x12_11 * (rd t438 x14_3))) [.int .i64 (wrap64 (x12_11 * (rd t438 x14_3)))] (fun k_ => some k_ ≠ (.slice (some ad444) t438.length co18 : Value).ownBlock) (fun _ => False) rfl rfl ?aP (fun _ hk => hk.elim) ?aF ?aO ?aB ?aS ?aL ?_; (case aP => exact rfl); (case aB => exact (bb_ HB.out e0_)); (case aF => exact (fun k_ hk => Kd.fresh' (Kd.R_lt (by (with_reducible repeat (first | apply Kd.R_alloc | apply Kd.R_drewN | apply Kd.R_drew)); exact HO_10.out)) k_ hk)); (case aO => exact (by (with_reducible repeat (first | apply Kd.R_alloc | apply Kd.R_drewN | apply Kd.R_drew)); exact HO_13.out)); (case aS => exact (bz_ (bb_ HB.out e0_))); (case aL => have := LMc17.out; omega); intro v446 w19 ho hb hg hat; rw [← Ny445.out] at ho; have HO447 := sd_ (ho); replace HO_10 := sd_ (Kd.R_after (ok := (fun _ => True)) (by (with_reducible repeat (first | apply Kd.R_alloc | apply Kd.R_drewN | apply Kd.R_drew)); exact Kd.R_mono HO_10.out (fun _ hk => ⟨trivial, hk⟩)) hg hat); replace HB := sd_ (hb); clear HO_13; clear ho hb hg hat))
           go_roundg k3
           case measure => have := HJ5.out; have := HJ11.out; have := HK3.out; omega
           case rel => exact ⟨(y445), (wrap64 (x14_3 + 1)), (by first | rfl | (simp; done) | (simp [*]; done) | (simp [bne]; done)), H', ⟨by have := HJ5.out; have := HJ11.out; have := HK3.out; omega⟩, ⟨by (with_reducible repeat (first | apply Kd.R_alloc | apply Kd.R_drewN | apply Kd.R_drew)); exact Kd.R_mono HO_10.out (fun _ hk => hk.2)⟩, ⟨by (with_reducible repeat (first | apply Kd.R_alloc | apply Kd.R_drewN | apply Kd.R_drew)); exact HO447.out⟩, ⟨by repeat (first | (with_reducible first | exact HB.out | apply ba_ | apply pd_ | apply d1_) | exact HB.out)⟩⟩
          ·rw [if_neg c17] at H
           exact absurd H (by simp)
         ·rw [if_neg c16] at H
          exact absurd H (by simp)
        ·rw [if_neg c15] at H
         have c15b0 : decide (x14_3 < (t438.length : Int)) = false := df_ c15
         clear c15
         simp only [Option.some.injEq, Prod.mk.injEq] at H
         obtain ⟨rfl, rfl⟩ := H
         obtain ⟨Ao20, co20, eo20⟩ := Kd.R_slice HO_10.out
         subst eo20
         go_wp2
         go_ret2
         exact ⟨_, by first | rfl | (simp [errW_none, errW_some] <;> rfl) | (simp [*, errW_none, errW_some] <;> rfl), by (with_reducible repeat (first | apply Kd.R_alloc | apply Kd.R_drewN | apply Kd.R_drew)); exact Kd.R_mono HO_13.out (fun _ hk => trivial), by repeat (first | (with_reducible first | exact HB.out | apply ba_ | apply pd_ | apply d1_) | exact HB.out)⟩

end Go.Proofs.YtcokemaiploejaaDoor.P
