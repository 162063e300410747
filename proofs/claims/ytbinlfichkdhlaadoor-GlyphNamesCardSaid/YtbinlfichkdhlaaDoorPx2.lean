-- Written by a program of this session (wip/tools/xprint.py, over the kit's print): Lean checks it.
import Derived.Test.YtbinlfichkdhlaaDoorPx0
namespace Go.Proofs.YtbinlfichkdhlaaDoor.P
open Go.RowKit Go.Proofs.YtbinlfichkdhlaaDoorW.PrintWords Go.Proofs.YtbinlfichkdhlaaDoorW.PrintLast Go.Proofs.YtbinlfichkdhlaaDoorW.PrintMore
attribute [local go_sem] max2_int min2_int max_two min_two max_three min_three max_four min_four   -- for this text's walks alone
set_option linter.unusedVariables false
set_option linter.unusedSimpArgs false

/-! ### glyph_Known: function 9 -/
def glyph_Known.f (a0 : Int) : Option (Bool) := if a0 ≥ 1 then (some (decide (a0 ≤ 47))) else (some false)
set_option maxHeartbeats 8000000 in
set_option maxRecDepth 100000 in
theorem glyph_Known.calls (a0 : Int) (r : Bool) (w : World) (h : glyph_Known.f a0 = some r) :
  Calls Tryd.prog 9 #[.int .i64 a0] w fun e w' => e = .returned (.bool r) ∧ Drawn0 w w' := by
 have H : (if a0 ≥ 1 then (some (decide (a0 ≤ 47))) else (some false)) = some r := h
 clear h
 by_cases c2 : a0 ≥ 1
 ·rw [if_pos c2] at H
  have c2b0 : decide (1 ≤ a0) = true := dt_ c2
  clear c2
  obtain rfl := Option.some.inj H
  go_enter Tryd.func9, Tryd.ntmps9
  go_wp2
  go_ret
  exact ⟨by first | rfl | (simp; done) | (simp [*]; done), by repeat (first | exact Drawn0.refl _ | apply Drawn0.step)⟩
 ·rw [if_neg c2] at H
  have c2b0 : decide (1 ≤ a0) = false := df_ c2
  clear c2
  obtain rfl := Option.some.inj H
  go_enter Tryd.func9, Tryd.ntmps9
  go_wp2
  go_ret
  exact ⟨by first | rfl | (simp; done) | (simp [*]; done), by repeat (first | exact Drawn0.refl _ | apply Drawn0.step)⟩

/-! ### glyph_first: function 23 -/
def glyph_first.f (row : Int) : Option Int := if row = 0 then some 1 else if row = 1 then some 5 else if row = 2 then some 13 else if row = 3 then some 17 else if row = 4 then some 21 else if row = 5 then some 26 else if row = 6 then some 30 else if row = 7 then some 40 else none
set_option maxHeartbeats 2000000 in
set_option maxRecDepth 100000 in
theorem glyph_first.calls (a0 : Int) (r : Int) (w : World) (h : glyph_first.f a0 = some r) :
  Calls Tryd.prog 23 #[.int .i64 a0] w fun e w' => e = .returned (.int .i64 r) ∧ Drawn0 w w' := by
 unfold glyph_first.f at h
 by_cases c0 : a0 = 0
 ·subst c0
  obtain rfl : 1 = r := Option.some.inj h
  clear h
  have hix : (Instr.index 64 (.agg #[.int .i64 1, .int .i64 5, .int .i64 13, .int .i64 17, .int .i64 21, .int .i64 26, .int .i64 30, .int .i64 40]) (.int .i64 0)).run Tryd.prog w = .ok (.int .i64 1) w := by kernel_rfl
  go_enter Tryd.func23, Tryd.ntmps23
  go_wp2
  go_ret
  exact ⟨rfl, Drawn0.refl _⟩
 rw [if_neg c0] at h
 by_cases c1 : a0 = 1
 ·subst c1
  obtain rfl : 5 = r := Option.some.inj h
  clear h
  have hix : (Instr.index 64 (.agg #[.int .i64 1, .int .i64 5, .int .i64 13, .int .i64 17, .int .i64 21, .int .i64 26, .int .i64 30, .int .i64 40]) (.int .i64 1)).run Tryd.prog w = .ok (.int .i64 5) w := by kernel_rfl
  go_enter Tryd.func23, Tryd.ntmps23
  go_wp2
  go_ret
  exact ⟨rfl, Drawn0.refl _⟩
 rw [if_neg c1] at h
 by_cases c2 : a0 = 2
 ·subst c2
  obtain rfl : 13 = r := Option.some.inj h
  clear h
  have hix : (Instr.index 64 (.agg #[.int .i64 1, .int .i64 5, .int .i64 13, .int .i64 17, .int .i64 21, .int .i64 26, .int .i64 30, .int .i64 40]) (.int .i64 2)).run Tryd.prog w = .ok (.int .i64 13) w := by kernel_rfl
  go_enter Tryd.func23, Tryd.ntmps23
  go_wp2
  go_ret
  exact ⟨rfl, Drawn0.refl _⟩
 rw [if_neg c2] at h
 by_cases c3 : a0 = 3
 ·subst c3
  obtain rfl : 17 = r := Option.some.inj h
  clear h
  have hix : (Instr.index 64 (.agg #[.int .i64 1, .int .i64 5, .int .i64 13, .int .i64 17, .int .i64 21, .int .i64 26, .int .i64 30, .int .i64 40]) (.int .i64 3)).run Tryd.prog w = .ok (.int .i64 17) w := by kernel_rfl
  go_enter Tryd.func23, Tryd.ntmps23
  go_wp2
  go_ret
  exact ⟨rfl, Drawn0.refl _⟩
 rw [if_neg c3] at h
 by_cases c4 : a0 = 4
 ·subst c4
  obtain rfl : 21 = r := Option.some.inj h
  clear h
  have hix : (Instr.index 64 (.agg #[.int .i64 1, .int .i64 5, .int .i64 13, .int .i64 17, .int .i64 21, .int .i64 26, .int .i64 30, .int .i64 40]) (.int .i64 4)).run Tryd.prog w = .ok (.int .i64 21) w := by kernel_rfl
  go_enter Tryd.func23, Tryd.ntmps23
  go_wp2
  go_ret
  exact ⟨rfl, Drawn0.refl _⟩
 rw [if_neg c4] at h
 by_cases c5 : a0 = 5
 ·subst c5
  obtain rfl : 26 = r := Option.some.inj h
  clear h
  have hix : (Instr.index 64 (.agg #[.int .i64 1, .int .i64 5, .int .i64 13, .int .i64 17, .int .i64 21, .int .i64 26, .int .i64 30, .int .i64 40]) (.int .i64 5)).run Tryd.prog w = .ok (.int .i64 26) w := by kernel_rfl
  go_enter Tryd.func23, Tryd.ntmps23
  go_wp2
  go_ret
  exact ⟨rfl, Drawn0.refl _⟩
 rw [if_neg c5] at h
 by_cases c6 : a0 = 6
 ·subst c6
  obtain rfl : 30 = r := Option.some.inj h
  clear h
  have hix : (Instr.index 64 (.agg #[.int .i64 1, .int .i64 5, .int .i64 13, .int .i64 17, .int .i64 21, .int .i64 26, .int .i64 30, .int .i64 40]) (.int .i64 6)).run Tryd.prog w = .ok (.int .i64 30) w := by kernel_rfl
  go_enter Tryd.func23, Tryd.ntmps23
  go_wp2
  go_ret
  exact ⟨rfl, Drawn0.refl _⟩
 rw [if_neg c6] at h
 by_cases c7 : a0 = 7
 ·subst c7
  obtain rfl : 40 = r := Option.some.inj h
  clear h
  have hix : (Instr.index 64 (.agg #[.int .i64 1, .int .i64 5, .int .i64 13, .int .i64 17, .int .i64 21, .int .i64 26, .int .i64 30, .int .i64 40]) (.int .i64 7)).run Tryd.prog w = .ok (.int .i64 40) w := by kernel_rfl
  go_enter Tryd.func23, Tryd.ntmps23
  go_wp2
  go_ret
  exact ⟨rfl, Drawn0.refl _⟩
 rw [if_neg c7] at h
 cases h

/-! ### glyph_rowOf: function 14 -/
def glyph_rowOf.l0 : Nat → Int → Int → Int → Option (Int × Int)
 | 0, _, _, _ => none
 | k + 1, x0, x4, x5 => if x5 ≤ 7 then ((glyph_first.f x5).bind fun t101 => (if x0 ≥ t101 then (glyph_rowOf.l0 k x0 x5 (wrap64 (x5 + 1))) else (glyph_rowOf.l0 k x0 x4 (wrap64 (x5 + 1))))) else ((glyph_first.f x4).bind fun t102 => (some (x4, wrap64 (x0 - t102))))
def glyph_rowOf.f (k : Nat) (a0 : Int) : Option (Int × Int) := glyph_rowOf.l0 k a0 0 0
theorem glyph_rowOf.mono_l : ∀ k, (∀ y0 y1 y2, LeO (glyph_rowOf.l0 k y0 y1 y2) (glyph_rowOf.l0 (k + 1) y0 y1 y2))
 | 0 => fun _ _ _ r h => by simp [glyph_rowOf.l0] at h
 | k + 1 => by
  have ih0 := glyph_rowOf.mono_l k
  ·intro y0 y1 y2
   unfold glyph_rowOf.l0
   repeat' first
   | (with_reducible exact ih0 _ _ _)
   | (with_reducible exact LeO.refl _)
   | (with_reducible exact LeO.none _)
   | (with_reducible refine LeO.ite ?_ ?_)
   | (with_reducible refine LeO.bind ?_ (fun _ => ?_))
   | exact ih0 _ _ _
   | exact LeO.none _
   | refine LeO.ite ?_ ?_
   | refine LeO.bind ?_ (fun _ => ?_)
theorem glyph_rowOf.mono : ∀ a0 k, LeO (glyph_rowOf.f k a0) (glyph_rowOf.f (k + 1) a0) := by
 intro a0 k
 have ih0 := glyph_rowOf.mono_l k
 unfold glyph_rowOf.f
 repeat' first
   | (with_reducible exact ih0 _ _ _)
   | (with_reducible exact LeO.refl _)
   | (with_reducible exact LeO.none _)
   | (with_reducible refine LeO.ite ?_ ?_)
   | (with_reducible refine LeO.bind ?_ (fun _ => ?_))
   | exact ih0 _ _ _
   | exact LeO.none _
   | refine LeO.ite ?_ ?_
   | refine LeO.bind ?_ (fun _ => ?_)
set_option maxHeartbeats 8000000 in
set_option maxRecDepth 100000 in
theorem glyph_rowOf.calls (k : Nat) (a0 : Int) (r1 : Int) (r2 : Int) (w : World) (h : glyph_rowOf.f k a0 = some (r1, r2)) :
  Calls Tryd.prog 14 #[.int .i64 a0] w fun e w' => e = .returned (.tuple #[.int .i64 r1, .int .i64 r2]) ∧ Drawn0 w w' := by
 have H : (glyph_rowOf.l0 k a0 0 0) = some (r1, r2) := h
 clear h
 have H' := sd_ H
 clear H
 go_enter Tryd.func14, Tryd.ntmps14
 go_wp2
 go_loopg [4, 5] k (fun kq v4 v5 w' => ∃ (x4_1 : Int) (x5_1 : Int), v4 = .int .i64 x4_1 ∧ v5 = .int .i64 x5_1 ∧ Aside0 (glyph_rowOf.l0 kq a0 x4_1 x5_1 = some (r1, r2)) ∧ Aside0 (kq ≤ k) ∧ Drawn0 w w')
 case atStart => exact ⟨(0), (0), (by first | rfl | (simp; done) | (simp [*]; done) | (simp [bne]; done)), (by first | rfl | (simp; done) | (simp [*]; done) | (simp [bne]; done)), H', ⟨Nat.le_refl _⟩, by repeat (first | exact Drawn0.refl _ | apply Drawn0.step)⟩
 case round =>
  clear H'
  try clear c1
  obtain ⟨x4_1, x5_1, rfl, rfl, HA, HK1, ⟨m1, rfl⟩⟩ := hrel
  cases gk with
  | zero => exact absurd HA.out (by simp [glyph_rowOf.l0])
  | succ k1 =>
   have H := HA.out
   clear HA
   simp only [glyph_rowOf.l0] at H
   by_cases c2 : x5_1 ≤ 7
   ·rw [if_pos c2] at H
    have c2b0 : decide (x5_1 ≤ 7) = true := dt_ c2
    clear c2
    replace H := ob_ H
    obtain ⟨t101, A30, H⟩ := H
    replace H : (if a0 ≥ t101 then (glyph_rowOf.l0 k1 a0 x5_1 (wrap64 (x5_1 + 1))) else (glyph_rowOf.l0 k1 a0 x4_1 (wrap64 (x5_1 + 1)))) = some (r1, r2) := H
    have A3 := sd_ A30
    clear A30
    by_cases c4 : a0 ≥ t101
    ·rw [if_pos c4] at H
     have c4b0 : decide (t101 ≤ a0) = true := dt_ c4
     clear c4
     have H' := sd_ H
     clear H
     go_wp2_with (first | ((with_reducible refine gate_callee (f := 23) rfl ?_); refine goesL_ (some 12) rfl rfl Tryd.func23 (by kernel_rfl) rfl #[.int .i64 x5_1] rfl (by (try simp only [lm_, lq_, lx_]); first | done | rfl | (simp only [ld_, lt_]; rfl)) ?_; (with_reducible refine (glyph_first.calls x5_1 t101 _ A3.out).mono ?_); rintro e w' ⟨rfl, ⟨nd, rfl⟩⟩; refine ⟨_, rfl, ?_⟩))
     go_roundg k1
     case measure => have := HK1.out; omega
     case rel => exact ⟨(x5_1), (wrap64 (x5_1 + 1)), (by first | rfl | (simp; done) | (simp [*]; done) | (simp [bne]; done)), (by first | rfl | (simp; done) | (simp [*]; done) | (simp [bne]; done)), H', ⟨by have := HK1.out; omega⟩, by repeat (first | exact Drawn0.refl _ | apply Drawn0.step)⟩
    ·rw [if_neg c4] at H
     have c4b0 : decide (t101 ≤ a0) = false := df_ c4
     clear c4
     have H' := sd_ H
     clear H
     go_wp2_with (first | ((with_reducible refine gate_callee (f := 23) rfl ?_); refine goesL_ (some 12) rfl rfl Tryd.func23 (by kernel_rfl) rfl #[.int .i64 x5_1] rfl (by (try simp only [lm_, lq_, lx_]); first | done | rfl | (simp only [ld_, lt_]; rfl)) ?_; (with_reducible refine (glyph_first.calls x5_1 t101 _ A3.out).mono ?_); rintro e w' ⟨rfl, ⟨nd, rfl⟩⟩; refine ⟨_, rfl, ?_⟩))
     go_roundg k1
     case measure => have := HK1.out; omega
     case rel => exact ⟨(x4_1), (wrap64 (x5_1 + 1)), (by first | rfl | (simp; done) | (simp [*]; done) | (simp [bne]; done)), (by first | rfl | (simp; done) | (simp [*]; done) | (simp [bne]; done)), H', ⟨by have := HK1.out; omega⟩, by repeat (first | exact Drawn0.refl _ | apply Drawn0.step)⟩
   ·rw [if_neg c2] at H
    have c2b0 : decide (x5_1 ≤ 7) = false := df_ c2
    clear c2
    replace H := ob_ H
    obtain ⟨t102, A50, H⟩ := H
    replace H : (some (x4_1, wrap64 (a0 - t102))) = some (r1, r2) := H
    have A5 := sd_ A50
    clear A50
    simp only [Option.some.injEq, Prod.mk.injEq] at H
    obtain ⟨rfl, rfl⟩ := H
    go_wp2_with (first | ((with_reducible refine gate_callee (f := 23) rfl ?_); refine goesL_ (some 18) rfl rfl Tryd.func23 (by kernel_rfl) rfl #[.int .i64 x4_1] rfl (by (try simp only [lm_, lq_, lx_]); first | done | rfl | (simp only [ld_, lt_]; rfl)) ?_; (with_reducible refine (glyph_first.calls x4_1 t102 _ A5.out).mono ?_); rintro e w' ⟨rfl, ⟨nd, rfl⟩⟩; refine ⟨_, rfl, ?_⟩))
    go_ret2
    exact ⟨by first | rfl | (simp; done) | (simp [*]; done), by repeat (first | exact Drawn0.refl _ | apply Drawn0.step)⟩

/-! ### glyph_names: function 16 -/
/-- The rows' names. -/
def namesT : List ByteArray := [⟨#[98, 114, 101, 118, 101, 32, 119, 104, 111, 108, 101, 32, 104, 97, 108, 102, 32, 98, 108, 97, 99, 107]⟩, ⟨#[114, 101, 115, 116, 45, 98, 114, 101, 118, 101, 32, 114, 101, 115, 116, 45, 49, 32, 114, 101, 115, 116, 45, 50, 32, 114, 101, 115, 116, 45, 52, 32, 114, 101, 115, 116, 45, 56, 32, 114, 101, 115, 116, 45, 49, 54, 32, 114, 101, 115, 116, 45, 51, 50, 32, 114, 101, 115, 116, 45, 54, 52]⟩, ⟨#[117, 112, 45, 56, 32, 117, 112, 45, 49, 54, 32, 117, 112, 45, 51, 50, 32, 117, 112, 45, 54, 52]⟩, ⟨#[100, 111, 119, 110, 45, 56, 32, 100, 111, 119, 110, 45, 49, 54, 32, 100, 111, 119, 110, 45, 51, 50, 32, 100, 111, 119, 110, 45, 54, 52]⟩, ⟨#[115, 104, 97, 114, 112, 32, 102, 108, 97, 116, 32, 110, 97, 116, 117, 114, 97, 108, 32, 100, 111, 117, 98, 108, 101, 45, 115, 104, 97, 114, 112, 32, 100, 111, 117, 98, 108, 101, 45, 102, 108, 97, 116]⟩, ⟨#[116, 114, 101, 98, 108, 101, 32, 98, 97, 115, 115, 32, 97, 108, 116, 111, 32, 116, 101, 110, 111, 114]⟩, ⟨#[48, 32, 49, 32, 50, 32, 51, 32, 52, 32, 53, 32, 54, 32, 55, 32, 56, 32, 57]⟩, ⟨#[100, 111, 116, 32, 98, 97, 114, 32, 98, 97, 114, 45, 100, 111, 117, 98, 108, 101, 32, 98, 97, 114, 45, 101, 110, 100, 32, 112, 32, 109, 32, 102, 32, 98, 114, 97, 99, 101]⟩]
def glyph_names.f (row : Int) : Option ByteArray := if row = 0 then some ⟨#[98, 114, 101, 118, 101, 32, 119, 104, 111, 108, 101, 32, 104, 97, 108, 102, 32, 98, 108, 97, 99, 107]⟩ else if row = 1 then some ⟨#[114, 101, 115, 116, 45, 98, 114, 101, 118, 101, 32, 114, 101, 115, 116, 45, 49, 32, 114, 101, 115, 116, 45, 50, 32, 114, 101, 115, 116, 45, 52, 32, 114, 101, 115, 116, 45, 56, 32, 114, 101, 115, 116, 45, 49, 54, 32, 114, 101, 115, 116, 45, 51, 50, 32, 114, 101, 115, 116, 45, 54, 52]⟩ else if row = 2 then some ⟨#[117, 112, 45, 56, 32, 117, 112, 45, 49, 54, 32, 117, 112, 45, 51, 50, 32, 117, 112, 45, 54, 52]⟩ else if row = 3 then some ⟨#[100, 111, 119, 110, 45, 56, 32, 100, 111, 119, 110, 45, 49, 54, 32, 100, 111, 119, 110, 45, 51, 50, 32, 100, 111, 119, 110, 45, 54, 52]⟩ else if row = 4 then some ⟨#[115, 104, 97, 114, 112, 32, 102, 108, 97, 116, 32, 110, 97, 116, 117, 114, 97, 108, 32, 100, 111, 117, 98, 108, 101, 45, 115, 104, 97, 114, 112, 32, 100, 111, 117, 98, 108, 101, 45, 102, 108, 97, 116]⟩ else if row = 5 then some ⟨#[116, 114, 101, 98, 108, 101, 32, 98, 97, 115, 115, 32, 97, 108, 116, 111, 32, 116, 101, 110, 111, 114]⟩ else if row = 6 then some ⟨#[48, 32, 49, 32, 50, 32, 51, 32, 52, 32, 53, 32, 54, 32, 55, 32, 56, 32, 57]⟩ else if row = 7 then some ⟨#[100, 111, 116, 32, 98, 97, 114, 32, 98, 97, 114, 45, 100, 111, 117, 98, 108, 101, 32, 98, 97, 114, 45, 101, 110, 100, 32, 112, 32, 109, 32, 102, 32, 98, 114, 97, 99, 101]⟩ else none
set_option maxHeartbeats 2000000 in
set_option maxRecDepth 100000 in
theorem glyph_names.calls (a0 : Int) (r : ByteArray) (w : World) (h : glyph_names.f a0 = some r) :
  Calls Tryd.prog 16 #[.int .i64 a0] w fun e w' => e = .returned (.string r) ∧ Drawn0 w w' := by
 unfold glyph_names.f at h
 by_cases c0 : a0 = 0
 ·subst c0
  obtain rfl : ⟨#[98, 114, 101, 118, 101, 32, 119, 104, 111, 108, 101, 32, 104, 97, 108, 102, 32, 98, 108, 97, 99, 107]⟩ = r := Option.some.inj h
  clear h
  have hix : (Instr.index 56 (.agg #[.string ⟨#[98, 114, 101, 118, 101, 32, 119, 104, 111, 108, 101, 32, 104, 97, 108, 102, 32, 98, 108, 97, 99, 107]⟩, .string ⟨#[114, 101, 115, 116, 45, 98, 114, 101, 118, 101, 32, 114, 101, 115, 116, 45, 49, 32, 114, 101, 115, 116, 45, 50, 32, 114, 101, 115, 116, 45, 52, 32, 114, 101, 115, 116, 45, 56, 32, 114, 101, 115, 116, 45, 49, 54, 32, 114, 101, 115, 116, 45, 51, 50, 32, 114, 101, 115, 116, 45, 54, 52]⟩, .string ⟨#[117, 112, 45, 56, 32, 117, 112, 45, 49, 54, 32, 117, 112, 45, 51, 50, 32, 117, 112, 45, 54, 52]⟩, .string ⟨#[100, 111, 119, 110, 45, 56, 32, 100, 111, 119, 110, 45, 49, 54, 32, 100, 111, 119, 110, 45, 51, 50, 32, 100, 111, 119, 110, 45, 54, 52]⟩, .string ⟨#[115, 104, 97, 114, 112, 32, 102, 108, 97, 116, 32, 110, 97, 116, 117, 114, 97, 108, 32, 100, 111, 117, 98, 108, 101, 45, 115, 104, 97, 114, 112, 32, 100, 111, 117, 98, 108, 101, 45, 102, 108, 97, 116]⟩, .string ⟨#[116, 114, 101, 98, 108, 101, 32, 98, 97, 115, 115, 32, 97, 108, 116, 111, 32, 116, 101, 110, 111, 114]⟩, .string ⟨#[48, 32, 49, 32, 50, 32, 51, 32, 52, 32, 53, 32, 54, 32, 55, 32, 56, 32, 57]⟩, .string ⟨#[100, 111, 116, 32, 98, 97, 114, 32, 98, 97, 114, 45, 100, 111, 117, 98, 108, 101, 32, 98, 97, 114, 45, 101, 110, 100, 32, 112, 32, 109, 32, 102, 32, 98, 114, 97, 99, 101]⟩]) (.int .i64 0)).run Tryd.prog w = .ok (.string ⟨#[98, 114, 101, 118, 101, 32, 119, 104, 111, 108, 101, 32, 104, 97, 108, 102, 32, 98, 108, 97, 99, 107]⟩) w := by kernel_rfl
  go_enter Tryd.func16, Tryd.ntmps16
  go_wp2
  go_ret
  exact ⟨rfl, Drawn0.refl _⟩
 rw [if_neg c0] at h
 by_cases c1 : a0 = 1
 ·subst c1
  obtain rfl : ⟨#[114, 101, 115, 116, 45, 98, 114, 101, 118, 101, 32, 114, 101, 115, 116, 45, 49, 32, 114, 101, 115, 116, 45, 50, 32, 114, 101, 115, 116, 45, 52, 32, 114, 101, 115, 116, 45, 56, 32, 114, 101, 115, 116, 45, 49, 54, 32, 114, 101, 115, 116, 45, 51, 50, 32, 114, 101, 115, 116, 45, 54, 52]⟩ = r := Option.some.inj h
  clear h
  have hix : (Instr.index 56 (.agg #[.string ⟨#[98, 114, 101, 118, 101, 32, 119, 104, 111, 108, 101, 32, 104, 97, 108, 102, 32, 98, 108, 97, 99, 107]⟩, .string ⟨#[114, 101, 115, 116, 45, 98, 114, 101, 118, 101, 32, 114, 101, 115, 116, 45, 49, 32, 114, 101, 115, 116, 45, 50, 32, 114, 101, 115, 116, 45, 52, 32, 114, 101, 115, 116, 45, 56, 32, 114, 101, 115, 116, 45, 49, 54, 32, 114, 101, 115, 116, 45, 51, 50, 32, 114, 101, 115, 116, 45, 54, 52]⟩, .string ⟨#[117, 112, 45, 56, 32, 117, 112, 45, 49, 54, 32, 117, 112, 45, 51, 50, 32, 117, 112, 45, 54, 52]⟩, .string ⟨#[100, 111, 119, 110, 45, 56, 32, 100, 111, 119, 110, 45, 49, 54, 32, 100, 111, 119, 110, 45, 51, 50, 32, 100, 111, 119, 110, 45, 54, 52]⟩, .string ⟨#[115, 104, 97, 114, 112, 32, 102, 108, 97, 116, 32, 110, 97, 116, 117, 114, 97, 108, 32, 100, 111, 117, 98, 108, 101, 45, 115, 104, 97, 114, 112, 32, 100, 111, 117, 98, 108, 101, 45, 102, 108, 97, 116]⟩, .string ⟨#[116, 114, 101, 98, 108, 101, 32, 98, 97, 115, 115, 32, 97, 108, 116, 111, 32, 116, 101, 110, 111, 114]⟩, .string ⟨#[48, 32, 49, 32, 50, 32, 51, 32, 52, 32, 53, 32, 54, 32, 55, 32, 56, 32, 57]⟩, .string ⟨#[100, 111, 116, 32, 98, 97, 114, 32, 98, 97, 114, 45, 100, 111, 117, 98, 108, 101, 32, 98, 97, 114, 45, 101, 110, 100, 32, 112, 32, 109, 32, 102, 32, 98, 114, 97, 99, 101]⟩]) (.int .i64 1)).run Tryd.prog w = .ok (.string ⟨#[114, 101, 115, 116, 45, 98, 114, 101, 118, 101, 32, 114, 101, 115, 116, 45, 49, 32, 114, 101, 115, 116, 45, 50, 32, 114, 101, 115, 116, 45, 52, 32, 114, 101, 115, 116, 45, 56, 32, 114, 101, 115, 116, 45, 49, 54, 32, 114, 101, 115, 116, 45, 51, 50, 32, 114, 101, 115, 116, 45, 54, 52]⟩) w := by kernel_rfl
  go_enter Tryd.func16, Tryd.ntmps16
  go_wp2
  go_ret
  exact ⟨rfl, Drawn0.refl _⟩
 rw [if_neg c1] at h
 by_cases c2 : a0 = 2
 ·subst c2
  obtain rfl : ⟨#[117, 112, 45, 56, 32, 117, 112, 45, 49, 54, 32, 117, 112, 45, 51, 50, 32, 117, 112, 45, 54, 52]⟩ = r := Option.some.inj h
  clear h
  have hix : (Instr.index 56 (.agg #[.string ⟨#[98, 114, 101, 118, 101, 32, 119, 104, 111, 108, 101, 32, 104, 97, 108, 102, 32, 98, 108, 97, 99, 107]⟩, .string ⟨#[114, 101, 115, 116, 45, 98, 114, 101, 118, 101, 32, 114, 101, 115, 116, 45, 49, 32, 114, 101, 115, 116, 45, 50, 32, 114, 101, 115, 116, 45, 52, 32, 114, 101, 115, 116, 45, 56, 32, 114, 101, 115, 116, 45, 49, 54, 32, 114, 101, 115, 116, 45, 51, 50, 32, 114, 101, 115, 116, 45, 54, 52]⟩, .string ⟨#[117, 112, 45, 56, 32, 117, 112, 45, 49, 54, 32, 117, 112, 45, 51, 50, 32, 117, 112, 45, 54, 52]⟩, .string ⟨#[100, 111, 119, 110, 45, 56, 32, 100, 111, 119, 110, 45, 49, 54, 32, 100, 111, 119, 110, 45, 51, 50, 32, 100, 111, 119, 110, 45, 54, 52]⟩, .string ⟨#[115, 104, 97, 114, 112, 32, 102, 108, 97, 116, 32, 110, 97, 116, 117, 114, 97, 108, 32, 100, 111, 117, 98, 108, 101, 45, 115, 104, 97, 114, 112, 32, 100, 111, 117, 98, 108, 101, 45, 102, 108, 97, 116]⟩, .string ⟨#[116, 114, 101, 98, 108, 101, 32, 98, 97, 115, 115, 32, 97, 108, 116, 111, 32, 116, 101, 110, 111, 114]⟩, .string ⟨#[48, 32, 49, 32, 50, 32, 51, 32, 52, 32, 53, 32, 54, 32, 55, 32, 56, 32, 57]⟩, .string ⟨#[100, 111, 116, 32, 98, 97, 114, 32, 98, 97, 114, 45, 100, 111, 117, 98, 108, 101, 32, 98, 97, 114, 45, 101, 110, 100, 32, 112, 32, 109, 32, 102, 32, 98, 114, 97, 99, 101]⟩]) (.int .i64 2)).run Tryd.prog w = .ok (.string ⟨#[117, 112, 45, 56, 32, 117, 112, 45, 49, 54, 32, 117, 112, 45, 51, 50, 32, 117, 112, 45, 54, 52]⟩) w := by kernel_rfl
  go_enter Tryd.func16, Tryd.ntmps16
  go_wp2
  go_ret
  exact ⟨rfl, Drawn0.refl _⟩
 rw [if_neg c2] at h
 by_cases c3 : a0 = 3
 ·subst c3
  obtain rfl : ⟨#[100, 111, 119, 110, 45, 56, 32, 100, 111, 119, 110, 45, 49, 54, 32, 100, 111, 119, 110, 45, 51, 50, 32, 100, 111, 119, 110, 45, 54, 52]⟩ = r := Option.some.inj h
  clear h
  have hix : (Instr.index 56 (.agg #[.string ⟨#[98, 114, 101, 118, 101, 32, 119, 104, 111, 108, 101, 32, 104, 97, 108, 102, 32, 98, 108, 97, 99, 107]⟩, .string ⟨#[114, 101, 115, 116, 45, 98, 114, 101, 118, 101, 32, 114, 101, 115, 116, 45, 49, 32, 114, 101, 115, 116, 45, 50, 32, 114, 101, 115, 116, 45, 52, 32, 114, 101, 115, 116, 45, 56, 32, 114, 101, 115, 116, 45, 49, 54, 32, 114, 101, 115, 116, 45, 51, 50, 32, 114, 101, 115, 116, 45, 54, 52]⟩, .string ⟨#[117, 112, 45, 56, 32, 117, 112, 45, 49, 54, 32, 117, 112, 45, 51, 50, 32, 117, 112, 45, 54, 52]⟩, .string ⟨#[100, 111, 119, 110, 45, 56, 32, 100, 111, 119, 110, 45, 49, 54, 32, 100, 111, 119, 110, 45, 51, 50, 32, 100, 111, 119, 110, 45, 54, 52]⟩, .string ⟨#[115, 104, 97, 114, 112, 32, 102, 108, 97, 116, 32, 110, 97, 116, 117, 114, 97, 108, 32, 100, 111, 117, 98, 108, 101, 45, 115, 104, 97, 114, 112, 32, 100, 111, 117, 98, 108, 101, 45, 102, 108, 97, 116]⟩, .string ⟨#[116, 114, 101, 98, 108, 101, 32, 98, 97, 115, 115, 32, 97, 108, 116, 111, 32, 116, 101, 110, 111, 114]⟩, .string ⟨#[48, 32, 49, 32, 50, 32, 51, 32, 52, 32, 53, 32, 54, 32, 55, 32, 56, 32, 57]⟩, .string ⟨#[100, 111, 116, 32, 98, 97, 114, 32, 98, 97, 114, 45, 100, 111, 117, 98, 108, 101, 32, 98, 97, 114, 45, 101, 110, 100, 32, 112, 32, 109, 32, 102, 32, 98, 114, 97, 99, 101]⟩]) (.int .i64 3)).run Tryd.prog w = .ok (.string ⟨#[100, 111, 119, 110, 45, 56, 32, 100, 111, 119, 110, 45, 49, 54, 32, 100, 111, 119, 110, 45, 51, 50, 32, 100, 111, 119, 110, 45, 54, 52]⟩) w := by kernel_rfl
  go_enter Tryd.func16, Tryd.ntmps16
  go_wp2
  go_ret
  exact ⟨rfl, Drawn0.refl _⟩
 rw [if_neg c3] at h
 by_cases c4 : a0 = 4
 ·subst c4
  obtain rfl : ⟨#[115, 104, 97, 114, 112, 32, 102, 108, 97, 116, 32, 110, 97, 116, 117, 114, 97, 108, 32, 100, 111, 117, 98, 108, 101, 45, 115, 104, 97, 114, 112, 32, 100, 111, 117, 98, 108, 101, 45, 102, 108, 97, 116]⟩ = r := Option.some.inj h
  clear h
  have hix : (Instr.index 56 (.agg #[.string ⟨#[98, 114, 101, 118, 101, 32, 119, 104, 111, 108, 101, 32, 104, 97, 108, 102, 32, 98, 108, 97, 99, 107]⟩, .string ⟨#[114, 101, 115, 116, 45, 98, 114, 101, 118, 101, 32, 114, 101, 115, 116, 45, 49, 32, 114, 101, 115, 116, 45, 50, 32, 114, 101, 115, 116, 45, 52, 32, 114, 101, 115, 116, 45, 56, 32, 114, 101, 115, 116, 45, 49, 54, 32, 114, 101, 115, 116, 45, 51, 50, 32, 114, 101, 115, 116, 45, 54, 52]⟩, .string ⟨#[117, 112, 45, 56, 32, 117, 112, 45, 49, 54, 32, 117, 112, 45, 51, 50, 32, 117, 112, 45, 54, 52]⟩, .string ⟨#[100, 111, 119, 110, 45, 56, 32, 100, 111, 119, 110, 45, 49, 54, 32, 100, 111, 119, 110, 45, 51, 50, 32, 100, 111, 119, 110, 45, 54, 52]⟩, .string ⟨#[115, 104, 97, 114, 112, 32, 102, 108, 97, 116, 32, 110, 97, 116, 117, 114, 97, 108, 32, 100, 111, 117, 98, 108, 101, 45, 115, 104, 97, 114, 112, 32, 100, 111, 117, 98, 108, 101, 45, 102, 108, 97, 116]⟩, .string ⟨#[116, 114, 101, 98, 108, 101, 32, 98, 97, 115, 115, 32, 97, 108, 116, 111, 32, 116, 101, 110, 111, 114]⟩, .string ⟨#[48, 32, 49, 32, 50, 32, 51, 32, 52, 32, 53, 32, 54, 32, 55, 32, 56, 32, 57]⟩, .string ⟨#[100, 111, 116, 32, 98, 97, 114, 32, 98, 97, 114, 45, 100, 111, 117, 98, 108, 101, 32, 98, 97, 114, 45, 101, 110, 100, 32, 112, 32, 109, 32, 102, 32, 98, 114, 97, 99, 101]⟩]) (.int .i64 4)).run Tryd.prog w = .ok (.string ⟨#[115, 104, 97, 114, 112, 32, 102, 108, 97, 116, 32, 110, 97, 116, 117, 114, 97, 108, 32, 100, 111, 117, 98, 108, 101, 45, 115, 104, 97, 114, 112, 32, 100, 111, 117, 98, 108, 101, 45, 102, 108, 97, 116]⟩) w := by kernel_rfl
  go_enter Tryd.func16, Tryd.ntmps16
  go_wp2
  go_ret
  exact ⟨rfl, Drawn0.refl _⟩
 rw [if_neg c4] at h
 by_cases c5 : a0 = 5
 ·subst c5
  obtain rfl : ⟨#[116, 114, 101, 98, 108, 101, 32, 98, 97, 115, 115, 32, 97, 108, 116, 111, 32, 116, 101, 110, 111, 114]⟩ = r := Option.some.inj h
  clear h
  have hix : (Instr.index 56 (.agg #[.string ⟨#[98, 114, 101, 118, 101, 32, 119, 104, 111, 108, 101, 32, 104, 97, 108, 102, 32, 98, 108, 97, 99, 107]⟩, .string ⟨#[114, 101, 115, 116, 45, 98, 114, 101, 118, 101, 32, 114, 101, 115, 116, 45, 49, 32, 114, 101, 115, 116, 45, 50, 32, 114, 101, 115, 116, 45, 52, 32, 114, 101, 115, 116, 45, 56, 32, 114, 101, 115, 116, 45, 49, 54, 32, 114, 101, 115, 116, 45, 51, 50, 32, 114, 101, 115, 116, 45, 54, 52]⟩, .string ⟨#[117, 112, 45, 56, 32, 117, 112, 45, 49, 54, 32, 117, 112, 45, 51, 50, 32, 117, 112, 45, 54, 52]⟩, .string ⟨#[100, 111, 119, 110, 45, 56, 32, 100, 111, 119, 110, 45, 49, 54, 32, 100, 111, 119, 110, 45, 51, 50, 32, 100, 111, 119, 110, 45, 54, 52]⟩, .string ⟨#[115, 104, 97, 114, 112, 32, 102, 108, 97, 116, 32, 110, 97, 116, 117, 114, 97, 108, 32, 100, 111, 117, 98, 108, 101, 45, 115, 104, 97, 114, 112, 32, 100, 111, 117, 98, 108, 101, 45, 102, 108, 97, 116]⟩, .string ⟨#[116, 114, 101, 98, 108, 101, 32, 98, 97, 115, 115, 32, 97, 108, 116, 111, 32, 116, 101, 110, 111, 114]⟩, .string ⟨#[48, 32, 49, 32, 50, 32, 51, 32, 52, 32, 53, 32, 54, 32, 55, 32, 56, 32, 57]⟩, .string ⟨#[100, 111, 116, 32, 98, 97, 114, 32, 98, 97, 114, 45, 100, 111, 117, 98, 108, 101, 32, 98, 97, 114, 45, 101, 110, 100, 32, 112, 32, 109, 32, 102, 32, 98, 114, 97, 99, 101]⟩]) (.int .i64 5)).run Tryd.prog w = .ok (.string ⟨#[116, 114, 101, 98, 108, 101, 32, 98, 97, 115, 115, 32, 97, 108, 116, 111, 32, 116, 101, 110, 111, 114]⟩) w := by kernel_rfl
  go_enter Tryd.func16, Tryd.ntmps16
  go_wp2
  go_ret
  exact ⟨rfl, Drawn0.refl _⟩
 rw [if_neg c5] at h
 by_cases c6 : a0 = 6
 ·subst c6
  obtain rfl : ⟨#[48, 32, 49, 32, 50, 32, 51, 32, 52, 32, 53, 32, 54, 32, 55, 32, 56, 32, 57]⟩ = r := Option.some.inj h
  clear h
  have hix : (Instr.index 56 (.agg #[.string ⟨#[98, 114, 101, 118, 101, 32, 119, 104, 111, 108, 101, 32, 104, 97, 108, 102, 32, 98, 108, 97, 99, 107]⟩, .string ⟨#[114, 101, 115, 116, 45, 98, 114, 101, 118, 101, 32, 114, 101, 115, 116, 45, 49, 32, 114, 101, 115, 116, 45, 50, 32, 114, 101, 115, 116, 45, 52, 32, 114, 101, 115, 116, 45, 56, 32, 114, 101, 115, 116, 45, 49, 54, 32, 114, 101, 115, 116, 45, 51, 50, 32, 114, 101, 115, 116, 45, 54, 52]⟩, .string ⟨#[117, 112, 45, 56, 32, 117, 112, 45, 49, 54, 32, 117, 112, 45, 51, 50, 32, 117, 112, 45, 54, 52]⟩, .string ⟨#[100, 111, 119, 110, 45, 56, 32, 100, 111, 119, 110, 45, 49, 54, 32, 100, 111, 119, 110, 45, 51, 50, 32, 100, 111, 119, 110, 45, 54, 52]⟩, .string ⟨#[115, 104, 97, 114, 112, 32, 102, 108, 97, 116, 32, 110, 97, 116, 117, 114, 97, 108, 32, 100, 111, 117, 98, 108, 101, 45, 115, 104, 97, 114, 112, 32, 100, 111, 117, 98, 108, 101, 45, 102, 108, 97, 116]⟩, .string ⟨#[116, 114, 101, 98, 108, 101, 32, 98, 97, 115, 115, 32, 97, 108, 116, 111, 32, 116, 101, 110, 111, 114]⟩, .string ⟨#[48, 32, 49, 32, 50, 32, 51, 32, 52, 32, 53, 32, 54, 32, 55, 32, 56, 32, 57]⟩, .string ⟨#[100, 111, 116, 32, 98, 97, 114, 32, 98, 97, 114, 45, 100, 111, 117, 98, 108, 101, 32, 98, 97, 114, 45, 101, 110, 100, 32, 112, 32, 109, 32, 102, 32, 98, 114, 97, 99, 101]⟩]) (.int .i64 6)).run Tryd.prog w = .ok (.string ⟨#[48, 32, 49, 32, 50, 32, 51, 32, 52, 32, 53, 32, 54, 32, 55, 32, 56, 32, 57]⟩) w := by kernel_rfl
  go_enter Tryd.func16, Tryd.ntmps16
  go_wp2
  go_ret
  exact ⟨rfl, Drawn0.refl _⟩
 rw [if_neg c6] at h
 by_cases c7 : a0 = 7
 ·subst c7
  obtain rfl : ⟨#[100, 111, 116, 32, 98, 97, 114, 32, 98, 97, 114, 45, 100, 111, 117, 98, 108, 101, 32, 98, 97, 114, 45, 101, 110, 100, 32, 112, 32, 109, 32, 102, 32, 98, 114, 97, 99, 101]⟩ = r := Option.some.inj h
  clear h
  have hix : (Instr.index 56 (.agg #[.string ⟨#[98, 114, 101, 118, 101, 32, 119, 104, 111, 108, 101, 32, 104, 97, 108, 102, 32, 98, 108, 97, 99, 107]⟩, .string ⟨#[114, 101, 115, 116, 45, 98, 114, 101, 118, 101, 32, 114, 101, 115, 116, 45, 49, 32, 114, 101, 115, 116, 45, 50, 32, 114, 101, 115, 116, 45, 52, 32, 114, 101, 115, 116, 45, 56, 32, 114, 101, 115, 116, 45, 49, 54, 32, 114, 101, 115, 116, 45, 51, 50, 32, 114, 101, 115, 116, 45, 54, 52]⟩, .string ⟨#[117, 112, 45, 56, 32, 117, 112, 45, 49, 54, 32, 117, 112, 45, 51, 50, 32, 117, 112, 45, 54, 52]⟩, .string ⟨#[100, 111, 119, 110, 45, 56, 32, 100, 111, 119, 110, 45, 49, 54, 32, 100, 111, 119, 110, 45, 51, 50, 32, 100, 111, 119, 110, 45, 54, 52]⟩, .string ⟨#[115, 104, 97, 114, 112, 32, 102, 108, 97, 116, 32, 110, 97, 116, 117, 114, 97, 108, 32, 100, 111, 117, 98, 108, 101, 45, 115, 104, 97, 114, 112, 32, 100, 111, 117, 98, 108, 101, 45, 102, 108, 97, 116]⟩, .string ⟨#[116, 114, 101, 98, 108, 101, 32, 98, 97, 115, 115, 32, 97, 108, 116, 111, 32, 116, 101, 110, 111, 114]⟩, .string ⟨#[48, 32, 49, 32, 50, 32, 51, 32, 52, 32, 53, 32, 54, 32, 55, 32, 56, 32, 57]⟩, .string ⟨#[100, 111, 116, 32, 98, 97, 114, 32, 98, 97, 114, 45, 100, 111, 117, 98, 108, 101, 32, 98, 97, 114, 45, 101, 110, 100, 32, 112, 32, 109, 32, 102, 32, 98, 114, 97, 99, 101]⟩]) (.int .i64 7)).run Tryd.prog w = .ok (.string ⟨#[100, 111, 116, 32, 98, 97, 114, 32, 98, 97, 114, 45, 100, 111, 117, 98, 108, 101, 32, 98, 97, 114, 45, 101, 110, 100, 32, 112, 32, 109, 32, 102, 32, 98, 114, 97, 99, 101]⟩) w := by kernel_rfl
  go_enter Tryd.func16, Tryd.ntmps16
  go_wp2
  go_ret
  exact ⟨rfl, Drawn0.refl _⟩
 rw [if_neg c7] at h
 cases h

/-! ### glyph_from: function 26 -/
def glyph_from.f (a0 : Int) (a1 : Int) (a2 : Int) : Option (Int × Int × Int × Int) := some (0, a0, a1, a2)
set_option maxHeartbeats 8000000 in
set_option maxRecDepth 100000 in
theorem glyph_from.calls (a0 : Int) (a1 : Int) (a2 : Int) (r1 : Int) (r2 : Int) (r3 : Int) (r4 : Int) (w : World) (h : glyph_from.f a0 a1 a2 = some (r1, r2, r3, r4)) :
  Calls Tryd.prog 26 #[.int .i64 a0, .int .i64 a1, .int .i64 a2] w fun e w' => e = .returned (.agg #[.int .i64 r1, .int .i64 r2, .int .i64 r3, .int .i64 r4]) ∧ Below w.heap.size w w' := by
 have hu30 := Tryd.underlying30
 have HB := sd_ (Below.refl w.heap.size w)
 have H : (some (0, a0, a1, a2)) = some (r1, r2, r3, r4) := h
 clear h
 simp only [Option.some.injEq, Prod.mk.injEq] at H
 obtain ⟨rfl, rfl, rfl, rfl⟩ := H
 go_enter Tryd.func26, Tryd.ntmps26
 go_wp2_with (first | ((with_reducible refine gate_dst (N := 6) rfl ?_); refine box_event ?hg (N := 6) ?hd (cs := #[.int .i64 0, .int .i64 0, .int .i64 0, .int .i64 0]) (t := 30) ?hr ?_; (case hd => rfl); (case hg => rfl); (case hr => first | (go_simp; done) | (go_simp; rfl)); intro gb104 hg w4 hbox hb; have BK104 := sd_ hbox; have GW104 := gw_ HB e0_ hg; have GE104 := GW104; replace HB := hb_ HB e0_ hb; clear hb hbox hg; have hcz5_0 : w4.cell? ⟨gb104, 0, none⟩ = some (.int .i64 0) := (kc_ BK104.out 0).trans rfl; have hcz5_1 : w4.cell? ⟨gb104, 1, none⟩ = some (.int .i64 0) := (kc_ BK104.out 1).trans rfl; have hcz5_2 : w4.cell? ⟨gb104, 2, none⟩ = some (.int .i64 0) := (kc_ BK104.out 2).trans rfl; have hcz5_3 : w4.cell? ⟨gb104, 3, none⟩ = some (.int .i64 0) := (kc_ BK104.out 3).trans rfl; have hfz5_0 := kf_ BK104.out 0; have hfz5_1 := kf_ BK104.out 1; have hfz5_2 := kf_ BK104.out 2; have hfz5_3 := kf_ BK104.out 3))
 refine bodyPost_ret (results_cell_row rfl _ _ gb104 30 #[.int .i64 0, .int .i64 a0, .int .i64 a1, .int .i64 a2] (0, 0) _ rfl (by (with_reducible repeat first | apply kn_ | apply kd_ | apply ka_); refine blk_put (cs := #[.int .i64 0, .int .i64 a0, .int .i64 a1, .int .i64 0]) ?_ 3 _ rfl; (with_reducible repeat first | apply kn_ | apply kd_ | apply ka_); refine blk_put (cs := #[.int .i64 0, .int .i64 a0, .int .i64 0, .int .i64 0]) ?_ 2 _ rfl; (with_reducible repeat first | apply kn_ | apply kd_ | apply ka_); refine blk_put (cs := #[.int .i64 0, .int .i64 0, .int .i64 0, .int .i64 0]) ?_ 1 _ rfl; (with_reducible repeat first | apply kn_ | apply kd_ | apply ka_); refine blk_put (cs := #[.int .i64 0, .int .i64 0, .int .i64 0, .int .i64 0]) ?_ 0 _ rfl; (with_reducible repeat first | apply kn_ | apply kd_ | apply ka_); exact BK104.out) Tryd.underlying30 rfl (by kernel_rfl)) rfl ?_
 exact ⟨by first | rfl | (simp [errW_none, errW_some] <;> rfl) | (simp [*, errW_none, errW_some] <;> rfl), by repeat (first | (with_reducible first | exact HB.out | apply ba_ | apply pd_ | apply d1_ | refine bs_ ?_ GE104.out) | exact HB.out)⟩

/-! ### glyph_rest: function 27 -/
def glyph_rest.f (a0 : Int) : Option (Int × Int × Int × Int) := if a0 = 0 then ((glyph_from.f 0 620 1024).bind fun bt106 => (some (bt106.1, bt106.2.1, bt106.2.2.1, bt106.2.2.2))) else (if a0 = 1 then ((glyph_from.f (-540) 1540 0).bind fun bt110 => (some (bt110.1, bt110.2.1, bt110.2.2.1, bt110.2.2.2))) else (if a0 = 2 then ((glyph_from.f 0 1540 540).bind fun bt114 => (some (bt114.1, bt114.2.1, bt114.2.2.1, bt114.2.2.2))) else (if a0 = 3 then ((glyph_from.f (-1400) 1120 1500).bind fun bt118 => (some (bt118.1, bt118.2.1, bt118.2.2.1, bt118.2.2.2))) else ((glyph_from.f (wrap64 ((-1000) - (wrap64 (1024 * (wrap64 (a0 - 4)))))) (wrap64 (1000 + (wrap64 (130 * (wrap64 (a0 - 4)))))) 900).bind fun bt122 => (some (bt122.1, bt122.2.1, bt122.2.2.1, bt122.2.2.2))))))
set_option maxHeartbeats 8000000 in
set_option maxRecDepth 100000 in
theorem glyph_rest.calls (a0 : Int) (r1 : Int) (r2 : Int) (r3 : Int) (r4 : Int) (w : World) (h : glyph_rest.f a0 = some (r1, r2, r3, r4)) :
  Calls Tryd.prog 27 #[.int .i64 a0] w fun e w' => e = .returned (.agg #[.int .i64 r1, .int .i64 r2, .int .i64 r3, .int .i64 r4]) ∧ Below w.heap.size w w' := by
 have hu30 := Tryd.underlying30
 have HB := sd_ (Below.refl w.heap.size w)
 have H : (if a0 = 0 then ((glyph_from.f 0 620 1024).bind fun bt106 => (some (bt106.1, bt106.2.1, bt106.2.2.1, bt106.2.2.2))) else (if a0 = 1 then ((glyph_from.f (-540) 1540 0).bind fun bt110 => (some (bt110.1, bt110.2.1, bt110.2.2.1, bt110.2.2.2))) else (if a0 = 2 then ((glyph_from.f 0 1540 540).bind fun bt114 => (some (bt114.1, bt114.2.1, bt114.2.2.1, bt114.2.2.2))) else (if a0 = 3 then ((glyph_from.f (-1400) 1120 1500).bind fun bt118 => (some (bt118.1, bt118.2.1, bt118.2.2.1, bt118.2.2.2))) else ((glyph_from.f (wrap64 ((-1000) - (wrap64 (1024 * (wrap64 (a0 - 4)))))) (wrap64 (1000 + (wrap64 (130 * (wrap64 (a0 - 4)))))) 900).bind fun bt122 => (some (bt122.1, bt122.2.1, bt122.2.2.1, bt122.2.2.2))))))) = some (r1, r2, r3, r4) := h
 clear h
 by_cases c2 : a0 = 0
 ·rw [if_pos c2] at H
  have c2b0 : (a0 == 0) = true := beq_iff_eq.mpr c2
  have c2b1 : (a0 != 0) = false := bne_eq_false_iff_eq.mpr c2
  clear c2
  replace H := ob_ H
  obtain ⟨⟨t106, t107, t108, t109⟩, A30, H⟩ := H
  replace H : (some (t106, t107, t108, t109)) = some (r1, r2, r3, r4) := H
  have A3 := sd_ A30
  clear A30
  simp only [Option.some.injEq, Prod.mk.injEq] at H
  obtain ⟨rfl, rfl, rfl, rfl⟩ := H
  go_enter Tryd.func27, Tryd.ntmps27
  go_wp2_with (first | ((with_reducible refine gate_dst (N := 2) rfl ?_); refine box_event ?hg (N := 2) ?hd (cs := #[.int .i64 0, .int .i64 0, .int .i64 0, .int .i64 0]) (t := 30) ?hr ?_; (case hd => rfl); (case hg => rfl); (case hr => first | (go_simp; done) | (go_simp; rfl)); intro gb105 hg w4 hbox hb; have BK105 := sd_ hbox; have GW105 := gw_ HB e0_ hg; have GE105 := GW105; replace HB := hb_ HB e0_ hb; clear hb hbox hg) | ((with_reducible refine gate_callee (f := 26) rfl ?_); refine goesL_ (some 7) rfl rfl Tryd.func26 (by kernel_rfl) rfl #[.int .i64 0, .int .i64 620, .int .i64 1024] rfl (by (try simp only [lm_, lq_, lx_]); first | done | rfl | (simp only [ld_, lt_]; rfl)) ?_; (with_reducible refine (glyph_from.calls 0 620 1024 t106 t107 t108 t109 _ A3.out).mono ?_); rintro e w5 ⟨rfl, hb⟩; refine ⟨_, rfl, ?_⟩; replace BK105 := kb_ BK105 hb; replace HB := hb_ HB (e_ GE105 e0_) hb; (try clear hb); (try clear hb2); (try clear hk); (try clear hi); have hcz6_0 : w5.cell? ⟨gb105, 0, none⟩ = some (.int .i64 0) := (kc_ BK105.out 0).trans rfl; have hcz6_1 : w5.cell? ⟨gb105, 1, none⟩ = some (.int .i64 0) := (kc_ BK105.out 1).trans rfl; have hcz6_2 : w5.cell? ⟨gb105, 2, none⟩ = some (.int .i64 0) := (kc_ BK105.out 2).trans rfl; have hcz6_3 : w5.cell? ⟨gb105, 3, none⟩ = some (.int .i64 0) := (kc_ BK105.out 3).trans rfl; have hfz6_0 := kf_ BK105.out 0; have hfz6_1 := kf_ BK105.out 1; have hfz6_2 := kf_ BK105.out 2; have hfz6_3 := kf_ BK105.out 3))
  refine bodyPost_ret (results_cell_row rfl _ _ gb105 30 #[.int .i64 t106, .int .i64 t107, .int .i64 t108, .int .i64 t109] (0, 0) _ rfl (by (with_reducible repeat first | apply kn_ | apply kd_ | apply ka_); refine blk_put (cs := #[.int .i64 t106, .int .i64 t107, .int .i64 t108, .int .i64 0]) ?_ 3 _ rfl; (with_reducible repeat first | apply kn_ | apply kd_ | apply ka_); refine blk_put (cs := #[.int .i64 t106, .int .i64 t107, .int .i64 0, .int .i64 0]) ?_ 2 _ rfl; (with_reducible repeat first | apply kn_ | apply kd_ | apply ka_); refine blk_put (cs := #[.int .i64 t106, .int .i64 0, .int .i64 0, .int .i64 0]) ?_ 1 _ rfl; (with_reducible repeat first | apply kn_ | apply kd_ | apply ka_); refine blk_put (cs := #[.int .i64 0, .int .i64 0, .int .i64 0, .int .i64 0]) ?_ 0 _ rfl; (with_reducible repeat first | apply kn_ | apply kd_ | apply ka_); exact BK105.out) Tryd.underlying30 rfl (by kernel_rfl)) rfl ?_
  exact ⟨by first | rfl | (simp [errW_none, errW_some] <;> rfl) | (simp [*, errW_none, errW_some] <;> rfl), by repeat (first | (with_reducible first | exact HB.out | apply ba_ | apply pd_ | apply d1_ | refine bs_ ?_ GE105.out) | exact HB.out)⟩
 ·rw [if_neg c2] at H
  have c2b0 : (a0 == 0) = false := beq_eq_false_iff_ne.mpr c2
  have c2b1 : (a0 != 0) = true := bne_iff_ne.mpr c2
  by_cases c7 : a0 = 1
  ·rw [if_pos c7] at H
   have c7b0 : (a0 == 1) = true := beq_iff_eq.mpr c7
   have c7b1 : (a0 != 1) = false := bne_eq_false_iff_eq.mpr c7
   clear c7
   replace H := ob_ H
   obtain ⟨⟨t110, t111, t112, t113⟩, A80, H⟩ := H
   replace H : (some (t110, t111, t112, t113)) = some (r1, r2, r3, r4) := H
   have A8 := sd_ A80
   clear A80
   simp only [Option.some.injEq, Prod.mk.injEq] at H
   obtain ⟨rfl, rfl, rfl, rfl⟩ := H
   go_enter Tryd.func27, Tryd.ntmps27
   go_wp2_with (first | ((with_reducible refine gate_dst (N := 2) rfl ?_); refine box_event ?hg (N := 2) ?hd (cs := #[.int .i64 0, .int .i64 0, .int .i64 0, .int .i64 0]) (t := 30) ?hr ?_; (case hd => rfl); (case hg => rfl); (case hr => first | (go_simp; done) | (go_simp; rfl)); intro gb105 hg w9 hbox hb; have BK105 := sd_ hbox; have GW105 := gw_ HB e0_ hg; have GE105 := GW105; replace HB := hb_ HB e0_ hb; clear hb hbox hg) | ((with_reducible refine gate_callee (f := 26) rfl ?_); refine goesL_ (some 10) rfl rfl Tryd.func26 (by kernel_rfl) rfl #[.int .i64 (-540), .int .i64 1540, .int .i64 0] rfl (by (try simp only [lm_, lq_, lx_]); first | done | rfl | (simp only [ld_, lt_]; rfl)) ?_; (with_reducible refine (glyph_from.calls (-540) 1540 0 t110 t111 t112 t113 _ A8.out).mono ?_); rintro e w10 ⟨rfl, hb⟩; refine ⟨_, rfl, ?_⟩; replace BK105 := kb_ BK105 hb; replace HB := hb_ HB (e_ GE105 e0_) hb; (try clear hb); (try clear hb2); (try clear hk); (try clear hi); have hcz11_0 : w10.cell? ⟨gb105, 0, none⟩ = some (.int .i64 0) := (kc_ BK105.out 0).trans rfl; have hcz11_1 : w10.cell? ⟨gb105, 1, none⟩ = some (.int .i64 0) := (kc_ BK105.out 1).trans rfl; have hcz11_2 : w10.cell? ⟨gb105, 2, none⟩ = some (.int .i64 0) := (kc_ BK105.out 2).trans rfl; have hcz11_3 : w10.cell? ⟨gb105, 3, none⟩ = some (.int .i64 0) := (kc_ BK105.out 3).trans rfl; have hfz11_0 := kf_ BK105.out 0; have hfz11_1 := kf_ BK105.out 1; have hfz11_2 := kf_ BK105.out 2; have hfz11_3 := kf_ BK105.out 3))
   refine bodyPost_ret (results_cell_row rfl _ _ gb105 30 #[.int .i64 t110, .int .i64 t111, .int .i64 t112, .int .i64 t113] (0, 0) _ rfl (by (with_reducible repeat first | apply kn_ | apply kd_ | apply ka_); refine blk_put (cs := #[.int .i64 t110, .int .i64 t111, .int .i64 t112, .int .i64 0]) ?_ 3 _ rfl; (with_reducible repeat first | apply kn_ | apply kd_ | apply ka_); refine blk_put (cs := #[.int .i64 t110, .int .i64 t111, .int .i64 0, .int .i64 0]) ?_ 2 _ rfl; (with_reducible repeat first | apply kn_ | apply kd_ | apply ka_); refine blk_put (cs := #[.int .i64 t110, .int .i64 0, .int .i64 0, .int .i64 0]) ?_ 1 _ rfl; (with_reducible repeat first | apply kn_ | apply kd_ | apply ka_); refine blk_put (cs := #[.int .i64 0, .int .i64 0, .int .i64 0, .int .i64 0]) ?_ 0 _ rfl; (with_reducible repeat first | apply kn_ | apply kd_ | apply ka_); exact BK105.out) Tryd.underlying30 rfl (by kernel_rfl)) rfl ?_
   exact ⟨by first | rfl | (simp [errW_none, errW_some] <;> rfl) | (simp [*, errW_none, errW_some] <;> rfl), by repeat (first | (with_reducible first | exact HB.out | apply ba_ | apply pd_ | apply d1_ | refine bs_ ?_ GE105.out) | exact HB.out)⟩
  ·rw [if_neg c7] at H
   have c7b0 : (a0 == 1) = false := beq_eq_false_iff_ne.mpr c7
   have c7b1 : (a0 != 1) = true := bne_iff_ne.mpr c7
   by_cases c12 : a0 = 2
   ·rw [if_pos c12] at H
    have c12b0 : (a0 == 2) = true := beq_iff_eq.mpr c12
    have c12b1 : (a0 != 2) = false := bne_eq_false_iff_eq.mpr c12
    clear c12
    replace H := ob_ H
    obtain ⟨⟨t114, t115, t116, t117⟩, A130, H⟩ := H
    replace H : (some (t114, t115, t116, t117)) = some (r1, r2, r3, r4) := H
    have A13 := sd_ A130
    clear A130
    simp only [Option.some.injEq, Prod.mk.injEq] at H
    obtain ⟨rfl, rfl, rfl, rfl⟩ := H
    go_enter Tryd.func27, Tryd.ntmps27
    go_wp2_with (first | ((with_reducible refine gate_dst (N := 2) rfl ?_); refine box_event ?hg (N := 2) ?hd (cs := #[.int .i64 0, .int .i64 0, .int .i64 0, .int .i64 0]) (t := 30) ?hr ?_; (case hd => rfl); (case hg => rfl); (case hr => first | (go_simp; done) | (go_simp; rfl)); intro gb105 hg w14 hbox hb; have BK105 := sd_ hbox; have GW105 := gw_ HB e0_ hg; have GE105 := GW105; replace HB := hb_ HB e0_ hb; clear hb hbox hg) | ((with_reducible refine gate_callee (f := 26) rfl ?_); refine goesL_ (some 13) rfl rfl Tryd.func26 (by kernel_rfl) rfl #[.int .i64 0, .int .i64 1540, .int .i64 540] rfl (by (try simp only [lm_, lq_, lx_]); first | done | rfl | (simp only [ld_, lt_]; rfl)) ?_; (with_reducible refine (glyph_from.calls 0 1540 540 t114 t115 t116 t117 _ A13.out).mono ?_); rintro e w15 ⟨rfl, hb⟩; refine ⟨_, rfl, ?_⟩; replace BK105 := kb_ BK105 hb; replace HB := hb_ HB (e_ GE105 e0_) hb; (try clear hb); (try clear hb2); (try clear hk); (try clear hi); have hcz16_0 : w15.cell? ⟨gb105, 0, none⟩ = some (.int .i64 0) := (kc_ BK105.out 0).trans rfl; have hcz16_1 : w15.cell? ⟨gb105, 1, none⟩ = some (.int .i64 0) := (kc_ BK105.out 1).trans rfl; have hcz16_2 : w15.cell? ⟨gb105, 2, none⟩ = some (.int .i64 0) := (kc_ BK105.out 2).trans rfl; have hcz16_3 : w15.cell? ⟨gb105, 3, none⟩ = some (.int .i64 0) := (kc_ BK105.out 3).trans rfl; have hfz16_0 := kf_ BK105.out 0; have hfz16_1 := kf_ BK105.out 1; have hfz16_2 := kf_ BK105.out 2; have hfz16_3 := kf_ BK105.out 3))
    refine bodyPost_ret (results_cell_row rfl _ _ gb105 30 #[.int .i64 t114, .int .i64 t115, .int .i64 t116, .int .i64 t117] (0, 0) _ rfl (by (with_reducible repeat first | apply kn_ | apply kd_ | apply ka_); refine blk_put (cs := #[.int .i64 t114, .int .i64 t115, .int .i64 t116, .int .i64 0]) ?_ 3 _ rfl; (with_reducible repeat first | apply kn_ | apply kd_ | apply ka_); refine blk_put (cs := #[.int .i64 t114, .int .i64 t115, .int .i64 0, .int .i64 0]) ?_ 2 _ rfl; (with_reducible repeat first | apply kn_ | apply kd_ | apply ka_); refine blk_put (cs := #[.int .i64 t114, .int .i64 0, .int .i64 0, .int .i64 0]) ?_ 1 _ rfl; (with_reducible repeat first | apply kn_ | apply kd_ | apply ka_); refine blk_put (cs := #[.int .i64 0, .int .i64 0, .int .i64 0, .int .i64 0]) ?_ 0 _ rfl; (with_reducible repeat first | apply kn_ | apply kd_ | apply ka_); exact BK105.out) Tryd.underlying30 rfl (by kernel_rfl)) rfl ?_
    exact ⟨by first | rfl | (simp [errW_none, errW_some] <;> rfl) | (simp [*, errW_none, errW_some] <;> rfl), by repeat (first | (with_reducible first | exact HB.out | apply ba_ | apply pd_ | apply d1_ | refine bs_ ?_ GE105.out) | exact HB.out)⟩
   ·rw [if_neg c12] at H
    have c12b0 : (a0 == 2) = false := beq_eq_false_iff_ne.mpr c12
    have c12b1 : (a0 != 2) = true := bne_iff_ne.mpr c12
    by_cases c17 : a0 = 3
    ·rw [if_pos c17] at H
     have c17b0 : (a0 == 3) = true := beq_iff_eq.mpr c17
     have c17b1 : (a0 != 3) = false := bne_eq_false_iff_eq.mpr c17
     clear c17
     replace H := ob_ H
     obtain ⟨⟨t118, t119, t120, t121⟩, A180, H⟩ := H
     replace H : (some (t118, t119, t120, t121)) = some (r1, r2, r3, r4) := H
     have A18 := sd_ A180
     clear A180
     simp only [Option.some.injEq, Prod.mk.injEq] at H
     obtain ⟨rfl, rfl, rfl, rfl⟩ := H
     go_enter Tryd.func27, Tryd.ntmps27
     go_wp2_with (first | ((with_reducible refine gate_dst (N := 2) rfl ?_); refine box_event ?hg (N := 2) ?hd (cs := #[.int .i64 0, .int .i64 0, .int .i64 0, .int .i64 0]) (t := 30) ?hr ?_; (case hd => rfl); (case hg => rfl); (case hr => first | (go_simp; done) | (go_simp; rfl)); intro gb105 hg w19 hbox hb; have BK105 := sd_ hbox; have GW105 := gw_ HB e0_ hg; have GE105 := GW105; replace HB := hb_ HB e0_ hb; clear hb hbox hg) | ((with_reducible refine gate_callee (f := 26) rfl ?_); refine goesL_ (some 16) rfl rfl Tryd.func26 (by kernel_rfl) rfl #[.int .i64 (-1400), .int .i64 1120, .int .i64 1500] rfl (by (try simp only [lm_, lq_, lx_]); first | done | rfl | (simp only [ld_, lt_]; rfl)) ?_; (with_reducible refine (glyph_from.calls (-1400) 1120 1500 t118 t119 t120 t121 _ A18.out).mono ?_); rintro e w20 ⟨rfl, hb⟩; refine ⟨_, rfl, ?_⟩; replace BK105 := kb_ BK105 hb; replace HB := hb_ HB (e_ GE105 e0_) hb; (try clear hb); (try clear hb2); (try clear hk); (try clear hi); have hcz21_0 : w20.cell? ⟨gb105, 0, none⟩ = some (.int .i64 0) := (kc_ BK105.out 0).trans rfl; have hcz21_1 : w20.cell? ⟨gb105, 1, none⟩ = some (.int .i64 0) := (kc_ BK105.out 1).trans rfl; have hcz21_2 : w20.cell? ⟨gb105, 2, none⟩ = some (.int .i64 0) := (kc_ BK105.out 2).trans rfl; have hcz21_3 : w20.cell? ⟨gb105, 3, none⟩ = some (.int .i64 0) := (kc_ BK105.out 3).trans rfl; have hfz21_0 := kf_ BK105.out 0; have hfz21_1 := kf_ BK105.out 1; have hfz21_2 := kf_ BK105.out 2; have hfz21_3 := kf_ BK105.out 3))
     refine bodyPost_ret (results_cell_row rfl _ _ gb105 30 #[.int .i64 t118, .int .i64 t119, .int .i64 t120, .int .i64 t121] (0, 0) _ rfl (by (with_reducible repeat first | apply kn_ | apply kd_ | apply ka_); refine blk_put (cs := #[.int .i64 t118, .int .i64 t119, .int .i64 t120, .int .i64 0]) ?_ 3 _ rfl; (with_reducible repeat first | apply kn_ | apply kd_ | apply ka_); refine blk_put (cs := #[.int .i64 t118, .int .i64 t119, .int .i64 0, .int .i64 0]) ?_ 2 _ rfl; (with_reducible repeat first | apply kn_ | apply kd_ | apply ka_); refine blk_put (cs := #[.int .i64 t118, .int .i64 0, .int .i64 0, .int .i64 0]) ?_ 1 _ rfl; (with_reducible repeat first | apply kn_ | apply kd_ | apply ka_); refine blk_put (cs := #[.int .i64 0, .int .i64 0, .int .i64 0, .int .i64 0]) ?_ 0 _ rfl; (with_reducible repeat first | apply kn_ | apply kd_ | apply ka_); exact BK105.out) Tryd.underlying30 rfl (by kernel_rfl)) rfl ?_
     exact ⟨by first | rfl | (simp [errW_none, errW_some] <;> rfl) | (simp [*, errW_none, errW_some] <;> rfl), by repeat (first | (with_reducible first | exact HB.out | apply ba_ | apply pd_ | apply d1_ | refine bs_ ?_ GE105.out) | exact HB.out)⟩
    ·rw [if_neg c17] at H
     have c17b0 : (a0 == 3) = false := beq_eq_false_iff_ne.mpr c17
     have c17b1 : (a0 != 3) = true := bne_iff_ne.mpr c17
     replace H := ob_ H
     obtain ⟨⟨t122, t123, t124, t125⟩, A220, H⟩ := H
     replace H : (some (t122, t123, t124, t125)) = some (r1, r2, r3, r4) := H
     have A22 := sd_ A220
     clear A220
     simp only [Option.some.injEq, Prod.mk.injEq] at H
     obtain ⟨rfl, rfl, rfl, rfl⟩ := H
     go_enter Tryd.func27, Tryd.ntmps27
     go_wp2_with (first | ((with_reducible refine gate_dst (N := 2) rfl ?_); refine box_event ?hg (N := 2) ?hd (cs := #[.int .i64 0, .int .i64 0, .int .i64 0, .int .i64 0]) (t := 30) ?hr ?_; (case hd => rfl); (case hg => rfl); (case hr => first | (go_simp; done) | (go_simp; rfl)); intro gb105 hg w23 hbox hb; have BK105 := sd_ hbox; have GW105 := gw_ HB e0_ hg; have GE105 := GW105; replace HB := hb_ HB e0_ hb; clear hb hbox hg) | ((with_reducible refine gate_callee (f := 26) rfl ?_); refine goesL_ (some 25) rfl rfl Tryd.func26 (by kernel_rfl) rfl #[.int .i64 (wrap64 ((-1000) - (wrap64 (1024 * (wrap64 (a0 - 4)))))), .int .i64 (wrap64 (1000 + (wrap64 (130 * (wrap64 (a0 - 4)))))), .int .i64 900] rfl (by (try simp only [lm_, lq_, lx_]); first | done | rfl | (simp only [ld_, lt_]; rfl)) ?_; (with_reducible refine (glyph_from.calls (wrap64 ((-1000) - (wrap64 (1024 * (wrap64 (a0 - 4)))))) (wrap64 (1000 + (wrap64 (130 * (wrap64 (a0 - 4)))))) 900 t122 t123 t124 t125 _ A22.out).mono ?_); rintro e w24 ⟨rfl, hb⟩; refine ⟨_, rfl, ?_⟩; replace BK105 := kb_ BK105 hb; replace HB := hb_ HB (e_ GE105 e0_) hb; (try clear hb); (try clear hb2); (try clear hk); (try clear hi); have hcz25_0 : w24.cell? ⟨gb105, 0, none⟩ = some (.int .i64 0) := (kc_ BK105.out 0).trans rfl; have hcz25_1 : w24.cell? ⟨gb105, 1, none⟩ = some (.int .i64 0) := (kc_ BK105.out 1).trans rfl; have hcz25_2 : w24.cell? ⟨gb105, 2, none⟩ = some (.int .i64 0) := (kc_ BK105.out 2).trans rfl; have hcz25_3 : w24.cell? ⟨gb105, 3, none⟩ = some (.int .i64 0) := (kc_ BK105.out 3).trans rfl; have hfz25_0 := kf_ BK105.out 0; have hfz25_1 := kf_ BK105.out 1; have hfz25_2 := kf_ BK105.out 2; have hfz25_3 := kf_ BK105.out 3))
     refine bodyPost_ret (results_cell_row rfl _ _ gb105 30 #[.int .i64 t122, .int .i64 t123, .int .i64 t124, .int .i64 t125] (0, 0) _ rfl (by (with_reducible repeat first | apply kn_ | apply kd_ | apply ka_); refine blk_put (cs := #[.int .i64 t122, .int .i64 t123, .int .i64 t124, .int .i64 0]) ?_ 3 _ rfl; (with_reducible repeat first | apply kn_ | apply kd_ | apply ka_); refine blk_put (cs := #[.int .i64 t122, .int .i64 t123, .int .i64 0, .int .i64 0]) ?_ 2 _ rfl; (with_reducible repeat first | apply kn_ | apply kd_ | apply ka_); refine blk_put (cs := #[.int .i64 t122, .int .i64 0, .int .i64 0, .int .i64 0]) ?_ 1 _ rfl; (with_reducible repeat first | apply kn_ | apply kd_ | apply ka_); refine blk_put (cs := #[.int .i64 0, .int .i64 0, .int .i64 0, .int .i64 0]) ?_ 0 _ rfl; (with_reducible repeat first | apply kn_ | apply kd_ | apply ka_); exact BK105.out) Tryd.underlying30 rfl (by kernel_rfl)) rfl ?_
     exact ⟨by first | rfl | (simp [errW_none, errW_some] <;> rfl) | (simp [*, errW_none, errW_some] <;> rfl), by repeat (first | (with_reducible first | exact HB.out | apply ba_ | apply pd_ | apply d1_ | refine bs_ ?_ GE105.out) | exact HB.out)⟩

/-! ### glyph_other: function 28 -/
theorem zc_ {w : World} {g : Nat} {t : TypeId} {cs : Array Value} (h : Aside0 (w.heap[g]? = some (.cells cs t (0, 0)))) (i : Nat) {v : Value} (hv : cs[i]? = some v) : w.cell? ⟨g, i, none⟩ = some v := (kc_ h.out i).trans hv
def glyph_other.f (a0 : Int) : Option (Int × Int × Int × Int) := if a0 = 0 then some (0, (-200), 400, 200) else if a0 = 1 then some (0, (-2048), 160, 2048) else if a0 = 2 then some (0, (-2048), 720, 2048) else if a0 = 3 then some (0, (-2048), 1000, 2048) else if a0 = 4 then some (0, (-600), 1500, 1200) else if a0 = 5 then some (0, 0, 1900, 1100) else if a0 = 6 then some (0, (-700), 1400, 1800) else if a0 = 7 then some ((-1000), (-2048), 0, 2048) else none
set_option maxHeartbeats 8000000 in
set_option maxRecDepth 100000 in
theorem glyph_other.calls (a0 : Int) (r1 r2 r3 r4 : Int) (w : World) (h : glyph_other.f a0 = some (r1, r2, r3, r4)) :
  Calls Tryd.prog 28 #[.int .i64 a0] w fun e w' => e = .returned (.agg #[.int .i64 r1, .int .i64 r2, .int .i64 r3, .int .i64 r4]) ∧ Below w.heap.size w w' := by
 have hu := Tryd.underlying30
 have HB := sd_ (Below.refl w.heap.size w)
 unfold glyph_other.f at h
 by_cases c0 : a0 = 0
 ·subst c0
  obtain ⟨rfl, rfl, rfl, rfl⟩ : 0 = r1 ∧ (-200) = r2 ∧ 400 = r3 ∧ 200 = r4 := by simpa using h
  clear h
  have hix : ∀ W, (Instr.index 71 (.agg #[.int .i64 0, .int .i64 (-200), .int .i64 400, .int .i64 200, .int .i64 0, .int .i64 (-2048), .int .i64 160, .int .i64 2048, .int .i64 0, .int .i64 (-2048), .int .i64 720, .int .i64 2048, .int .i64 0, .int .i64 (-2048), .int .i64 1000, .int .i64 2048, .int .i64 0, .int .i64 (-600), .int .i64 1500, .int .i64 1200, .int .i64 0, .int .i64 0, .int .i64 1900, .int .i64 1100, .int .i64 0, .int .i64 (-700), .int .i64 1400, .int .i64 1800, .int .i64 (-1000), .int .i64 (-2048), .int .i64 0, .int .i64 2048]) (.int .i64 0)).run Tryd.prog W = .ok (.agg #[.int .i64 0, .int .i64 (-200), .int .i64 400, .int .i64 200]) W := fun W => by kernel_rfl
  go_enter Tryd.func28, Tryd.ntmps28
  go_wp2_with (first | ((with_reducible refine gate_dst (N := 2) rfl ?_); refine box_event ?hg (N := 2) ?hd (cs := #[.int .i64 0, .int .i64 0, .int .i64 0, .int .i64 0]) (t := 30) ?hr ?_; (case hd => rfl); (case hg => rfl); (case hr => first | (go_simp; done) | (go_simp; rfl)); intro gb hg w4 hbox hb; have BK := sd_ hbox; have GE := gw_ HB e0_ hg; replace HB := hb_ HB e0_ hb; clear hb hbox hg; have z0 := zc_ BK 0 rfl; have z1 := zc_ BK 1 rfl; have z2 := zc_ BK 2 rfl; have z3 := zc_ BK 3 rfl; have f0 := kf_ BK.out 0; have f1 := kf_ BK.out 1; have f2 := kf_ BK.out 2; have f3 := kf_ BK.out 3) | (go_at_call 26; refine (glyph_from.calls _ _ _ _ _ _ _ _ rfl).mono ?_; rintro e w5 ⟨rfl, hb⟩; replace BK := kb_ BK hb; replace HB := hb_ HB (e_ GE e0_) hb; clear hb; have z0 := zc_ BK 0 rfl; have z1 := zc_ BK 1 rfl; have z2 := zc_ BK 2 rfl; have z3 := zc_ BK 3 rfl; have f0 := kf_ BK.out 0; have f1 := kf_ BK.out 1; have f2 := kf_ BK.out 2; have f3 := kf_ BK.out 3))
  refine bodyPost_ret (results_cell_row rfl _ _ gb 30 #[.int .i64 0, .int .i64 (-200), .int .i64 400, .int .i64 200] (0, 0) _ rfl (by refine blk_put (cs := #[.int .i64 0, .int .i64 (-200), .int .i64 400, .int .i64 0]) ?_ 3 _ rfl; refine blk_put (cs := #[.int .i64 0, .int .i64 (-200), .int .i64 0, .int .i64 0]) ?_ 2 _ rfl; refine blk_put (cs := #[.int .i64 0, .int .i64 0, .int .i64 0, .int .i64 0]) ?_ 1 _ rfl; refine blk_put (cs := #[.int .i64 0, .int .i64 0, .int .i64 0, .int .i64 0]) ?_ 0 _ rfl; exact kk_ BK.out) Tryd.underlying30 rfl (by kernel_rfl)) rfl ?_
  exact ⟨rfl, bb_ HB.out (e_ GE e0_)⟩
 rw [if_neg c0] at h
 by_cases c1 : a0 = 1
 ·subst c1
  obtain ⟨rfl, rfl, rfl, rfl⟩ : 0 = r1 ∧ (-2048) = r2 ∧ 160 = r3 ∧ 2048 = r4 := by simpa using h
  clear h
  have hix : ∀ W, (Instr.index 71 (.agg #[.int .i64 0, .int .i64 (-200), .int .i64 400, .int .i64 200, .int .i64 0, .int .i64 (-2048), .int .i64 160, .int .i64 2048, .int .i64 0, .int .i64 (-2048), .int .i64 720, .int .i64 2048, .int .i64 0, .int .i64 (-2048), .int .i64 1000, .int .i64 2048, .int .i64 0, .int .i64 (-600), .int .i64 1500, .int .i64 1200, .int .i64 0, .int .i64 0, .int .i64 1900, .int .i64 1100, .int .i64 0, .int .i64 (-700), .int .i64 1400, .int .i64 1800, .int .i64 (-1000), .int .i64 (-2048), .int .i64 0, .int .i64 2048]) (.int .i64 1)).run Tryd.prog W = .ok (.agg #[.int .i64 0, .int .i64 (-2048), .int .i64 160, .int .i64 2048]) W := fun W => by kernel_rfl
  go_enter Tryd.func28, Tryd.ntmps28
  go_wp2_with (first | ((with_reducible refine gate_dst (N := 2) rfl ?_); refine box_event ?hg (N := 2) ?hd (cs := #[.int .i64 0, .int .i64 0, .int .i64 0, .int .i64 0]) (t := 30) ?hr ?_; (case hd => rfl); (case hg => rfl); (case hr => first | (go_simp; done) | (go_simp; rfl)); intro gb hg w4 hbox hb; have BK := sd_ hbox; have GE := gw_ HB e0_ hg; replace HB := hb_ HB e0_ hb; clear hb hbox hg; have z0 := zc_ BK 0 rfl; have z1 := zc_ BK 1 rfl; have z2 := zc_ BK 2 rfl; have z3 := zc_ BK 3 rfl; have f0 := kf_ BK.out 0; have f1 := kf_ BK.out 1; have f2 := kf_ BK.out 2; have f3 := kf_ BK.out 3) | (go_at_call 26; refine (glyph_from.calls _ _ _ _ _ _ _ _ rfl).mono ?_; rintro e w5 ⟨rfl, hb⟩; replace BK := kb_ BK hb; replace HB := hb_ HB (e_ GE e0_) hb; clear hb; have z0 := zc_ BK 0 rfl; have z1 := zc_ BK 1 rfl; have z2 := zc_ BK 2 rfl; have z3 := zc_ BK 3 rfl; have f0 := kf_ BK.out 0; have f1 := kf_ BK.out 1; have f2 := kf_ BK.out 2; have f3 := kf_ BK.out 3))
  refine bodyPost_ret (results_cell_row rfl _ _ gb 30 #[.int .i64 0, .int .i64 (-2048), .int .i64 160, .int .i64 2048] (0, 0) _ rfl (by refine blk_put (cs := #[.int .i64 0, .int .i64 (-2048), .int .i64 160, .int .i64 0]) ?_ 3 _ rfl; refine blk_put (cs := #[.int .i64 0, .int .i64 (-2048), .int .i64 0, .int .i64 0]) ?_ 2 _ rfl; refine blk_put (cs := #[.int .i64 0, .int .i64 0, .int .i64 0, .int .i64 0]) ?_ 1 _ rfl; refine blk_put (cs := #[.int .i64 0, .int .i64 0, .int .i64 0, .int .i64 0]) ?_ 0 _ rfl; exact kk_ BK.out) Tryd.underlying30 rfl (by kernel_rfl)) rfl ?_
  exact ⟨rfl, bb_ HB.out (e_ GE e0_)⟩
 rw [if_neg c1] at h
 by_cases c2 : a0 = 2
 ·subst c2
  obtain ⟨rfl, rfl, rfl, rfl⟩ : 0 = r1 ∧ (-2048) = r2 ∧ 720 = r3 ∧ 2048 = r4 := by simpa using h
  clear h
  have hix : ∀ W, (Instr.index 71 (.agg #[.int .i64 0, .int .i64 (-200), .int .i64 400, .int .i64 200, .int .i64 0, .int .i64 (-2048), .int .i64 160, .int .i64 2048, .int .i64 0, .int .i64 (-2048), .int .i64 720, .int .i64 2048, .int .i64 0, .int .i64 (-2048), .int .i64 1000, .int .i64 2048, .int .i64 0, .int .i64 (-600), .int .i64 1500, .int .i64 1200, .int .i64 0, .int .i64 0, .int .i64 1900, .int .i64 1100, .int .i64 0, .int .i64 (-700), .int .i64 1400, .int .i64 1800, .int .i64 (-1000), .int .i64 (-2048), .int .i64 0, .int .i64 2048]) (.int .i64 2)).run Tryd.prog W = .ok (.agg #[.int .i64 0, .int .i64 (-2048), .int .i64 720, .int .i64 2048]) W := fun W => by kernel_rfl
  go_enter Tryd.func28, Tryd.ntmps28
  go_wp2_with (first | ((with_reducible refine gate_dst (N := 2) rfl ?_); refine box_event ?hg (N := 2) ?hd (cs := #[.int .i64 0, .int .i64 0, .int .i64 0, .int .i64 0]) (t := 30) ?hr ?_; (case hd => rfl); (case hg => rfl); (case hr => first | (go_simp; done) | (go_simp; rfl)); intro gb hg w4 hbox hb; have BK := sd_ hbox; have GE := gw_ HB e0_ hg; replace HB := hb_ HB e0_ hb; clear hb hbox hg; have z0 := zc_ BK 0 rfl; have z1 := zc_ BK 1 rfl; have z2 := zc_ BK 2 rfl; have z3 := zc_ BK 3 rfl; have f0 := kf_ BK.out 0; have f1 := kf_ BK.out 1; have f2 := kf_ BK.out 2; have f3 := kf_ BK.out 3) | (go_at_call 26; refine (glyph_from.calls _ _ _ _ _ _ _ _ rfl).mono ?_; rintro e w5 ⟨rfl, hb⟩; replace BK := kb_ BK hb; replace HB := hb_ HB (e_ GE e0_) hb; clear hb; have z0 := zc_ BK 0 rfl; have z1 := zc_ BK 1 rfl; have z2 := zc_ BK 2 rfl; have z3 := zc_ BK 3 rfl; have f0 := kf_ BK.out 0; have f1 := kf_ BK.out 1; have f2 := kf_ BK.out 2; have f3 := kf_ BK.out 3))
  refine bodyPost_ret (results_cell_row rfl _ _ gb 30 #[.int .i64 0, .int .i64 (-2048), .int .i64 720, .int .i64 2048] (0, 0) _ rfl (by refine blk_put (cs := #[.int .i64 0, .int .i64 (-2048), .int .i64 720, .int .i64 0]) ?_ 3 _ rfl; refine blk_put (cs := #[.int .i64 0, .int .i64 (-2048), .int .i64 0, .int .i64 0]) ?_ 2 _ rfl; refine blk_put (cs := #[.int .i64 0, .int .i64 0, .int .i64 0, .int .i64 0]) ?_ 1 _ rfl; refine blk_put (cs := #[.int .i64 0, .int .i64 0, .int .i64 0, .int .i64 0]) ?_ 0 _ rfl; exact kk_ BK.out) Tryd.underlying30 rfl (by kernel_rfl)) rfl ?_
  exact ⟨rfl, bb_ HB.out (e_ GE e0_)⟩
 rw [if_neg c2] at h
 by_cases c3 : a0 = 3
 ·subst c3
  obtain ⟨rfl, rfl, rfl, rfl⟩ : 0 = r1 ∧ (-2048) = r2 ∧ 1000 = r3 ∧ 2048 = r4 := by simpa using h
  clear h
  have hix : ∀ W, (Instr.index 71 (.agg #[.int .i64 0, .int .i64 (-200), .int .i64 400, .int .i64 200, .int .i64 0, .int .i64 (-2048), .int .i64 160, .int .i64 2048, .int .i64 0, .int .i64 (-2048), .int .i64 720, .int .i64 2048, .int .i64 0, .int .i64 (-2048), .int .i64 1000, .int .i64 2048, .int .i64 0, .int .i64 (-600), .int .i64 1500, .int .i64 1200, .int .i64 0, .int .i64 0, .int .i64 1900, .int .i64 1100, .int .i64 0, .int .i64 (-700), .int .i64 1400, .int .i64 1800, .int .i64 (-1000), .int .i64 (-2048), .int .i64 0, .int .i64 2048]) (.int .i64 3)).run Tryd.prog W = .ok (.agg #[.int .i64 0, .int .i64 (-2048), .int .i64 1000, .int .i64 2048]) W := fun W => by kernel_rfl
  go_enter Tryd.func28, Tryd.ntmps28
  go_wp2_with (first | ((with_reducible refine gate_dst (N := 2) rfl ?_); refine box_event ?hg (N := 2) ?hd (cs := #[.int .i64 0, .int .i64 0, .int .i64 0, .int .i64 0]) (t := 30) ?hr ?_; (case hd => rfl); (case hg => rfl); (case hr => first | (go_simp; done) | (go_simp; rfl)); intro gb hg w4 hbox hb; have BK := sd_ hbox; have GE := gw_ HB e0_ hg; replace HB := hb_ HB e0_ hb; clear hb hbox hg; have z0 := zc_ BK 0 rfl; have z1 := zc_ BK 1 rfl; have z2 := zc_ BK 2 rfl; have z3 := zc_ BK 3 rfl; have f0 := kf_ BK.out 0; have f1 := kf_ BK.out 1; have f2 := kf_ BK.out 2; have f3 := kf_ BK.out 3) | (go_at_call 26; refine (glyph_from.calls _ _ _ _ _ _ _ _ rfl).mono ?_; rintro e w5 ⟨rfl, hb⟩; replace BK := kb_ BK hb; replace HB := hb_ HB (e_ GE e0_) hb; clear hb; have z0 := zc_ BK 0 rfl; have z1 := zc_ BK 1 rfl; have z2 := zc_ BK 2 rfl; have z3 := zc_ BK 3 rfl; have f0 := kf_ BK.out 0; have f1 := kf_ BK.out 1; have f2 := kf_ BK.out 2; have f3 := kf_ BK.out 3))
  refine bodyPost_ret (results_cell_row rfl _ _ gb 30 #[.int .i64 0, .int .i64 (-2048), .int .i64 1000, .int .i64 2048] (0, 0) _ rfl (by refine blk_put (cs := #[.int .i64 0, .int .i64 (-2048), .int .i64 1000, .int .i64 0]) ?_ 3 _ rfl; refine blk_put (cs := #[.int .i64 0, .int .i64 (-2048), .int .i64 0, .int .i64 0]) ?_ 2 _ rfl; refine blk_put (cs := #[.int .i64 0, .int .i64 0, .int .i64 0, .int .i64 0]) ?_ 1 _ rfl; refine blk_put (cs := #[.int .i64 0, .int .i64 0, .int .i64 0, .int .i64 0]) ?_ 0 _ rfl; exact kk_ BK.out) Tryd.underlying30 rfl (by kernel_rfl)) rfl ?_
  exact ⟨rfl, bb_ HB.out (e_ GE e0_)⟩
 rw [if_neg c3] at h
 by_cases c4 : a0 = 4
 ·subst c4
  obtain ⟨rfl, rfl, rfl, rfl⟩ : 0 = r1 ∧ (-600) = r2 ∧ 1500 = r3 ∧ 1200 = r4 := by simpa using h
  clear h
  have hix : ∀ W, (Instr.index 71 (.agg #[.int .i64 0, .int .i64 (-200), .int .i64 400, .int .i64 200, .int .i64 0, .int .i64 (-2048), .int .i64 160, .int .i64 2048, .int .i64 0, .int .i64 (-2048), .int .i64 720, .int .i64 2048, .int .i64 0, .int .i64 (-2048), .int .i64 1000, .int .i64 2048, .int .i64 0, .int .i64 (-600), .int .i64 1500, .int .i64 1200, .int .i64 0, .int .i64 0, .int .i64 1900, .int .i64 1100, .int .i64 0, .int .i64 (-700), .int .i64 1400, .int .i64 1800, .int .i64 (-1000), .int .i64 (-2048), .int .i64 0, .int .i64 2048]) (.int .i64 4)).run Tryd.prog W = .ok (.agg #[.int .i64 0, .int .i64 (-600), .int .i64 1500, .int .i64 1200]) W := fun W => by kernel_rfl
  go_enter Tryd.func28, Tryd.ntmps28
  go_wp2_with (first | ((with_reducible refine gate_dst (N := 2) rfl ?_); refine box_event ?hg (N := 2) ?hd (cs := #[.int .i64 0, .int .i64 0, .int .i64 0, .int .i64 0]) (t := 30) ?hr ?_; (case hd => rfl); (case hg => rfl); (case hr => first | (go_simp; done) | (go_simp; rfl)); intro gb hg w4 hbox hb; have BK := sd_ hbox; have GE := gw_ HB e0_ hg; replace HB := hb_ HB e0_ hb; clear hb hbox hg; have z0 := zc_ BK 0 rfl; have z1 := zc_ BK 1 rfl; have z2 := zc_ BK 2 rfl; have z3 := zc_ BK 3 rfl; have f0 := kf_ BK.out 0; have f1 := kf_ BK.out 1; have f2 := kf_ BK.out 2; have f3 := kf_ BK.out 3) | (go_at_call 26; refine (glyph_from.calls _ _ _ _ _ _ _ _ rfl).mono ?_; rintro e w5 ⟨rfl, hb⟩; replace BK := kb_ BK hb; replace HB := hb_ HB (e_ GE e0_) hb; clear hb; have z0 := zc_ BK 0 rfl; have z1 := zc_ BK 1 rfl; have z2 := zc_ BK 2 rfl; have z3 := zc_ BK 3 rfl; have f0 := kf_ BK.out 0; have f1 := kf_ BK.out 1; have f2 := kf_ BK.out 2; have f3 := kf_ BK.out 3))
  refine bodyPost_ret (results_cell_row rfl _ _ gb 30 #[.int .i64 0, .int .i64 (-600), .int .i64 1500, .int .i64 1200] (0, 0) _ rfl (by refine blk_put (cs := #[.int .i64 0, .int .i64 (-600), .int .i64 1500, .int .i64 0]) ?_ 3 _ rfl; refine blk_put (cs := #[.int .i64 0, .int .i64 (-600), .int .i64 0, .int .i64 0]) ?_ 2 _ rfl; refine blk_put (cs := #[.int .i64 0, .int .i64 0, .int .i64 0, .int .i64 0]) ?_ 1 _ rfl; refine blk_put (cs := #[.int .i64 0, .int .i64 0, .int .i64 0, .int .i64 0]) ?_ 0 _ rfl; exact kk_ BK.out) Tryd.underlying30 rfl (by kernel_rfl)) rfl ?_
  exact ⟨rfl, bb_ HB.out (e_ GE e0_)⟩
 rw [if_neg c4] at h
 by_cases c5 : a0 = 5
 ·subst c5
  obtain ⟨rfl, rfl, rfl, rfl⟩ : 0 = r1 ∧ 0 = r2 ∧ 1900 = r3 ∧ 1100 = r4 := by simpa using h
  clear h
  have hix : ∀ W, (Instr.index 71 (.agg #[.int .i64 0, .int .i64 (-200), .int .i64 400, .int .i64 200, .int .i64 0, .int .i64 (-2048), .int .i64 160, .int .i64 2048, .int .i64 0, .int .i64 (-2048), .int .i64 720, .int .i64 2048, .int .i64 0, .int .i64 (-2048), .int .i64 1000, .int .i64 2048, .int .i64 0, .int .i64 (-600), .int .i64 1500, .int .i64 1200, .int .i64 0, .int .i64 0, .int .i64 1900, .int .i64 1100, .int .i64 0, .int .i64 (-700), .int .i64 1400, .int .i64 1800, .int .i64 (-1000), .int .i64 (-2048), .int .i64 0, .int .i64 2048]) (.int .i64 5)).run Tryd.prog W = .ok (.agg #[.int .i64 0, .int .i64 0, .int .i64 1900, .int .i64 1100]) W := fun W => by kernel_rfl
  go_enter Tryd.func28, Tryd.ntmps28
  go_wp2_with (first | ((with_reducible refine gate_dst (N := 2) rfl ?_); refine box_event ?hg (N := 2) ?hd (cs := #[.int .i64 0, .int .i64 0, .int .i64 0, .int .i64 0]) (t := 30) ?hr ?_; (case hd => rfl); (case hg => rfl); (case hr => first | (go_simp; done) | (go_simp; rfl)); intro gb hg w4 hbox hb; have BK := sd_ hbox; have GE := gw_ HB e0_ hg; replace HB := hb_ HB e0_ hb; clear hb hbox hg; have z0 := zc_ BK 0 rfl; have z1 := zc_ BK 1 rfl; have z2 := zc_ BK 2 rfl; have z3 := zc_ BK 3 rfl; have f0 := kf_ BK.out 0; have f1 := kf_ BK.out 1; have f2 := kf_ BK.out 2; have f3 := kf_ BK.out 3) | (go_at_call 26; refine (glyph_from.calls _ _ _ _ _ _ _ _ rfl).mono ?_; rintro e w5 ⟨rfl, hb⟩; replace BK := kb_ BK hb; replace HB := hb_ HB (e_ GE e0_) hb; clear hb; have z0 := zc_ BK 0 rfl; have z1 := zc_ BK 1 rfl; have z2 := zc_ BK 2 rfl; have z3 := zc_ BK 3 rfl; have f0 := kf_ BK.out 0; have f1 := kf_ BK.out 1; have f2 := kf_ BK.out 2; have f3 := kf_ BK.out 3))
  refine bodyPost_ret (results_cell_row rfl _ _ gb 30 #[.int .i64 0, .int .i64 0, .int .i64 1900, .int .i64 1100] (0, 0) _ rfl (by refine blk_put (cs := #[.int .i64 0, .int .i64 0, .int .i64 1900, .int .i64 0]) ?_ 3 _ rfl; refine blk_put (cs := #[.int .i64 0, .int .i64 0, .int .i64 0, .int .i64 0]) ?_ 2 _ rfl; refine blk_put (cs := #[.int .i64 0, .int .i64 0, .int .i64 0, .int .i64 0]) ?_ 1 _ rfl; refine blk_put (cs := #[.int .i64 0, .int .i64 0, .int .i64 0, .int .i64 0]) ?_ 0 _ rfl; exact kk_ BK.out) Tryd.underlying30 rfl (by kernel_rfl)) rfl ?_
  exact ⟨rfl, bb_ HB.out (e_ GE e0_)⟩
 rw [if_neg c5] at h
 by_cases c6 : a0 = 6
 ·subst c6
  obtain ⟨rfl, rfl, rfl, rfl⟩ : 0 = r1 ∧ (-700) = r2 ∧ 1400 = r3 ∧ 1800 = r4 := by simpa using h
  clear h
  have hix : ∀ W, (Instr.index 71 (.agg #[.int .i64 0, .int .i64 (-200), .int .i64 400, .int .i64 200, .int .i64 0, .int .i64 (-2048), .int .i64 160, .int .i64 2048, .int .i64 0, .int .i64 (-2048), .int .i64 720, .int .i64 2048, .int .i64 0, .int .i64 (-2048), .int .i64 1000, .int .i64 2048, .int .i64 0, .int .i64 (-600), .int .i64 1500, .int .i64 1200, .int .i64 0, .int .i64 0, .int .i64 1900, .int .i64 1100, .int .i64 0, .int .i64 (-700), .int .i64 1400, .int .i64 1800, .int .i64 (-1000), .int .i64 (-2048), .int .i64 0, .int .i64 2048]) (.int .i64 6)).run Tryd.prog W = .ok (.agg #[.int .i64 0, .int .i64 (-700), .int .i64 1400, .int .i64 1800]) W := fun W => by kernel_rfl
  go_enter Tryd.func28, Tryd.ntmps28
  go_wp2_with (first | ((with_reducible refine gate_dst (N := 2) rfl ?_); refine box_event ?hg (N := 2) ?hd (cs := #[.int .i64 0, .int .i64 0, .int .i64 0, .int .i64 0]) (t := 30) ?hr ?_; (case hd => rfl); (case hg => rfl); (case hr => first | (go_simp; done) | (go_simp; rfl)); intro gb hg w4 hbox hb; have BK := sd_ hbox; have GE := gw_ HB e0_ hg; replace HB := hb_ HB e0_ hb; clear hb hbox hg; have z0 := zc_ BK 0 rfl; have z1 := zc_ BK 1 rfl; have z2 := zc_ BK 2 rfl; have z3 := zc_ BK 3 rfl; have f0 := kf_ BK.out 0; have f1 := kf_ BK.out 1; have f2 := kf_ BK.out 2; have f3 := kf_ BK.out 3) | (go_at_call 26; refine (glyph_from.calls _ _ _ _ _ _ _ _ rfl).mono ?_; rintro e w5 ⟨rfl, hb⟩; replace BK := kb_ BK hb; replace HB := hb_ HB (e_ GE e0_) hb; clear hb; have z0 := zc_ BK 0 rfl; have z1 := zc_ BK 1 rfl; have z2 := zc_ BK 2 rfl; have z3 := zc_ BK 3 rfl; have f0 := kf_ BK.out 0; have f1 := kf_ BK.out 1; have f2 := kf_ BK.out 2; have f3 := kf_ BK.out 3))
  refine bodyPost_ret (results_cell_row rfl _ _ gb 30 #[.int .i64 0, .int .i64 (-700), .int .i64 1400, .int .i64 1800] (0, 0) _ rfl (by refine blk_put (cs := #[.int .i64 0, .int .i64 (-700), .int .i64 1400, .int .i64 0]) ?_ 3 _ rfl; refine blk_put (cs := #[.int .i64 0, .int .i64 (-700), .int .i64 0, .int .i64 0]) ?_ 2 _ rfl; refine blk_put (cs := #[.int .i64 0, .int .i64 0, .int .i64 0, .int .i64 0]) ?_ 1 _ rfl; refine blk_put (cs := #[.int .i64 0, .int .i64 0, .int .i64 0, .int .i64 0]) ?_ 0 _ rfl; exact kk_ BK.out) Tryd.underlying30 rfl (by kernel_rfl)) rfl ?_
  exact ⟨rfl, bb_ HB.out (e_ GE e0_)⟩
 rw [if_neg c6] at h
 by_cases c7 : a0 = 7
 ·subst c7
  obtain ⟨rfl, rfl, rfl, rfl⟩ : (-1000) = r1 ∧ (-2048) = r2 ∧ 0 = r3 ∧ 2048 = r4 := by simpa using h
  clear h
  have hix : ∀ W, (Instr.index 71 (.agg #[.int .i64 0, .int .i64 (-200), .int .i64 400, .int .i64 200, .int .i64 0, .int .i64 (-2048), .int .i64 160, .int .i64 2048, .int .i64 0, .int .i64 (-2048), .int .i64 720, .int .i64 2048, .int .i64 0, .int .i64 (-2048), .int .i64 1000, .int .i64 2048, .int .i64 0, .int .i64 (-600), .int .i64 1500, .int .i64 1200, .int .i64 0, .int .i64 0, .int .i64 1900, .int .i64 1100, .int .i64 0, .int .i64 (-700), .int .i64 1400, .int .i64 1800, .int .i64 (-1000), .int .i64 (-2048), .int .i64 0, .int .i64 2048]) (.int .i64 7)).run Tryd.prog W = .ok (.agg #[.int .i64 (-1000), .int .i64 (-2048), .int .i64 0, .int .i64 2048]) W := fun W => by kernel_rfl
  go_enter Tryd.func28, Tryd.ntmps28
  go_wp2_with (first | ((with_reducible refine gate_dst (N := 2) rfl ?_); refine box_event ?hg (N := 2) ?hd (cs := #[.int .i64 0, .int .i64 0, .int .i64 0, .int .i64 0]) (t := 30) ?hr ?_; (case hd => rfl); (case hg => rfl); (case hr => first | (go_simp; done) | (go_simp; rfl)); intro gb hg w4 hbox hb; have BK := sd_ hbox; have GE := gw_ HB e0_ hg; replace HB := hb_ HB e0_ hb; clear hb hbox hg; have z0 := zc_ BK 0 rfl; have z1 := zc_ BK 1 rfl; have z2 := zc_ BK 2 rfl; have z3 := zc_ BK 3 rfl; have f0 := kf_ BK.out 0; have f1 := kf_ BK.out 1; have f2 := kf_ BK.out 2; have f3 := kf_ BK.out 3) | (go_at_call 26; refine (glyph_from.calls _ _ _ _ _ _ _ _ rfl).mono ?_; rintro e w5 ⟨rfl, hb⟩; replace BK := kb_ BK hb; replace HB := hb_ HB (e_ GE e0_) hb; clear hb; have z0 := zc_ BK 0 rfl; have z1 := zc_ BK 1 rfl; have z2 := zc_ BK 2 rfl; have z3 := zc_ BK 3 rfl; have f0 := kf_ BK.out 0; have f1 := kf_ BK.out 1; have f2 := kf_ BK.out 2; have f3 := kf_ BK.out 3))
  refine bodyPost_ret (results_cell_row rfl _ _ gb 30 #[.int .i64 (-1000), .int .i64 (-2048), .int .i64 0, .int .i64 2048] (0, 0) _ rfl (by refine blk_put (cs := #[.int .i64 (-1000), .int .i64 (-2048), .int .i64 0, .int .i64 0]) ?_ 3 _ rfl; refine blk_put (cs := #[.int .i64 (-1000), .int .i64 (-2048), .int .i64 0, .int .i64 0]) ?_ 2 _ rfl; refine blk_put (cs := #[.int .i64 (-1000), .int .i64 0, .int .i64 0, .int .i64 0]) ?_ 1 _ rfl; refine blk_put (cs := #[.int .i64 0, .int .i64 0, .int .i64 0, .int .i64 0]) ?_ 0 _ rfl; exact kk_ BK.out) Tryd.underlying30 rfl (by kernel_rfl)) rfl ?_
  exact ⟨rfl, bb_ HB.out (e_ GE e0_)⟩
 rw [if_neg c7] at h
 cases h

end Go.Proofs.YtbinlfichkdhlaaDoor.P
