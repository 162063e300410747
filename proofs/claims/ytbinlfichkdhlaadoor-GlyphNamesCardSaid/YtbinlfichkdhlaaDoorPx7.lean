-- Written by a program of this session (wip/tools/xprint.py, over the kit's print): Lean checks it.
import Derived.Test.YtbinlfichkdhlaaDoorPx0
import Derived.Test.YtbinlfichkdhlaaDoorPx3
import Derived.Test.YtbinlfichkdhlaaDoorPx5
namespace Go.Proofs.YtbinlfichkdhlaaDoor.P
open Go.RowKit Go.Proofs.YtbinlfichkdhlaaDoorW.PrintWords Go.Proofs.YtbinlfichkdhlaaDoorW.PrintLast Go.Proofs.YtbinlfichkdhlaaDoorW.PrintMore
attribute [local go_sem] max2_int min2_int max_two min_two max_three min_three max_four min_four   -- for this text's walks alone
set_option linter.unusedVariables false
set_option linter.unusedSimpArgs false

/-! ### glyph_letter: function 22 -/
mutual
def glyph_letter.j0 : Nat → Int → Int → Bool → Option (Int)
 | 0, _, _, _ => none
 | k + 1, x0, x3, x4 => if x4 = true then (some 420) else (if x3 = 109 then (glyph_letter.j1 k x0 (x3 == 109)) else (if x3 = 119 then (glyph_letter.j1 k x0 (x3 == 119)) else (if x3 = 77 then (glyph_letter.j1 k x0 (x3 == 77)) else (glyph_letter.j1 k x0 (x3 == 87)))))
def glyph_letter.j1 : Nat → Int → Bool → Option (Int)
 | 0, _, _ => none
 | k + 1, x0, x14 => if x14 = true then (some 1130) else (if x0 < 128 then (some 820) else (some 900))
end
def glyph_letter.f (k : Nat) (a0 : Int) : Option (Int) := if a0 = 105 then (glyph_letter.j0 k a0 a0 (a0 == 105)) else (if a0 = 108 then (glyph_letter.j0 k a0 a0 (a0 == 108)) else (if a0 = 106 then (glyph_letter.j0 k a0 a0 (a0 == 106)) else (if a0 = 116 then (glyph_letter.j0 k a0 a0 (a0 == 116)) else (if a0 = 102 then (glyph_letter.j0 k a0 a0 (a0 == 102)) else (if a0 = 46 then (glyph_letter.j0 k a0 a0 (a0 == 46)) else (if a0 = 44 then (glyph_letter.j0 k a0 a0 (a0 == 44)) else (if a0 = 39 then (glyph_letter.j0 k a0 a0 (a0 == 39)) else (glyph_letter.j0 k a0 a0 (a0 == 32)))))))))
theorem glyph_letter.mono_l : ∀ k, (∀ y0 y1 y2, LeO (glyph_letter.j0 k y0 y1 y2) (glyph_letter.j0 (k + 1) y0 y1 y2)) ∧ (∀ y0 y1, LeO (glyph_letter.j1 k y0 y1) (glyph_letter.j1 (k + 1) y0 y1))
 | 0 => ⟨fun _ _ _ r h => by simp [glyph_letter.j0] at h, fun _ _ r h => by simp [glyph_letter.j1] at h⟩
 | k + 1 => by
  obtain ⟨ih0, ih1⟩ := glyph_letter.mono_l k
  refine ⟨?_, ?_⟩
  ·intro y0 y1 y2
   unfold glyph_letter.j0
   repeat' first
   | (with_reducible exact ih0 _ _ _)
   | (with_reducible exact ih1 _ _)
   | (with_reducible exact LeO.refl _)
   | (with_reducible exact LeO.none _)
   | (with_reducible refine LeO.ite ?_ ?_)
   | (with_reducible refine LeO.bind ?_ (fun _ => ?_))
   | exact ih0 _ _ _
   | exact ih1 _ _
   | exact LeO.none _
   | refine LeO.ite ?_ ?_
   | refine LeO.bind ?_ (fun _ => ?_)
  ·intro y0 y1
   unfold glyph_letter.j1
   repeat' first
   | (with_reducible exact ih0 _ _ _)
   | (with_reducible exact ih1 _ _)
   | (with_reducible exact LeO.refl _)
   | (with_reducible exact LeO.none _)
   | (with_reducible refine LeO.ite ?_ ?_)
   | (with_reducible refine LeO.bind ?_ (fun _ => ?_))
   | exact ih0 _ _ _
   | exact ih1 _ _
   | exact LeO.none _
   | refine LeO.ite ?_ ?_
   | refine LeO.bind ?_ (fun _ => ?_)
theorem glyph_letter.mono : ∀ a0 k, LeO (glyph_letter.f k a0) (glyph_letter.f (k + 1) a0) := by
 intro a0 k
 obtain ⟨ih0, ih1⟩ := glyph_letter.mono_l k
 unfold glyph_letter.f
 repeat' first
   | (with_reducible exact ih0 _ _ _)
   | (with_reducible exact ih1 _ _)
   | (with_reducible exact LeO.refl _)
   | (with_reducible exact LeO.none _)
   | (with_reducible refine LeO.ite ?_ ?_)
   | (with_reducible refine LeO.bind ?_ (fun _ => ?_))
   | exact ih0 _ _ _
   | exact ih1 _ _
   | exact LeO.none _
   | refine LeO.ite ?_ ?_
   | refine LeO.bind ?_ (fun _ => ?_)
set_option maxHeartbeats 8000000 in
set_option maxRecDepth 100000 in
theorem glyph_letter.calls (k : Nat) (a0 : Int) (r : Int) (w : World) (h : glyph_letter.f k a0 = some r) :
  Calls Tryd.prog 22 #[.int .i32 a0] w fun e w' => e = .returned (.int .i64 r) ∧ Drawn0 w w' := by
 have H : (if a0 = 105 then (glyph_letter.j0 k a0 a0 (a0 == 105)) else (if a0 = 108 then (glyph_letter.j0 k a0 a0 (a0 == 108)) else (if a0 = 106 then (glyph_letter.j0 k a0 a0 (a0 == 106)) else (if a0 = 116 then (glyph_letter.j0 k a0 a0 (a0 == 116)) else (if a0 = 102 then (glyph_letter.j0 k a0 a0 (a0 == 102)) else (if a0 = 46 then (glyph_letter.j0 k a0 a0 (a0 == 46)) else (if a0 = 44 then (glyph_letter.j0 k a0 a0 (a0 == 44)) else (if a0 = 39 then (glyph_letter.j0 k a0 a0 (a0 == 39)) else (glyph_letter.j0 k a0 a0 (a0 == 32)))))))))) = some r := h
 clear h
 have HC2 := sd_ H
 clear H
 go_enter Tryd.func22, Tryd.ntmps22
 go_upto_if 4 with (fail)
 go_cut [4] (fun v4 wc => ∃ (kq : Nat) (x4_1 : Bool), v4 = .bool x4_1 ∧ Aside0 (glyph_letter.j0 kq a0 a0 x4_1 = some r) ∧ Aside0 (kq ≤ k) ∧ Drawn0 w wc)
 case first =>
  have H := HC2.out
  clear HC2
  by_cases c3 : a0 = 105
  ·rw [if_pos c3] at H
   have c3b0 : (a0 == 105) = true := beq_iff_eq.mpr c3
   have c3b1 : (a0 != 105) = false := bne_eq_false_iff_eq.mpr c3
   clear c3
   (first | rw [c3b0] | (simp only [i64_w, i32_w]; rw [c3b0]) | skip)
   have H' := sd_ H
   clear H
   go_wp2
   go_meet
   case rel => exact ⟨_, ((a0 == 105)), (by first | rfl | (simp; done) | (simp [*]; done) | (simp [bne]; done)), H', ⟨by first | omega | exact Nat.le_refl _⟩, by repeat (first | exact Drawn0.refl _ | apply Drawn0.step)⟩
  ·rw [if_neg c3] at H
   have c3b0 : (a0 == 105) = false := beq_eq_false_iff_ne.mpr c3
   have c3b1 : (a0 != 105) = true := bne_iff_ne.mpr c3
   (first | rw [c3b0] | (simp only [i64_w, i32_w]; rw [c3b0]) | skip)
   by_cases c4 : a0 = 108
   ·rw [if_pos c4] at H
    have c4b0 : (a0 == 108) = true := beq_iff_eq.mpr c4
    have c4b1 : (a0 != 108) = false := bne_eq_false_iff_eq.mpr c4
    clear c4
    have H' := sd_ H
    clear H
    go_wp2
    go_meet
    case rel => exact ⟨_, ((a0 == 108)), (by first | rfl | (simp; done) | (simp [*]; done) | (simp [bne]; done)), H', ⟨by first | omega | exact Nat.le_refl _⟩, by repeat (first | exact Drawn0.refl _ | apply Drawn0.step)⟩
   ·rw [if_neg c4] at H
    have c4b0 : (a0 == 108) = false := beq_eq_false_iff_ne.mpr c4
    have c4b1 : (a0 != 108) = true := bne_iff_ne.mpr c4
    by_cases c5 : a0 = 106
    ·rw [if_pos c5] at H
     have c5b0 : (a0 == 106) = true := beq_iff_eq.mpr c5
     have c5b1 : (a0 != 106) = false := bne_eq_false_iff_eq.mpr c5
     clear c5
     have H' := sd_ H
     clear H
     go_wp2
     go_meet
     case rel => exact ⟨_, ((a0 == 106)), (by first | rfl | (simp; done) | (simp [*]; done) | (simp [bne]; done)), H', ⟨by first | omega | exact Nat.le_refl _⟩, by repeat (first | exact Drawn0.refl _ | apply Drawn0.step)⟩
    ·rw [if_neg c5] at H
     have c5b0 : (a0 == 106) = false := beq_eq_false_iff_ne.mpr c5
     have c5b1 : (a0 != 106) = true := bne_iff_ne.mpr c5
     by_cases c6 : a0 = 116
     ·rw [if_pos c6] at H
      have c6b0 : (a0 == 116) = true := beq_iff_eq.mpr c6
      have c6b1 : (a0 != 116) = false := bne_eq_false_iff_eq.mpr c6
      clear c6
      have H' := sd_ H
      clear H
      go_wp2
      go_meet
      case rel => exact ⟨_, ((a0 == 116)), (by first | rfl | (simp; done) | (simp [*]; done) | (simp [bne]; done)), H', ⟨by first | omega | exact Nat.le_refl _⟩, by repeat (first | exact Drawn0.refl _ | apply Drawn0.step)⟩
     ·rw [if_neg c6] at H
      have c6b0 : (a0 == 116) = false := beq_eq_false_iff_ne.mpr c6
      have c6b1 : (a0 != 116) = true := bne_iff_ne.mpr c6
      by_cases c7 : a0 = 102
      ·rw [if_pos c7] at H
       have c7b0 : (a0 == 102) = true := beq_iff_eq.mpr c7
       have c7b1 : (a0 != 102) = false := bne_eq_false_iff_eq.mpr c7
       clear c7
       have H' := sd_ H
       clear H
       go_wp2
       go_meet
       case rel => exact ⟨_, ((a0 == 102)), (by first | rfl | (simp; done) | (simp [*]; done) | (simp [bne]; done)), H', ⟨by first | omega | exact Nat.le_refl _⟩, by repeat (first | exact Drawn0.refl _ | apply Drawn0.step)⟩
      ·rw [if_neg c7] at H
       have c7b0 : (a0 == 102) = false := beq_eq_false_iff_ne.mpr c7
       have c7b1 : (a0 != 102) = true := bne_iff_ne.mpr c7
       by_cases c8 : a0 = 46
       ·rw [if_pos c8] at H
        have c8b0 : (a0 == 46) = true := beq_iff_eq.mpr c8
        have c8b1 : (a0 != 46) = false := bne_eq_false_iff_eq.mpr c8
        clear c8
        have H' := sd_ H
        clear H
        go_wp2
        go_meet
        case rel => exact ⟨_, ((a0 == 46)), (by first | rfl | (simp; done) | (simp [*]; done) | (simp [bne]; done)), H', ⟨by first | omega | exact Nat.le_refl _⟩, by repeat (first | exact Drawn0.refl _ | apply Drawn0.step)⟩
       ·rw [if_neg c8] at H
        have c8b0 : (a0 == 46) = false := beq_eq_false_iff_ne.mpr c8
        have c8b1 : (a0 != 46) = true := bne_iff_ne.mpr c8
        by_cases c9 : a0 = 44
        ·rw [if_pos c9] at H
         have c9b0 : (a0 == 44) = true := beq_iff_eq.mpr c9
         have c9b1 : (a0 != 44) = false := bne_eq_false_iff_eq.mpr c9
         clear c9
         have H' := sd_ H
         clear H
         go_wp2
         go_meet
         case rel => exact ⟨_, ((a0 == 44)), (by first | rfl | (simp; done) | (simp [*]; done) | (simp [bne]; done)), H', ⟨by first | omega | exact Nat.le_refl _⟩, by repeat (first | exact Drawn0.refl _ | apply Drawn0.step)⟩
        ·rw [if_neg c9] at H
         have c9b0 : (a0 == 44) = false := beq_eq_false_iff_ne.mpr c9
         have c9b1 : (a0 != 44) = true := bne_iff_ne.mpr c9
         by_cases c10 : a0 = 39
         ·rw [if_pos c10] at H
          have c10b0 : (a0 == 39) = true := beq_iff_eq.mpr c10
          have c10b1 : (a0 != 39) = false := bne_eq_false_iff_eq.mpr c10
          clear c10
          have H' := sd_ H
          clear H
          go_wp2
          go_meet
          case rel => exact ⟨_, ((a0 == 39)), (by first | rfl | (simp; done) | (simp [*]; done) | (simp [bne]; done)), H', ⟨by first | omega | exact Nat.le_refl _⟩, by repeat (first | exact Drawn0.refl _ | apply Drawn0.step)⟩
         ·rw [if_neg c10] at H
          have c10b0 : (a0 == 39) = false := beq_eq_false_iff_ne.mpr c10
          have c10b1 : (a0 != 39) = true := bne_iff_ne.mpr c10
          have H' := sd_ H
          clear H
          go_wp2
          go_meet
          case rel => exact ⟨_, ((a0 == 32)), (by first | rfl | (simp; done) | (simp [*]; done) | (simp [bne]; done)), H', ⟨by first | omega | exact Nat.le_refl _⟩, by repeat (first | exact Drawn0.refl _ | apply Drawn0.step)⟩
 case rest =>
  clear HC2
  try clear c1; try clear c2; try clear p2; try clear c3; try clear c3b0; try clear c3b1; try clear c4; try clear c4b0; try clear c4b1; try clear c5; try clear c5b0; try clear c5b1; try clear c6; try clear c6b0; try clear c6b1; try clear c7; try clear c7b0; try clear c7b1; try clear c8; try clear c8b0; try clear c8b1; try clear c9; try clear c9b0; try clear c9b1; try clear c10; try clear c10b0; try clear c10b1
  obtain ⟨kq, x4_1, rfl, HA, HJ1, ⟨mc1, rfl⟩⟩ := hcut
  cases kq with
  | zero => exact absurd HA.out (by simp [glyph_letter.j0])
  | succ kj1 =>
   have H := HA.out
   clear HA
   simp only [glyph_letter.j0] at H
   by_cases c11 : x4_1 = true
   ·subst c11
    have H1 : (some 420) = some r := by rw [if_pos rfl] at H; exact H
    clear H; have H := H1; clear H1
    obtain rfl := Option.some.inj H
    go_wp2
    go_ret
    exact ⟨by first | rfl | (simp; done) | (simp [*]; done), by repeat (first | exact Drawn0.refl _ | apply Drawn0.step)⟩
   ·replace c11 := bf_ c11
    subst c11
    have H1 : (if a0 = 109 then (glyph_letter.j1 kj1 a0 (a0 == 109)) else (if a0 = 119 then (glyph_letter.j1 kj1 a0 (a0 == 119)) else (if a0 = 77 then (glyph_letter.j1 kj1 a0 (a0 == 77)) else (glyph_letter.j1 kj1 a0 (a0 == 87))))) = some r := by rw [if_neg (show ¬ (false = true) by decide)] at H; exact H
    clear H; have H := H1; clear H1
    have HC12 := sd_ H
    clear H
    go_upto_if 14 with (fail)
    go_cut [14] (fun v14 wc => ∃ (kq : Nat) (x14_11 : Bool), v14 = .bool x14_11 ∧ Aside0 (glyph_letter.j1 kq a0 x14_11 = some r) ∧ Aside0 (kq ≤ kj1) ∧ Drawn0 w wc)
    case first =>
     have H := HC12.out
     clear HC12
     by_cases c13 : a0 = 109
     ·rw [if_pos c13] at H
      have c13b0 : (a0 == 109) = true := beq_iff_eq.mpr c13
      have c13b1 : (a0 != 109) = false := bne_eq_false_iff_eq.mpr c13
      clear c13
      (first | rw [c13b0] | (simp only [i64_w, i32_w]; rw [c13b0]) | skip)
      have H' := sd_ H
      clear H
      go_wp2
      go_meet
      case rel => exact ⟨_, ((a0 == 109)), (by first | rfl | (simp; done) | (simp [*]; done) | (simp [bne]; done)), H', ⟨by have := HJ1.out; first | omega | exact Nat.le_refl _⟩, by repeat (first | exact Drawn0.refl _ | apply Drawn0.step)⟩
     ·rw [if_neg c13] at H
      have c13b0 : (a0 == 109) = false := beq_eq_false_iff_ne.mpr c13
      have c13b1 : (a0 != 109) = true := bne_iff_ne.mpr c13
      (first | rw [c13b0] | (simp only [i64_w, i32_w]; rw [c13b0]) | skip)
      by_cases c14 : a0 = 119
      ·rw [if_pos c14] at H
       have c14b0 : (a0 == 119) = true := beq_iff_eq.mpr c14
       have c14b1 : (a0 != 119) = false := bne_eq_false_iff_eq.mpr c14
       clear c14
       have H' := sd_ H
       clear H
       go_wp2
       go_meet
       case rel => exact ⟨_, ((a0 == 119)), (by first | rfl | (simp; done) | (simp [*]; done) | (simp [bne]; done)), H', ⟨by have := HJ1.out; first | omega | exact Nat.le_refl _⟩, by repeat (first | exact Drawn0.refl _ | apply Drawn0.step)⟩
      ·rw [if_neg c14] at H
       have c14b0 : (a0 == 119) = false := beq_eq_false_iff_ne.mpr c14
       have c14b1 : (a0 != 119) = true := bne_iff_ne.mpr c14
       by_cases c15 : a0 = 77
       ·rw [if_pos c15] at H
        have c15b0 : (a0 == 77) = true := beq_iff_eq.mpr c15
        have c15b1 : (a0 != 77) = false := bne_eq_false_iff_eq.mpr c15
        clear c15
        have H' := sd_ H
        clear H
        go_wp2
        go_meet
        case rel => exact ⟨_, ((a0 == 77)), (by first | rfl | (simp; done) | (simp [*]; done) | (simp [bne]; done)), H', ⟨by have := HJ1.out; first | omega | exact Nat.le_refl _⟩, by repeat (first | exact Drawn0.refl _ | apply Drawn0.step)⟩
       ·rw [if_neg c15] at H
        have c15b0 : (a0 == 77) = false := beq_eq_false_iff_ne.mpr c15
        have c15b1 : (a0 != 77) = true := bne_iff_ne.mpr c15
        have H' := sd_ H
        clear H
        go_wp2
        go_meet
        case rel => exact ⟨_, ((a0 == 87)), (by first | rfl | (simp; done) | (simp [*]; done) | (simp [bne]; done)), H', ⟨by have := HJ1.out; first | omega | exact Nat.le_refl _⟩, by repeat (first | exact Drawn0.refl _ | apply Drawn0.step)⟩
    case rest =>
     clear HC12
     try clear c1; try clear c2; try clear p2; try clear c3; try clear c3b0; try clear c3b1; try clear c4; try clear c4b0; try clear c4b1; try clear c5; try clear c5b0; try clear c5b1; try clear c6; try clear c6b0; try clear c6b1; try clear c7; try clear c7b0; try clear c7b1; try clear c8; try clear c8b0; try clear c8b1; try clear c9; try clear c9b0; try clear c9b1; try clear c10; try clear c10b0; try clear c10b1; try clear c11; try clear c13; try clear c13b0; try clear c13b1; try clear c14; try clear c14b0; try clear c14b1; try clear c15; try clear c15b0; try clear c15b1; try clear p2
     obtain ⟨kq, x14_11, rfl, HA, HJ11, ⟨mc11, rfl⟩⟩ := hcut
     cases kq with
     | zero => exact absurd HA.out (by simp [glyph_letter.j1])
     | succ kj11 =>
      have H := HA.out
      clear HA
      simp only [glyph_letter.j1] at H
      by_cases c16 : x14_11 = true
      ·subst c16
       have H1 : (some 1130) = some r := by rw [if_pos rfl] at H; exact H
       clear H; have H := H1; clear H1
       obtain rfl := Option.some.inj H
       go_wp2
       go_ret
       exact ⟨by first | rfl | (simp; done) | (simp [*]; done), by repeat (first | exact Drawn0.refl _ | apply Drawn0.step)⟩
      ·replace c16 := bf_ c16
       subst c16
       have H1 : (if a0 < 128 then (some 820) else (some 900)) = some r := by rw [if_neg (show ¬ (false = true) by decide)] at H; exact H
       clear H; have H := H1; clear H1
       by_cases c17 : a0 < 128
       ·rw [if_pos c17] at H
        have c17b0 : decide (a0 < 128) = true := dt_ c17
        clear c17
        obtain rfl := Option.some.inj H
        go_wp2
        go_ret
        exact ⟨by first | rfl | (simp; done) | (simp [*]; done), by repeat (first | exact Drawn0.refl _ | apply Drawn0.step)⟩
       ·rw [if_neg c17] at H
        have c17b0 : decide (a0 < 128) = false := df_ c17
        clear c17
        obtain rfl := Option.some.inj H
        go_wp2
        go_ret
        exact ⟨by first | rfl | (simp; done) | (simp [*]; done), by repeat (first | exact Drawn0.refl _ | apply Drawn0.step)⟩

/-! ### glyph_Width: function 12 -/
/-- How wide a rune is. -/
def lett (r : Int) : Int := (glyph_letter.f 4 r).getD 0
def LetOk (o : Option Int) : Prop := ∃ v, o = some v ∧ 420 ≤ v ∧ v ≤ 1130
theorem LetOk.ite {c : Prop} [Decidable c] {a b : Option Int} (h1 : LetOk a) (h2 : LetOk b) : LetOk (if c then a else b) := by split <;> assumption
theorem letter_ok (r : Int) : glyph_letter.f 4 r = some (lett r) ∧ 420 ≤ lett r ∧ lett r ≤ 1130 := by
 have this : LetOk (glyph_letter.f 4 r) := by
  unfold glyph_letter.f
  simp only [glyph_letter.j0, glyph_letter.j1]
  repeat' (first | refine LetOk.ite ?_ ?_ | exact ⟨_, rfl, by decide, by decide⟩)
 obtain ⟨v, h, h2⟩ := this
 unfold lett
 rw [h]
 exact ⟨rfl, h2⟩
/-- How wide a text is, from a byte on. -/
def widthV (s : ByteArray) : Nat → Nat → Int → Int
 | 0, _, n => n
 | b + 1, pos, n => if pos < s.size then widthV s b (pos + (Utf8.decode s pos).2) (mn 1099511627776 (n + lett (Utf8.decode s pos).1)) else n
def glyph_Width.f (s : ByteArray) : Option Int := some (widthV s s.size 0 0)
theorem width_pos (s : ByteArray) (pos : Nat) (h : pos < s.size) : 1 ≤ (Utf8.decode s pos).2 := by
 by_cases ha : (s[pos]'h).toNat < 128
 ·rw [decode_ascii s pos h ha]
  exact Nat.le_refl _
 ·exact (decode_high s pos h (by omega)).2
theorem widthV_end (s : ByteArray) (b pos : Nat) (n : Int) (h : ¬ pos < s.size) : widthV s b pos n = n := by
 cases b with
 | zero => rfl
 | succ b => simp [widthV, h]
theorem mn_bd {a b : Int} (ha : 0 ≤ a ∧ a ≤ 1099511627776) (hb : 420 ≤ b ∧ b ≤ 1130) : wrap64 (a + b) = a + b ∧ 0 ≤ mn 1099511627776 (a + b) ∧ mn 1099511627776 (a + b) ≤ 1099511627776 := by
 refine ⟨by unfold wrap64; omega, ?_⟩
 unfold mn
 split <;> omega
set_option maxHeartbeats 4000000 in
set_option maxRecDepth 100000 in
theorem glyph_Width.calls (a0 : ByteArray) (r : Int) (w : World) (h : glyph_Width.f a0 = some r) :
  Calls Tryd.prog 12 #[.string a0] w fun e w' => e = .returned (.int .i64 r) ∧ Below w.heap.size w w' := by
 obtain rfl := Option.some.inj h
 clear h
 go_enter Tryd.func12, Tryd.ntmps12
 go_wp2
 go_loopw [3] (fun n w' => ∃ (pos b : Nat) (acc : Int), w'.heap[w.heap.size]? = some (.stringIter a0 pos) ∧ Below w.heap.size w w' ∧ n = .int .i64 acc ∧ widthV a0 b pos acc = widthV a0 a0.size 0 0 ∧ a0.size ≤ pos + b ∧ 0 ≤ acc ∧ acc ≤ 1099511627776) (fun _ w' => a0.size - w'.iterPos w.heap.size)
 case atStart => exact ⟨0, a0.size, 0, blk_new w (.stringIter a0 0), ba_ (Below.refl w.heap.size w) _, rfl, rfl, by omega, by omega, by omega⟩
 case round =>
  obtain ⟨pos, b, acc, hk, hbel, rfl, hc, hb, hacc⟩ := hrel
  by_cases hp : pos < a0.size
  ·have hnx : ∀ ty, (Instr.next (.pointer (some ⟨w.heap.size, 0, none⟩)) true ty).run Tryd.prog wr = _ := fun ty => Lib.run_next_any_at wr w.heap.size a0 pos ty hk hp
   have hwd := width_pos a0 pos hp
   have hk2 := Lib.iterAt_heap wr w.heap.size a0 pos (pos + (Utf8.decode a0 pos).2) hk
   have hb2 := Lib.below_iterAt hbel (Nat.le_refl _) a0 (pos + (Utf8.decode a0 pos).2)
   obtain ⟨hl1, hl2⟩ := letter_ok (Utf8.decode a0 pos).1
   have HL := sd_ (fun W => glyph_letter.calls 4 _ _ W hl1)
   have hm := mn_bd hacc hl2
   have hcu : widthV a0 b pos acc = widthV a0 (b - 1) (pos + (Utf8.decode a0 pos).2) (mn 1099511627776 (acc + lett (Utf8.decode a0 pos).1)) := by
    cases b with
    | zero => omega
    | succ b => simp [widthV, hp]
   rw [hc] at hcu
   have HC := sd_ hcu
   have hpi := iterPos_of hk
   clear hcu hc hl1
   generalize (Utf8.decode a0 pos).1 = rn at *
   generalize (Utf8.decode a0 pos).2 = dn at *
   go_wp2_with (first | (go_at_call 22; refine (HL.out _).mono ?_; rintro e w1 ⟨rfl, hd⟩; obtain ⟨n1, rfl⟩ := hd.out; clear hd))
   refine ⟨⟨pos + dn, b - 1, mn 1099511627776 (acc + lett rn), kn_ hk2 n1, pd_ hb2 _, rfl, HC.out.symm, by omega, hm.2.1, hm.2.2⟩, ?_⟩
   rw [iterPos_of (kn_ hk2 n1), hpi]
   omega
  ·have hnx : ∀ ty, (Instr.next (.pointer (some ⟨w.heap.size, 0, none⟩)) true ty).run Tryd.prog wr = _ := fun ty => Lib.run_next_end_at wr w.heap.size a0 pos ty hk hp
   go_wp2
   go_ret
   rw [widthV_end a0 b pos acc hp] at hc
   subst hc
   exact ⟨rfl, hbel⟩

/-! ### glyph_Digits: function 13 -/
mutual
def glyph_Digits.j0 : Nat → Int → Bool → Option (List Int × Int)
 | 0, _, _ => none
 | k + 1, x0, x10 => if x10 = true then (some (([] : List Int), 2)) else (if x0 > 9 then ((glyph_Digits.f k (wrap64 (Int.tdiv x0 10))).bind fun bt142 => (if bt142.1.length < 17592186044416 then (some ((bt142.1 ++ [wrap64 (30 + (Int.tmod x0 10))]), 0)) else (none))) else (if ([] : List Int).length < 17592186044416 then (some ((([] : List Int) ++ [wrap64 (30 + (Int.tmod x0 10))]), 0)) else (none)))
def glyph_Digits.f : Nat → Int → Option (List Int × Int)
 | 0, _ => none
 | k + 1, a0 => if a0 < 0 then (glyph_Digits.j0 k a0 true) else (glyph_Digits.j0 k a0 (decide (a0 > 999999)))
end
theorem glyph_Digits.mono_l : ∀ k, (∀ y0, LeO (glyph_Digits.f k y0) (glyph_Digits.f (k + 1) y0)) ∧ (∀ y0 y1, LeO (glyph_Digits.j0 k y0 y1) (glyph_Digits.j0 (k + 1) y0 y1))
 | 0 => ⟨fun _ r h => by simp [glyph_Digits.f] at h, fun _ _ r h => by simp [glyph_Digits.j0] at h⟩
 | k + 1 => by
  obtain ⟨ih0, ih1⟩ := glyph_Digits.mono_l k
  refine ⟨?_, ?_⟩
  ·intro y0
   unfold glyph_Digits.f
   repeat' first
   | (with_reducible exact ih0 _)
   | (with_reducible exact ih1 _ _)
   | (with_reducible exact LeO.refl _)
   | (with_reducible exact LeO.none _)
   | (with_reducible refine LeO.ite ?_ ?_)
   | (with_reducible refine LeO.bind ?_ (fun _ => ?_))
   | exact ih0 _
   | exact ih1 _ _
   | exact LeO.none _
   | refine LeO.ite ?_ ?_
   | refine LeO.bind ?_ (fun _ => ?_)
  ·intro y0 y1
   unfold glyph_Digits.j0
   repeat' first
   | (with_reducible exact ih0 _)
   | (with_reducible exact ih1 _ _)
   | (with_reducible exact LeO.refl _)
   | (with_reducible exact LeO.none _)
   | (with_reducible refine LeO.ite ?_ ?_)
   | (with_reducible refine LeO.bind ?_ (fun _ => ?_))
   | exact ih0 _
   | exact ih1 _ _
   | exact LeO.none _
   | refine LeO.ite ?_ ?_
   | refine LeO.bind ?_ (fun _ => ?_)
theorem glyph_Digits.mono : ∀ a0 k, LeO (glyph_Digits.f k a0) (glyph_Digits.f (k + 1) a0) := by
 intro a0 k
 obtain ⟨ih0, ih1⟩ := glyph_Digits.mono_l k
 exact ih0 a0
set_option maxHeartbeats 8000000 in
set_option maxRecDepth 100000 in
theorem glyph_Digits.calls (k : Nat) : ∀ (a0 : Int) (r1 : List Int) (r2 : Int) (w : World) (h : glyph_Digits.f k a0 = some (r1, r2)),
  Calls Tryd.prog 13 #[.int .i64 a0] w fun e w' => ∃ v0_ : Value, e = .returned (.tuple #[v0_, .int .i64 r2]) ∧ Kd.R (Kd.int .i64) 22 w' w.heap.size (fun _ => True) v0_ r1 ∧ Below w.heap.size w w' := by
 induction k using Nat.strongRecOn with
 | _ k ih =>
 intro a0 r1 r2 w h
 cases k with
 | zero => exact absurd h (by simp [glyph_Digits.f])
 | succ k =>
 simp only [glyph_Digits.f] at h
 have HB := sd_ (Below.refl w.heap.size w)
 have H : (if a0 < 0 then (glyph_Digits.j0 k a0 true) else (glyph_Digits.j0 k a0 (decide (a0 > 999999)))) = some (r1, r2) := h
 clear h
 have HC2 := sd_ H
 clear H
 go_enter Tryd.func13, Tryd.ntmps13
 go_upto_region 1 with (fail)
 go_cut [10] (fun v10 wc => ∃ (kq : Nat) (x10_1 : Bool), v10 = .bool x10_1 ∧ Aside0 (glyph_Digits.j0 kq a0 x10_1 = some (r1, r2)) ∧ Aside0 (kq ≤ k) ∧ Aside0 (Below w.heap.size w wc))
 case first =>
  have H := HC2.out
  clear HC2
  by_cases c3 : a0 < 0
  ·rw [if_pos c3] at H
   have c3b0 : decide (a0 < 0) = true := dt_ c3
   clear c3
   (first | rw [c3b0] | (simp only [i64_w, i32_w]; rw [c3b0]) | skip)
   have H' := sd_ H
   clear H
   go_wp2
   go_meet
   case rel => exact ⟨_, (true), (by first | rfl | (simp; done) | (simp [*]; done) | (simp [bne]; done)), H', ⟨by first | omega | exact Nat.le_refl _⟩, ⟨by repeat (first | (with_reducible first | exact HB.out | apply ba_ | apply pd_ | apply d1_) | exact HB.out)⟩⟩
  ·rw [if_neg c3] at H
   have c3b0 : decide (a0 < 0) = false := df_ c3
   clear c3
   (first | rw [c3b0] | (simp only [i64_w, i32_w]; rw [c3b0]) | skip)
   have H' := sd_ H
   clear H
   go_wp2
   go_meet
   case rel => exact ⟨_, (decide (a0 > 999999)), (by first | rfl | (simp; done) | (simp [*]; done) | (simp [bne]; done)), H', ⟨by first | omega | exact Nat.le_refl _⟩, ⟨by repeat (first | (with_reducible first | exact HB.out | apply ba_ | apply pd_ | apply d1_) | exact HB.out)⟩⟩
 case rest =>
  clear HC2
  try clear c1; try clear p2; try clear c3; try clear c3b0
  obtain ⟨kq, x10_1, rfl, HA, HJ1, HB⟩ := hcut
  cases kq with
  | zero => exact absurd HA.out (by simp [glyph_Digits.j0])
  | succ kj1 =>
   have H := HA.out
   clear HA
   simp only [glyph_Digits.j0] at H
   by_cases c4 : x10_1 = true
   ·subst c4
    have H1 : (some (([] : List Int), 2)) = some (r1, r2) := by rw [if_pos rfl] at H; exact H
    clear H; have H := H1; clear H1
    simp only [Option.some.injEq, Prod.mk.injEq] at H
    obtain ⟨rfl, rfl⟩ := H
    go_wp2
    go_ret2
    exact ⟨_, by first | rfl | (simp [errW_none, errW_some] <;> rfl) | (simp [*, errW_none, errW_some] <;> rfl), by first | exact Kd.R_nil _ _ _ _ _ | exact Kd.N_nil _ _ _ _ _ | exact Kd.V_nil _ _ _ _ _ | exact Kd.Q_nil _ _ _ _ _ | exact Kd.S_nil _ _ _ _ _, by repeat (first | (with_reducible first | exact HB.out | apply ba_ | apply pd_ | apply d1_) | exact HB.out)⟩
   ·replace c4 := bf_ c4
    subst c4
    have H1 : (if a0 > 9 then ((glyph_Digits.f kj1 (wrap64 (Int.tdiv a0 10))).bind fun bt142 => (if bt142.1.length < 17592186044416 then (some ((bt142.1 ++ [wrap64 (30 + (Int.tmod a0 10))]), 0)) else (none))) else (if ([] : List Int).length < 17592186044416 then (some ((([] : List Int) ++ [wrap64 (30 + (Int.tmod a0 10))]), 0)) else (none))) = some (r1, r2) := by rw [if_neg (show ¬ (false = true) by decide)] at H; exact H
    clear H; have H := H1; clear H1
    by_cases c5 : a0 > 9
    ·rw [if_pos c5] at H
     have c5b0 : decide (9 < a0) = true := dt_ c5
     clear c5
     replace H := ob_ H
     obtain ⟨⟨t142, t143⟩, A60, H⟩ := H
     replace H : (if t142.length < 17592186044416 then (some ((t142 ++ [wrap64 (30 + (Int.tmod a0 10))]), 0)) else (none)) = some (r1, r2) := H
     have A6 := sd_ A60
     clear A60
     by_cases c7 : t142.length < 17592186044416
     ·rw [if_pos c7] at H
      have LMc7 := sd_ c7
      clear c7
      obtain ⟨y146, hy146⟩ : ∃ y_ : List Int, y_ = (t142 ++ [wrap64 (30 + (Int.tmod a0 10))]) := ⟨_, rfl⟩
      replace H : (some (y146, 0)) = some (r1, r2) := by first | (rw [hy146]; with_reducible exact H) | (have H2_ := (Option.bind_some _ _).symm.trans H; rw [hy146]; with_reducible exact H2_) | (have H2_ := (Option.bind_some _ _).symm.trans H; with_reducible exact H2_) | with_reducible exact H | (rw [hy146]; exact H) | exact H
      have Ny146 := sd_ hy146
      clear hy146
      simp only [Option.some.injEq, Prod.mk.injEq] at H
      obtain ⟨rfl, rfl⟩ := H
      go_wp2_with (first | ((with_reducible refine gate_callee (f := 13) rfl ?_); refine goesL_ (some 16) rfl rfl Tryd.func13 (by kernel_rfl) rfl #[.int .i64 (wrap64 (Int.tdiv a0 10))] rfl (by (try simp only [lm_, lq_, lx_]); first | done | rfl | (simp only [ld_, lt_]; rfl)) ?_; (with_reducible refine (ih kj1 (by have := HJ1.out; omega) (wrap64 (Int.tdiv a0 10)) t142 t143 _ A6.out).mono ?_); rintro e w8 ⟨v144, rfl, ho0, hb⟩; refine ⟨_, rfl, ?_⟩; have HO145 := sd_ (Kd.R_lower ho0 (bz_ (bb_ HB.out e0_))); replace HB := hb_ HB e0_ hb; (try clear hb); (try clear hb2); (try clear hk); (try clear hi); (try clear ho0)) | ((with_reducible refine gate_builtin (b := .append) (xs := #[.tmp 19, .tmp 23]) rfl ?_); at_builtin; refine Kd.R_append (Kd.int .i64) (w0 := w) w.heap.size rfl (.tmp 19) (.tmp 23) 36 22 (.int .i64 0) 8 rfl Tryd.underlying36 info22 rfl (by decide) (by omega) v144 t142 (wrap64 (30 + (Int.tmod a0 10))) [.int .i64 (wrap64 (30 + (Int.tmod a0 10)))] (fun _ => True) (fun _ => False) rfl rfl ?aP (fun _ hk => hk.elim) ?aF ?aO ?aB ?aS ?aL ?_; (case aP => exact rfl); (case aB => exact (bb_ HB.out e0_)); (case aF => exact (fun _ _ => trivial)); (case aO => exact (by (with_reducible repeat (first | apply Kd.R_alloc | apply Kd.R_drewN | apply Kd.R_drew)); exact HO145.out)); (case aS => exact (bz_ (bb_ HB.out e0_))); (case aL => have := LMc7.out; omega); intro v147 w9 ho hb hg hat; rw [← Ny146.out] at ho; have HO148 := sd_ (ho); replace HB := sd_ (hb); clear HO145; clear ho hb hg hat))
      go_ret2
      exact ⟨_, by first | rfl | (simp [errW_none, errW_some] <;> rfl) | (simp [*, errW_none, errW_some] <;> rfl), by (with_reducible repeat (first | apply Kd.R_alloc | apply Kd.R_drewN | apply Kd.R_drew)); exact HO148.out, by repeat (first | (with_reducible first | exact HB.out | apply ba_ | apply pd_ | apply d1_) | exact HB.out)⟩
     ·rw [if_neg c7] at H
      exact absurd H (by simp)
    ·rw [if_neg c5] at H
     have c5b0 : decide (9 < a0) = false := df_ c5
     clear c5
     by_cases c10 : ([] : List Int).length < 17592186044416
     ·rw [if_pos c10] at H
      have LMc10 := sd_ c10
      clear c10
      obtain ⟨y149, hy149⟩ : ∃ y_ : List Int, y_ = (([] : List Int) ++ [wrap64 (30 + (Int.tmod a0 10))]) := ⟨_, rfl⟩
      replace H : (some (y149, 0)) = some (r1, r2) := by first | (rw [hy149]; with_reducible exact H) | (have H2_ := (Option.bind_some _ _).symm.trans H; rw [hy149]; with_reducible exact H2_) | (have H2_ := (Option.bind_some _ _).symm.trans H; with_reducible exact H2_) | with_reducible exact H | (rw [hy149]; exact H) | exact H
      have Ny149 := sd_ hy149
      clear hy149
      simp only [Option.some.injEq, Prod.mk.injEq] at H
      obtain ⟨rfl, rfl⟩ := H
      go_wp2_with (first | ((with_reducible refine gate_builtin (b := .append) (xs := #[.tmp 19, .tmp 23]) rfl ?_); at_builtin; refine Kd.R_append (Kd.int .i64) (w0 := w) w.heap.size rfl (.tmp 19) (.tmp 23) 36 22 (.int .i64 0) 8 rfl Tryd.underlying36 info22 rfl (by decide) (by omega) (.slice none 0 0) ([] : List Int) (wrap64 (30 + (Int.tmod a0 10))) [.int .i64 (wrap64 (30 + (Int.tmod a0 10)))] (fun _ => True) (fun _ => False) rfl rfl ?aP (fun _ hk => hk.elim) ?aF ?aO ?aB ?aS ?aL ?_; (case aP => exact rfl); (case aB => exact (bb_ HB.out e0_)); (case aF => exact (fun _ _ => trivial)); (case aO => exact ((Kd.R_nil _ _ _ _ (fun _ => True)))); (case aS => exact (bz_ (bb_ HB.out e0_))); (case aL => have := LMc10.out; omega); intro v150 w11 ho hb hg hat; rw [← Ny149.out] at ho; have HO151 := sd_ (ho); replace HB := sd_ (hb); clear ho hb hg hat))
      go_ret2
      exact ⟨_, by first | rfl | (simp [errW_none, errW_some] <;> rfl) | (simp [*, errW_none, errW_some] <;> rfl), by (with_reducible repeat (first | apply Kd.R_alloc | apply Kd.R_drewN | apply Kd.R_drew)); exact HO151.out, by repeat (first | (with_reducible first | exact HB.out | apply ba_ | apply pd_ | apply d1_) | exact HB.out)⟩
     ·rw [if_neg c10] at H
      exact absurd H (by simp)

/-! ### glyph_Stem: function 17 -/
mutual
def glyph_Stem.j0 : Nat → Bool → Bool → Bool → Option (Int × Int × Int)
 | 0, _, _, _ => none
 | k + 1, x1, x2, x16 => if x16 = true then (some (0, 0, 2)) else (if x1 = true then (glyph_Stem.j1 k x2 1330 170) else (glyph_Stem.j1 k x2 0 (-170)))
def glyph_Stem.j1 : Nat → Bool → Int → Int → Option (Int × Int × Int)
 | 0, _, _, _ => none
 | k + 1, x2, x9, x10 => if x2 = true then ((glyph_less.f x9).bind fun t152 => ((glyph_less.f x10).bind fun t153 => (some (t152, t153, 0)))) else (some (x9, x10, 0))
end
def glyph_Stem.f (k : Nat) (a0 : Int) (a1 : Bool) (a2 : Bool) : Option (Int × Int × Int) := if a0 = 3 then (glyph_Stem.j0 k a1 a2 false) else (glyph_Stem.j0 k a1 a2 (a0 != 4))
theorem glyph_Stem.mono_l : ∀ k, (∀ y0 y1 y2, LeO (glyph_Stem.j0 k y0 y1 y2) (glyph_Stem.j0 (k + 1) y0 y1 y2)) ∧ (∀ y0 y1 y2, LeO (glyph_Stem.j1 k y0 y1 y2) (glyph_Stem.j1 (k + 1) y0 y1 y2))
 | 0 => ⟨fun _ _ _ r h => by simp [glyph_Stem.j0] at h, fun _ _ _ r h => by simp [glyph_Stem.j1] at h⟩
 | k + 1 => by
  obtain ⟨ih0, ih1⟩ := glyph_Stem.mono_l k
  refine ⟨?_, ?_⟩
  ·intro y0 y1 y2
   unfold glyph_Stem.j0
   repeat' first
   | (with_reducible exact ih0 _ _ _)
   | (with_reducible exact ih1 _ _ _)
   | (with_reducible exact LeO.refl _)
   | (with_reducible exact LeO.none _)
   | (with_reducible refine LeO.ite ?_ ?_)
   | (with_reducible refine LeO.bind ?_ (fun _ => ?_))
   | exact ih0 _ _ _
   | exact ih1 _ _ _
   | exact LeO.none _
   | refine LeO.ite ?_ ?_
   | refine LeO.bind ?_ (fun _ => ?_)
  ·intro y0 y1 y2
   unfold glyph_Stem.j1
   repeat' first
   | (with_reducible exact ih0 _ _ _)
   | (with_reducible exact ih1 _ _ _)
   | (with_reducible exact LeO.refl _)
   | (with_reducible exact LeO.none _)
   | (with_reducible refine LeO.ite ?_ ?_)
   | (with_reducible refine LeO.bind ?_ (fun _ => ?_))
   | exact ih0 _ _ _
   | exact ih1 _ _ _
   | exact LeO.none _
   | refine LeO.ite ?_ ?_
   | refine LeO.bind ?_ (fun _ => ?_)
theorem glyph_Stem.mono : ∀ a0 a1 a2 k, LeO (glyph_Stem.f k a0 a1 a2) (glyph_Stem.f (k + 1) a0 a1 a2) := by
 intro a0 a1 a2 k
 obtain ⟨ih0, ih1⟩ := glyph_Stem.mono_l k
 unfold glyph_Stem.f
 repeat' first
   | (with_reducible exact ih0 _ _ _)
   | (with_reducible exact ih1 _ _ _)
   | (with_reducible exact LeO.refl _)
   | (with_reducible exact LeO.none _)
   | (with_reducible refine LeO.ite ?_ ?_)
   | (with_reducible refine LeO.bind ?_ (fun _ => ?_))
   | exact ih0 _ _ _
   | exact ih1 _ _ _
   | exact LeO.none _
   | refine LeO.ite ?_ ?_
   | refine LeO.bind ?_ (fun _ => ?_)
set_option maxHeartbeats 8000000 in
set_option maxRecDepth 100000 in
theorem glyph_Stem.calls (k : Nat) (a0 : Int) (a1 : Bool) (a2 : Bool) (r1 : Int) (r2 : Int) (r3 : Int) (w : World) (hE : Aside0 (LaidE w)) (h : glyph_Stem.f k a0 a1 a2 = some (r1, r2, r3)) :
  Calls Tryd.prog 17 #[.int .i64 a0, .bool a1, .bool a2] w fun e w' => e = .returned (.tuple #[.int .i64 r1, .int .i64 r2, .int .i64 r3]) ∧ Below w.heap.size w w' := by
 have HB := sd_ (Below.refl w.heap.size w)
 have H : (if a0 = 3 then (glyph_Stem.j0 k a1 a2 false) else (glyph_Stem.j0 k a1 a2 (a0 != 4))) = some (r1, r2, r3) := h
 clear h
 have HC4 := sd_ H
 clear H
 go_enter Tryd.func17, Tryd.ntmps17
 go_upto_region 1 with (fail)
 go_cut [16] (fun v16 wc => ∃ (kq : Nat) (x16_3 : Bool), v16 = .bool x16_3 ∧ Aside0 (glyph_Stem.j0 kq a1 a2 x16_3 = some (r1, r2, r3)) ∧ Aside0 (kq ≤ k) ∧ Aside0 (Below w.heap.size w wc))
 case first =>
  have H := HC4.out
  clear HC4
  by_cases c5 : a0 = 3
  ·rw [if_pos c5] at H
   have c5b0 : (a0 == 3) = true := beq_iff_eq.mpr c5
   have c5b1 : (a0 != 3) = false := bne_eq_false_iff_eq.mpr c5
   clear c5
   (first | rw [c5b0] | (simp only [i64_w, i32_w]; rw [c5b0]) | skip)
   have H' := sd_ H
   clear H
   go_wp2
   go_meet
   case rel => exact ⟨_, (false), (by first | rfl | (simp; done) | (simp [*]; done) | (simp [bne]; done)), H', ⟨by first | omega | exact Nat.le_refl _⟩, ⟨by repeat (first | (with_reducible first | exact HB.out | apply ba_ | apply pd_ | apply d1_) | exact HB.out)⟩⟩
  ·rw [if_neg c5] at H
   have c5b0 : (a0 == 3) = false := beq_eq_false_iff_ne.mpr c5
   have c5b1 : (a0 != 3) = true := bne_iff_ne.mpr c5
   (first | rw [c5b0] | (simp only [i64_w, i32_w]; rw [c5b0]) | skip)
   have H' := sd_ H
   clear H
   go_wp2
   go_meet
   case rel => exact ⟨_, ((a0 != 4)), (by first | rfl | (simp; done) | (simp [*]; done) | (simp [bne]; done)), H', ⟨by first | omega | exact Nat.le_refl _⟩, ⟨by repeat (first | (with_reducible first | exact HB.out | apply ba_ | apply pd_ | apply d1_) | exact HB.out)⟩⟩
 case rest =>
  clear HC4
  try clear c1; try clear p2; try clear c5; try clear c5b0; try clear c5b1
  obtain ⟨kq, x16_3, rfl, HA, HJ3, HB⟩ := hcut
  cases kq with
  | zero => exact absurd HA.out (by simp [glyph_Stem.j0])
  | succ kj3 =>
   have H := HA.out
   clear HA
   simp only [glyph_Stem.j0] at H
   by_cases c6 : x16_3 = true
   ·subst c6
    have H1 : (some (0, 0, 2)) = some (r1, r2, r3) := by rw [if_pos rfl] at H; exact H
    clear H; have H := H1; clear H1
    simp only [Option.some.injEq, Prod.mk.injEq] at H
    obtain ⟨rfl, rfl, rfl⟩ := H
    go_wp2
    go_ret3
    exact ⟨by first | rfl | (simp [errW_none, errW_some] <;> rfl) | (simp [*, errW_none, errW_some] <;> rfl), by repeat (first | (with_reducible first | exact HB.out | apply ba_ | apply pd_ | apply d1_) | exact HB.out)⟩
   ·replace c6 := bf_ c6
    subst c6
    have H1 : (if a1 = true then (glyph_Stem.j1 kj3 a2 1330 170) else (glyph_Stem.j1 kj3 a2 0 (-170))) = some (r1, r2, r3) := by rw [if_neg (show ¬ (false = true) by decide)] at H; exact H
    clear H; have H := H1; clear H1
    have HC7 := sd_ H
    clear H
    go_upto_if 17 with (fail)
    go_cut [9, 10] (fun v9 v10 wc => ∃ (kq : Nat) (x9_6 : Int) (x10_6 : Int), v9 = .int .i64 x9_6 ∧ v10 = .int .i64 x10_6 ∧ Aside0 (glyph_Stem.j1 kq a2 x9_6 x10_6 = some (r1, r2, r3)) ∧ Aside0 (kq ≤ kj3) ∧ Aside0 (Below w.heap.size w wc))
    case first =>
     have H := HC7.out
     clear HC7
     by_cases c8 : a1 = true
     ·subst c8
      have H1 : (glyph_Stem.j1 kj3 a2 1330 170) = some (r1, r2, r3) := by rw [if_pos rfl] at H; exact H
      clear H; have H := H1; clear H1
      have H' := sd_ H
      clear H
      go_wp2
      go_meet
      case rel => exact ⟨_, (1330), (170), (by first | rfl | (simp; done) | (simp [*]; done) | (simp [bne]; done)), (by first | rfl | (simp; done) | (simp [*]; done) | (simp [bne]; done)), H', ⟨by have := HJ3.out; first | omega | exact Nat.le_refl _⟩, ⟨by repeat (first | (with_reducible first | exact HB.out | apply ba_ | apply pd_ | apply d1_) | exact HB.out)⟩⟩
     ·replace c8 := bf_ c8
      subst c8
      have H1 : (glyph_Stem.j1 kj3 a2 0 (-170)) = some (r1, r2, r3) := by rw [if_neg (show ¬ (false = true) by decide)] at H; exact H
      clear H; have H := H1; clear H1
      have H' := sd_ H
      clear H
      go_wp2
      go_meet
      case rel => exact ⟨_, (0), ((-170)), (by first | rfl | (simp; done) | (simp [*]; done) | (simp [bne]; done)), (by first | rfl | (simp; done) | (simp [*]; done) | (simp [bne]; done)), H', ⟨by have := HJ3.out; first | omega | exact Nat.le_refl _⟩, ⟨by repeat (first | (with_reducible first | exact HB.out | apply ba_ | apply pd_ | apply d1_) | exact HB.out)⟩⟩
    case rest =>
     clear HC7
     try clear c1; try clear p2; try clear c5; try clear c5b0; try clear c5b1; try clear c6; try clear c8; try clear p2
     obtain ⟨kq, x9_6, x10_6, rfl, rfl, HA, HJ6, HB⟩ := hcut
     cases kq with
     | zero => exact absurd HA.out (by simp [glyph_Stem.j1])
     | succ kj6 =>
      have H := HA.out
      clear HA
      simp only [glyph_Stem.j1] at H
      by_cases c9 : a2 = true
      ·subst c9
       have H1 : ((glyph_less.f x9_6).bind fun t152 => ((glyph_less.f x10_6).bind fun t153 => (some (t152, t153, 0)))) = some (r1, r2, r3) := by rw [if_pos rfl] at H; exact H
       clear H; have H := H1; clear H1
       replace H := ob_ H
       obtain ⟨t152, A100, H⟩ := H
       replace H : ((glyph_less.f x10_6).bind fun t153 => (some (t152, t153, 0))) = some (r1, r2, r3) := H
       have A10 := sd_ A100
       clear A100
       replace H := ob_ H
       obtain ⟨t153, A110, H⟩ := H
       replace H : (some (t152, t153, 0)) = some (r1, r2, r3) := H
       have A11 := sd_ A110
       clear A110
       simp only [Option.some.injEq, Prod.mk.injEq] at H
       obtain ⟨rfl, rfl, rfl⟩ := H
       go_wp2_with (first | ((with_reducible refine gate_callee (f := 20) rfl ?_); refine goesL_ (some 20) rfl rfl Tryd.func20 (by kernel_rfl) rfl #[.int .i64 x9_6] rfl (by (try simp only [lm_, lq_, lx_]); first | done | rfl | (simp only [ld_, lt_]; rfl)) ?_; (with_reducible refine (glyph_less.calls x9_6 t152 _ ?side1 A10.out).mono ?_); (case side1 => first | (with_reducible exact hE) | exact sd_ (LaidE.below hE.out (bb_ HB.out e0_))); rintro e w12 ⟨rfl, hb⟩; refine ⟨_, rfl, ?_⟩; replace HB := hb_ HB e0_ hb; (try clear hb); (try clear hb2); (try clear hk); (try clear hi)) | ((with_reducible refine gate_callee (f := 20) rfl ?_); refine goesL_ (some 22) rfl rfl Tryd.func20 (by kernel_rfl) rfl #[.int .i64 x10_6] rfl (by (try simp only [lm_, lq_, lx_]); first | done | rfl | (simp only [ld_, lt_]; rfl)) ?_; (with_reducible refine (glyph_less.calls x10_6 t153 _ ?side1 A11.out).mono ?_); (case side1 => first | (with_reducible exact hE) | exact sd_ (LaidE.below hE.out (bb_ HB.out e0_))); rintro e w13 ⟨rfl, hb⟩; refine ⟨_, rfl, ?_⟩; replace HB := hb_ HB e0_ hb; (try clear hb); (try clear hb2); (try clear hk); (try clear hi)))
       go_ret3
       exact ⟨by first | rfl | (simp [errW_none, errW_some] <;> rfl) | (simp [*, errW_none, errW_some] <;> rfl), by repeat (first | (with_reducible first | exact HB.out | apply ba_ | apply pd_ | apply d1_) | exact HB.out)⟩
      ·replace c9 := bf_ c9
       subst c9
       have H1 : (some (x9_6, x10_6, 0)) = some (r1, r2, r3) := by rw [if_neg (show ¬ (false = true) by decide)] at H; exact H
       clear H; have H := H1; clear H1
       simp only [Option.some.injEq, Prod.mk.injEq] at H
       obtain ⟨rfl, rfl, rfl⟩ := H
       go_wp2
       go_ret3
       exact ⟨by first | rfl | (simp [errW_none, errW_some] <;> rfl) | (simp [*, errW_none, errW_some] <;> rfl), by repeat (first | (with_reducible first | exact HB.out | apply ba_ | apply pd_ | apply d1_) | exact HB.out)⟩

end Go.Proofs.YtbinlfichkdhlaaDoor.P
