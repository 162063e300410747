-- Written by a program of this session (wip/tools/xprint.py, over the kit's print): Lean checks it.
import Derived.Test.YtbinlfichkdhlaaDoorPx0
import Derived.Test.YtbinlfichkdhlaaDoorPx1
import Derived.Test.YtbinlfichkdhlaaDoorPx2
import Derived.Test.YtbinlfichkdhlaaDoorPx3
import Derived.Test.YtbinlfichkdhlaaDoorPx4
import Derived.Test.YtbinlfichkdhlaaDoorPx6
import Derived.Test.YtbinlfichkdhlaaDoorPx7
namespace Go.Proofs.YtbinlfichkdhlaaDoor.P
open Go.RowKit Go.Proofs.YtbinlfichkdhlaaDoorW.PrintWords Go.Proofs.YtbinlfichkdhlaaDoorW.PrintLast Go.Proofs.YtbinlfichkdhlaaDoorW.PrintMore
attribute [local go_sem] max2_int min2_int max_two min_two max_three min_three max_four min_four   -- for this text's walks alone
set_option linter.unusedVariables false
set_option linter.unusedSimpArgs false

attribute [local go_sem high] eqA30
/-! ### neumeref05_Same: function 18 -/
def neumeref05_Same.l0 : Nat → List Int → List Int → Int → Option (Bool)
 | 0, _, _, _ => none
 | k + 1, x0, x1, x5 => if x5 < (x0.length : Int) then (if 0 ≤ x5 then (if x5 < (x1.length : Int) then (if (rd x0 x5) = (rd x1 x5) then (neumeref05_Same.l0 k x0 x1 (wrap64 (x5 + 1))) else (some false)) else (none)) else (none)) else (some true)
def neumeref05_Same.f (k : Nat) (l0 : List Int) (l1 : List Int) : Option (Bool) := if (l0.length : Int) = (l1.length : Int) then (neumeref05_Same.l0 k l0 l1 0) else (some false)
theorem neumeref05_Same.mono_l : ∀ k, (∀ y0 y1 y2, LeO (neumeref05_Same.l0 k y0 y1 y2) (neumeref05_Same.l0 (k + 1) y0 y1 y2))
 | 0 => fun _ _ _ r h => by simp [neumeref05_Same.l0] at h
 | k + 1 => by
  have ih0 := neumeref05_Same.mono_l k
  ·intro y0 y1 y2
   unfold neumeref05_Same.l0
   repeat' first
   | (with_reducible exact ih0 _ _ _)
   | (with_reducible exact LeO.refl _)
   | (with_reducible exact LeO.none _)
   | (with_reducible refine LeO.ite ?_ ?_)
   | (with_reducible refine LeO.bind ?_ (fun _ => ?_))
   | exact ih0 _ _ _
   | exact LeO.none _
   | refine LeO.ite ?_ ?_
   | refine LeO.bind ?_ (fun _ => ?_)
theorem neumeref05_Same.mono : ∀ a0 a1 k, LeO (neumeref05_Same.f k a0 a1) (neumeref05_Same.f (k + 1) a0 a1) := by
 intro a0 a1 k
 have ih0 := neumeref05_Same.mono_l k
 unfold neumeref05_Same.f
 repeat' first
   | (with_reducible exact ih0 _ _ _)
   | (with_reducible exact LeO.refl _)
   | (with_reducible exact LeO.none _)
   | (with_reducible refine LeO.ite ?_ ?_)
   | (with_reducible refine LeO.bind ?_ (fun _ => ?_))
   | exact ih0 _ _ _
   | exact LeO.none _
   | refine LeO.ite ?_ ?_
   | refine LeO.bind ?_ (fun _ => ?_)
set_option maxHeartbeats 8000000 in
set_option maxRecDepth 100000 in
theorem neumeref05_Same.calls (k : Nat) (A0 : Option Addr) (c0 : Nat) (l0 : List Int) (A1 : Option Addr) (c1 : Nat) (l1 : List Int) (r : Bool) (w : World) (hr0 : Kd.C (Kd.int .i64) w A0 l0.length l0) (hc0 : l0.length ≤ c0) (hr1 : Kd.C (Kd.int .i64) w A1 l1.length l1) (hc1 : l1.length ≤ c1) (h : neumeref05_Same.f k l0 l1 = some r) :
  Calls Tryd.prog 18 #[.slice A0 l0.length c0, .slice A1 l1.length c1] w fun e w' => e = .returned (.bool r) ∧ Drawn0 w w' := by
 have HR0 := sd_ hr0
 have HC0 := sd_ hc0
 clear hr0 hc0
 have HR1 := sd_ hr1
 have HC1 := sd_ hc1
 clear hr1 hc1
 have H : (if (l0.length : Int) = (l1.length : Int) then (neumeref05_Same.l0 k l0 l1 0) else (some false)) = some r := h
 clear h
 by_cases c3 : (l0.length : Int) = (l1.length : Int)
 ·rw [if_pos c3] at H
  have c3b0 : ((l0.length : Int) == (l1.length : Int)) = true := beq_iff_eq.mpr c3
  have c3b1 : ((l0.length : Int) != (l1.length : Int)) = false := bne_eq_false_iff_eq.mpr c3
  have c3b2 : (l0.length == l1.length) = true := by first | simpa using c3 | (simp at c3 ⊢; omega)
  clear c3
  have H' := sd_ H
  clear H
  go_enter Tryd.func18, Tryd.ntmps18
  go_wp2
  repeat (go_quiet (fail); try go_wp2)
  go_loopg [5] k (fun kq v5 w' => ∃ (x5_1 : Int), v5 = .int .i64 x5_1 ∧ Aside0 (neumeref05_Same.l0 kq l0 l1 x5_1 = some r) ∧ Aside0 (kq ≤ k) ∧ Drawn0 w w')
  case atStart => exact ⟨(0), (by first | rfl | (simp; done) | (simp [*]; done) | (simp [bne]; done)), H', ⟨Nat.le_refl _⟩, by repeat (first | exact Drawn0.refl _ | apply Drawn0.step)⟩
  case round =>
   clear H'
   try clear c1; try clear p2; try clear c3; try clear c3b0; try clear c3b1; try clear c3b2
   obtain ⟨x5_1, rfl, HA, HK1, ⟨m1, rfl⟩⟩ := hrel
   cases gk with
   | zero => exact absurd HA.out (by simp [neumeref05_Same.l0])
   | succ k1 =>
    have H := HA.out
    clear HA
    simp only [neumeref05_Same.l0] at H
    by_cases c4 : x5_1 < (l0.length : Int)
    ·rw [if_pos c4] at H
     have c4b0 : decide (x5_1 < (l0.length : Int)) = true := dt_ c4
     clear c4
     by_cases c5 : 0 ≤ x5_1
     ·rw [if_pos c5] at H
      have c5b0 : decide (0 ≤ x5_1) = true := dt_ c5
      clear c5
      by_cases c6 : x5_1 < (l1.length : Int)
      ·rw [if_pos c6] at H
       have c6b0 : decide (x5_1 < (l1.length : Int)) = true := dt_ c6
       clear c6
       by_cases c7 : (rd l0 x5_1) = (rd l1 x5_1)
       ·rw [if_pos c7] at H
        have c7b0 : ((rd l0 x5_1) == (rd l1 x5_1)) = true := beq_iff_eq.mpr c7
        have c7b1 : ((rd l0 x5_1) != (rd l1 x5_1)) = false := bne_eq_false_iff_eq.mpr c7
        clear c7
        have H' := sd_ H
        clear H
        have p154 : 0 ≤ (x5_1 : Int) := od_ (by first | (with_reducible assumption) | assumption)
        have q154 : x5_1 < (l0.length : Int) := od_ (by first | (with_reducible assumption) | assumption)
        obtain ⟨ad154, e154, hx154_0⟩ := Kd.at_int HR0.out x5_1 p154 q154
        cases e154
        replace p154 := eq_true p154
        replace q154 := eq_true q154
        have p155 : 0 ≤ (x5_1 : Int) := od_ (by first | (with_reducible assumption) | assumption)
        have q155 : x5_1 < (l1.length : Int) := od_ (by first | (with_reducible assumption) | assumption)
        obtain ⟨ad155, e155, hx155_0⟩ := Kd.at_int HR1.out x5_1 p155 q155
        cases e155
        replace p155 := eq_true p155
        replace q155 := eq_true q155
        go_wp2
        repeat (go_quiet (fail); try go_wp2)
        go_roundg k1
        case measure => have := HK1.out; omega
        case rel => exact ⟨(wrap64 (x5_1 + 1)), (by first | rfl | (simp; done) | (simp [*]; done) | (simp [bne]; done)), H', ⟨by have := HK1.out; omega⟩, by repeat (first | exact Drawn0.refl _ | apply Drawn0.step)⟩
       ·rw [if_neg c7] at H
        have c7b0 : ((rd l0 x5_1) == (rd l1 x5_1)) = false := beq_eq_false_iff_ne.mpr c7
        have c7b1 : ((rd l0 x5_1) != (rd l1 x5_1)) = true := bne_iff_ne.mpr c7
        obtain rfl := Option.some.inj H
        have p154 : 0 ≤ (x5_1 : Int) := od_ (by first | (with_reducible assumption) | assumption)
        have q154 : x5_1 < (l0.length : Int) := od_ (by first | (with_reducible assumption) | assumption)
        obtain ⟨ad154, e154, hx154_0⟩ := Kd.at_int HR0.out x5_1 p154 q154
        cases e154
        replace p154 := eq_true p154
        replace q154 := eq_true q154
        have p155 : 0 ≤ (x5_1 : Int) := od_ (by first | (with_reducible assumption) | assumption)
        have q155 : x5_1 < (l1.length : Int) := od_ (by first | (with_reducible assumption) | assumption)
        obtain ⟨ad155, e155, hx155_0⟩ := Kd.at_int HR1.out x5_1 p155 q155
        cases e155
        replace p155 := eq_true p155
        replace q155 := eq_true q155
        go_wp2
        repeat (go_quiet (fail); try go_wp2)
        go_ret
        exact ⟨by first | rfl | (simp; done) | (simp [*]; done), by repeat (first | exact Drawn0.refl _ | apply Drawn0.step)⟩
      ·rw [if_neg c6] at H
       exact absurd H (by simp)
     ·rw [if_neg c5] at H
      exact absurd H (by simp)
    ·rw [if_neg c4] at H
     have c4b0 : decide (x5_1 < (l0.length : Int)) = false := df_ c4
     clear c4
     obtain rfl := Option.some.inj H
     go_wp2
     repeat (go_quiet (fail); try go_wp2)
     go_ret
     exact ⟨by first | rfl | (simp; done) | (simp [*]; done), by repeat (first | exact Drawn0.refl _ | apply Drawn0.step)⟩
 ·rw [if_neg c3] at H
  have c3b0 : ((l0.length : Int) == (l1.length : Int)) = false := beq_eq_false_iff_ne.mpr c3
  have c3b1 : ((l0.length : Int) != (l1.length : Int)) = true := bne_iff_ne.mpr c3
  have c3b2 : (l0.length == l1.length) = false := by first | simpa using c3 | (simp at c3 ⊢; omega)
  obtain rfl := Option.some.inj H
  go_enter Tryd.func18, Tryd.ntmps18
  go_wp2
  repeat (go_quiet (fail); try go_wp2)
  go_ret
  exact ⟨by first | rfl | (simp; done) | (simp [*]; done), by repeat (first | exact Drawn0.refl _ | apply Drawn0.step)⟩

/-! ### neumelaw05_heads: function 10 -/
def neumelaw05_heads.f (k : Nat)  : Option (Bool) := (glyph_Extent.f 40 true).bind fun bt156 => ((glyph_ByName.f k (⟨#[114, 101, 115, 116, 45, 49, 54]⟩ : ByteArray)).bind fun bt162 => ((glyph_ByName.f k (⟨#[114, 101, 115, 116, 45, 53]⟩ : ByteArray)).bind fun bt164 => ((glyph_Stem.f k 4 true false).bind fun bt166 => ((glyph_Stem.f k 2 true false).bind fun bt169 => ((glyph_Digits.f k 408).bind fun bt172 => (if (bt156.1 == 0 && (bt156.2.1 == (-133) && (bt156.2.2.1 == 267 && (bt156.2.2.2.1 == 133)))) = true then (if bt156.2.2.2.2 = 0 then (if bt162.1 = 10 then (if bt162.2 = true then (if bt164.2 = true then (some false) else ((glyph_Name.f bt162.1).bind fun t176 => (if t176.toList = ([114, 101, 115, 116, 45, 49, 54] : List UInt8) then (if bt166.1 = 1330 then (if bt166.2.1 = 170 then (if bt166.2.2 = 0 then (if bt169.2.2 = 2 then ((glyph_Width.f (⟨#[97, 98]⟩ : ByteArray)).bind fun t177 => (if t177 = 1640 then ((neumeref05_Same.f k bt172.1 (([34, 30, 38] : List Int))).bind fun t181 => (if t181 = true then (if bt172.2 = 0 then ((glyph_Known.f 47).bind fun t182 => (if t182 = true then ((glyph_Known.f 48).bind fun t183 => (some (!t183))) else (some false))) else (some false)) else (some false))) else (some false))) else (some false)) else (some false)) else (some false)) else (some false)) else (some false)))) else (some false)) else (some false)) else (some false)) else (some false)))))))
theorem neumelaw05_heads.mono : ∀ k, LeO (neumelaw05_heads.f k ) (neumelaw05_heads.f (k + 1) ) := by
 intro  k
 unfold neumelaw05_heads.f
 repeat' first
   | (with_reducible exact glyph_ByName.mono _ _)
   | (with_reducible exact glyph_Digits.mono _ _)
   | (with_reducible exact glyph_Stem.mono _ _ _ _)
   | (with_reducible exact neumeref05_Same.mono _ _ _)
   | (with_reducible exact LeO.refl _)
   | (with_reducible exact LeO.none _)
   | (with_reducible refine LeO.ite ?_ ?_)
   | (with_reducible refine LeO.bind ?_ (fun _ => ?_))
   | exact glyph_ByName.mono _ _
   | exact glyph_Digits.mono _ _
   | exact glyph_Stem.mono _ _ _ _
   | exact neumeref05_Same.mono _ _ _
   | exact LeO.none _
   | refine LeO.ite ?_ ?_
   | refine LeO.bind ?_ (fun _ => ?_)
set_option maxHeartbeats 8000000 in
set_option maxRecDepth 100000 in
theorem neumelaw05_heads.callsT (k : Nat)  (r : Bool) (w : World) (hE : Aside0 (LaidE w)) (hxt : Aside0 (r = true)) (h : neumelaw05_heads.f k  = some r) :
  Calls Tryd.prog 10 #[] w fun e w' => e = .returned (.bool r) ∧ Below w.heap.size w w' := by
 have hu30 := Tryd.underlying30
 have HB := sd_ (Below.refl w.heap.size w)
 have H : ((glyph_Extent.f 40 true).bind fun bt156 => ((glyph_ByName.f k (⟨#[114, 101, 115, 116, 45, 49, 54]⟩ : ByteArray)).bind fun bt162 => ((glyph_ByName.f k (⟨#[114, 101, 115, 116, 45, 53]⟩ : ByteArray)).bind fun bt164 => ((glyph_Stem.f k 4 true false).bind fun bt166 => ((glyph_Stem.f k 2 true false).bind fun bt169 => ((glyph_Digits.f k 408).bind fun bt172 => (if (bt156.1 == 0 && (bt156.2.1 == (-133) && (bt156.2.2.1 == 267 && (bt156.2.2.2.1 == 133)))) = true then (if bt156.2.2.2.2 = 0 then (if bt162.1 = 10 then (if bt162.2 = true then (if bt164.2 = true then (some false) else ((glyph_Name.f bt162.1).bind fun t176 => (if t176.toList = ([114, 101, 115, 116, 45, 49, 54] : List UInt8) then (if bt166.1 = 1330 then (if bt166.2.1 = 170 then (if bt166.2.2 = 0 then (if bt169.2.2 = 2 then ((glyph_Width.f (⟨#[97, 98]⟩ : ByteArray)).bind fun t177 => (if t177 = 1640 then ((neumeref05_Same.f k bt172.1 (([34, 30, 38] : List Int))).bind fun t181 => (if t181 = true then (if bt172.2 = 0 then ((glyph_Known.f 47).bind fun t182 => (if t182 = true then ((glyph_Known.f 48).bind fun t183 => (some (!t183))) else (some false))) else (some false)) else (some false))) else (some false))) else (some false)) else (some false)) else (some false)) else (some false)) else (some false)))) else (some false)) else (some false)) else (some false)) else (some false)))))))) = some r := h
 clear h
 replace H := ob_ H
 obtain ⟨⟨t156, t157, t158, t159, t160⟩, A10, H⟩ := H
 replace H : ((glyph_ByName.f k (⟨#[114, 101, 115, 116, 45, 49, 54]⟩ : ByteArray)).bind fun bt162 => ((glyph_ByName.f k (⟨#[114, 101, 115, 116, 45, 53]⟩ : ByteArray)).bind fun bt164 => ((glyph_Stem.f k 4 true false).bind fun bt166 => ((glyph_Stem.f k 2 true false).bind fun bt169 => ((glyph_Digits.f k 408).bind fun bt172 => (if (t156 == 0 && (t157 == (-133) && (t158 == 267 && (t159 == 133)))) = true then (if t160 = 0 then (if bt162.1 = 10 then (if bt162.2 = true then (if bt164.2 = true then (some false) else ((glyph_Name.f bt162.1).bind fun t176 => (if t176.toList = ([114, 101, 115, 116, 45, 49, 54] : List UInt8) then (if bt166.1 = 1330 then (if bt166.2.1 = 170 then (if bt166.2.2 = 0 then (if bt169.2.2 = 2 then ((glyph_Width.f (⟨#[97, 98]⟩ : ByteArray)).bind fun t177 => (if t177 = 1640 then ((neumeref05_Same.f k bt172.1 (([34, 30, 38] : List Int))).bind fun t181 => (if t181 = true then (if bt172.2 = 0 then ((glyph_Known.f 47).bind fun t182 => (if t182 = true then ((glyph_Known.f 48).bind fun t183 => (some (!t183))) else (some false))) else (some false)) else (some false))) else (some false))) else (some false)) else (some false)) else (some false)) else (some false)) else (some false)))) else (some false)) else (some false)) else (some false)) else (some false))))))) = some r := H
 have A1 := sd_ A10
 clear A10
 replace H := ob_ H
 obtain ⟨⟨t162, t163⟩, A20, H⟩ := H
 replace H : ((glyph_ByName.f k (⟨#[114, 101, 115, 116, 45, 53]⟩ : ByteArray)).bind fun bt164 => ((glyph_Stem.f k 4 true false).bind fun bt166 => ((glyph_Stem.f k 2 true false).bind fun bt169 => ((glyph_Digits.f k 408).bind fun bt172 => (if (t156 == 0 && (t157 == (-133) && (t158 == 267 && (t159 == 133)))) = true then (if t160 = 0 then (if t162 = 10 then (if t163 = true then (if bt164.2 = true then (some false) else ((glyph_Name.f t162).bind fun t176 => (if t176.toList = ([114, 101, 115, 116, 45, 49, 54] : List UInt8) then (if bt166.1 = 1330 then (if bt166.2.1 = 170 then (if bt166.2.2 = 0 then (if bt169.2.2 = 2 then ((glyph_Width.f (⟨#[97, 98]⟩ : ByteArray)).bind fun t177 => (if t177 = 1640 then ((neumeref05_Same.f k bt172.1 (([34, 30, 38] : List Int))).bind fun t181 => (if t181 = true then (if bt172.2 = 0 then ((glyph_Known.f 47).bind fun t182 => (if t182 = true then ((glyph_Known.f 48).bind fun t183 => (some (!t183))) else (some false))) else (some false)) else (some false))) else (some false))) else (some false)) else (some false)) else (some false)) else (some false)) else (some false)))) else (some false)) else (some false)) else (some false)) else (some false)))))) = some r := H
 have A2 := sd_ A20
 clear A20
 replace H := ob_ H
 obtain ⟨⟨t164, t165⟩, A30, H⟩ := H
 replace H : ((glyph_Stem.f k 4 true false).bind fun bt166 => ((glyph_Stem.f k 2 true false).bind fun bt169 => ((glyph_Digits.f k 408).bind fun bt172 => (if (t156 == 0 && (t157 == (-133) && (t158 == 267 && (t159 == 133)))) = true then (if t160 = 0 then (if t162 = 10 then (if t163 = true then (if t165 = true then (some false) else ((glyph_Name.f t162).bind fun t176 => (if t176.toList = ([114, 101, 115, 116, 45, 49, 54] : List UInt8) then (if bt166.1 = 1330 then (if bt166.2.1 = 170 then (if bt166.2.2 = 0 then (if bt169.2.2 = 2 then ((glyph_Width.f (⟨#[97, 98]⟩ : ByteArray)).bind fun t177 => (if t177 = 1640 then ((neumeref05_Same.f k bt172.1 (([34, 30, 38] : List Int))).bind fun t181 => (if t181 = true then (if bt172.2 = 0 then ((glyph_Known.f 47).bind fun t182 => (if t182 = true then ((glyph_Known.f 48).bind fun t183 => (some (!t183))) else (some false))) else (some false)) else (some false))) else (some false))) else (some false)) else (some false)) else (some false)) else (some false)) else (some false)))) else (some false)) else (some false)) else (some false)) else (some false))))) = some r := H
 have A3 := sd_ A30
 clear A30
 replace H := ob_ H
 obtain ⟨⟨t166, t167, t168⟩, A40, H⟩ := H
 replace H : ((glyph_Stem.f k 2 true false).bind fun bt169 => ((glyph_Digits.f k 408).bind fun bt172 => (if (t156 == 0 && (t157 == (-133) && (t158 == 267 && (t159 == 133)))) = true then (if t160 = 0 then (if t162 = 10 then (if t163 = true then (if t165 = true then (some false) else ((glyph_Name.f t162).bind fun t176 => (if t176.toList = ([114, 101, 115, 116, 45, 49, 54] : List UInt8) then (if t166 = 1330 then (if t167 = 170 then (if t168 = 0 then (if bt169.2.2 = 2 then ((glyph_Width.f (⟨#[97, 98]⟩ : ByteArray)).bind fun t177 => (if t177 = 1640 then ((neumeref05_Same.f k bt172.1 (([34, 30, 38] : List Int))).bind fun t181 => (if t181 = true then (if bt172.2 = 0 then ((glyph_Known.f 47).bind fun t182 => (if t182 = true then ((glyph_Known.f 48).bind fun t183 => (some (!t183))) else (some false))) else (some false)) else (some false))) else (some false))) else (some false)) else (some false)) else (some false)) else (some false)) else (some false)))) else (some false)) else (some false)) else (some false)) else (some false)))) = some r := H
 have A4 := sd_ A40
 clear A40
 replace H := ob_ H
 obtain ⟨⟨t169, t170, t171⟩, A50, H⟩ := H
 replace H : ((glyph_Digits.f k 408).bind fun bt172 => (if (t156 == 0 && (t157 == (-133) && (t158 == 267 && (t159 == 133)))) = true then (if t160 = 0 then (if t162 = 10 then (if t163 = true then (if t165 = true then (some false) else ((glyph_Name.f t162).bind fun t176 => (if t176.toList = ([114, 101, 115, 116, 45, 49, 54] : List UInt8) then (if t166 = 1330 then (if t167 = 170 then (if t168 = 0 then (if t171 = 2 then ((glyph_Width.f (⟨#[97, 98]⟩ : ByteArray)).bind fun t177 => (if t177 = 1640 then ((neumeref05_Same.f k bt172.1 (([34, 30, 38] : List Int))).bind fun t181 => (if t181 = true then (if bt172.2 = 0 then ((glyph_Known.f 47).bind fun t182 => (if t182 = true then ((glyph_Known.f 48).bind fun t183 => (some (!t183))) else (some false))) else (some false)) else (some false))) else (some false))) else (some false)) else (some false)) else (some false)) else (some false)) else (some false)))) else (some false)) else (some false)) else (some false)) else (some false))) = some r := H
 have A5 := sd_ A50
 clear A50
 replace H := ob_ H
 obtain ⟨⟨t172, t173⟩, A60, H⟩ := H
 replace H : (if (t156 == 0 && (t157 == (-133) && (t158 == 267 && (t159 == 133)))) = true then (if t160 = 0 then (if t162 = 10 then (if t163 = true then (if t165 = true then (some false) else ((glyph_Name.f t162).bind fun t176 => (if t176.toList = ([114, 101, 115, 116, 45, 49, 54] : List UInt8) then (if t166 = 1330 then (if t167 = 170 then (if t168 = 0 then (if t171 = 2 then ((glyph_Width.f (⟨#[97, 98]⟩ : ByteArray)).bind fun t177 => (if t177 = 1640 then ((neumeref05_Same.f k t172 (([34, 30, 38] : List Int))).bind fun t181 => (if t181 = true then (if t173 = 0 then ((glyph_Known.f 47).bind fun t182 => (if t182 = true then ((glyph_Known.f 48).bind fun t183 => (some (!t183))) else (some false))) else (some false)) else (some false))) else (some false))) else (some false)) else (some false)) else (some false)) else (some false)) else (some false)))) else (some false)) else (some false)) else (some false)) else (some false)) = some r := H
 have A6 := sd_ A60
 clear A60
 by_cases c7 : (t156 == 0 && (t157 == (-133) && (t158 == 267 && (t159 == 133)))) = true
 ·rw [if_pos c7] at H
  have c7b0 : (t156 == 0 && (t157 == (-133) && (t158 == 267 && (t159 == 133)))) = true := c7
  (try (have c7b1 : decide (t156 = 0 && (t157 == (-133) && (t158 == 267 && (t159 == 133)))) = true := by simpa using c7))
  (try (have c7b2 : (t156 == 0 && (t157 == (-133) && (t158 == 267 && (t159 == 133)))) = true := by simpa using c7))
  clear c7
  by_cases c8 : t160 = 0
  ·rw [if_pos c8] at H
   have c8b0 : (t160 == 0) = true := beq_iff_eq.mpr c8
   have c8b1 : (t160 != 0) = false := bne_eq_false_iff_eq.mpr c8
   clear c8
   by_cases c9 : t162 = 10
   ·rw [if_pos c9] at H
    have c9b0 : (t162 == 10) = true := beq_iff_eq.mpr c9
    have c9b1 : (t162 != 10) = false := bne_eq_false_iff_eq.mpr c9
    clear c9
    by_cases c10 : t163 = true
    ·subst c10
     have H1 : (if t165 = true then (some false) else ((glyph_Name.f t162).bind fun t176 => (if t176.toList = ([114, 101, 115, 116, 45, 49, 54] : List UInt8) then (if t166 = 1330 then (if t167 = 170 then (if t168 = 0 then (if t171 = 2 then ((glyph_Width.f (⟨#[97, 98]⟩ : ByteArray)).bind fun t177 => (if t177 = 1640 then ((neumeref05_Same.f k t172 (([34, 30, 38] : List Int))).bind fun t181 => (if t181 = true then (if t173 = 0 then ((glyph_Known.f 47).bind fun t182 => (if t182 = true then ((glyph_Known.f 48).bind fun t183 => (some (!t183))) else (some false))) else (some false)) else (some false))) else (some false))) else (some false)) else (some false)) else (some false)) else (some false)) else (some false)))) = some r := by rw [if_pos rfl] at H; exact H
     clear H; have H := H1; clear H1
     by_cases c11 : t165 = true
     ·subst c11
      have H1 : (some false) = some r := by rw [if_pos rfl] at H; exact H
      clear H; have H := H1; clear H1
      exact absurd ((Option.some.inj H).trans hxt.out) (by decide)
     ·replace c11 := bf_ c11
      subst c11
      have H1 : ((glyph_Name.f t162).bind fun t176 => (if t176.toList = ([114, 101, 115, 116, 45, 49, 54] : List UInt8) then (if t166 = 1330 then (if t167 = 170 then (if t168 = 0 then (if t171 = 2 then ((glyph_Width.f (⟨#[97, 98]⟩ : ByteArray)).bind fun t177 => (if t177 = 1640 then ((neumeref05_Same.f k t172 (([34, 30, 38] : List Int))).bind fun t181 => (if t181 = true then (if t173 = 0 then ((glyph_Known.f 47).bind fun t182 => (if t182 = true then ((glyph_Known.f 48).bind fun t183 => (some (!t183))) else (some false))) else (some false)) else (some false))) else (some false))) else (some false)) else (some false)) else (some false)) else (some false)) else (some false))) = some r := by rw [if_neg (show ¬ (false = true) by decide)] at H; exact H
      clear H; have H := H1; clear H1
      replace H := ob_ H
      obtain ⟨t176, A120, H⟩ := H
      replace H : (if t176.toList = ([114, 101, 115, 116, 45, 49, 54] : List UInt8) then (if t166 = 1330 then (if t167 = 170 then (if t168 = 0 then (if t171 = 2 then ((glyph_Width.f (⟨#[97, 98]⟩ : ByteArray)).bind fun t177 => (if t177 = 1640 then ((neumeref05_Same.f k t172 (([34, 30, 38] : List Int))).bind fun t181 => (if t181 = true then (if t173 = 0 then ((glyph_Known.f 47).bind fun t182 => (if t182 = true then ((glyph_Known.f 48).bind fun t183 => (some (!t183))) else (some false))) else (some false)) else (some false))) else (some false))) else (some false)) else (some false)) else (some false)) else (some false)) else (some false)) = some r := H
      have A12 := sd_ A120
      clear A120
      by_cases c13 : t176.toList = ([114, 101, 115, 116, 45, 49, 54] : List UInt8)
      ·rw [if_pos c13] at H
       have c13b0 : (t176.toList == ([114, 101, 115, 116, 45, 49, 54] : List UInt8)) = true := beq_iff_eq.mpr c13
       have c13b1 : (t176.toList != ([114, 101, 115, 116, 45, 49, 54] : List UInt8)) = false := bne_eq_false_iff_eq.mpr c13
       clear c13
       by_cases c14 : t166 = 1330
       ·rw [if_pos c14] at H
        have c14b0 : (t166 == 1330) = true := beq_iff_eq.mpr c14
        have c14b1 : (t166 != 1330) = false := bne_eq_false_iff_eq.mpr c14
        clear c14
        by_cases c15 : t167 = 170
        ·rw [if_pos c15] at H
         have c15b0 : (t167 == 170) = true := beq_iff_eq.mpr c15
         have c15b1 : (t167 != 170) = false := bne_eq_false_iff_eq.mpr c15
         clear c15
         by_cases c16 : t168 = 0
         ·rw [if_pos c16] at H
          have c16b0 : (t168 == 0) = true := beq_iff_eq.mpr c16
          have c16b1 : (t168 != 0) = false := bne_eq_false_iff_eq.mpr c16
          clear c16
          by_cases c17 : t171 = 2
          ·rw [if_pos c17] at H
           have c17b0 : (t171 == 2) = true := beq_iff_eq.mpr c17
           have c17b1 : (t171 != 2) = false := bne_eq_false_iff_eq.mpr c17
           clear c17
           replace H := ob_ H
           obtain ⟨t177, A180, H⟩ := H
           replace H : (if t177 = 1640 then ((neumeref05_Same.f k t172 (([34, 30, 38] : List Int))).bind fun t181 => (if t181 = true then (if t173 = 0 then ((glyph_Known.f 47).bind fun t182 => (if t182 = true then ((glyph_Known.f 48).bind fun t183 => (some (!t183))) else (some false))) else (some false)) else (some false))) else (some false)) = some r := H
           have A18 := sd_ A180
           clear A180
           by_cases c19 : t177 = 1640
           ·rw [if_pos c19] at H
            have c19b0 : (t177 == 1640) = true := beq_iff_eq.mpr c19
            have c19b1 : (t177 != 1640) = false := bne_eq_false_iff_eq.mpr c19
            clear c19
            obtain ⟨y178, hy178⟩ : ∃ y_ : List Int, y_ = (([34, 30, 38] : List Int)) := ⟨_, rfl⟩
            replace H : ((neumeref05_Same.f k t172 y178).bind fun t181 => (if t181 = true then (if t173 = 0 then ((glyph_Known.f 47).bind fun t182 => (if t182 = true then ((glyph_Known.f 48).bind fun t183 => (some (!t183))) else (some false))) else (some false)) else (some false))) = some r := by first | (rw [hy178]; with_reducible exact H) | (have H2_ := (Option.bind_some _ _).symm.trans H; rw [hy178]; with_reducible exact H2_) | (have H2_ := (Option.bind_some _ _).symm.trans H; with_reducible exact H2_) | with_reducible exact H | (rw [hy178]; exact H) | exact H
            have Ny178 := sd_ hy178
            clear hy178
            replace H := ob_ H
            obtain ⟨t181, A200, H⟩ := H
            replace H : (if t181 = true then (if t173 = 0 then ((glyph_Known.f 47).bind fun t182 => (if t182 = true then ((glyph_Known.f 48).bind fun t183 => (some (!t183))) else (some false))) else (some false)) else (some false)) = some r := H
            have A20 := sd_ A200
            clear A200
            by_cases c21 : t181 = true
            ·subst c21
             have H1 : (if t173 = 0 then ((glyph_Known.f 47).bind fun t182 => (if t182 = true then ((glyph_Known.f 48).bind fun t183 => (some (!t183))) else (some false))) else (some false)) = some r := by rw [if_pos rfl] at H; exact H
             clear H; have H := H1; clear H1
             by_cases c22 : t173 = 0
             ·rw [if_pos c22] at H
              have c22b0 : (t173 == 0) = true := beq_iff_eq.mpr c22
              have c22b1 : (t173 != 0) = false := bne_eq_false_iff_eq.mpr c22
              clear c22
              replace H := ob_ H
              obtain ⟨t182, A230, H⟩ := H
              replace H : (if t182 = true then ((glyph_Known.f 48).bind fun t183 => (some (!t183))) else (some false)) = some r := H
              have A23 := sd_ A230
              clear A230
              by_cases c24 : t182 = true
              ·subst c24
               have H1 : ((glyph_Known.f 48).bind fun t183 => (some (!t183))) = some r := by rw [if_pos rfl] at H; exact H
               clear H; have H := H1; clear H1
               replace H := ob_ H
               obtain ⟨t183, A250, H⟩ := H
               replace H : (some (!t183)) = some r := H
               have A25 := sd_ A250
               clear A250
               obtain rfl := Option.some.inj H
               go_enter Tryd.func10, Tryd.ntmps10
               go_wp2_with (first | ((with_reducible refine gate_callee (f := 11) rfl ?_); refine goesL_ (some 16) rfl rfl Tryd.func11 (by kernel_rfl) rfl #[.int .i64 40, .bool true] rfl (by (try simp only [lm_, lq_, lx_]); first | done | rfl | (simp only [ld_, lt_]; rfl)) ?_; (with_reducible refine (glyph_Extent.calls 40 true t156 t157 t158 t159 t160 _ ?side1 A1.out).mono ?_); (case side1 => first | (with_reducible exact hE) | exact sd_ (LaidE.below hE.out (bb_ HB.out e0_))); rintro e w26 ⟨rfl, hb⟩; refine ⟨_, rfl, ?_⟩; replace HB := hb_ HB e0_ hb; (try clear hb); (try clear hb2); (try clear hk); (try clear hi)) | ((with_reducible refine gate_dst (N := 1) rfl ?_); (try (refine gate_guard (by rfl) ?_; dsimp only)); refine box_event ?hg (N := 1) ?hd (cs := #[.int .i64 0, .int .i64 0, .int .i64 0, .int .i64 0]) (t := 30) ?hr ?_; (case hd => rfl); (case hg => rfl); (case hr => first | (go_simp; done) | (go_simp; rfl)); intro gb161 hg w27 hbox hb; have BK161 := sd_ hbox; have GW161 := gw_ HB e0_ hg; have GE161 := GW161; replace HB := hb_ HB e0_ hb; clear hb hbox hg; have hcz28_0 : w27.cell? ⟨gb161, 0, none⟩ = some (.int .i64 0) := (kc_ BK161.out 0).trans rfl; have hcz28_1 : w27.cell? ⟨gb161, 1, none⟩ = some (.int .i64 0) := (kc_ BK161.out 1).trans rfl; have hcz28_2 : w27.cell? ⟨gb161, 2, none⟩ = some (.int .i64 0) := (kc_ BK161.out 2).trans rfl; have hcz28_3 : w27.cell? ⟨gb161, 3, none⟩ = some (.int .i64 0) := (kc_ BK161.out 3).trans rfl; have hfz28_0 := kf_ BK161.out 0; have hfz28_1 := kf_ BK161.out 1; have hfz28_2 := kf_ BK161.out 2; have hfz28_3 := kf_ BK161.out 3) | ((with_reducible refine gate_callee (f := 7) rfl ?_); refine goesL_ (some 20) rfl rfl Tryd.func7 (by kernel_rfl) rfl #[.string (⟨#[114, 101, 115, 116, 45, 49, 54]⟩ : ByteArray)] rfl (by (try simp only [lm_, lq_, lx_]); first | done | rfl | (simp only [ld_, lt_]; rfl)) ?_; (with_reducible refine (glyph_ByName.calls k (⟨#[114, 101, 115, 116, 45, 49, 54]⟩ : ByteArray) t162 true _ ?side1 A2.out).mono ?_); (case side1 => first | (with_reducible exact hE) | exact sd_ (LaidE.below hE.out (bb_ HB.out (e_ GE161 e0_)))); rintro e w29 ⟨rfl, hb⟩; refine ⟨_, rfl, ?_⟩; replace BK161 := sd_ (blk_below (g := gb161) (o := .cells #[.int .i64 t156, .int .i64 t157, .int .i64 t158, .int .i64 t159] 30 (0, 0)) (by (with_reducible repeat first | apply kn_ | apply kd_ | apply ka_); refine blk_put (cs := #[.int .i64 t156, .int .i64 t157, .int .i64 t158, .int .i64 0]) ?_ 3 _ rfl; (with_reducible repeat first | apply kn_ | apply kd_ | apply ka_); refine blk_put (cs := #[.int .i64 t156, .int .i64 t157, .int .i64 0, .int .i64 0]) ?_ 2 _ rfl; (with_reducible repeat first | apply kn_ | apply kd_ | apply ka_); refine blk_put (cs := #[.int .i64 t156, .int .i64 0, .int .i64 0, .int .i64 0]) ?_ 1 _ rfl; (with_reducible repeat first | apply kn_ | apply kd_ | apply ka_); refine blk_put (cs := #[.int .i64 0, .int .i64 0, .int .i64 0, .int .i64 0]) ?_ 0 _ rfl; (with_reducible repeat first | apply kn_ | apply kd_ | apply ka_); exact BK161.out) hb); replace HB := hb_ HB (e_ GE161 e0_) hb; (try clear hb); (try clear hb2); (try clear hk); (try clear hi)) | ((with_reducible refine gate_callee (f := 7) rfl ?_); refine goesL_ (some 24) rfl rfl Tryd.func7 (by kernel_rfl) rfl #[.string (⟨#[114, 101, 115, 116, 45, 53]⟩ : ByteArray)] rfl (by (try simp only [lm_, lq_, lx_]); first | done | rfl | (simp only [ld_, lt_]; rfl)) ?_; (with_reducible refine (glyph_ByName.calls k (⟨#[114, 101, 115, 116, 45, 53]⟩ : ByteArray) t164 false _ ?side1 A3.out).mono ?_); (case side1 => first | (with_reducible exact hE) | exact sd_ (LaidE.below hE.out (bb_ HB.out (e_ GE161 e0_)))); rintro e w30 ⟨rfl, hb⟩; refine ⟨_, rfl, ?_⟩; replace BK161 := kb_ BK161 hb; replace HB := hb_ HB (e_ GE161 e0_) hb; (try clear hb); (try clear hb2); (try clear hk); (try clear hi)) | ((with_reducible refine gate_callee (f := 17) rfl ?_); refine goesL_ (some 28) rfl rfl Tryd.func17 (by kernel_rfl) rfl #[.int .i64 4, .bool true, .bool false] rfl (by (try simp only [lm_, lq_, lx_]); first | done | rfl | (simp only [ld_, lt_]; rfl)) ?_; (with_reducible refine (glyph_Stem.calls k 4 true false t166 t167 t168 _ ?side1 A4.out).mono ?_); (case side1 => first | (with_reducible exact hE) | exact sd_ (LaidE.below hE.out (bb_ HB.out (e_ GE161 e0_)))); rintro e w31 ⟨rfl, hb⟩; refine ⟨_, rfl, ?_⟩; replace BK161 := kb_ BK161 hb; replace HB := hb_ HB (e_ GE161 e0_) hb; (try clear hb); (try clear hb2); (try clear hk); (try clear hi)) | ((with_reducible refine gate_callee (f := 17) rfl ?_); refine goesL_ (some 33) rfl rfl Tryd.func17 (by kernel_rfl) rfl #[.int .i64 2, .bool true, .bool false] rfl (by (try simp only [lm_, lq_, lx_]); first | done | rfl | (simp only [ld_, lt_]; rfl)) ?_; (with_reducible refine (glyph_Stem.calls k 2 true false t169 t170 t171 _ ?side1 A5.out).mono ?_); (case side1 => first | (with_reducible exact hE) | exact sd_ (LaidE.below hE.out (bb_ HB.out (e_ GE161 e0_)))); rintro e w32 ⟨rfl, hb⟩; refine ⟨_, rfl, ?_⟩; replace BK161 := kb_ BK161 hb; replace HB := hb_ HB (e_ GE161 e0_) hb; (try clear hb); (try clear hb2); (try clear hk); (try clear hi)) | ((with_reducible refine gate_callee (f := 13) rfl ?_); refine goesL_ (some 38) rfl rfl Tryd.func13 (by kernel_rfl) rfl #[.int .i64 408] rfl (by (try simp only [lm_, lq_, lx_]); first | done | rfl | (simp only [ld_, lt_]; rfl)) ?_; (with_reducible refine (glyph_Digits.calls k 408 t172 t173 _ A6.out).mono ?_); rintro e w33 ⟨v174, rfl, ho0, hb⟩; refine ⟨_, rfl, ?_⟩; have HO175 := sd_ (Kd.R_lower ho0 (bz_ (bb_ HB.out (e_ GE161 e0_)))); replace BK161 := kb_ BK161 hb; replace HB := hb_ HB (e_ GE161 e0_) hb; (try clear hb); (try clear hb2); (try clear hk); (try clear hi); (try clear ho0); have hcz34_0 : w33.cell? ⟨gb161, 0, none⟩ = some (.int .i64 t156) := (kc_ BK161.out 0).trans rfl; have hcz34_1 : w33.cell? ⟨gb161, 1, none⟩ = some (.int .i64 t157) := (kc_ BK161.out 1).trans rfl; have hcz34_2 : w33.cell? ⟨gb161, 2, none⟩ = some (.int .i64 t158) := (kc_ BK161.out 2).trans rfl; have hcz34_3 : w33.cell? ⟨gb161, 3, none⟩ = some (.int .i64 t159) := (kc_ BK161.out 3).trans rfl; have hfz34_0 := kf_ BK161.out 0; have hfz34_1 := kf_ BK161.out 1; have hfz34_2 := kf_ BK161.out 2; have hfz34_3 := kf_ BK161.out 3) | (go_at_call 8; (with_reducible refine (glyph_Name.calls t162 t176 _ ?side1 A12.out).mono ?_); (case side1 => first | (with_reducible exact hE) | exact sd_ (LaidE.below hE.out (bb_ HB.out (e_ GE161 e0_)))); rintro e w35 ⟨rfl, hb⟩; replace HO175 := sd_ (Kd.R_below (by (with_reducible repeat (first | apply Kd.R_alloc | apply Kd.R_drewN | apply Kd.R_drew)); exact HO175.out) hb); replace BK161 := kb_ BK161 hb; replace HB := hb_ HB (e_ GE161 e0_) hb; (try clear hb); (try clear hb2); (try clear hk); (try clear hi)) | (go_at_call 12; (with_reducible refine (glyph_Width.calls (⟨#[97, 98]⟩ : ByteArray) t177 _ A18.out).mono ?_); rintro e w36 ⟨rfl, hb⟩; replace HO175 := sd_ (Kd.R_below (by (with_reducible repeat (first | apply Kd.R_alloc | apply Kd.R_drewN | apply Kd.R_drew)); exact HO175.out) hb); replace BK161 := kb_ BK161 hb; replace HB := hb_ HB (e_ GE161 e0_) hb; (try clear hb); (try clear hb2); (try clear hk); (try clear hi)) | ((with_reducible refine gate_dst (N := 86) rfl ?_); (try (refine gate_guard (by rfl) ?_; dsimp only)); refine Kd.R_lit (Kd.int .i64) _ 22 ?hg (N := 86) ?hd (xs := ([34, 30, 38] : List Int)) (inner := [.int .i64 34, .int .i64 30, .int .i64 38]) (ok := fun _ => True) (okp := fun _ => True) ?hr ?hp (fun _ hk => hk) trivial (Below.refl _ _) (Nat.le_refl _) (by simp) ?_; (case hd => rfl); (case hg => rfl); (case hr => first | (go_simp; done) | (go_simp; rfl)); (case hp => exact (Reps.one (show Kd.M (Kd.int .i64) _ _ _ 34 [.int .i64 34] from rfl) (Reps.one (show Kd.M (Kd.int .i64) _ _ _ 30 [.int .i64 30] from rfl) (Reps.one (show Kd.M (Kd.int .i64) _ _ _ 38 [.int .i64 38] from rfl) (Reps.none _ _))))); intro v179 w37 ho38 hb hg_ hnew_; clear hg_ hnew_; (first | rw [← Ny178.out] at ho38 | (simp only [Int.reduceToNat] at ho38; rw [← Ny178.out] at ho38)); have HO180 := sd_ (Kd.R_lower (Kd.R_new' ho38 (Kd.R_lt (by (with_reducible repeat (first | apply Kd.R_alloc | apply Kd.R_drewN | apply Kd.R_drew)); exact HO175.out))) (bz_ (bb_ HB.out (e_ GE161 e0_)))); replace HO175 := sd_ (Kd.R_elder' (by (with_reducible repeat (first | apply Kd.R_alloc | apply Kd.R_drewN | apply Kd.R_drew)); exact HO175.out) (Kd.R_base ho38) hb); replace BK161 := kb_ BK161 hb; replace HB := hb_ HB (e_ GE161 e0_) hb; clear hb ho38; obtain ⟨Ao39, co39, eo39⟩ := Kd.R_slice HO175.out; subst eo39; obtain ⟨Ao40, co40, eo40⟩ := Kd.R_slice HO180.out; subst eo40) | (go_at_call 18; (with_reducible refine (neumeref05_Same.calls k _ _ t172 _ _ y178 true _ ?side1 ?side2 ?side3 ?side4 A20.out).mono ?_); (case side1 => repeat (first | exact (Kd.R_reads' HO175.out).2.2 | (with_reducible refine Kd.C_alloc ?_ _) | (with_reducible refine Kd.C_drewN ?_ _) | (with_reducible refine Kd.C_drew ?_))); (case side2 => exact (Kd.R_reads' HO175.out).2.1); (case side3 => repeat (first | exact (Kd.R_reads' HO180.out).2.2 | (with_reducible refine Kd.C_alloc ?_ _) | (with_reducible refine Kd.C_drewN ?_ _) | (with_reducible refine Kd.C_drew ?_))); (case side4 => exact (Kd.R_reads' HO180.out).2.1); rintro e w' ⟨rfl, ⟨nd, rfl⟩⟩) | (go_at_call 9; (with_reducible refine (glyph_Known.calls 47 true _ A23.out).mono ?_); rintro e w' ⟨rfl, ⟨nd, rfl⟩⟩) | (go_at_call 9; (with_reducible refine (glyph_Known.calls 48 t183 _ A25.out).mono ?_); rintro e w' ⟨rfl, ⟨nd, rfl⟩⟩))
               go_ret
               exact ⟨by first | rfl | (simp [errW_none, errW_some] <;> rfl) | (simp [*, errW_none, errW_some] <;> rfl), by repeat (first | (with_reducible first | exact HB.out | apply ba_ | apply pd_ | apply d1_ | refine bs_ ?_ GE161.out) | exact HB.out)⟩
              ·replace c24 := bf_ c24
               subst c24
               have H1 : (some false) = some r := by rw [if_neg (show ¬ (false = true) by decide)] at H; exact H
               clear H; have H := H1; clear H1
               exact absurd ((Option.some.inj H).trans hxt.out) (by decide)
             ·rw [if_neg c22] at H
              have c22b0 : (t173 == 0) = false := beq_eq_false_iff_ne.mpr c22
              have c22b1 : (t173 != 0) = true := bne_iff_ne.mpr c22
              exact absurd ((Option.some.inj H).trans hxt.out) (by decide)
            ·replace c21 := bf_ c21
             subst c21
             have H1 : (some false) = some r := by rw [if_neg (show ¬ (false = true) by decide)] at H; exact H
             clear H; have H := H1; clear H1
             exact absurd ((Option.some.inj H).trans hxt.out) (by decide)
           ·rw [if_neg c19] at H
            have c19b0 : (t177 == 1640) = false := beq_eq_false_iff_ne.mpr c19
            have c19b1 : (t177 != 1640) = true := bne_iff_ne.mpr c19
            exact absurd ((Option.some.inj H).trans hxt.out) (by decide)
          ·rw [if_neg c17] at H
           have c17b0 : (t171 == 2) = false := beq_eq_false_iff_ne.mpr c17
           have c17b1 : (t171 != 2) = true := bne_iff_ne.mpr c17
           exact absurd ((Option.some.inj H).trans hxt.out) (by decide)
         ·rw [if_neg c16] at H
          have c16b0 : (t168 == 0) = false := beq_eq_false_iff_ne.mpr c16
          have c16b1 : (t168 != 0) = true := bne_iff_ne.mpr c16
          exact absurd ((Option.some.inj H).trans hxt.out) (by decide)
        ·rw [if_neg c15] at H
         have c15b0 : (t167 == 170) = false := beq_eq_false_iff_ne.mpr c15
         have c15b1 : (t167 != 170) = true := bne_iff_ne.mpr c15
         exact absurd ((Option.some.inj H).trans hxt.out) (by decide)
       ·rw [if_neg c14] at H
        have c14b0 : (t166 == 1330) = false := beq_eq_false_iff_ne.mpr c14
        have c14b1 : (t166 != 1330) = true := bne_iff_ne.mpr c14
        exact absurd ((Option.some.inj H).trans hxt.out) (by decide)
      ·rw [if_neg c13] at H
       have c13b0 : (t176.toList == ([114, 101, 115, 116, 45, 49, 54] : List UInt8)) = false := beq_eq_false_iff_ne.mpr c13
       have c13b1 : (t176.toList != ([114, 101, 115, 116, 45, 49, 54] : List UInt8)) = true := bne_iff_ne.mpr c13
       exact absurd ((Option.some.inj H).trans hxt.out) (by decide)
    ·replace c10 := bf_ c10
     subst c10
     have H1 : (some false) = some r := by rw [if_neg (show ¬ (false = true) by decide)] at H; exact H
     clear H; have H := H1; clear H1
     exact absurd ((Option.some.inj H).trans hxt.out) (by decide)
   ·rw [if_neg c9] at H
    have c9b0 : (t162 == 10) = false := beq_eq_false_iff_ne.mpr c9
    have c9b1 : (t162 != 10) = true := bne_iff_ne.mpr c9
    exact absurd ((Option.some.inj H).trans hxt.out) (by decide)
  ·rw [if_neg c8] at H
   have c8b0 : (t160 == 0) = false := beq_eq_false_iff_ne.mpr c8
   have c8b1 : (t160 != 0) = true := bne_iff_ne.mpr c8
   exact absurd ((Option.some.inj H).trans hxt.out) (by decide)
 ·rw [if_neg c7] at H
  have c7b0 : (t156 == 0 && (t157 == (-133) && (t158 == 267 && (t159 == 133)))) = false := by simpa using c7
  (try (have c7b1 : decide (t156 = 0 && (t157 == (-133) && (t158 == 267 && (t159 == 133)))) = false := by simpa using c7))
  (try (have c7b2 : (t156 == 0 && (t157 == (-133) && (t158 == 267 && (t159 == 133)))) = false := by simpa using c7))
  (try (have c7b3 : ¬ (t156 = 0 && (t157 == (-133) && (t158 == 267 && (t159 == 133)))) := by simpa using c7))
  clear c7
  exact absurd ((Option.some.inj H).trans hxt.out) (by decide)
theorem neumelaw05_heads.at : neumelaw05_heads.f 60 = some true := by decide +kernel
theorem neumelaw05_heads.is : ∀ k r, neumelaw05_heads.f k = some r → r = true := by
 intro k r h
 exact Option.some.inj ((at_rounds neumelaw05_heads.mono (Nat.le_max_left k 60) h).symm.trans (at_rounds neumelaw05_heads.mono (Nat.le_max_right k 60) neumelaw05_heads.at))
theorem neumelaw05_heads.calls (k : Nat)  (r : Bool) (w : World) (hE : Aside0 (LaidE w)) (h : neumelaw05_heads.f k  = some r) :
  Calls Tryd.prog 10 #[] w fun e w' => e = .returned (.bool r) ∧ Below w.heap.size w w' := neumelaw05_heads.callsT k r w hE ⟨neumelaw05_heads.is k r h⟩ h

end Go.Proofs.YtbinlfichkdhlaaDoor.P
