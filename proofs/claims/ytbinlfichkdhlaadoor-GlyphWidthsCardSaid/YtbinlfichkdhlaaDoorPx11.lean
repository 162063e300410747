-- Written by a program of this session (wip/tools/xprint.py, over the kit's print): Lean checks it.
import Derived.Test.YtbinlfichkdhlaaDoorPx0
import Derived.Test.YtbinlfichkdhlaaDoorPx3
import Derived.Test.YtbinlfichkdhlaaDoorPx7
import Derived.Test.YtbinlfichkdhlaaDoorPx8
namespace Go.Proofs.YtbinlfichkdhlaaDoor.P
open Go.RowKit Go.Proofs.YtbinlfichkdhlaaDoorW.PrintWords Go.Proofs.YtbinlfichkdhlaaDoorW.PrintLast Go.Proofs.YtbinlfichkdhlaaDoorW.PrintMore
attribute [local go_sem] max2_int min2_int max_two min_two max_three min_three max_four min_four   -- for this text's walks alone
set_option linter.unusedVariables false
set_option linter.unusedSimpArgs false

/-! ### neumelaw05_GlyphWidths: function 5 -/
mutual
def neumelaw05_GlyphWidths.j0 : Nat → ByteArray → ByteArray → Bool → Option (Bool)
 | 0, _, _, _ => none
 | k + 1, x0, x1, x13 => if x13 = true then ((neumelaw05_heads.f k).bind fun t210 => (some t210)) else (neumelaw05_GlyphWidths.l0 k x0 x1 0)
def neumelaw05_GlyphWidths.l0 : Nat → ByteArray → ByteArray → Int → Option (Bool)
 | 0, _, _, _ => none
 | k + 1, x0, x1, x5 => if x5 < (x0.size : Int) then (if 0 ≤ x5 then (if (bt x0 x5) ≥ 128 then ((neumelaw05_heads.f k).bind fun t211 => (some t211)) else (neumelaw05_GlyphWidths.l0 k x0 x1 (wrap64 (x5 + 1)))) else (none)) else (if x0.size + x1.size ≤ 9223372036854775807 then ((glyph_Width.f (x0 ++ x1)).bind fun t212 => ((glyph_Width.f x0).bind fun t213 => ((glyph_Width.f x1).bind fun t214 => (if t212 = (wrap64 (t213 + t214)) then ((glyph_Width.f x0).bind fun t215 => (if t215 ≥ (wrap64 (420 * (x0.size : Int))) then ((neumelaw05_heads.f k).bind fun t216 => (some t216)) else (some false))) else (some false))))) else (none))
end
def neumelaw05_GlyphWidths.f (k : Nat) (a0 : ByteArray) (a1 : ByteArray) : Option (Bool) := if (a0.size : Int) > 1000 then (neumelaw05_GlyphWidths.j0 k a0 a1 true) else (neumelaw05_GlyphWidths.j0 k a0 a1 (decide ((a1.size : Int) > 1000)))
theorem neumelaw05_GlyphWidths.mono_l : ∀ k, (∀ y0 y1 y2, LeO (neumelaw05_GlyphWidths.j0 k y0 y1 y2) (neumelaw05_GlyphWidths.j0 (k + 1) y0 y1 y2)) ∧ (∀ y0 y1 y2, LeO (neumelaw05_GlyphWidths.l0 k y0 y1 y2) (neumelaw05_GlyphWidths.l0 (k + 1) y0 y1 y2))
 | 0 => ⟨fun _ _ _ r h => by simp [neumelaw05_GlyphWidths.j0] at h, fun _ _ _ r h => by simp [neumelaw05_GlyphWidths.l0] at h⟩
 | k + 1 => by
  obtain ⟨ih0, ih1⟩ := neumelaw05_GlyphWidths.mono_l k
  refine ⟨?_, ?_⟩
  ·intro y0 y1 y2
   unfold neumelaw05_GlyphWidths.j0
   repeat' first
   | (with_reducible exact ih0 _ _ _)
   | (with_reducible exact ih1 _ _ _)
   | (with_reducible exact neumelaw05_heads.mono _)
   | (with_reducible exact LeO.refl _)
   | (with_reducible exact LeO.none _)
   | (with_reducible refine LeO.ite ?_ ?_)
   | (with_reducible refine LeO.bind ?_ (fun _ => ?_))
   | exact ih0 _ _ _
   | exact ih1 _ _ _
   | exact neumelaw05_heads.mono _
   | exact LeO.none _
   | refine LeO.ite ?_ ?_
   | refine LeO.bind ?_ (fun _ => ?_)
  ·intro y0 y1 y2
   unfold neumelaw05_GlyphWidths.l0
   repeat' first
   | (with_reducible exact ih0 _ _ _)
   | (with_reducible exact ih1 _ _ _)
   | (with_reducible exact neumelaw05_heads.mono _)
   | (with_reducible exact LeO.refl _)
   | (with_reducible exact LeO.none _)
   | (with_reducible refine LeO.ite ?_ ?_)
   | (with_reducible refine LeO.bind ?_ (fun _ => ?_))
   | exact ih0 _ _ _
   | exact ih1 _ _ _
   | exact neumelaw05_heads.mono _
   | exact LeO.none _
   | refine LeO.ite ?_ ?_
   | refine LeO.bind ?_ (fun _ => ?_)
theorem neumelaw05_GlyphWidths.mono : ∀ a0 a1 k, LeO (neumelaw05_GlyphWidths.f k a0 a1) (neumelaw05_GlyphWidths.f (k + 1) a0 a1) := by
 intro a0 a1 k
 obtain ⟨ih0, ih1⟩ := neumelaw05_GlyphWidths.mono_l k
 unfold neumelaw05_GlyphWidths.f
 repeat' first
   | (with_reducible exact ih0 _ _ _)
   | (with_reducible exact ih1 _ _ _)
   | (with_reducible exact neumelaw05_heads.mono _)
   | (with_reducible exact LeO.refl _)
   | (with_reducible exact LeO.none _)
   | (with_reducible refine LeO.ite ?_ ?_)
   | (with_reducible refine LeO.bind ?_ (fun _ => ?_))
   | exact ih0 _ _ _
   | exact ih1 _ _ _
   | exact neumelaw05_heads.mono _
   | exact LeO.none _
   | refine LeO.ite ?_ ?_
   | refine LeO.bind ?_ (fun _ => ?_)
set_option maxHeartbeats 8000000 in
set_option maxRecDepth 100000 in
theorem neumelaw05_GlyphWidths.calls (k : Nat) (a0 : ByteArray) (a1 : ByteArray) (r : Bool) (w : World) (hE : Aside0 (LaidE w)) (hxt : Aside0 (r = true)) (h : neumelaw05_GlyphWidths.f k a0 a1 = some r) :
  Calls Tryd.prog 5 #[.string a0, .string a1] w fun e w' => e = .returned (.bool r) ∧ Below w.heap.size w w' := by
 have HB := sd_ (Below.refl w.heap.size w)
 have H : (if (a0.size : Int) > 1000 then (neumelaw05_GlyphWidths.j0 k a0 a1 true) else (neumelaw05_GlyphWidths.j0 k a0 a1 (decide ((a1.size : Int) > 1000)))) = some r := h
 clear h
 have HC3 := sd_ H
 clear H
 go_enter Tryd.func5, Tryd.ntmps5
 go_upto_region 1 with (fail)
 go_cut [13] (fun v13 wc => ∃ (kq : Nat) (x13_2 : Bool), v13 = .bool x13_2 ∧ Aside0 (neumelaw05_GlyphWidths.j0 kq a0 a1 x13_2 = some r) ∧ Aside0 (kq ≤ k) ∧ Aside0 (Below w.heap.size w wc))
 case first =>
  have H := HC3.out
  clear HC3
  by_cases c4 : (a0.size : Int) > 1000
  ·rw [if_pos c4] at H
   have c4b0 : decide (1000 < (a0.size : Int)) = true := dt_ c4
   have c4b1 : decide (1000 < a0.size) = true := dt_ (by omega)
   clear c4
   (first | rw [c4b0] | (simp only [i64_w, i32_w]; rw [c4b0]) | skip)
   have H' := sd_ H
   clear H
   go_wp2
   go_meet
   case rel => exact ⟨_, (true), (by first | rfl | (simp; done) | (simp [*]; done) | (simp [bne]; done)), H', ⟨by first | omega | exact Nat.le_refl _⟩, ⟨by repeat (first | (with_reducible first | exact HB.out | apply ba_ | apply pd_ | apply d1_) | exact HB.out)⟩⟩
  ·rw [if_neg c4] at H
   have c4b0 : decide (1000 < (a0.size : Int)) = false := df_ c4
   have c4b1 : decide (1000 < a0.size) = false := df_ (by omega)
   clear c4
   (first | rw [c4b0] | (simp only [i64_w, i32_w]; rw [c4b0]) | skip)
   have H' := sd_ H
   clear H
   go_wp2
   go_meet
   case rel => exact ⟨_, (decide ((a1.size : Int) > 1000)), (by first | rfl | (simp; done) | (simp [*]; done) | (simp [bne]; done)), H', ⟨by first | omega | exact Nat.le_refl _⟩, ⟨by repeat (first | (with_reducible first | exact HB.out | apply ba_ | apply pd_ | apply d1_) | exact HB.out)⟩⟩
 case rest =>
  clear HC3
  try clear p2; try clear c4; try clear c4b0; try clear c4b1
  obtain ⟨kq, x13_2, rfl, HA, HJ2, HB⟩ := hcut
  cases kq with
  | zero => exact absurd HA.out (by simp [neumelaw05_GlyphWidths.j0])
  | succ kj2 =>
   have H := HA.out
   clear HA
   simp only [neumelaw05_GlyphWidths.j0] at H
   by_cases c5 : x13_2 = true
   ·subst c5
    have H1 : ((neumelaw05_heads.f kj2).bind fun t210 => (some t210)) = some r := by rw [if_pos rfl] at H; exact H
    clear H; have H := H1; clear H1
    replace H := ob_ H
    obtain ⟨t210, A60, H⟩ := H
    replace H : (some t210) = some r := H
    have A6 := sd_ A60
    clear A60
    obtain rfl := Option.some.inj H
    go_wp2_with (first | ((with_reducible refine gate_callee (f := 10) rfl ?_); refine goesL_ (some 14) rfl rfl Tryd.func10 (by kernel_rfl) rfl #[] rfl (by (try simp only [lm_, lq_, lx_]); first | done | rfl | (simp only [ld_, lt_]; rfl)) ?_; (with_reducible refine (neumelaw05_heads.calls kj2  t210 _ ?side1 A6.out).mono ?_); (case side1 => first | (with_reducible exact hE) | exact sd_ (LaidE.below hE.out (bb_ HB.out e0_))); rintro e w7 ⟨rfl, hb⟩; refine ⟨_, rfl, ?_⟩; replace HB := hb_ HB e0_ hb; (try clear hb); (try clear hb2); (try clear hk); (try clear hi)))
    go_ret
    exact ⟨by first | rfl | (simp [errW_none, errW_some] <;> rfl) | (simp [*, errW_none, errW_some] <;> rfl), by repeat (first | (with_reducible first | exact HB.out | apply ba_ | apply pd_ | apply d1_) | exact HB.out)⟩
   ·replace c5 := bf_ c5
    subst c5
    have H1 : (neumelaw05_GlyphWidths.l0 kj2 a0 a1 0) = some r := by rw [if_neg (show ¬ (false = true) by decide)] at H; exact H
    clear H; have H := H1; clear H1
    have H' := sd_ H
    clear H
    go_wp2
    go_loopg [5] kj2 (fun kq v5 w' => ∃ (x5_2 : Int), v5 = .int .i64 x5_2 ∧ Aside0 (neumelaw05_GlyphWidths.l0 kq a0 a1 x5_2 = some r) ∧ Aside0 (kq ≤ kj2) ∧ Aside0 (Below w.heap.size w w'))
    case atStart => exact ⟨(0), (by first | rfl | (simp; done) | (simp [*]; done) | (simp [bne]; done)), H', ⟨Nat.le_refl _⟩, ⟨by repeat (first | (with_reducible first | exact HB.out | apply ba_ | apply pd_ | apply d1_) | exact HB.out)⟩⟩
    case round =>
     clear H'
     try clear c1; try clear p2; try clear c4; try clear c4b0; try clear c4b1; try clear c5; try clear p2
     obtain ⟨x5_2, rfl, HA, HK2, HB⟩ := hrel
     cases gk with
     | zero => exact absurd HA.out (by simp [neumelaw05_GlyphWidths.l0])
     | succ k2 =>
      have H := HA.out
      clear HA
      simp only [neumelaw05_GlyphWidths.l0] at H
      by_cases c8 : x5_2 < (a0.size : Int)
      ·rw [if_pos c8] at H
       have c8b0 : decide (x5_2 < (a0.size : Int)) = true := dt_ c8
       clear c8
       by_cases c9 : 0 ≤ x5_2
       ·rw [if_pos c9] at H
        have c9b0 : decide (0 ≤ x5_2) = true := dt_ c9
        clear c9
        by_cases c11 : (bt a0 x5_2) ≥ 128
        ·rw [if_pos c11] at H
         have c11b0 : decide (128 ≤ (bt a0 x5_2)) = true := dt_ c11
         clear c11
         replace H := ob_ H
         obtain ⟨t211, A120, H⟩ := H
         replace H : (some t211) = some r := H
         have A12 := sd_ A120
         clear A120
         obtain rfl := Option.some.inj H
         have p10 : 0 ≤ (x5_2 : Int) := od_ (by first | (with_reducible assumption) | assumption)
         have q10 : x5_2 < (a0.size : Int) := od_ (by first | (with_reducible assumption) | assumption)
         have hx10 := bt_at a0 x5_2
         replace p10 := eq_true p10
         replace q10 := eq_true q10
         go_wp2_with (first | ((with_reducible refine gate_callee (f := 10) rfl ?_); refine goesL_ (some 25) rfl rfl Tryd.func10 (by kernel_rfl) rfl #[] rfl (by (try simp only [lm_, lq_, lx_]); first | done | rfl | (simp only [ld_, lt_]; rfl)) ?_; (with_reducible refine (neumelaw05_heads.calls k2  t211 _ ?side1 A12.out).mono ?_); (case side1 => first | (with_reducible exact hE) | exact sd_ (LaidE.below hE.out (bb_ HB.out e0_))); rintro e w13 ⟨rfl, hb⟩; refine ⟨_, rfl, ?_⟩; replace HB := hb_ HB e0_ hb; (try clear hb); (try clear hb2); (try clear hk); (try clear hi)))
         go_ret
         exact ⟨by first | rfl | (simp [errW_none, errW_some] <;> rfl) | (simp [*, errW_none, errW_some] <;> rfl), by repeat (first | (with_reducible first | exact HB.out | apply ba_ | apply pd_ | apply d1_) | exact HB.out)⟩
        ·rw [if_neg c11] at H
         have c11b0 : decide (128 ≤ (bt a0 x5_2)) = false := df_ c11
         clear c11
         have H' := sd_ H
         clear H
         have p10 : 0 ≤ (x5_2 : Int) := od_ (by first | (with_reducible assumption) | assumption)
         have q10 : x5_2 < (a0.size : Int) := od_ (by first | (with_reducible assumption) | assumption)
         have hx10 := bt_at a0 x5_2
         replace p10 := eq_true p10
         replace q10 := eq_true q10
         go_wp2
         go_roundg k2
         case measure => have := HJ2.out; have := HK2.out; omega
         case rel => exact ⟨(wrap64 (x5_2 + 1)), (by first | rfl | (simp; done) | (simp [*]; done) | (simp [bne]; done)), H', ⟨by have := HJ2.out; have := HK2.out; omega⟩, ⟨by repeat (first | (with_reducible first | exact HB.out | apply ba_ | apply pd_ | apply d1_) | exact HB.out)⟩⟩
       ·rw [if_neg c9] at H
        exact absurd H (by simp)
      ·rw [if_neg c8] at H
       have c8b0 : decide (x5_2 < (a0.size : Int)) = false := df_ c8
       clear c8
       by_cases c14 : a0.size + a1.size ≤ 9223372036854775807
       ·rw [if_pos c14] at H
        have c14b0 := eq_true c14
        have c14b1 : decide (a0.size + a1.size ≤ 9223372036854775807) = true := dt_ c14
        try have c14b2 : (9223372036854775807 < a0.size + a1.size) = False := eq_false (Nat.not_lt.2 c14)
        replace H := ob_ H
        obtain ⟨t212, A150, H⟩ := H
        replace H : ((glyph_Width.f a0).bind fun t213 => ((glyph_Width.f a1).bind fun t214 => (if t212 = (wrap64 (t213 + t214)) then ((glyph_Width.f a0).bind fun t215 => (if t215 ≥ (wrap64 (420 * (a0.size : Int))) then ((neumelaw05_heads.f k2).bind fun t216 => (some t216)) else (some false))) else (some false)))) = some r := H
        have A15 := sd_ A150
        clear A150
        replace H := ob_ H
        obtain ⟨t213, A160, H⟩ := H
        replace H : ((glyph_Width.f a1).bind fun t214 => (if t212 = (wrap64 (t213 + t214)) then ((glyph_Width.f a0).bind fun t215 => (if t215 ≥ (wrap64 (420 * (a0.size : Int))) then ((neumelaw05_heads.f k2).bind fun t216 => (some t216)) else (some false))) else (some false))) = some r := H
        have A16 := sd_ A160
        clear A160
        replace H := ob_ H
        obtain ⟨t214, A170, H⟩ := H
        replace H : (if t212 = (wrap64 (t213 + t214)) then ((glyph_Width.f a0).bind fun t215 => (if t215 ≥ (wrap64 (420 * (a0.size : Int))) then ((neumelaw05_heads.f k2).bind fun t216 => (some t216)) else (some false))) else (some false)) = some r := H
        have A17 := sd_ A170
        clear A170
        by_cases c18 : t212 = (wrap64 (t213 + t214))
        ·rw [if_pos c18] at H
         have c18b0 : (t212 == (wrap64 (t213 + t214))) = true := beq_iff_eq.mpr c18
         have c18b1 : (t212 != (wrap64 (t213 + t214))) = false := bne_eq_false_iff_eq.mpr c18
         clear c18
         replace H := ob_ H
         obtain ⟨t215, A190, H⟩ := H
         replace H : (if t215 ≥ (wrap64 (420 * (a0.size : Int))) then ((neumelaw05_heads.f k2).bind fun t216 => (some t216)) else (some false)) = some r := H
         have A19 := sd_ A190
         clear A190
         by_cases c20 : t215 ≥ (wrap64 (420 * (a0.size : Int)))
         ·rw [if_pos c20] at H
          have c20b0 : decide ((wrap64 (420 * (a0.size : Int))) ≤ t215) = true := dt_ c20
          clear c20
          replace H := ob_ H
          obtain ⟨t216, A210, H⟩ := H
          replace H : (some t216) = some r := H
          have A21 := sd_ A210
          clear A210
          obtain rfl := Option.some.inj H
          go_wp2_with (first | ((with_reducible refine gate_callee (f := 12) rfl ?_); refine goesL_ (some 29) rfl rfl Tryd.func12 (by kernel_rfl) rfl #[.string (a0 ++ a1)] rfl (by (try simp only [lm_, lq_, lx_]); first | done | rfl | (simp only [ld_, lt_]; rfl)) ?_; (with_reducible refine (glyph_Width.calls (a0 ++ a1) t212 _ A15.out).mono ?_); rintro e w22 ⟨rfl, hb⟩; refine ⟨_, rfl, ?_⟩; replace HB := hb_ HB e0_ hb; (try clear hb); (try clear hb2); (try clear hk); (try clear hi)) | ((with_reducible refine gate_callee (f := 12) rfl ?_); refine goesL_ (some 31) rfl rfl Tryd.func12 (by kernel_rfl) rfl #[.string a0] rfl (by (try simp only [lm_, lq_, lx_]); first | done | rfl | (simp only [ld_, lt_]; rfl)) ?_; (with_reducible refine (glyph_Width.calls a0 t213 _ A16.out).mono ?_); rintro e w23 ⟨rfl, hb⟩; refine ⟨_, rfl, ?_⟩; replace HB := hb_ HB e0_ hb; (try clear hb); (try clear hb2); (try clear hk); (try clear hi)) | ((with_reducible refine gate_callee (f := 12) rfl ?_); refine goesL_ (some 33) rfl rfl Tryd.func12 (by kernel_rfl) rfl #[.string a1] rfl (by (try simp only [lm_, lq_, lx_]); first | done | rfl | (simp only [ld_, lt_]; rfl)) ?_; (with_reducible refine (glyph_Width.calls a1 t214 _ A17.out).mono ?_); rintro e w24 ⟨rfl, hb⟩; refine ⟨_, rfl, ?_⟩; replace HB := hb_ HB e0_ hb; (try clear hb); (try clear hb2); (try clear hk); (try clear hi)) | (go_at_call 12; (with_reducible refine (glyph_Width.calls a0 t215 _ A19.out).mono ?_); rintro e w25 ⟨rfl, hb⟩; replace HB := hb_ HB e0_ hb; (try clear hb); (try clear hb2); (try clear hk); (try clear hi)) | (go_at_call 10; (with_reducible refine (neumelaw05_heads.calls k2  t216 _ ?side1 A21.out).mono ?_); (case side1 => first | (with_reducible exact hE) | exact sd_ (LaidE.below hE.out (bb_ HB.out e0_))); rintro e w26 ⟨rfl, hb⟩; replace HB := hb_ HB e0_ hb; (try clear hb); (try clear hb2); (try clear hk); (try clear hi)))
          go_ret
          exact ⟨by first | rfl | (simp [errW_none, errW_some] <;> rfl) | (simp [*, errW_none, errW_some] <;> rfl), by repeat (first | (with_reducible first | exact HB.out | apply ba_ | apply pd_ | apply d1_) | exact HB.out)⟩
         ·rw [if_neg c20] at H
          have c20b0 : decide ((wrap64 (420 * (a0.size : Int))) ≤ t215) = false := df_ c20
          clear c20
          exact absurd ((Option.some.inj H).trans hxt.out) (by decide)
        ·rw [if_neg c18] at H
         have c18b0 : (t212 == (wrap64 (t213 + t214))) = false := beq_eq_false_iff_ne.mpr c18
         have c18b1 : (t212 != (wrap64 (t213 + t214))) = true := bne_iff_ne.mpr c18
         exact absurd ((Option.some.inj H).trans hxt.out) (by decide)
       ·rw [if_neg c14] at H
        exact absurd H (by simp)

end Go.Proofs.YtbinlfichkdhlaaDoor.P
