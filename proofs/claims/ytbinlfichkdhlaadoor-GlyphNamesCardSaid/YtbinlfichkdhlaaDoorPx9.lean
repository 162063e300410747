-- Written by a program of this session (wip/tools/xprint.py, over the kit's print): Lean checks it.
import Derived.Test.YtbinlfichkdhlaaDoorPx0
import Derived.Test.YtbinlfichkdhlaaDoorPx2
import Derived.Test.YtbinlfichkdhlaaDoorPx3
import Derived.Test.YtbinlfichkdhlaaDoorPx4
import Derived.Test.YtbinlfichkdhlaaDoorPx8
namespace Go.Proofs.YtbinlfichkdhlaaDoor.P
open Go.RowKit Go.Proofs.YtbinlfichkdhlaaDoorW.PrintWords Go.Proofs.YtbinlfichkdhlaaDoorW.PrintLast Go.Proofs.YtbinlfichkdhlaaDoorW.PrintMore
attribute [local go_sem] max2_int min2_int max_two min_two max_three min_three max_four min_four   -- for this text's walks alone
set_option linter.unusedVariables false
set_option linter.unusedSimpArgs false

/-! ### neumelaw05_GlyphNames: function 3 -/
def neumelaw05_GlyphNames.j0 : Nat → Int → Int → Bool → Option (Bool)
 | 0, _, _, _ => none
 | k + 1, x0, x1, x24 => if x24 = true then (some false) else ((glyph_Known.f x0).bind fun t188 => (if t188 = true then ((glyph_Known.f x1).bind fun t189 => (if t189 = true then ((glyph_Name.f x0).bind fun t190 => ((glyph_Name.f x1).bind fun t191 => (if ((t190.toList == t191.toList) == (x0 == x1)) = true then ((neumelaw05_heads.f k).bind fun t192 => (some t192)) else (some false)))) else ((neumelaw05_heads.f k).bind fun t193 => (some t193)))) else ((neumelaw05_heads.f k).bind fun t194 => (some t194))))
def neumelaw05_GlyphNames.f (k : Nat) (a0 : Int) (a1 : Int) : Option (Bool) := (glyph_Name.f a0).bind fun t184 => ((glyph_ByName.f k t184).bind fun bt185 => ((glyph_Known.f a0).bind fun t187 => (if (bt185.2 != t187) = true then (neumelaw05_GlyphNames.j0 k a0 a1 true) else (if bt185.2 = true then (neumelaw05_GlyphNames.j0 k a0 a1 (bt185.1 != a0)) else (neumelaw05_GlyphNames.j0 k a0 a1 false)))))
theorem neumelaw05_GlyphNames.mono_l : ∀ k, (∀ y0 y1 y2, LeO (neumelaw05_GlyphNames.j0 k y0 y1 y2) (neumelaw05_GlyphNames.j0 (k + 1) y0 y1 y2))
 | 0 => fun _ _ _ r h => by simp [neumelaw05_GlyphNames.j0] at h
 | k + 1 => by
  have ih0 := neumelaw05_GlyphNames.mono_l k
  ·intro y0 y1 y2
   unfold neumelaw05_GlyphNames.j0
   repeat' first
   | (with_reducible exact ih0 _ _ _)
   | (with_reducible exact glyph_ByName.mono _ _)
   | (with_reducible exact neumelaw05_heads.mono _)
   | (with_reducible exact LeO.refl _)
   | (with_reducible exact LeO.none _)
   | (with_reducible refine LeO.ite ?_ ?_)
   | (with_reducible refine LeO.bind ?_ (fun _ => ?_))
   | exact ih0 _ _ _
   | exact glyph_ByName.mono _ _
   | exact neumelaw05_heads.mono _
   | exact LeO.none _
   | refine LeO.ite ?_ ?_
   | refine LeO.bind ?_ (fun _ => ?_)
theorem neumelaw05_GlyphNames.mono : ∀ a0 a1 k, LeO (neumelaw05_GlyphNames.f k a0 a1) (neumelaw05_GlyphNames.f (k + 1) a0 a1) := by
 intro a0 a1 k
 have ih0 := neumelaw05_GlyphNames.mono_l k
 unfold neumelaw05_GlyphNames.f
 repeat' first
   | (with_reducible exact ih0 _ _ _)
   | (with_reducible exact glyph_ByName.mono _ _)
   | (with_reducible exact neumelaw05_heads.mono _)
   | (with_reducible exact LeO.refl _)
   | (with_reducible exact LeO.none _)
   | (with_reducible refine LeO.ite ?_ ?_)
   | (with_reducible refine LeO.bind ?_ (fun _ => ?_))
   | exact ih0 _ _ _
   | exact glyph_ByName.mono _ _
   | exact neumelaw05_heads.mono _
   | exact LeO.none _
   | refine LeO.ite ?_ ?_
   | refine LeO.bind ?_ (fun _ => ?_)
set_option maxHeartbeats 8000000 in
set_option maxRecDepth 100000 in
theorem neumelaw05_GlyphNames.calls (k : Nat) (a0 : Int) (a1 : Int) (r : Bool) (w : World) (hE : Aside0 (LaidE w)) (hxt : Aside0 (r = true)) (h : neumelaw05_GlyphNames.f k a0 a1 = some r) :
  Calls Tryd.prog 3 #[.int .i64 a0, .int .i64 a1] w fun e w' => e = .returned (.bool r) ∧ Below w.heap.size w w' := by
 have HB := sd_ (Below.refl w.heap.size w)
 have H : ((glyph_Name.f a0).bind fun t184 => ((glyph_ByName.f k t184).bind fun bt185 => ((glyph_Known.f a0).bind fun t187 => (if (bt185.2 != t187) = true then (neumelaw05_GlyphNames.j0 k a0 a1 true) else (if bt185.2 = true then (neumelaw05_GlyphNames.j0 k a0 a1 (bt185.1 != a0)) else (neumelaw05_GlyphNames.j0 k a0 a1 false)))))) = some r := h
 clear h
 replace H := ob_ H
 obtain ⟨t184, A30, H⟩ := H
 replace H : ((glyph_ByName.f k t184).bind fun bt185 => ((glyph_Known.f a0).bind fun t187 => (if (bt185.2 != t187) = true then (neumelaw05_GlyphNames.j0 k a0 a1 true) else (if bt185.2 = true then (neumelaw05_GlyphNames.j0 k a0 a1 (bt185.1 != a0)) else (neumelaw05_GlyphNames.j0 k a0 a1 false))))) = some r := H
 have A3 := sd_ A30
 clear A30
 replace H := ob_ H
 obtain ⟨⟨t185, t186⟩, A40, H⟩ := H
 replace H : ((glyph_Known.f a0).bind fun t187 => (if (t186 != t187) = true then (neumelaw05_GlyphNames.j0 k a0 a1 true) else (if t186 = true then (neumelaw05_GlyphNames.j0 k a0 a1 (t185 != a0)) else (neumelaw05_GlyphNames.j0 k a0 a1 false)))) = some r := H
 have A4 := sd_ A40
 clear A40
 have HC5 := sd_ H
 clear H
 go_enter Tryd.func3, Tryd.ntmps3
 go_upto_region 2 with (first | ((with_reducible refine gate_callee (f := 8) rfl ?_); refine goesL_ (some 9) rfl rfl Tryd.func8 (by kernel_rfl) rfl #[.int .i64 a0] rfl (by (try simp only [lm_, lq_, lx_]); first | done | rfl | (simp only [ld_, lt_]; rfl)) ?_; (with_reducible refine (glyph_Name.calls a0 t184 _ ?side1 A3.out).mono ?_); (case side1 => first | (with_reducible exact hE) | exact sd_ (LaidE.below hE.out (bb_ HB.out e0_))); rintro e w6 ⟨rfl, hb⟩; refine ⟨_, rfl, ?_⟩; replace HB := hb_ HB e0_ hb; (try clear hb); (try clear hb2); (try clear hk); (try clear hi)) | ((with_reducible refine gate_callee (f := 7) rfl ?_); refine goesL_ (some 10) rfl rfl Tryd.func7 (by kernel_rfl) rfl #[.string t184] rfl (by (try simp only [lm_, lq_, lx_]); first | done | rfl | (simp only [ld_, lt_]; rfl)) ?_; (with_reducible refine (glyph_ByName.calls k t184 t185 t186 _ ?side1 A4.out).mono ?_); (case side1 => first | (with_reducible exact hE) | exact sd_ (LaidE.below hE.out (bb_ HB.out e0_))); rintro e w7 ⟨rfl, hb⟩; refine ⟨_, rfl, ?_⟩; replace HB := hb_ HB e0_ hb; (try clear hb); (try clear hb2); (try clear hk); (try clear hi)))
 (try simp only [Act.put, ls_, lz_, lc_])
 go_cut [24] (fun v24 wc => ∃ (kq : Nat) (x24_4 : Bool), v24 = .bool x24_4 ∧ Aside0 (neumelaw05_GlyphNames.j0 kq a0 a1 x24_4 = some r) ∧ Aside0 (kq ≤ k) ∧ Aside0 (Below w.heap.size w wc))
 case first =>
  have H := HC5.out
  clear HC5
  replace H := ob_ H
  obtain ⟨t187, A80, H⟩ := H
  replace H : (if (t186 != t187) = true then (neumelaw05_GlyphNames.j0 k a0 a1 true) else (if t186 = true then (neumelaw05_GlyphNames.j0 k a0 a1 (t185 != a0)) else (neumelaw05_GlyphNames.j0 k a0 a1 false))) = some r := H
  have A8 := sd_ A80
  clear A80
  by_cases c9 : (t186 != t187) = true
  ·rw [if_pos c9] at H
   have c9b0 : (t186 != t187) = true := c9
   (try (have c9b1 : decide (t186 = t187) = false := by simpa using c9))
   (try (have c9b2 : (t186 == t187) = false := by simpa using c9))
   (try (have c9b3 : ¬ (t186 = t187) := by simpa using c9))
   clear c9
   (first | rw [c9b0] | (simp only [i64_w, i32_w]; rw [c9b0]) | skip)
   have H' := sd_ H
   clear H
   go_wp2_with (first | ((with_reducible refine gate_callee (f := 9) rfl ?_); refine goesL_ (some 15) rfl rfl Tryd.func9 (by kernel_rfl) rfl #[.int .i64 a0] rfl (by (try simp only [lm_, lq_, lx_]); first | done | rfl | (simp only [ld_, lt_]; rfl)) ?_; (with_reducible refine (glyph_Known.calls a0 t187 _ A8.out).mono ?_); rintro e w' ⟨rfl, ⟨nd, rfl⟩⟩; refine ⟨_, rfl, ?_⟩))
   go_meet
   case rel => exact ⟨_, (true), (by first | rfl | (simp; done) | (simp [*]; done) | (simp [bne]; done)), H', ⟨by first | omega | exact Nat.le_refl _⟩, ⟨by repeat (first | (with_reducible first | exact HB.out | apply ba_ | apply pd_ | apply d1_) | exact HB.out)⟩⟩
  ·rw [if_neg c9] at H
   have c9b0 : (t186 != t187) = false := by simpa using c9
   (try (have c9b1 : decide (t186 = t187) = true := by simpa using c9))
   (try (have c9b2 : (t186 == t187) = true := by simpa using c9))
   clear c9
   (first | rw [c9b0] | (simp only [i64_w, i32_w]; rw [c9b0]) | skip)
   by_cases c10 : t186 = true
   ·subst c10
    have H1 : (neumelaw05_GlyphNames.j0 k a0 a1 (t185 != a0)) = some r := by rw [if_pos rfl] at H; exact H
    clear H; have H := H1; clear H1
    have H' := sd_ H
    clear H
    go_wp2_with (first | ((with_reducible refine gate_callee (f := 9) rfl ?_); refine goesL_ (some 15) rfl rfl Tryd.func9 (by kernel_rfl) rfl #[.int .i64 a0] rfl (by (try simp only [lm_, lq_, lx_]); first | done | rfl | (simp only [ld_, lt_]; rfl)) ?_; (with_reducible refine (glyph_Known.calls a0 t187 _ A8.out).mono ?_); rintro e w' ⟨rfl, ⟨nd, rfl⟩⟩; refine ⟨_, rfl, ?_⟩))
    go_meet
    case rel => exact ⟨_, ((t185 != a0)), (by first | rfl | (simp; done) | (simp [*]; done) | (simp [bne]; done)), H', ⟨by first | omega | exact Nat.le_refl _⟩, ⟨by repeat (first | (with_reducible first | exact HB.out | apply ba_ | apply pd_ | apply d1_) | exact HB.out)⟩⟩
   ·replace c10 := bf_ c10
    subst c10
    have H1 : (neumelaw05_GlyphNames.j0 k a0 a1 false) = some r := by rw [if_neg (show ¬ (false = true) by decide)] at H; exact H
    clear H; have H := H1; clear H1
    have H' := sd_ H
    clear H
    go_wp2_with (first | ((with_reducible refine gate_callee (f := 9) rfl ?_); refine goesL_ (some 15) rfl rfl Tryd.func9 (by kernel_rfl) rfl #[.int .i64 a0] rfl (by (try simp only [lm_, lq_, lx_]); first | done | rfl | (simp only [ld_, lt_]; rfl)) ?_; (with_reducible refine (glyph_Known.calls a0 t187 _ A8.out).mono ?_); rintro e w' ⟨rfl, ⟨nd, rfl⟩⟩; refine ⟨_, rfl, ?_⟩))
    go_meet
    case rel => exact ⟨_, (false), (by first | rfl | (simp; done) | (simp [*]; done) | (simp [bne]; done)), H', ⟨by first | omega | exact Nat.le_refl _⟩, ⟨by repeat (first | (with_reducible first | exact HB.out | apply ba_ | apply pd_ | apply d1_) | exact HB.out)⟩⟩
 case rest =>
  clear HC5
  try clear c1; try clear p2; try clear c3; try clear c7; try clear c8; try clear c9; try clear c9b0; try clear c9b1; try clear c9b2; try clear c10
  obtain ⟨kq, x24_4, rfl, HA, HJ4, HB⟩ := hcut
  cases kq with
  | zero => exact absurd HA.out (by simp [neumelaw05_GlyphNames.j0])
  | succ kj4 =>
   have H := HA.out
   clear HA
   simp only [neumelaw05_GlyphNames.j0] at H
   by_cases c11 : x24_4 = true
   ·subst c11
    have H1 : (some false) = some r := by rw [if_pos rfl] at H; exact H
    clear H; have H := H1; clear H1
    exact absurd ((Option.some.inj H).trans hxt.out) (by decide)
   ·replace c11 := bf_ c11
    subst c11
    have H1 : ((glyph_Known.f a0).bind fun t188 => (if t188 = true then ((glyph_Known.f a1).bind fun t189 => (if t189 = true then ((glyph_Name.f a0).bind fun t190 => ((glyph_Name.f a1).bind fun t191 => (if ((t190.toList == t191.toList) == (a0 == a1)) = true then ((neumelaw05_heads.f kj4).bind fun t192 => (some t192)) else (some false)))) else ((neumelaw05_heads.f kj4).bind fun t193 => (some t193)))) else ((neumelaw05_heads.f kj4).bind fun t194 => (some t194)))) = some r := by rw [if_neg (show ¬ (false = true) by decide)] at H; exact H
    clear H; have H := H1; clear H1
    replace H := ob_ H
    obtain ⟨t188, A120, H⟩ := H
    replace H : (if t188 = true then ((glyph_Known.f a1).bind fun t189 => (if t189 = true then ((glyph_Name.f a0).bind fun t190 => ((glyph_Name.f a1).bind fun t191 => (if ((t190.toList == t191.toList) == (a0 == a1)) = true then ((neumelaw05_heads.f kj4).bind fun t192 => (some t192)) else (some false)))) else ((neumelaw05_heads.f kj4).bind fun t193 => (some t193)))) else ((neumelaw05_heads.f kj4).bind fun t194 => (some t194))) = some r := H
    have A12 := sd_ A120
    clear A120
    by_cases c13 : t188 = true
    ·subst c13
     have H1 : ((glyph_Known.f a1).bind fun t189 => (if t189 = true then ((glyph_Name.f a0).bind fun t190 => ((glyph_Name.f a1).bind fun t191 => (if ((t190.toList == t191.toList) == (a0 == a1)) = true then ((neumelaw05_heads.f kj4).bind fun t192 => (some t192)) else (some false)))) else ((neumelaw05_heads.f kj4).bind fun t193 => (some t193)))) = some r := by rw [if_pos rfl] at H; exact H
     clear H; have H := H1; clear H1
     replace H := ob_ H
     obtain ⟨t189, A140, H⟩ := H
     replace H : (if t189 = true then ((glyph_Name.f a0).bind fun t190 => ((glyph_Name.f a1).bind fun t191 => (if ((t190.toList == t191.toList) == (a0 == a1)) = true then ((neumelaw05_heads.f kj4).bind fun t192 => (some t192)) else (some false)))) else ((neumelaw05_heads.f kj4).bind fun t193 => (some t193))) = some r := H
     have A14 := sd_ A140
     clear A140
     by_cases c15 : t189 = true
     ·subst c15
      have H1 : ((glyph_Name.f a0).bind fun t190 => ((glyph_Name.f a1).bind fun t191 => (if ((t190.toList == t191.toList) == (a0 == a1)) = true then ((neumelaw05_heads.f kj4).bind fun t192 => (some t192)) else (some false)))) = some r := by rw [if_pos rfl] at H; exact H
      clear H; have H := H1; clear H1
      replace H := ob_ H
      obtain ⟨t190, A160, H⟩ := H
      replace H : ((glyph_Name.f a1).bind fun t191 => (if ((t190.toList == t191.toList) == (a0 == a1)) = true then ((neumelaw05_heads.f kj4).bind fun t192 => (some t192)) else (some false))) = some r := H
      have A16 := sd_ A160
      clear A160
      replace H := ob_ H
      obtain ⟨t191, A170, H⟩ := H
      replace H : (if ((t190.toList == t191.toList) == (a0 == a1)) = true then ((neumelaw05_heads.f kj4).bind fun t192 => (some t192)) else (some false)) = some r := H
      have A17 := sd_ A170
      clear A170
      by_cases c18 : ((t190.toList == t191.toList) == (a0 == a1)) = true
      ·rw [if_pos c18] at H
       have c18b0 : ((t190.toList == t191.toList) == (a0 == a1)) = true := c18
       (try (have c18b1 : decide ((t190.toList == t191.toList) = (a0 == a1)) = true := by simpa using c18))
       (try (have c18b2 : ((t190.toList == t191.toList) == (a0 == a1)) = true := by simpa using c18))
       clear c18
       replace H := ob_ H
       obtain ⟨t192, A190, H⟩ := H
       replace H : (some t192) = some r := H
       have A19 := sd_ A190
       clear A190
       obtain rfl := Option.some.inj H
       go_wp2_with (first | ((with_reducible refine gate_callee (f := 9) rfl ?_); refine goesL_ (some 26) rfl rfl Tryd.func9 (by kernel_rfl) rfl #[.int .i64 a0] rfl (by (try simp only [lm_, lq_, lx_]); first | done | rfl | (simp only [ld_, lt_]; rfl)) ?_; (with_reducible refine (glyph_Known.calls a0 true _ A12.out).mono ?_); rintro e w' ⟨rfl, ⟨nd, rfl⟩⟩; refine ⟨_, rfl, ?_⟩) | (go_at_call 9; (with_reducible refine (glyph_Known.calls a1 true _ A14.out).mono ?_); rintro e w' ⟨rfl, ⟨nd, rfl⟩⟩) | (go_at_call 8; (with_reducible refine (glyph_Name.calls a0 t190 _ ?side1 A16.out).mono ?_); (case side1 => first | (with_reducible exact hE) | exact sd_ (LaidE.below hE.out (bb_ HB.out e0_))); rintro e w20 ⟨rfl, hb⟩; replace HB := hb_ HB e0_ hb; (try clear hb); (try clear hb2); (try clear hk); (try clear hi)) | (go_at_call 8; (with_reducible refine (glyph_Name.calls a1 t191 _ ?side1 A17.out).mono ?_); (case side1 => first | (with_reducible exact hE) | exact sd_ (LaidE.below hE.out (bb_ HB.out e0_))); rintro e w21 ⟨rfl, hb⟩; replace HB := hb_ HB e0_ hb; (try clear hb); (try clear hb2); (try clear hk); (try clear hi)) | (go_at_call 10; (with_reducible refine (neumelaw05_heads.calls kj4  t192 _ ?side1 A19.out).mono ?_); (case side1 => first | (with_reducible exact hE) | exact sd_ (LaidE.below hE.out (bb_ HB.out e0_))); rintro e w22 ⟨rfl, hb⟩; replace HB := hb_ HB e0_ hb; (try clear hb); (try clear hb2); (try clear hk); (try clear hi)))
       go_ret
       exact ⟨by first | rfl | (simp [errW_none, errW_some] <;> rfl) | (simp [*, errW_none, errW_some] <;> rfl), by repeat (first | (with_reducible first | exact HB.out | apply ba_ | apply pd_ | apply d1_) | exact HB.out)⟩
      ·rw [if_neg c18] at H
       have c18b0 : ((t190.toList == t191.toList) == (a0 == a1)) = false := by simpa using c18
       (try (have c18b1 : decide ((t190.toList == t191.toList) = (a0 == a1)) = false := by simpa using c18))
       (try (have c18b2 : ((t190.toList == t191.toList) == (a0 == a1)) = false := by simpa using c18))
       (try (have c18b3 : ¬ ((t190.toList == t191.toList) = (a0 == a1)) := by simpa using c18))
       clear c18
       exact absurd ((Option.some.inj H).trans hxt.out) (by decide)
     ·replace c15 := bf_ c15
      subst c15
      have H1 : ((neumelaw05_heads.f kj4).bind fun t193 => (some t193)) = some r := by rw [if_neg (show ¬ (false = true) by decide)] at H; exact H
      clear H; have H := H1; clear H1
      replace H := ob_ H
      obtain ⟨t193, A230, H⟩ := H
      replace H : (some t193) = some r := H
      have A23 := sd_ A230
      clear A230
      obtain rfl := Option.some.inj H
      go_wp2_with (first | ((with_reducible refine gate_callee (f := 9) rfl ?_); refine goesL_ (some 26) rfl rfl Tryd.func9 (by kernel_rfl) rfl #[.int .i64 a0] rfl (by (try simp only [lm_, lq_, lx_]); first | done | rfl | (simp only [ld_, lt_]; rfl)) ?_; (with_reducible refine (glyph_Known.calls a0 true _ A12.out).mono ?_); rintro e w' ⟨rfl, ⟨nd, rfl⟩⟩; refine ⟨_, rfl, ?_⟩) | (go_at_call 9; (with_reducible refine (glyph_Known.calls a1 false _ A14.out).mono ?_); rintro e w' ⟨rfl, ⟨nd, rfl⟩⟩) | (go_at_call 10; (with_reducible refine (neumelaw05_heads.calls kj4  t193 _ ?side1 A23.out).mono ?_); (case side1 => first | (with_reducible exact hE) | exact sd_ (LaidE.below hE.out (bb_ HB.out e0_))); rintro e w24 ⟨rfl, hb⟩; replace HB := hb_ HB e0_ hb; (try clear hb); (try clear hb2); (try clear hk); (try clear hi)))
      go_ret
      exact ⟨by first | rfl | (simp [errW_none, errW_some] <;> rfl) | (simp [*, errW_none, errW_some] <;> rfl), by repeat (first | (with_reducible first | exact HB.out | apply ba_ | apply pd_ | apply d1_) | exact HB.out)⟩
    ·replace c13 := bf_ c13
     subst c13
     have H1 : ((neumelaw05_heads.f kj4).bind fun t194 => (some t194)) = some r := by rw [if_neg (show ¬ (false = true) by decide)] at H; exact H
     clear H; have H := H1; clear H1
     replace H := ob_ H
     obtain ⟨t194, A250, H⟩ := H
     replace H : (some t194) = some r := H
     have A25 := sd_ A250
     clear A250
     obtain rfl := Option.some.inj H
     go_wp2_with (first | ((with_reducible refine gate_callee (f := 9) rfl ?_); refine goesL_ (some 26) rfl rfl Tryd.func9 (by kernel_rfl) rfl #[.int .i64 a0] rfl (by (try simp only [lm_, lq_, lx_]); first | done | rfl | (simp only [ld_, lt_]; rfl)) ?_; (with_reducible refine (glyph_Known.calls a0 false _ A12.out).mono ?_); rintro e w' ⟨rfl, ⟨nd, rfl⟩⟩; refine ⟨_, rfl, ?_⟩) | (go_at_call 10; (with_reducible refine (neumelaw05_heads.calls kj4  t194 _ ?side1 A25.out).mono ?_); (case side1 => first | (with_reducible exact hE) | exact sd_ (LaidE.below hE.out (bb_ HB.out e0_))); rintro e w26 ⟨rfl, hb⟩; replace HB := hb_ HB e0_ hb; (try clear hb); (try clear hb2); (try clear hk); (try clear hi)))
     go_ret
     exact ⟨by first | rfl | (simp [errW_none, errW_some] <;> rfl) | (simp [*, errW_none, errW_some] <;> rfl), by repeat (first | (with_reducible first | exact HB.out | apply ba_ | apply pd_ | apply d1_) | exact HB.out)⟩

end Go.Proofs.YtbinlfichkdhlaaDoor.P
