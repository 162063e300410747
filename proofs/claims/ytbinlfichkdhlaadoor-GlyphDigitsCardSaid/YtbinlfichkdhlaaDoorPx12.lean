-- Written by a program of this session (wip/tools/xprint.py, over the kit's print): Lean checks it.
import Derived.Test.YtbinlfichkdhlaaDoorPx0
import Derived.Test.YtbinlfichkdhlaaDoorPx3
import Derived.Test.YtbinlfichkdhlaaDoorPx7
import Derived.Test.YtbinlfichkdhlaaDoorPx8
namespace Go.Proofs.YtbinlfichkdhlaaDoor.P
open Go.RowKit Go.Proofs.YtbinlfichkdhlaaDoorW.PrintWords Go.Proofs.YtbinlfichkdhlaaDoorW.PrintLast Go.Proofs.YtbinlfichkdhlaaDoorW.PrintMore
attribute [local go_sem] max2_int min2_int max_two min_two max_three min_three max_four min_four   -- for this text's walks alone
set_option linter.unusedVariables false
set_option linter.unusedSimpArgs false

/-! ### neumelaw05_GlyphDigits: function 6 -/
def neumelaw05_GlyphDigits.l0 : Nat → Int → List Int → Int → Int → Option (Bool)
 | 0, _, _, _, _ => none
 | k + 1, x0, x3, x5, x6 => if x6 < (x3.length : Int) then (if 0 ≤ x6 then (if (rd x3 x6) < 30 then (some false) else (if (rd x3 x6) > 39 then (some false) else (if x6 > 5 then (some false) else (neumelaw05_GlyphDigits.l0 k x0 x3 (wrap64 ((wrap64 (10 * x5)) + (wrap64 ((rd x3 x6) - 30)))) (wrap64 (x6 + 1)))))) else (none)) else (if x5 = x0 then (if (x3.length : Int) > 0 then (if (x3.length : Int) = 1 then ((neumelaw05_heads.f k).bind fun t226 => (some t226)) else (if 0 < (x3.length : Int) then (if (rd x3 0) = 30 then (some false) else ((neumelaw05_heads.f k).bind fun t228 => (some t228))) else (none))) else (some false)) else (some false))
def neumelaw05_GlyphDigits.f (k : Nat) (a0 : Int) : Option (Bool) := (glyph_Digits.f k a0).bind fun bt217 => (if bt217.2 = 0 then (neumelaw05_GlyphDigits.l0 k a0 bt217.1 0 0) else (if a0 < 0 then (if (bt217.1.length : Int) = 0 then ((neumelaw05_heads.f k).bind fun t221 => (some t221)) else (some false)) else (if a0 > 999999 then (if (bt217.1.length : Int) = 0 then ((neumelaw05_heads.f k).bind fun t222 => (some t222)) else (some false)) else (some false))))
theorem neumelaw05_GlyphDigits.mono_l : ∀ k, (∀ y0 y1 y2 y3, LeO (neumelaw05_GlyphDigits.l0 k y0 y1 y2 y3) (neumelaw05_GlyphDigits.l0 (k + 1) y0 y1 y2 y3))
 | 0 => fun _ _ _ _ r h => by simp [neumelaw05_GlyphDigits.l0] at h
 | k + 1 => by
  have ih0 := neumelaw05_GlyphDigits.mono_l k
  ·intro y0 y1 y2 y3
   unfold neumelaw05_GlyphDigits.l0
   repeat' first
   | (with_reducible exact ih0 _ _ _ _)
   | (with_reducible exact glyph_Digits.mono _ _)
   | (with_reducible exact neumelaw05_heads.mono _)
   | (with_reducible exact LeO.refl _)
   | (with_reducible exact LeO.none _)
   | (with_reducible refine LeO.ite ?_ ?_)
   | (with_reducible refine LeO.bind ?_ (fun _ => ?_))
   | exact ih0 _ _ _ _
   | exact glyph_Digits.mono _ _
   | exact neumelaw05_heads.mono _
   | exact LeO.none _
   | refine LeO.ite ?_ ?_
   | refine LeO.bind ?_ (fun _ => ?_)
theorem neumelaw05_GlyphDigits.mono : ∀ a0 k, LeO (neumelaw05_GlyphDigits.f k a0) (neumelaw05_GlyphDigits.f (k + 1) a0) := by
 intro a0 k
 have ih0 := neumelaw05_GlyphDigits.mono_l k
 unfold neumelaw05_GlyphDigits.f
 repeat' first
   | (with_reducible exact ih0 _ _ _ _)
   | (with_reducible exact glyph_Digits.mono _ _)
   | (with_reducible exact neumelaw05_heads.mono _)
   | (with_reducible exact LeO.refl _)
   | (with_reducible exact LeO.none _)
   | (with_reducible refine LeO.ite ?_ ?_)
   | (with_reducible refine LeO.bind ?_ (fun _ => ?_))
   | exact ih0 _ _ _ _
   | exact glyph_Digits.mono _ _
   | exact neumelaw05_heads.mono _
   | exact LeO.none _
   | refine LeO.ite ?_ ?_
   | refine LeO.bind ?_ (fun _ => ?_)
set_option maxHeartbeats 8000000 in
set_option maxRecDepth 100000 in
theorem neumelaw05_GlyphDigits.calls (k : Nat) (a0 : Int) (r : Bool) (w : World) (hE : Aside0 (LaidE w)) (hxt : Aside0 (r = true)) (h : neumelaw05_GlyphDigits.f k a0 = some r) :
  Calls Tryd.prog 6 #[.int .i64 a0] w fun e w' => e = .returned (.bool r) ∧ Below w.heap.size w w' := by
 have HB := sd_ (Below.refl w.heap.size w)
 have H : ((glyph_Digits.f k a0).bind fun bt217 => (if bt217.2 = 0 then (neumelaw05_GlyphDigits.l0 k a0 bt217.1 0 0) else (if a0 < 0 then (if (bt217.1.length : Int) = 0 then ((neumelaw05_heads.f k).bind fun t221 => (some t221)) else (some false)) else (if a0 > 999999 then (if (bt217.1.length : Int) = 0 then ((neumelaw05_heads.f k).bind fun t222 => (some t222)) else (some false)) else (some false))))) = some r := h
 clear h
 replace H := ob_ H
 obtain ⟨⟨t217, t218⟩, A20, H⟩ := H
 replace H : (if t218 = 0 then (neumelaw05_GlyphDigits.l0 k a0 t217 0 0) else (if a0 < 0 then (if (t217.length : Int) = 0 then ((neumelaw05_heads.f k).bind fun t221 => (some t221)) else (some false)) else (if a0 > 999999 then (if (t217.length : Int) = 0 then ((neumelaw05_heads.f k).bind fun t222 => (some t222)) else (some false)) else (some false)))) = some r := H
 have A2 := sd_ A20
 clear A20
 by_cases c3 : t218 = 0
 ·rw [if_pos c3] at H
  have c3b0 : (t218 == 0) = true := beq_iff_eq.mpr c3
  have c3b1 : (t218 != 0) = false := bne_eq_false_iff_eq.mpr c3
  clear c3
  have H' := sd_ H
  clear H
  go_enter Tryd.func6, Tryd.ntmps6
  go_wp2_with (first | ((with_reducible refine gate_callee (f := 13) rfl ?_); refine goesL_ (some 9) rfl rfl Tryd.func13 (by kernel_rfl) rfl #[.int .i64 a0] rfl (by (try simp only [lm_, lq_, lx_]); first | done | rfl | (simp only [ld_, lt_]; rfl)) ?_; (with_reducible refine (glyph_Digits.calls k a0 t217 t218 _ A2.out).mono ?_); rintro e w4 ⟨v219, rfl, ho0, hb⟩; refine ⟨_, rfl, ?_⟩; have HO220 := sd_ (Kd.R_lower ho0 (bz_ (bb_ HB.out e0_))); replace HB := hb_ HB e0_ hb; (try clear hb); (try clear hb2); (try clear hk); (try clear hi); (try clear ho0)))
  go_loopg [5, 6] k (fun kq v5 v6 w' => ∃ (x5_1 : Int) (x6_1 : Int), v5 = .int .i64 x5_1 ∧ v6 = .int .i64 x6_1 ∧ Aside0 (neumelaw05_GlyphDigits.l0 kq a0 t217 x5_1 x6_1 = some r) ∧ Aside0 (kq ≤ k) ∧ Aside0 (Kd.R (Kd.int .i64) 22 w' w.heap.size (fun _ => True) v219 t217) ∧ Aside0 (Below w.heap.size w w'))
  case atStart => exact ⟨(0), (0), (by first | rfl | (simp; done) | (simp [*]; done) | (simp [bne]; done)), (by first | rfl | (simp; done) | (simp [*]; done) | (simp [bne]; done)), H', ⟨Nat.le_refl _⟩, ⟨by (with_reducible repeat (first | apply Kd.R_alloc | apply Kd.R_drewN | apply Kd.R_drew)); exact HO220.out⟩, ⟨by repeat (first | (with_reducible first | exact HB.out | apply ba_ | apply pd_ | apply d1_) | exact HB.out)⟩⟩
  case round =>
   clear H'
   try clear c1; try clear p2; try clear c3; try clear c3b0; try clear c3b1
   obtain ⟨x5_1, x6_1, rfl, rfl, HA, HK1, HO_3, HB⟩ := hrel
   cases gk with
   | zero => exact absurd HA.out (by simp [neumelaw05_GlyphDigits.l0])
   | succ k1 =>
    have H := HA.out
    clear HA
    simp only [neumelaw05_GlyphDigits.l0] at H
    by_cases c5 : x6_1 < (t217.length : Int)
    ·rw [if_pos c5] at H
     have c5b0 : decide (x6_1 < (t217.length : Int)) = true := dt_ c5
     clear c5
     by_cases c6 : 0 ≤ x6_1
     ·rw [if_pos c6] at H
      have c6b0 : decide (0 ≤ x6_1) = true := dt_ c6
      clear c6
      by_cases c7 : (rd t217 x6_1) < 30
      ·rw [if_pos c7] at H
       have c7b0 : decide ((rd t217 x6_1) < 30) = true := dt_ c7
       clear c7
       exact absurd ((Option.some.inj H).trans hxt.out) (by decide)
      ·rw [if_neg c7] at H
       have c7b0 : decide ((rd t217 x6_1) < 30) = false := df_ c7
       clear c7
       by_cases c8 : (rd t217 x6_1) > 39
       ·rw [if_pos c8] at H
        have c8b0 : decide (39 < (rd t217 x6_1)) = true := dt_ c8
        clear c8
        exact absurd ((Option.some.inj H).trans hxt.out) (by decide)
       ·rw [if_neg c8] at H
        have c8b0 : decide (39 < (rd t217 x6_1)) = false := df_ c8
        clear c8
        by_cases c9 : x6_1 > 5
        ·rw [if_pos c9] at H
         have c9b0 : decide (5 < x6_1) = true := dt_ c9
         clear c9
         exact absurd ((Option.some.inj H).trans hxt.out) (by decide)
        ·rw [if_neg c9] at H
         have c9b0 : decide (5 < x6_1) = false := df_ c9
         clear c9
         have H' := sd_ H
         clear H
         obtain ⟨Ao10, co10, eo10⟩ := Kd.R_slice HO_3.out
         subst eo10
         have p223 : 0 ≤ (x6_1 : Int) := od_ (by first | (with_reducible assumption) | assumption)
         have q223 : x6_1 < (t217.length : Int) := od_ (by first | (with_reducible assumption) | assumption)
         obtain ⟨ad223, e223, hx223_0⟩ := Kd.at_int (Kd.R_reads' HO_3.out).2.2 x6_1 p223 q223
         cases e223
         replace p223 := eq_true p223
         replace q223 := eq_true q223
         have p224 : 0 ≤ (x6_1 : Int) := od_ (by first | (with_reducible assumption) | assumption)
         have q224 : x6_1 < (t217.length : Int) := od_ (by first | (with_reducible assumption) | assumption)
         obtain ⟨ad224, e224, hx224_0⟩ := Kd.at_int (Kd.R_reads' HO_3.out).2.2 x6_1 p224 q224
         obtain rfl : ad223 = ad224 := (by injection e224)
         replace p224 := eq_true p224
         replace q224 := eq_true q224
         have p225 : 0 ≤ (x6_1 : Int) := od_ (by first | (with_reducible assumption) | assumption)
         have q225 : x6_1 < (t217.length : Int) := od_ (by first | (with_reducible assumption) | assumption)
         obtain ⟨ad225, e225, hx225_0⟩ := Kd.at_int (Kd.R_reads' HO_3.out).2.2 x6_1 p225 q225
         obtain rfl : ad223 = ad225 := (by injection e225)
         replace p225 := eq_true p225
         replace q225 := eq_true q225
         go_wp2
         go_roundg k1
         case measure => have := HK1.out; omega
         case rel => exact ⟨(wrap64 ((wrap64 (10 * x5_1)) + (wrap64 ((rd t217 x6_1) - 30)))), (wrap64 (x6_1 + 1)), (by first | rfl | (simp; done) | (simp [*]; done) | (simp [bne]; done)), (by first | rfl | (simp; done) | (simp [*]; done) | (simp [bne]; done)), H', ⟨by have := HK1.out; omega⟩, ⟨by (with_reducible repeat (first | apply Kd.R_alloc | apply Kd.R_drewN | apply Kd.R_drew)); exact HO_3.out⟩, ⟨by repeat (first | (with_reducible first | exact HB.out | apply ba_ | apply pd_ | apply d1_) | exact HB.out)⟩⟩
     ·rw [if_neg c6] at H
      exact absurd H (by simp)
    ·rw [if_neg c5] at H
     have c5b0 : decide (x6_1 < (t217.length : Int)) = false := df_ c5
     clear c5
     by_cases c11 : x5_1 = a0
     ·rw [if_pos c11] at H
      have c11b0 : (x5_1 == a0) = true := beq_iff_eq.mpr c11
      have c11b1 : (x5_1 != a0) = false := bne_eq_false_iff_eq.mpr c11
      clear c11
      by_cases c12 : (t217.length : Int) > 0
      ·rw [if_pos c12] at H
       have c12b0 : decide (0 < (t217.length : Int)) = true := dt_ c12
       have c12b1 : decide (0 < t217.length) = true := dt_ (by omega)
       clear c12
       by_cases c13 : (t217.length : Int) = 1
       ·rw [if_pos c13] at H
        have c13b0 : ((t217.length : Int) == 1) = true := beq_iff_eq.mpr c13
        have c13b1 : ((t217.length : Int) != 1) = false := bne_eq_false_iff_eq.mpr c13
        clear c13
        replace H := ob_ H
        obtain ⟨t226, A140, H⟩ := H
        replace H : (some t226) = some r := H
        have A14 := sd_ A140
        clear A140
        obtain rfl := Option.some.inj H
        obtain ⟨Ao15, co15, eo15⟩ := Kd.R_slice HO_3.out
        subst eo15
        go_wp2_with (first | (go_at_call 10; (with_reducible refine (neumelaw05_heads.calls k1  t226 _ ?side1 A14.out).mono ?_); (case side1 => first | (with_reducible exact hE) | exact sd_ (LaidE.below hE.out (bb_ HB.out e0_))); rintro e w16 ⟨rfl, hb⟩; replace HO_3 := sd_ (Kd.R_below (by (with_reducible repeat (first | apply Kd.R_alloc | apply Kd.R_drewN | apply Kd.R_drew)); exact HO_3.out) hb); replace HB := hb_ HB e0_ hb; (try clear hb); (try clear hb2); (try clear hk); (try clear hi)))
        go_ret
        exact ⟨by first | rfl | (simp [errW_none, errW_some] <;> rfl) | (simp [*, errW_none, errW_some] <;> rfl), by repeat (first | (with_reducible first | exact HB.out | apply ba_ | apply pd_ | apply d1_) | exact HB.out)⟩
       ·rw [if_neg c13] at H
        have c13b0 : ((t217.length : Int) == 1) = false := beq_eq_false_iff_ne.mpr c13
        have c13b1 : ((t217.length : Int) != 1) = true := bne_iff_ne.mpr c13
        by_cases c17 : 0 < (t217.length : Int)
        ·rw [if_pos c17] at H
         have c17b0 : decide (0 < (t217.length : Int)) = true := dt_ c17
         have c17b1 : decide (0 < t217.length) = true := dt_ (by omega)
         clear c17
         by_cases c18 : (rd t217 0) = 30
         ·rw [if_pos c18] at H
          have c18b0 : ((rd t217 0) == 30) = true := beq_iff_eq.mpr c18
          have c18b1 : ((rd t217 0) != 30) = false := bne_eq_false_iff_eq.mpr c18
          clear c18
          exact absurd ((Option.some.inj H).trans hxt.out) (by decide)
         ·rw [if_neg c18] at H
          have c18b0 : ((rd t217 0) == 30) = false := beq_eq_false_iff_ne.mpr c18
          have c18b1 : ((rd t217 0) != 30) = true := bne_iff_ne.mpr c18
          replace H := ob_ H
          obtain ⟨t228, A190, H⟩ := H
          replace H : (some t228) = some r := H
          have A19 := sd_ A190
          clear A190
          obtain rfl := Option.some.inj H
          obtain ⟨Ao20, co20, eo20⟩ := Kd.R_slice HO_3.out
          subst eo20
          have p227 : 0 ≤ (0 : Int) := (by omega)
          have q227 : 0 < (t217.length : Int) := od_ (by first | (with_reducible assumption) | assumption)
          obtain ⟨ad227, e227, hx227_0⟩ := Kd.at_int (Kd.R_reads' HO_3.out).2.2 0 p227 q227
          cases e227
          have qi227 : (0 < t217.length) = True := eq_true (by omega)
          (try rw [show ((0 : Int)).toNat = 0 from rfl] at hx227_0)
          (try rw [Addr.add_zero'] at hx227_0)
          replace p227 := eq_true p227
          replace q227 := eq_true q227
          go_wp2_with (first | (go_at_call 10; (with_reducible refine (neumelaw05_heads.calls k1  t228 _ ?side1 A19.out).mono ?_); (case side1 => first | (with_reducible exact hE) | exact sd_ (LaidE.below hE.out (bb_ HB.out e0_))); rintro e w21 ⟨rfl, hb⟩; replace HO_3 := sd_ (Kd.R_below (by (with_reducible repeat (first | apply Kd.R_alloc | apply Kd.R_drewN | apply Kd.R_drew)); exact HO_3.out) hb); replace HB := hb_ HB e0_ hb; (try clear hb); (try clear hb2); (try clear hk); (try clear hi)))
          go_ret
          exact ⟨by first | rfl | (simp [errW_none, errW_some] <;> rfl) | (simp [*, errW_none, errW_some] <;> rfl), by repeat (first | (with_reducible first | exact HB.out | apply ba_ | apply pd_ | apply d1_) | exact HB.out)⟩
        ·rw [if_neg c17] at H
         exact absurd H (by simp)
      ·rw [if_neg c12] at H
       have c12b0 : decide (0 < (t217.length : Int)) = false := df_ c12
       have c12b1 : decide (0 < t217.length) = false := df_ (by omega)
       clear c12
       exact absurd ((Option.some.inj H).trans hxt.out) (by decide)
     ·rw [if_neg c11] at H
      have c11b0 : (x5_1 == a0) = false := beq_eq_false_iff_ne.mpr c11
      have c11b1 : (x5_1 != a0) = true := bne_iff_ne.mpr c11
      exact absurd ((Option.some.inj H).trans hxt.out) (by decide)
 ·rw [if_neg c3] at H
  have c3b0 : (t218 == 0) = false := beq_eq_false_iff_ne.mpr c3
  have c3b1 : (t218 != 0) = true := bne_iff_ne.mpr c3
  by_cases c22 : a0 < 0
  ·rw [if_pos c22] at H
   have c22b0 : decide (a0 < 0) = true := dt_ c22
   clear c22
   by_cases c23 : (t217.length : Int) = 0
   ·rw [if_pos c23] at H
    have c23b0 : ((t217.length : Int) == 0) = true := beq_iff_eq.mpr c23
    have c23b1 : ((t217.length : Int) != 0) = false := bne_eq_false_iff_eq.mpr c23
    clear c23
    replace H := ob_ H
    obtain ⟨t221, A240, H⟩ := H
    replace H : (some t221) = some r := H
    have A24 := sd_ A240
    clear A240
    obtain rfl := Option.some.inj H
    go_enter Tryd.func6, Tryd.ntmps6
    go_wp2_with (first | ((with_reducible refine gate_callee (f := 13) rfl ?_); refine goesL_ (some 9) rfl rfl Tryd.func13 (by kernel_rfl) rfl #[.int .i64 a0] rfl (by (try simp only [lm_, lq_, lx_]); first | done | rfl | (simp only [ld_, lt_]; rfl)) ?_; (with_reducible refine (glyph_Digits.calls k a0 t217 t218 _ A2.out).mono ?_); rintro e w25 ⟨v219, rfl, ho0, hb⟩; refine ⟨_, rfl, ?_⟩; have HO220 := sd_ (Kd.R_lower ho0 (bz_ (bb_ HB.out e0_))); replace HB := hb_ HB e0_ hb; (try clear hb); (try clear hb2); (try clear hk); (try clear hi); (try clear ho0); obtain ⟨Ao26, co26, eo26⟩ := Kd.R_slice HO220.out; subst eo26) | (go_at_call 10; (with_reducible refine (neumelaw05_heads.calls k  t221 _ ?side1 A24.out).mono ?_); (case side1 => first | (with_reducible exact hE) | exact sd_ (LaidE.below hE.out (bb_ HB.out e0_))); rintro e w27 ⟨rfl, hb⟩; replace HO220 := sd_ (Kd.R_below (by (with_reducible repeat (first | apply Kd.R_alloc | apply Kd.R_drewN | apply Kd.R_drew)); exact HO220.out) hb); replace HB := hb_ HB e0_ hb; (try clear hb); (try clear hb2); (try clear hk); (try clear hi)))
    go_ret
    exact ⟨by first | rfl | (simp [errW_none, errW_some] <;> rfl) | (simp [*, errW_none, errW_some] <;> rfl), by repeat (first | (with_reducible first | exact HB.out | apply ba_ | apply pd_ | apply d1_) | exact HB.out)⟩
   ·rw [if_neg c23] at H
    have c23b0 : ((t217.length : Int) == 0) = false := beq_eq_false_iff_ne.mpr c23
    have c23b1 : ((t217.length : Int) != 0) = true := bne_iff_ne.mpr c23
    have c23b2 : ¬ (t217 = []) := fun h_ => c23 (by rw [h_]; rfl)
    exact absurd ((Option.some.inj H).trans hxt.out) (by decide)
  ·rw [if_neg c22] at H
   have c22b0 : decide (a0 < 0) = false := df_ c22
   clear c22
   by_cases c28 : a0 > 999999
   ·rw [if_pos c28] at H
    have c28b0 : decide (999999 < a0) = true := dt_ c28
    clear c28
    by_cases c29 : (t217.length : Int) = 0
    ·rw [if_pos c29] at H
     have c29b0 : ((t217.length : Int) == 0) = true := beq_iff_eq.mpr c29
     have c29b1 : ((t217.length : Int) != 0) = false := bne_eq_false_iff_eq.mpr c29
     clear c29
     replace H := ob_ H
     obtain ⟨t222, A300, H⟩ := H
     replace H : (some t222) = some r := H
     have A30 := sd_ A300
     clear A300
     obtain rfl := Option.some.inj H
     go_enter Tryd.func6, Tryd.ntmps6
     go_wp2_with (first | ((with_reducible refine gate_callee (f := 13) rfl ?_); refine goesL_ (some 9) rfl rfl Tryd.func13 (by kernel_rfl) rfl #[.int .i64 a0] rfl (by (try simp only [lm_, lq_, lx_]); first | done | rfl | (simp only [ld_, lt_]; rfl)) ?_; (with_reducible refine (glyph_Digits.calls k a0 t217 t218 _ A2.out).mono ?_); rintro e w31 ⟨v219, rfl, ho0, hb⟩; refine ⟨_, rfl, ?_⟩; have HO220 := sd_ (Kd.R_lower ho0 (bz_ (bb_ HB.out e0_))); replace HB := hb_ HB e0_ hb; (try clear hb); (try clear hb2); (try clear hk); (try clear hi); (try clear ho0); obtain ⟨Ao32, co32, eo32⟩ := Kd.R_slice HO220.out; subst eo32) | (go_at_call 10; (with_reducible refine (neumelaw05_heads.calls k  t222 _ ?side1 A30.out).mono ?_); (case side1 => first | (with_reducible exact hE) | exact sd_ (LaidE.below hE.out (bb_ HB.out e0_))); rintro e w33 ⟨rfl, hb⟩; replace HO220 := sd_ (Kd.R_below (by (with_reducible repeat (first | apply Kd.R_alloc | apply Kd.R_drewN | apply Kd.R_drew)); exact HO220.out) hb); replace HB := hb_ HB e0_ hb; (try clear hb); (try clear hb2); (try clear hk); (try clear hi)))
     go_ret
     exact ⟨by first | rfl | (simp [errW_none, errW_some] <;> rfl) | (simp [*, errW_none, errW_some] <;> rfl), by repeat (first | (with_reducible first | exact HB.out | apply ba_ | apply pd_ | apply d1_) | exact HB.out)⟩
    ·rw [if_neg c29] at H
     have c29b0 : ((t217.length : Int) == 0) = false := beq_eq_false_iff_ne.mpr c29
     have c29b1 : ((t217.length : Int) != 0) = true := bne_iff_ne.mpr c29
     have c29b2 : ¬ (t217 = []) := fun h_ => c29 (by rw [h_]; rfl)
     exact absurd ((Option.some.inj H).trans hxt.out) (by decide)
   ·rw [if_neg c28] at H
    have c28b0 : decide (999999 < a0) = false := df_ c28
    clear c28
    exact absurd ((Option.some.inj H).trans hxt.out) (by decide)

end Go.Proofs.YtbinlfichkdhlaaDoor.P
