-- Written by a program of this session (wip/tools/xprint.py, over the kit's print): Lean checks it.
import Derived.Test.YtbmdbkjmleimmaaPx0
import Derived.Test.YtbmdbkjmleimmaaPx2
import Derived.Test.YtbmdbkjmleimmaaPx3
namespace Go.Proofs.Ytbmdbkjmleimmaa.P
open Go.RowKit Go.Proofs.YtbmdbkjmleimmaaW.PrintWords Go.Proofs.YtbmdbkjmleimmaaW.PrintLast Go.Proofs.YtbmdbkjmleimmaaW.PrintMore
attribute [local go_sem] max2_int min2_int max_two min_two max_three min_three max_four min_four   -- for this text's walks alone
set_option linter.unusedVariables false
set_option linter.unusedSimpArgs false

/-! ### neumelaw19_SlopeLayers: function 5 -/
def neumelaw19_SlopeLayers.j0 : Nat → Int → Bool → Int → Int → Bool → Option (Bool)
 | 0, _, _, _, _, _ => none
 | k + 1, x0, x1, x5, x6, x20 => if x20 = true then (if x5 = 0 then (if x6 = 0 then ((neumelaw19_heads.f k).bind fun t214 => (some t214)) else (some false)) else (some false)) else ((slope_Thick.f k (wrap64 (x0 + 1)) x1).bind fun bt215 => (if (wrap64 (x6 - x5)) = 512 then (if x1 = true then (if x6 > 0 then (some false) else (if x0 = 4 then ((neumelaw19_heads.f k).bind fun t217 => (some t217)) else (if bt215.2 = (wrap64 (x5 - 256)) then ((neumelaw19_heads.f k).bind fun t218 => (some t218)) else (some false)))) else (if x5 < 0 then (some false) else (if x0 = 4 then ((neumelaw19_heads.f k).bind fun t219 => (some t219)) else (if bt215.1 = (wrap64 (x6 + 256)) then ((neumelaw19_heads.f k).bind fun t220 => (some t220)) else (some false))))) else (some false)))
def neumelaw19_SlopeLayers.f (k : Nat) (a0 : Int) (a1 : Bool) : Option (Bool) := (slope_Thick.f k a0 a1).bind fun bt212 => (if a0 < 1 then (neumelaw19_SlopeLayers.j0 k a0 a1 bt212.1 bt212.2 true) else (neumelaw19_SlopeLayers.j0 k a0 a1 bt212.1 bt212.2 (decide (a0 > 4))))
theorem neumelaw19_SlopeLayers.mono_l : ∀ k, (∀ y0 y1 y2 y3 y4, LeO (neumelaw19_SlopeLayers.j0 k y0 y1 y2 y3 y4) (neumelaw19_SlopeLayers.j0 (k + 1) y0 y1 y2 y3 y4))
 | 0 => fun _ _ _ _ _ r h => by simp [neumelaw19_SlopeLayers.j0] at h
 | k + 1 => by
  have ih0 := neumelaw19_SlopeLayers.mono_l k
  ·intro y0 y1 y2 y3 y4
   unfold neumelaw19_SlopeLayers.j0
   repeat' first
   | (with_reducible exact ih0 _ _ _ _ _)
   | (with_reducible exact neumelaw19_heads.mono _)
   | (with_reducible exact slope_Thick.mono _ _ _)
   | (with_reducible exact LeO.refl _)
   | (with_reducible exact LeO.none _)
   | (with_reducible refine LeO.ite ?_ ?_)
   | (with_reducible refine LeO.bind ?_ (fun _ => ?_))
   | exact ih0 _ _ _ _ _
   | exact neumelaw19_heads.mono _
   | exact slope_Thick.mono _ _ _
   | exact LeO.none _
   | refine LeO.ite ?_ ?_
   | refine LeO.bind ?_ (fun _ => ?_)
theorem neumelaw19_SlopeLayers.mono : ∀ a0 a1 k, LeO (neumelaw19_SlopeLayers.f k a0 a1) (neumelaw19_SlopeLayers.f (k + 1) a0 a1) := by
 intro a0 a1 k
 have ih0 := neumelaw19_SlopeLayers.mono_l k
 unfold neumelaw19_SlopeLayers.f
 repeat' first
   | (with_reducible exact ih0 _ _ _ _ _)
   | (with_reducible exact neumelaw19_heads.mono _)
   | (with_reducible exact slope_Thick.mono _ _ _)
   | (with_reducible exact LeO.refl _)
   | (with_reducible exact LeO.none _)
   | (with_reducible refine LeO.ite ?_ ?_)
   | (with_reducible refine LeO.bind ?_ (fun _ => ?_))
   | exact ih0 _ _ _ _ _
   | exact neumelaw19_heads.mono _
   | exact slope_Thick.mono _ _ _
   | exact LeO.none _
   | refine LeO.ite ?_ ?_
   | refine LeO.bind ?_ (fun _ => ?_)
set_option maxHeartbeats 8000000 in
set_option maxRecDepth 100000 in
theorem neumelaw19_SlopeLayers.calls (k : Nat) (a0 : Int) (a1 : Bool) (r : Bool) (w : World) (h : neumelaw19_SlopeLayers.f k a0 a1 = some r) :
  Calls Try.prog 5 #[.int .i64 a0, .bool a1] w fun e w' => e = .returned (.bool r) ∧ Below w.heap.size w w' := by
 have HB := sd_ (Below.refl w.heap.size w)
 have H : ((slope_Thick.f k a0 a1).bind fun bt212 => (if a0 < 1 then (neumelaw19_SlopeLayers.j0 k a0 a1 bt212.1 bt212.2 true) else (neumelaw19_SlopeLayers.j0 k a0 a1 bt212.1 bt212.2 (decide (a0 > 4))))) = some r := h
 clear h
 replace H := ob_ H
 obtain ⟨⟨t212, t213⟩, A30, H⟩ := H
 replace H : (if a0 < 1 then (neumelaw19_SlopeLayers.j0 k a0 a1 t212 t213 true) else (neumelaw19_SlopeLayers.j0 k a0 a1 t212 t213 (decide (a0 > 4)))) = some r := H
 have A3 := sd_ A30
 clear A30
 have HC4 := sd_ H
 clear H
 go_enter Try.func5, Try.ntmps5
 go_upto_region 2 with (first | ((with_reducible refine gate_callee (f := 9) rfl ?_); refine goesL_ (some 12) rfl rfl Try.func9 (by kernel_rfl) rfl #[.int .i64 a0, .bool a1] rfl (by (try simp only [lm_, lq_, lx_]); first | done | rfl | (simp only [ld_, lt_]; rfl)) ?_; (with_reducible refine (slope_Thick.calls k a0 a1 t212 t213 _ A3.out).mono ?_); rintro e w' ⟨rfl, ⟨nd, rfl⟩⟩; refine ⟨_, rfl, ?_⟩))
 (try simp only [Act.put, List.setIfInBounds_toArray, lz_, List.set_cons_succ])
 go_cut [20] (fun v20 wc => ∃ (kq : Nat) (x20_3 : Bool), v20 = .bool x20_3 ∧ Aside0 (neumelaw19_SlopeLayers.j0 kq a0 a1 t212 t213 x20_3 = some r) ∧ Aside0 (kq ≤ k) ∧ Aside0 (Below w.heap.size w wc))
 case first =>
  have H := HC4.out
  clear HC4
  by_cases c5 : a0 < 1
  ·rw [if_pos c5] at H
   have c5b0 : decide (a0 < 1) = true := dt_ c5
   clear c5
   (first | rw [c5b0] | (simp only [i64_w, i32_w]; rw [c5b0]) | skip)
   have H' := sd_ H
   clear H
   go_wp2
   go_meet
   case rel => exact ⟨_, (true), (by first | rfl | (simp; done) | (simp [*]; done)), H', ⟨by first | omega | exact Nat.le_refl _⟩, ⟨by repeat first | exact HB.out | apply ba_ | apply pd_ | apply d1_⟩⟩
  ·rw [if_neg c5] at H
   have c5b0 : decide (a0 < 1) = false := df_ c5
   clear c5
   (first | rw [c5b0] | (simp only [i64_w, i32_w]; rw [c5b0]) | skip)
   have H' := sd_ H
   clear H
   go_wp2
   go_meet
   case rel => exact ⟨_, (decide (a0 > 4)), (by first | rfl | (simp; done) | (simp [*]; done)), H', ⟨by first | omega | exact Nat.le_refl _⟩, ⟨by repeat first | exact HB.out | apply ba_ | apply pd_ | apply d1_⟩⟩
 case rest =>
  clear HC4
  try clear p2; try clear c5; try clear c5b0
  obtain ⟨kq, x20_3, rfl, HA, HJ3, HB⟩ := hcut
  cases kq with
  | zero => exact absurd HA.out (by simp [neumelaw19_SlopeLayers.j0])
  | succ kj3 =>
   have H := HA.out
   clear HA
   simp only [neumelaw19_SlopeLayers.j0] at H
   by_cases c6 : x20_3 = true
   ·subst c6
    have H1 : (if t212 = 0 then (if t213 = 0 then ((neumelaw19_heads.f kj3).bind fun t214 => (some t214)) else (some false)) else (some false)) = some r := by rw [if_pos rfl] at H; exact H
    clear H; have H := H1; clear H1
    by_cases c7 : t212 = 0
    ·rw [if_pos c7] at H
     have c7b0 : (t212 == 0) = true := beq_iff_eq.mpr c7
     have c7b1 : (t212 != 0) = false := bne_eq_false_iff_eq.mpr c7
     clear c7
     by_cases c8 : t213 = 0
     ·rw [if_pos c8] at H
      have c8b0 : (t213 == 0) = true := beq_iff_eq.mpr c8
      have c8b1 : (t213 != 0) = false := bne_eq_false_iff_eq.mpr c8
      clear c8
      replace H := ob_ H
      obtain ⟨t214, A90, H⟩ := H
      replace H : (some t214) = some r := H
      have A9 := sd_ A90
      clear A90
      obtain rfl := Option.some.inj H
      go_wp2_with (first | (go_at_call 6; (with_reducible refine (neumelaw19_heads.calls kj3  t214 _ A9.out).mono ?_); rintro e w10 ⟨rfl, hb⟩; have n0_ := sd_ (bt_ (by repeat first | exact HB.out | apply ba_ | apply pd_ | apply d1_) hb); clear HB; have HB := n0_; clear n0_; (try clear hb); (try clear hb2); (try clear hk); (try clear hi)))
      go_ret
      exact ⟨by first | rfl | (simp [errW_none, errW_some] <;> rfl) | (simp [*, errW_none, errW_some] <;> rfl), by repeat first | exact HB.out | apply ba_ | apply pd_ | apply d1_⟩
     ·rw [if_neg c8] at H
      have c8b0 : (t213 == 0) = false := beq_eq_false_iff_ne.mpr c8
      have c8b1 : (t213 != 0) = true := bne_iff_ne.mpr c8
      obtain rfl := Option.some.inj H
      go_wp2
      go_ret
      exact ⟨by first | rfl | (simp [errW_none, errW_some] <;> rfl) | (simp [*, errW_none, errW_some] <;> rfl), by repeat first | exact HB.out | apply ba_ | apply pd_ | apply d1_⟩
    ·rw [if_neg c7] at H
     have c7b0 : (t212 == 0) = false := beq_eq_false_iff_ne.mpr c7
     have c7b1 : (t212 != 0) = true := bne_iff_ne.mpr c7
     obtain rfl := Option.some.inj H
     go_wp2
     go_ret
     exact ⟨by first | rfl | (simp [errW_none, errW_some] <;> rfl) | (simp [*, errW_none, errW_some] <;> rfl), by repeat first | exact HB.out | apply ba_ | apply pd_ | apply d1_⟩
   ·replace c6 := bf_ c6
    subst c6
    have H1 : ((slope_Thick.f kj3 (wrap64 (a0 + 1)) a1).bind fun bt215 => (if (wrap64 (t213 - t212)) = 512 then (if a1 = true then (if t213 > 0 then (some false) else (if a0 = 4 then ((neumelaw19_heads.f kj3).bind fun t217 => (some t217)) else (if bt215.2 = (wrap64 (t212 - 256)) then ((neumelaw19_heads.f kj3).bind fun t218 => (some t218)) else (some false)))) else (if t212 < 0 then (some false) else (if a0 = 4 then ((neumelaw19_heads.f kj3).bind fun t219 => (some t219)) else (if bt215.1 = (wrap64 (t213 + 256)) then ((neumelaw19_heads.f kj3).bind fun t220 => (some t220)) else (some false))))) else (some false))) = some r := by rw [if_neg (show ¬ (false = true) by decide)] at H; exact H
    clear H; have H := H1; clear H1
    replace H := ob_ H
    obtain ⟨⟨t215, t216⟩, A110, H⟩ := H
    replace H : (if (wrap64 (t213 - t212)) = 512 then (if a1 = true then (if t213 > 0 then (some false) else (if a0 = 4 then ((neumelaw19_heads.f kj3).bind fun t217 => (some t217)) else (if t216 = (wrap64 (t212 - 256)) then ((neumelaw19_heads.f kj3).bind fun t218 => (some t218)) else (some false)))) else (if t212 < 0 then (some false) else (if a0 = 4 then ((neumelaw19_heads.f kj3).bind fun t219 => (some t219)) else (if t215 = (wrap64 (t213 + 256)) then ((neumelaw19_heads.f kj3).bind fun t220 => (some t220)) else (some false))))) else (some false)) = some r := H
    have A11 := sd_ A110
    clear A110
    by_cases c12 : (wrap64 (t213 - t212)) = 512
    ·rw [if_pos c12] at H
     have c12b0 : ((wrap64 (t213 - t212)) == 512) = true := beq_iff_eq.mpr c12
     have c12b1 : ((wrap64 (t213 - t212)) != 512) = false := bne_eq_false_iff_eq.mpr c12
     clear c12
     by_cases c13 : a1 = true
     ·subst c13
      have H1 : (if t213 > 0 then (some false) else (if a0 = 4 then ((neumelaw19_heads.f kj3).bind fun t217 => (some t217)) else (if t216 = (wrap64 (t212 - 256)) then ((neumelaw19_heads.f kj3).bind fun t218 => (some t218)) else (some false)))) = some r := by rw [if_pos rfl] at H; exact H
      clear H; have H := H1; clear H1
      by_cases c14 : t213 > 0
      ·rw [if_pos c14] at H
       have c14b0 : decide (0 < t213) = true := dt_ c14
       clear c14
       obtain rfl := Option.some.inj H
       go_wp2_with (first | ((with_reducible refine gate_callee (f := 9) rfl ?_); refine goesL_ (some 34) rfl rfl Try.func9 (by kernel_rfl) rfl #[.int .i64 (wrap64 (a0 + 1)), .bool true] rfl (by (try simp only [lm_, lq_, lx_]); first | done | rfl | (simp only [ld_, lt_]; rfl)) ?_; (with_reducible refine (slope_Thick.calls kj3 (wrap64 (a0 + 1)) true t215 t216 _ A11.out).mono ?_); rintro e w' ⟨rfl, ⟨nd, rfl⟩⟩; refine ⟨_, rfl, ?_⟩))
       go_ret
       exact ⟨by first | rfl | (simp [errW_none, errW_some] <;> rfl) | (simp [*, errW_none, errW_some] <;> rfl), by repeat first | exact HB.out | apply ba_ | apply pd_ | apply d1_⟩
      ·rw [if_neg c14] at H
       have c14b0 : decide (0 < t213) = false := df_ c14
       clear c14
       by_cases c15 : a0 = 4
       ·rw [if_pos c15] at H
        have c15b0 : (a0 == 4) = true := beq_iff_eq.mpr c15
        have c15b1 : (a0 != 4) = false := bne_eq_false_iff_eq.mpr c15
        clear c15
        replace H := ob_ H
        obtain ⟨t217, A160, H⟩ := H
        replace H : (some t217) = some r := H
        have A16 := sd_ A160
        clear A160
        obtain rfl := Option.some.inj H
        go_wp2_with (first | ((with_reducible refine gate_callee (f := 9) rfl ?_); refine goesL_ (some 34) rfl rfl Try.func9 (by kernel_rfl) rfl #[.int .i64 (wrap64 (a0 + 1)), .bool true] rfl (by (try simp only [lm_, lq_, lx_]); first | done | rfl | (simp only [ld_, lt_]; rfl)) ?_; (with_reducible refine (slope_Thick.calls kj3 (wrap64 (a0 + 1)) true t215 t216 _ A11.out).mono ?_); rintro e w' ⟨rfl, ⟨nd, rfl⟩⟩; refine ⟨_, rfl, ?_⟩) | (go_at_call 6; (with_reducible refine (neumelaw19_heads.calls kj3  t217 _ A16.out).mono ?_); rintro e w17 ⟨rfl, hb⟩; have n0_ := sd_ (bt_ (by repeat first | exact HB.out | apply ba_ | apply pd_ | apply d1_) hb); clear HB; have HB := n0_; clear n0_; (try clear hb); (try clear hb2); (try clear hk); (try clear hi)))
        go_ret
        exact ⟨by first | rfl | (simp [errW_none, errW_some] <;> rfl) | (simp [*, errW_none, errW_some] <;> rfl), by repeat first | exact HB.out | apply ba_ | apply pd_ | apply d1_⟩
       ·rw [if_neg c15] at H
        have c15b0 : (a0 == 4) = false := beq_eq_false_iff_ne.mpr c15
        have c15b1 : (a0 != 4) = true := bne_iff_ne.mpr c15
        by_cases c18 : t216 = (wrap64 (t212 - 256))
        ·rw [if_pos c18] at H
         have c18b0 : (t216 == (wrap64 (t212 - 256))) = true := beq_iff_eq.mpr c18
         have c18b1 : (t216 != (wrap64 (t212 - 256))) = false := bne_eq_false_iff_eq.mpr c18
         clear c18
         replace H := ob_ H
         obtain ⟨t218, A190, H⟩ := H
         replace H : (some t218) = some r := H
         have A19 := sd_ A190
         clear A190
         obtain rfl := Option.some.inj H
         go_wp2_with (first | ((with_reducible refine gate_callee (f := 9) rfl ?_); refine goesL_ (some 34) rfl rfl Try.func9 (by kernel_rfl) rfl #[.int .i64 (wrap64 (a0 + 1)), .bool true] rfl (by (try simp only [lm_, lq_, lx_]); first | done | rfl | (simp only [ld_, lt_]; rfl)) ?_; (with_reducible refine (slope_Thick.calls kj3 (wrap64 (a0 + 1)) true t215 t216 _ A11.out).mono ?_); rintro e w' ⟨rfl, ⟨nd, rfl⟩⟩; refine ⟨_, rfl, ?_⟩) | (go_at_call 6; (with_reducible refine (neumelaw19_heads.calls kj3  t218 _ A19.out).mono ?_); rintro e w20 ⟨rfl, hb⟩; have n0_ := sd_ (bt_ (by repeat first | exact HB.out | apply ba_ | apply pd_ | apply d1_) hb); clear HB; have HB := n0_; clear n0_; (try clear hb); (try clear hb2); (try clear hk); (try clear hi)))
         go_ret
         exact ⟨by first | rfl | (simp [errW_none, errW_some] <;> rfl) | (simp [*, errW_none, errW_some] <;> rfl), by repeat first | exact HB.out | apply ba_ | apply pd_ | apply d1_⟩
        ·rw [if_neg c18] at H
         have c18b0 : (t216 == (wrap64 (t212 - 256))) = false := beq_eq_false_iff_ne.mpr c18
         have c18b1 : (t216 != (wrap64 (t212 - 256))) = true := bne_iff_ne.mpr c18
         obtain rfl := Option.some.inj H
         go_wp2_with (first | ((with_reducible refine gate_callee (f := 9) rfl ?_); refine goesL_ (some 34) rfl rfl Try.func9 (by kernel_rfl) rfl #[.int .i64 (wrap64 (a0 + 1)), .bool true] rfl (by (try simp only [lm_, lq_, lx_]); first | done | rfl | (simp only [ld_, lt_]; rfl)) ?_; (with_reducible refine (slope_Thick.calls kj3 (wrap64 (a0 + 1)) true t215 t216 _ A11.out).mono ?_); rintro e w' ⟨rfl, ⟨nd, rfl⟩⟩; refine ⟨_, rfl, ?_⟩))
         go_ret
         exact ⟨by first | rfl | (simp [errW_none, errW_some] <;> rfl) | (simp [*, errW_none, errW_some] <;> rfl), by repeat first | exact HB.out | apply ba_ | apply pd_ | apply d1_⟩
     ·replace c13 := bf_ c13
      subst c13
      have H1 : (if t212 < 0 then (some false) else (if a0 = 4 then ((neumelaw19_heads.f kj3).bind fun t219 => (some t219)) else (if t215 = (wrap64 (t213 + 256)) then ((neumelaw19_heads.f kj3).bind fun t220 => (some t220)) else (some false)))) = some r := by rw [if_neg (show ¬ (false = true) by decide)] at H; exact H
      clear H; have H := H1; clear H1
      by_cases c21 : t212 < 0
      ·rw [if_pos c21] at H
       have c21b0 : decide (t212 < 0) = true := dt_ c21
       clear c21
       obtain rfl := Option.some.inj H
       go_wp2_with (first | ((with_reducible refine gate_callee (f := 9) rfl ?_); refine goesL_ (some 34) rfl rfl Try.func9 (by kernel_rfl) rfl #[.int .i64 (wrap64 (a0 + 1)), .bool false] rfl (by (try simp only [lm_, lq_, lx_]); first | done | rfl | (simp only [ld_, lt_]; rfl)) ?_; (with_reducible refine (slope_Thick.calls kj3 (wrap64 (a0 + 1)) false t215 t216 _ A11.out).mono ?_); rintro e w' ⟨rfl, ⟨nd, rfl⟩⟩; refine ⟨_, rfl, ?_⟩))
       go_ret
       exact ⟨by first | rfl | (simp [errW_none, errW_some] <;> rfl) | (simp [*, errW_none, errW_some] <;> rfl), by repeat first | exact HB.out | apply ba_ | apply pd_ | apply d1_⟩
      ·rw [if_neg c21] at H
       have c21b0 : decide (t212 < 0) = false := df_ c21
       clear c21
       by_cases c22 : a0 = 4
       ·rw [if_pos c22] at H
        have c22b0 : (a0 == 4) = true := beq_iff_eq.mpr c22
        have c22b1 : (a0 != 4) = false := bne_eq_false_iff_eq.mpr c22
        clear c22
        replace H := ob_ H
        obtain ⟨t219, A230, H⟩ := H
        replace H : (some t219) = some r := H
        have A23 := sd_ A230
        clear A230
        obtain rfl := Option.some.inj H
        go_wp2_with (first | ((with_reducible refine gate_callee (f := 9) rfl ?_); refine goesL_ (some 34) rfl rfl Try.func9 (by kernel_rfl) rfl #[.int .i64 (wrap64 (a0 + 1)), .bool false] rfl (by (try simp only [lm_, lq_, lx_]); first | done | rfl | (simp only [ld_, lt_]; rfl)) ?_; (with_reducible refine (slope_Thick.calls kj3 (wrap64 (a0 + 1)) false t215 t216 _ A11.out).mono ?_); rintro e w' ⟨rfl, ⟨nd, rfl⟩⟩; refine ⟨_, rfl, ?_⟩) | (go_at_call 6; (with_reducible refine (neumelaw19_heads.calls kj3  t219 _ A23.out).mono ?_); rintro e w24 ⟨rfl, hb⟩; have n0_ := sd_ (bt_ (by repeat first | exact HB.out | apply ba_ | apply pd_ | apply d1_) hb); clear HB; have HB := n0_; clear n0_; (try clear hb); (try clear hb2); (try clear hk); (try clear hi)))
        go_ret
        exact ⟨by first | rfl | (simp [errW_none, errW_some] <;> rfl) | (simp [*, errW_none, errW_some] <;> rfl), by repeat first | exact HB.out | apply ba_ | apply pd_ | apply d1_⟩
       ·rw [if_neg c22] at H
        have c22b0 : (a0 == 4) = false := beq_eq_false_iff_ne.mpr c22
        have c22b1 : (a0 != 4) = true := bne_iff_ne.mpr c22
        by_cases c25 : t215 = (wrap64 (t213 + 256))
        ·rw [if_pos c25] at H
         have c25b0 : (t215 == (wrap64 (t213 + 256))) = true := beq_iff_eq.mpr c25
         have c25b1 : (t215 != (wrap64 (t213 + 256))) = false := bne_eq_false_iff_eq.mpr c25
         clear c25
         replace H := ob_ H
         obtain ⟨t220, A260, H⟩ := H
         replace H : (some t220) = some r := H
         have A26 := sd_ A260
         clear A260
         obtain rfl := Option.some.inj H
         go_wp2_with (first | ((with_reducible refine gate_callee (f := 9) rfl ?_); refine goesL_ (some 34) rfl rfl Try.func9 (by kernel_rfl) rfl #[.int .i64 (wrap64 (a0 + 1)), .bool false] rfl (by (try simp only [lm_, lq_, lx_]); first | done | rfl | (simp only [ld_, lt_]; rfl)) ?_; (with_reducible refine (slope_Thick.calls kj3 (wrap64 (a0 + 1)) false t215 t216 _ A11.out).mono ?_); rintro e w' ⟨rfl, ⟨nd, rfl⟩⟩; refine ⟨_, rfl, ?_⟩) | (go_at_call 6; (with_reducible refine (neumelaw19_heads.calls kj3  t220 _ A26.out).mono ?_); rintro e w27 ⟨rfl, hb⟩; have n0_ := sd_ (bt_ (by repeat first | exact HB.out | apply ba_ | apply pd_ | apply d1_) hb); clear HB; have HB := n0_; clear n0_; (try clear hb); (try clear hb2); (try clear hk); (try clear hi)))
         go_ret
         exact ⟨by first | rfl | (simp [errW_none, errW_some] <;> rfl) | (simp [*, errW_none, errW_some] <;> rfl), by repeat first | exact HB.out | apply ba_ | apply pd_ | apply d1_⟩
        ·rw [if_neg c25] at H
         have c25b0 : (t215 == (wrap64 (t213 + 256))) = false := beq_eq_false_iff_ne.mpr c25
         have c25b1 : (t215 != (wrap64 (t213 + 256))) = true := bne_iff_ne.mpr c25
         obtain rfl := Option.some.inj H
         go_wp2_with (first | ((with_reducible refine gate_callee (f := 9) rfl ?_); refine goesL_ (some 34) rfl rfl Try.func9 (by kernel_rfl) rfl #[.int .i64 (wrap64 (a0 + 1)), .bool false] rfl (by (try simp only [lm_, lq_, lx_]); first | done | rfl | (simp only [ld_, lt_]; rfl)) ?_; (with_reducible refine (slope_Thick.calls kj3 (wrap64 (a0 + 1)) false t215 t216 _ A11.out).mono ?_); rintro e w' ⟨rfl, ⟨nd, rfl⟩⟩; refine ⟨_, rfl, ?_⟩))
         go_ret
         exact ⟨by first | rfl | (simp [errW_none, errW_some] <;> rfl) | (simp [*, errW_none, errW_some] <;> rfl), by repeat first | exact HB.out | apply ba_ | apply pd_ | apply d1_⟩
    ·rw [if_neg c12] at H
     have c12b0 : ((wrap64 (t213 - t212)) == 512) = false := beq_eq_false_iff_ne.mpr c12
     have c12b1 : ((wrap64 (t213 - t212)) != 512) = true := bne_iff_ne.mpr c12
     obtain rfl := Option.some.inj H
     go_wp2_with (first | ((with_reducible refine gate_callee (f := 9) rfl ?_); refine goesL_ (some 34) rfl rfl Try.func9 (by kernel_rfl) rfl #[.int .i64 (wrap64 (a0 + 1)), .bool a1] rfl (by (try simp only [lm_, lq_, lx_]); first | done | rfl | (simp only [ld_, lt_]; rfl)) ?_; (with_reducible refine (slope_Thick.calls kj3 (wrap64 (a0 + 1)) a1 t215 t216 _ A11.out).mono ?_); rintro e w' ⟨rfl, ⟨nd, rfl⟩⟩; refine ⟨_, rfl, ?_⟩))
     go_ret
     exact ⟨by first | rfl | (simp [errW_none, errW_some] <;> rfl) | (simp [*, errW_none, errW_some] <;> rfl), by repeat first | exact HB.out | apply ba_ | apply pd_ | apply d1_⟩

/-- THE ONE PURE STATEMENT of neumelaw19_SlopeLayers: yours. -/
def neumelaw19_SlopeLayers.Pure : Prop := ∀ (a0 : Int) (a1 : Bool), (Lit.int .i64 a0).wf = true → ∃ k, neumelaw19_SlopeLayers.f k a0 a1 = some true
theorem neumelaw19_SlopeLayers.walk (P : neumelaw19_SlopeLayers.Pure) (a0 : Int) (a1 : Bool) (w : World) (w0 : (Lit.int .i64 a0).wf = true) :
  Calls Try.prog 5 #[.int .i64 a0, .bool a1] w fun e w' => e = .returned (.bool true) ∧ Below w.heap.size w w' := by
 obtain ⟨k, h⟩ := P a0 a1 w0
 refine (neumelaw19_SlopeLayers.calls k a0 a1 true w h).mono ?_
 rintro e w' ⟨rfl, hd⟩
 exact ⟨rfl, hd⟩

end Go.Proofs.Ytbmdbkjmleimmaa.P
