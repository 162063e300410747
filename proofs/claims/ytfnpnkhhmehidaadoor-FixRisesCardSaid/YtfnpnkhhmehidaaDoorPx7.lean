-- Written by a program of this session (wip/tools/xprint.py, over the kit's print): Lean checks it.
import Derived.Test.YtfnpnkhhmehidaaDoorPx0
import Derived.Test.YtfnpnkhhmehidaaDoorPx1
import Derived.Test.YtfnpnkhhmehidaaDoorPx4
import Derived.Test.YtfnpnkhhmehidaaDoorPx5
namespace Go.Proofs.YtfnpnkhhmehidaaDoor.P
open Go.RowKit Go.Proofs.YtfnpnkhhmehidaaDoorW.PrintWords Go.Proofs.YtfnpnkhhmehidaaDoorW.PrintLast Go.Proofs.YtfnpnkhhmehidaaDoorW.PrintMore
attribute [local go_sem] max2_int min2_int max_two min_two max_three min_three max_four min_four   -- for this text's walks alone
set_option linter.unusedVariables false
set_option linter.unusedSimpArgs false

/-! ### neumelaw01_FixRises: function 6 -/
def neumelaw01_FixRises.f (k : Nat) (a0 : Int) (a1 : Int) (a2 : Int) : Option (Bool) := (fix_Cost.f a0 a1).bind fun t132 => ((fix_Cost.f a0 0).bind fun t133 => (if t132 ≥ t133 then ((fix_Cost.f a1 a0).bind fun t134 => (if t132 = t134 then (if t132 ≤ 1125899906842624 then (if t132 ≥ 0 then ((fix_Cost.f a0 a1).bind fun t135 => ((fix_Cost.f t135 a2).bind fun t136 => ((fix_Cost.f a1 a2).bind fun t137 => ((fix_Cost.f a0 t137).bind fun t138 => (if t136 = t138 then ((neumelaw01_heads.f k).bind fun t139 => (some t139)) else (some false)))))) else (some false)) else (some false)) else (some false))) else (some false)))
theorem neumelaw01_FixRises.mono : ∀ a0 a1 a2 k, LeO (neumelaw01_FixRises.f k a0 a1 a2) (neumelaw01_FixRises.f (k + 1) a0 a1 a2) := by
 intro a0 a1 a2 k
 unfold neumelaw01_FixRises.f
 repeat' first
   | (with_reducible exact neumelaw01_heads.mono _)
   | (with_reducible exact LeO.refl _)
   | (with_reducible exact LeO.none _)
   | (with_reducible refine LeO.ite ?_ ?_)
   | (with_reducible refine LeO.bind ?_ (fun _ => ?_))
   | exact neumelaw01_heads.mono _
   | exact LeO.none _
   | refine LeO.ite ?_ ?_
   | refine LeO.bind ?_ (fun _ => ?_)
set_option maxHeartbeats 8000000 in
set_option maxRecDepth 100000 in
theorem neumelaw01_FixRises.calls (k : Nat) (a0 : Int) (a1 : Int) (a2 : Int) (r : Bool) (w : World) (hE : Aside0 (LaidE w)) (hxt : Aside0 (r = true)) (h : neumelaw01_FixRises.f k a0 a1 a2 = some r) :
  Calls Tryd.prog 6 #[.int .i64 a0, .int .i64 a1, .int .i64 a2] w fun e w' => e = .returned (.bool r) ∧ Below w.heap.size w w' := by
 have HB := sd_ (Below.refl w.heap.size w)
 have H : ((fix_Cost.f a0 a1).bind fun t132 => ((fix_Cost.f a0 0).bind fun t133 => (if t132 ≥ t133 then ((fix_Cost.f a1 a0).bind fun t134 => (if t132 = t134 then (if t132 ≤ 1125899906842624 then (if t132 ≥ 0 then ((fix_Cost.f a0 a1).bind fun t135 => ((fix_Cost.f t135 a2).bind fun t136 => ((fix_Cost.f a1 a2).bind fun t137 => ((fix_Cost.f a0 t137).bind fun t138 => (if t136 = t138 then ((neumelaw01_heads.f k).bind fun t139 => (some t139)) else (some false)))))) else (some false)) else (some false)) else (some false))) else (some false)))) = some r := h
 clear h
 replace H := ob_ H
 obtain ⟨t132, A40, H⟩ := H
 replace H : ((fix_Cost.f a0 0).bind fun t133 => (if t132 ≥ t133 then ((fix_Cost.f a1 a0).bind fun t134 => (if t132 = t134 then (if t132 ≤ 1125899906842624 then (if t132 ≥ 0 then ((fix_Cost.f a0 a1).bind fun t135 => ((fix_Cost.f t135 a2).bind fun t136 => ((fix_Cost.f a1 a2).bind fun t137 => ((fix_Cost.f a0 t137).bind fun t138 => (if t136 = t138 then ((neumelaw01_heads.f k).bind fun t139 => (some t139)) else (some false)))))) else (some false)) else (some false)) else (some false))) else (some false))) = some r := H
 have A4 := sd_ A40
 clear A40
 replace H := ob_ H
 obtain ⟨t133, A50, H⟩ := H
 replace H : (if t132 ≥ t133 then ((fix_Cost.f a1 a0).bind fun t134 => (if t132 = t134 then (if t132 ≤ 1125899906842624 then (if t132 ≥ 0 then ((fix_Cost.f a0 a1).bind fun t135 => ((fix_Cost.f t135 a2).bind fun t136 => ((fix_Cost.f a1 a2).bind fun t137 => ((fix_Cost.f a0 t137).bind fun t138 => (if t136 = t138 then ((neumelaw01_heads.f k).bind fun t139 => (some t139)) else (some false)))))) else (some false)) else (some false)) else (some false))) else (some false)) = some r := H
 have A5 := sd_ A50
 clear A50
 by_cases c6 : t132 ≥ t133
 ·rw [if_pos c6] at H
  have c6b0 : decide (t133 ≤ t132) = true := dt_ c6
  clear c6
  replace H := ob_ H
  obtain ⟨t134, A70, H⟩ := H
  replace H : (if t132 = t134 then (if t132 ≤ 1125899906842624 then (if t132 ≥ 0 then ((fix_Cost.f a0 a1).bind fun t135 => ((fix_Cost.f t135 a2).bind fun t136 => ((fix_Cost.f a1 a2).bind fun t137 => ((fix_Cost.f a0 t137).bind fun t138 => (if t136 = t138 then ((neumelaw01_heads.f k).bind fun t139 => (some t139)) else (some false)))))) else (some false)) else (some false)) else (some false)) = some r := H
  have A7 := sd_ A70
  clear A70
  by_cases c8 : t132 = t134
  ·rw [if_pos c8] at H
   have c8b0 : (t132 == t134) = true := beq_iff_eq.mpr c8
   have c8b1 : (t132 != t134) = false := bne_eq_false_iff_eq.mpr c8
   clear c8
   by_cases c9 : t132 ≤ 1125899906842624
   ·rw [if_pos c9] at H
    have c9b0 : decide (t132 ≤ 1125899906842624) = true := dt_ c9
    clear c9
    by_cases c10 : t132 ≥ 0
    ·rw [if_pos c10] at H
     have c10b0 : decide (0 ≤ t132) = true := dt_ c10
     clear c10
     replace H := ob_ H
     obtain ⟨t135, A110, H⟩ := H
     replace H : ((fix_Cost.f t135 a2).bind fun t136 => ((fix_Cost.f a1 a2).bind fun t137 => ((fix_Cost.f a0 t137).bind fun t138 => (if t136 = t138 then ((neumelaw01_heads.f k).bind fun t139 => (some t139)) else (some false))))) = some r := H
     have A11 := sd_ A110
     clear A110
     replace H := ob_ H
     obtain ⟨t136, A120, H⟩ := H
     replace H : ((fix_Cost.f a1 a2).bind fun t137 => ((fix_Cost.f a0 t137).bind fun t138 => (if t136 = t138 then ((neumelaw01_heads.f k).bind fun t139 => (some t139)) else (some false)))) = some r := H
     have A12 := sd_ A120
     clear A120
     replace H := ob_ H
     obtain ⟨t137, A130, H⟩ := H
     replace H : ((fix_Cost.f a0 t137).bind fun t138 => (if t136 = t138 then ((neumelaw01_heads.f k).bind fun t139 => (some t139)) else (some false))) = some r := H
     have A13 := sd_ A130
     clear A130
     replace H := ob_ H
     obtain ⟨t138, A140, H⟩ := H
     replace H : (if t136 = t138 then ((neumelaw01_heads.f k).bind fun t139 => (some t139)) else (some false)) = some r := H
     have A14 := sd_ A140
     clear A140
     by_cases c15 : t136 = t138
     ·rw [if_pos c15] at H
      have c15b0 : (t136 == t138) = true := beq_iff_eq.mpr c15
      have c15b1 : (t136 != t138) = false := bne_eq_false_iff_eq.mpr c15
      clear c15
      replace H := ob_ H
      obtain ⟨t139, A160, H⟩ := H
      replace H : (some t139) = some r := H
      have A16 := sd_ A160
      clear A160
      obtain rfl := Option.some.inj H
      go_enter Tryd.func6, Tryd.ntmps6
      go_wp2_with (first | ((with_reducible refine gate_callee (f := 21) rfl ?_); refine goesL_ (some 10) rfl rfl Tryd.func21 (by kernel_rfl) rfl #[.int .i64 a0, .int .i64 a1] rfl (by (try simp only [lm_, lq_, lx_]); first | done | rfl | (simp only [ld_, lt_]; rfl)) ?_; (with_reducible refine (fix_Cost.calls a0 a1 t132 _ A4.out).mono ?_); rintro e w17 ⟨rfl, hb⟩; refine ⟨_, rfl, ?_⟩; have n0_ := sd_ (bt_ (by repeat first | exact HB.out | apply ba_ | apply pd_ | apply d1_) hb); clear HB; have HB := n0_; clear n0_; (try clear hb); (try clear hb2); (try clear hk); (try clear hi)) | ((with_reducible refine gate_callee (f := 21) rfl ?_); refine goesL_ (some 13) rfl rfl Tryd.func21 (by kernel_rfl) rfl #[.int .i64 a0, .int .i64 0] rfl (by (try simp only [lm_, lq_, lx_]); first | done | rfl | (simp only [ld_, lt_]; rfl)) ?_; (with_reducible refine (fix_Cost.calls a0 0 t133 _ A5.out).mono ?_); rintro e w18 ⟨rfl, hb⟩; refine ⟨_, rfl, ?_⟩; have n0_ := sd_ (bt_ (by repeat first | exact HB.out | apply ba_ | apply pd_ | apply d1_) hb); clear HB; have HB := n0_; clear n0_; (try clear hb); (try clear hb2); (try clear hk); (try clear hi)) | (go_at_call 21; (with_reducible refine (fix_Cost.calls a1 a0 t134 _ A7.out).mono ?_); rintro e w19 ⟨rfl, hb⟩; have n0_ := sd_ (bt_ (by repeat first | exact HB.out | apply ba_ | apply pd_ | apply d1_) hb); clear HB; have HB := n0_; clear n0_; (try clear hb); (try clear hb2); (try clear hk); (try clear hi)) | (go_at_call 21; (with_reducible refine (fix_Cost.calls a0 a1 t135 _ A11.out).mono ?_); rintro e w20 ⟨rfl, hb⟩; have n0_ := sd_ (bt_ (by repeat first | exact HB.out | apply ba_ | apply pd_ | apply d1_) hb); clear HB; have HB := n0_; clear n0_; (try clear hb); (try clear hb2); (try clear hk); (try clear hi)) | (go_at_call 21; (with_reducible refine (fix_Cost.calls t135 a2 t136 _ A12.out).mono ?_); rintro e w21 ⟨rfl, hb⟩; have n0_ := sd_ (bt_ (by repeat first | exact HB.out | apply ba_ | apply pd_ | apply d1_) hb); clear HB; have HB := n0_; clear n0_; (try clear hb); (try clear hb2); (try clear hk); (try clear hi)) | (go_at_call 21; (with_reducible refine (fix_Cost.calls a1 a2 t137 _ A13.out).mono ?_); rintro e w22 ⟨rfl, hb⟩; have n0_ := sd_ (bt_ (by repeat first | exact HB.out | apply ba_ | apply pd_ | apply d1_) hb); clear HB; have HB := n0_; clear n0_; (try clear hb); (try clear hb2); (try clear hk); (try clear hi)) | (go_at_call 21; (with_reducible refine (fix_Cost.calls a0 t137 t138 _ A14.out).mono ?_); rintro e w23 ⟨rfl, hb⟩; have n0_ := sd_ (bt_ (by repeat first | exact HB.out | apply ba_ | apply pd_ | apply d1_) hb); clear HB; have HB := n0_; clear n0_; (try clear hb); (try clear hb2); (try clear hk); (try clear hi)) | (go_at_call 20; (with_reducible refine (neumelaw01_heads.calls k  t139 _ ?side1 A16.out).mono ?_); (case side1 => first | exact hE | exact sd_ (LaidE.below hE.out (by repeat first | exact HB.out | apply ba_ | apply pd_ | apply d1_))); rintro e w24 ⟨rfl, hb⟩; have n0_ := sd_ (bt_ (by repeat first | exact HB.out | apply ba_ | apply pd_ | apply d1_) hb); clear HB; have HB := n0_; clear n0_; (try clear hb); (try clear hb2); (try clear hk); (try clear hi)))
      go_ret
      exact ⟨by first | rfl | (simp [errW_none, errW_some] <;> rfl) | (simp [*, errW_none, errW_some] <;> rfl), by repeat first | exact HB.out | apply ba_ | apply pd_ | apply d1_⟩
     ·rw [if_neg c15] at H
      have c15b0 : (t136 == t138) = false := beq_eq_false_iff_ne.mpr c15
      have c15b1 : (t136 != t138) = true := bne_iff_ne.mpr c15
      exact absurd ((Option.some.inj H).trans hxt.out) (by decide)
    ·rw [if_neg c10] at H
     have c10b0 : decide (0 ≤ t132) = false := df_ c10
     clear c10
     exact absurd ((Option.some.inj H).trans hxt.out) (by decide)
   ·rw [if_neg c9] at H
    have c9b0 : decide (t132 ≤ 1125899906842624) = false := df_ c9
    clear c9
    exact absurd ((Option.some.inj H).trans hxt.out) (by decide)
  ·rw [if_neg c8] at H
   have c8b0 : (t132 == t134) = false := beq_eq_false_iff_ne.mpr c8
   have c8b1 : (t132 != t134) = true := bne_iff_ne.mpr c8
   exact absurd ((Option.some.inj H).trans hxt.out) (by decide)
 ·rw [if_neg c6] at H
  have c6b0 : decide (t133 ≤ t132) = false := df_ c6
  clear c6
  exact absurd ((Option.some.inj H).trans hxt.out) (by decide)

end Go.Proofs.YtfnpnkhhmehidaaDoor.P
