-- Written by a program of this session (wip/tools/xprint.py, over the kit's print): Lean checks it.
import Derived.Test.YtfnpnkhhmehidaaDoorPx0
import Derived.Test.YtfnpnkhhmehidaaDoorPx1
import Derived.Test.YtfnpnkhhmehidaaDoorPx2
import Derived.Test.YtfnpnkhhmehidaaDoorPx3
import Derived.Test.YtfnpnkhhmehidaaDoorPx4
import Derived.Test.YtfnpnkhhmehidaaDoorPx5
namespace Go.Proofs.YtfnpnkhhmehidaaDoor.P
open Go.RowKit Go.Proofs.YtfnpnkhhmehidaaDoorW.PrintWords Go.Proofs.YtfnpnkhhmehidaaDoorW.PrintLast Go.Proofs.YtfnpnkhhmehidaaDoorW.PrintMore
attribute [local go_sem] max2_int min2_int max_two min_two max_three min_three max_four min_four   -- for this text's walks alone
set_option linter.unusedVariables false
set_option linter.unusedSimpArgs false

/-! ### neumelaw01_FixCosts: function 4 -/
def neumelaw01_FixCosts.f (k : Nat) (a0 : Int) (a1 : Int) : Option (Bool) := (fix_Cost.f a0 a1).bind fun t125 => ((neumeref01_Cost.f a0 a1).bind fun t126 => (if t125 = t126 then ((fix_Square.f a0).bind fun t127 => ((neumeref01_Square.f a0).bind fun t128 => (if t127 = t128 then ((fix_Root.f k a0).bind fun t129 => ((neumeref01_Root.f k a0).bind fun t130 => (if t129 = t130 then ((neumelaw01_heads.f k).bind fun t131 => (some t131)) else (some false)))) else (some false)))) else (some false)))
theorem neumelaw01_FixCosts.mono : ∀ a0 a1 k, LeO (neumelaw01_FixCosts.f k a0 a1) (neumelaw01_FixCosts.f (k + 1) a0 a1) := by
 intro a0 a1 k
 unfold neumelaw01_FixCosts.f
 repeat' first
   | (with_reducible exact fix_Root.mono _ _)
   | (with_reducible exact neumelaw01_heads.mono _)
   | (with_reducible exact neumeref01_Root.mono _ _)
   | (with_reducible exact LeO.refl _)
   | (with_reducible exact LeO.none _)
   | (with_reducible refine LeO.ite ?_ ?_)
   | (with_reducible refine LeO.bind ?_ (fun _ => ?_))
   | exact fix_Root.mono _ _
   | exact neumelaw01_heads.mono _
   | exact neumeref01_Root.mono _ _
   | exact LeO.none _
   | refine LeO.ite ?_ ?_
   | refine LeO.bind ?_ (fun _ => ?_)
set_option maxHeartbeats 8000000 in
set_option maxRecDepth 100000 in
theorem neumelaw01_FixCosts.calls (k : Nat) (a0 : Int) (a1 : Int) (r : Bool) (w : World) (hE : Aside0 (LaidE w)) (hxt : Aside0 (r = true)) (h : neumelaw01_FixCosts.f k a0 a1 = some r) :
  Calls Tryd.prog 4 #[.int .i64 a0, .int .i64 a1] w fun e w' => e = .returned (.bool r) ∧ Below w.heap.size w w' := by
 have HB := sd_ (Below.refl w.heap.size w)
 have H : ((fix_Cost.f a0 a1).bind fun t125 => ((neumeref01_Cost.f a0 a1).bind fun t126 => (if t125 = t126 then ((fix_Square.f a0).bind fun t127 => ((neumeref01_Square.f a0).bind fun t128 => (if t127 = t128 then ((fix_Root.f k a0).bind fun t129 => ((neumeref01_Root.f k a0).bind fun t130 => (if t129 = t130 then ((neumelaw01_heads.f k).bind fun t131 => (some t131)) else (some false)))) else (some false)))) else (some false)))) = some r := h
 clear h
 replace H := ob_ H
 obtain ⟨t125, A30, H⟩ := H
 replace H : ((neumeref01_Cost.f a0 a1).bind fun t126 => (if t125 = t126 then ((fix_Square.f a0).bind fun t127 => ((neumeref01_Square.f a0).bind fun t128 => (if t127 = t128 then ((fix_Root.f k a0).bind fun t129 => ((neumeref01_Root.f k a0).bind fun t130 => (if t129 = t130 then ((neumelaw01_heads.f k).bind fun t131 => (some t131)) else (some false)))) else (some false)))) else (some false))) = some r := H
 have A3 := sd_ A30
 clear A30
 replace H := ob_ H
 obtain ⟨t126, A40, H⟩ := H
 replace H : (if t125 = t126 then ((fix_Square.f a0).bind fun t127 => ((neumeref01_Square.f a0).bind fun t128 => (if t127 = t128 then ((fix_Root.f k a0).bind fun t129 => ((neumeref01_Root.f k a0).bind fun t130 => (if t129 = t130 then ((neumelaw01_heads.f k).bind fun t131 => (some t131)) else (some false)))) else (some false)))) else (some false)) = some r := H
 have A4 := sd_ A40
 clear A40
 by_cases c5 : t125 = t126
 ·rw [if_pos c5] at H
  have c5b0 : (t125 == t126) = true := beq_iff_eq.mpr c5
  have c5b1 : (t125 != t126) = false := bne_eq_false_iff_eq.mpr c5
  clear c5
  replace H := ob_ H
  obtain ⟨t127, A60, H⟩ := H
  replace H : ((neumeref01_Square.f a0).bind fun t128 => (if t127 = t128 then ((fix_Root.f k a0).bind fun t129 => ((neumeref01_Root.f k a0).bind fun t130 => (if t129 = t130 then ((neumelaw01_heads.f k).bind fun t131 => (some t131)) else (some false)))) else (some false))) = some r := H
  have A6 := sd_ A60
  clear A60
  replace H := ob_ H
  obtain ⟨t128, A70, H⟩ := H
  replace H : (if t127 = t128 then ((fix_Root.f k a0).bind fun t129 => ((neumeref01_Root.f k a0).bind fun t130 => (if t129 = t130 then ((neumelaw01_heads.f k).bind fun t131 => (some t131)) else (some false)))) else (some false)) = some r := H
  have A7 := sd_ A70
  clear A70
  by_cases c8 : t127 = t128
  ·rw [if_pos c8] at H
   have c8b0 : (t127 == t128) = true := beq_iff_eq.mpr c8
   have c8b1 : (t127 != t128) = false := bne_eq_false_iff_eq.mpr c8
   clear c8
   replace H := ob_ H
   obtain ⟨t129, A90, H⟩ := H
   replace H : ((neumeref01_Root.f k a0).bind fun t130 => (if t129 = t130 then ((neumelaw01_heads.f k).bind fun t131 => (some t131)) else (some false))) = some r := H
   have A9 := sd_ A90
   clear A90
   replace H := ob_ H
   obtain ⟨t130, A100, H⟩ := H
   replace H : (if t129 = t130 then ((neumelaw01_heads.f k).bind fun t131 => (some t131)) else (some false)) = some r := H
   have A10 := sd_ A100
   clear A100
   by_cases c11 : t129 = t130
   ·rw [if_pos c11] at H
    have c11b0 : (t129 == t130) = true := beq_iff_eq.mpr c11
    have c11b1 : (t129 != t130) = false := bne_eq_false_iff_eq.mpr c11
    clear c11
    replace H := ob_ H
    obtain ⟨t131, A120, H⟩ := H
    replace H : (some t131) = some r := H
    have A12 := sd_ A120
    clear A120
    obtain rfl := Option.some.inj H
    go_enter Tryd.func4, Tryd.ntmps4
    go_wp2_with (first | ((with_reducible refine gate_callee (f := 21) rfl ?_); refine goesL_ (some 7) rfl rfl Tryd.func21 (by kernel_rfl) rfl #[.int .i64 a0, .int .i64 a1] rfl (by (try simp only [lm_, lq_, lx_]); first | done | rfl | (simp only [ld_, lt_]; rfl)) ?_; (with_reducible refine (fix_Cost.calls a0 a1 t125 _ A3.out).mono ?_); rintro e w13 ⟨rfl, hb⟩; refine ⟨_, rfl, ?_⟩; have n0_ := sd_ (bt_ (by repeat first | exact HB.out | apply ba_ | apply pd_ | apply d1_) hb); clear HB; have HB := n0_; clear n0_; (try clear hb); (try clear hb2); (try clear hk); (try clear hi)) | ((with_reducible refine gate_callee (f := 22) rfl ?_); refine goesL_ (some 10) rfl rfl Tryd.func22 (by kernel_rfl) rfl #[.int .i64 a0, .int .i64 a1] rfl (by (try simp only [lm_, lq_, lx_]); first | done | rfl | (simp only [ld_, lt_]; rfl)) ?_; (with_reducible refine (neumeref01_Cost.calls a0 a1 t126 _ A4.out).mono ?_); rintro e w14 ⟨rfl, hb⟩; refine ⟨_, rfl, ?_⟩; have n0_ := sd_ (bt_ (by repeat first | exact HB.out | apply ba_ | apply pd_ | apply d1_) hb); clear HB; have HB := n0_; clear n0_; (try clear hb); (try clear hb2); (try clear hk); (try clear hi)) | (go_at_call 23; (with_reducible refine (fix_Square.calls a0 t127 _ A6.out).mono ?_); rintro e w15 ⟨rfl, hb⟩; have n0_ := sd_ (bt_ (by repeat first | exact HB.out | apply ba_ | apply pd_ | apply d1_) hb); clear HB; have HB := n0_; clear n0_; (try clear hb); (try clear hb2); (try clear hk); (try clear hi)) | (go_at_call 24; (with_reducible refine (neumeref01_Square.calls a0 t128 _ A7.out).mono ?_); rintro e w16 ⟨rfl, hb⟩; have n0_ := sd_ (bt_ (by repeat first | exact HB.out | apply ba_ | apply pd_ | apply d1_) hb); clear HB; have HB := n0_; clear n0_; (try clear hb); (try clear hb2); (try clear hk); (try clear hi)) | (go_at_call 25; (with_reducible refine (fix_Root.calls k a0 t129 _ A9.out).mono ?_); rintro e w' ⟨rfl, ⟨nd, rfl⟩⟩) | (go_at_call 26; (with_reducible refine (neumeref01_Root.calls k a0 t130 _ A10.out).mono ?_); rintro e w' ⟨rfl, ⟨nd, rfl⟩⟩) | (go_at_call 20; (with_reducible refine (neumelaw01_heads.calls k  t131 _ ?side1 A12.out).mono ?_); (case side1 => first | exact hE | exact sd_ (LaidE.below hE.out (by repeat first | exact HB.out | apply ba_ | apply pd_ | apply d1_))); rintro e w17 ⟨rfl, hb⟩; have n0_ := sd_ (bt_ (by repeat first | exact HB.out | apply ba_ | apply pd_ | apply d1_) hb); clear HB; have HB := n0_; clear n0_; (try clear hb); (try clear hb2); (try clear hk); (try clear hi)))
    go_ret
    exact ⟨by first | rfl | (simp [errW_none, errW_some] <;> rfl) | (simp [*, errW_none, errW_some] <;> rfl), by repeat first | exact HB.out | apply ba_ | apply pd_ | apply d1_⟩
   ·rw [if_neg c11] at H
    have c11b0 : (t129 == t130) = false := beq_eq_false_iff_ne.mpr c11
    have c11b1 : (t129 != t130) = true := bne_iff_ne.mpr c11
    exact absurd ((Option.some.inj H).trans hxt.out) (by decide)
  ·rw [if_neg c8] at H
   have c8b0 : (t127 == t128) = false := beq_eq_false_iff_ne.mpr c8
   have c8b1 : (t127 != t128) = true := bne_iff_ne.mpr c8
   exact absurd ((Option.some.inj H).trans hxt.out) (by decide)
 ·rw [if_neg c5] at H
  have c5b0 : (t125 == t126) = false := beq_eq_false_iff_ne.mpr c5
  have c5b1 : (t125 != t126) = true := bne_iff_ne.mpr c5
  exact absurd ((Option.some.inj H).trans hxt.out) (by decide)

end Go.Proofs.YtfnpnkhhmehidaaDoor.P
