-- Written by a program of this session (wip/tools/xprint.py, over the kit's print): Lean checks it.
import Derived.Test.YtfnpnkhhmehidaaDoorPx0
import Derived.Test.YtfnpnkhhmehidaaDoorPx2
import Derived.Test.YtfnpnkhhmehidaaDoorPx4
import Derived.Test.YtfnpnkhhmehidaaDoorPx5
namespace Go.Proofs.YtfnpnkhhmehidaaDoor.P
open Go.RowKit Go.Proofs.YtfnpnkhhmehidaaDoorW.PrintWords Go.Proofs.YtfnpnkhhmehidaaDoorW.PrintLast Go.Proofs.YtfnpnkhhmehidaaDoorW.PrintMore
attribute [local go_sem] max2_int min2_int max_two min_two max_three min_three max_four min_four   -- for this text's walks alone
set_option linter.unusedVariables false
set_option linter.unusedSimpArgs false

/-! ### neumelaw01_FixRoots: function 7 -/
def neumelaw01_FixRoots.f (k : Nat) (a0 : Int) : Option (Bool) := (fix_Root.f k a0).bind fun t140 => (if a0 < 0 then (if t140 = 0 then ((neumelaw01_heads.f k).bind fun t141 => (some t141)) else (some false)) else (if t140 < 0 then (some false) else (if t140 > 3037000499 then (some false) else (if (wrap64 (t140 * t140)) > a0 then (some false) else (if t140 = 3037000499 then ((neumelaw01_heads.f k).bind fun t142 => (some t142)) else (if (wrap64 ((wrap64 (t140 + 1)) * (wrap64 (t140 + 1)))) > a0 then ((neumelaw01_heads.f k).bind fun t143 => (some t143)) else (some false)))))))
theorem neumelaw01_FixRoots.mono : ∀ a0 k, LeO (neumelaw01_FixRoots.f k a0) (neumelaw01_FixRoots.f (k + 1) a0) := by
 intro a0 k
 unfold neumelaw01_FixRoots.f
 repeat' first
   | (with_reducible exact fix_Root.mono _ _)
   | (with_reducible exact neumelaw01_heads.mono _)
   | (with_reducible exact LeO.refl _)
   | (with_reducible exact LeO.none _)
   | (with_reducible refine LeO.ite ?_ ?_)
   | (with_reducible refine LeO.bind ?_ (fun _ => ?_))
   | exact fix_Root.mono _ _
   | exact neumelaw01_heads.mono _
   | exact LeO.none _
   | refine LeO.ite ?_ ?_
   | refine LeO.bind ?_ (fun _ => ?_)
set_option maxHeartbeats 8000000 in
set_option maxRecDepth 100000 in
theorem neumelaw01_FixRoots.calls (k : Nat) (a0 : Int) (r : Bool) (w : World) (hE : Aside0 (LaidE w)) (hxt : Aside0 (r = true)) (h : neumelaw01_FixRoots.f k a0 = some r) :
  Calls Tryd.prog 7 #[.int .i64 a0] w fun e w' => e = .returned (.bool r) ∧ Below w.heap.size w w' := by
 have HB := sd_ (Below.refl w.heap.size w)
 have H : ((fix_Root.f k a0).bind fun t140 => (if a0 < 0 then (if t140 = 0 then ((neumelaw01_heads.f k).bind fun t141 => (some t141)) else (some false)) else (if t140 < 0 then (some false) else (if t140 > 3037000499 then (some false) else (if (wrap64 (t140 * t140)) > a0 then (some false) else (if t140 = 3037000499 then ((neumelaw01_heads.f k).bind fun t142 => (some t142)) else (if (wrap64 ((wrap64 (t140 + 1)) * (wrap64 (t140 + 1)))) > a0 then ((neumelaw01_heads.f k).bind fun t143 => (some t143)) else (some false)))))))) = some r := h
 clear h
 replace H := ob_ H
 obtain ⟨t140, A20, H⟩ := H
 replace H : (if a0 < 0 then (if t140 = 0 then ((neumelaw01_heads.f k).bind fun t141 => (some t141)) else (some false)) else (if t140 < 0 then (some false) else (if t140 > 3037000499 then (some false) else (if (wrap64 (t140 * t140)) > a0 then (some false) else (if t140 = 3037000499 then ((neumelaw01_heads.f k).bind fun t142 => (some t142)) else (if (wrap64 ((wrap64 (t140 + 1)) * (wrap64 (t140 + 1)))) > a0 then ((neumelaw01_heads.f k).bind fun t143 => (some t143)) else (some false))))))) = some r := H
 have A2 := sd_ A20
 clear A20
 by_cases c3 : a0 < 0
 ·rw [if_pos c3] at H
  have c3b0 : decide (a0 < 0) = true := dt_ c3
  clear c3
  by_cases c4 : t140 = 0
  ·rw [if_pos c4] at H
   have c4b0 : (t140 == 0) = true := beq_iff_eq.mpr c4
   have c4b1 : (t140 != 0) = false := bne_eq_false_iff_eq.mpr c4
   clear c4
   replace H := ob_ H
   obtain ⟨t141, A50, H⟩ := H
   replace H : (some t141) = some r := H
   have A5 := sd_ A50
   clear A50
   obtain rfl := Option.some.inj H
   go_enter Tryd.func7, Tryd.ntmps7
   go_wp2_with (first | ((with_reducible refine gate_callee (f := 25) rfl ?_); refine goesL_ (some 5) rfl rfl Tryd.func25 (by kernel_rfl) rfl #[.int .i64 a0] rfl (by (try simp only [lm_, lq_, lx_]); first | done | rfl | (simp only [ld_, lt_]; rfl)) ?_; (with_reducible refine (fix_Root.calls k a0 t140 _ A2.out).mono ?_); rintro e w' ⟨rfl, ⟨nd, rfl⟩⟩; refine ⟨_, rfl, ?_⟩) | (go_at_call 20; (with_reducible refine (neumelaw01_heads.calls k  t141 _ ?side1 A5.out).mono ?_); (case side1 => first | exact hE | exact sd_ (LaidE.below hE.out (by repeat first | exact HB.out | apply ba_ | apply pd_ | apply d1_))); rintro e w6 ⟨rfl, hb⟩; have n0_ := sd_ (bt_ (by repeat first | exact HB.out | apply ba_ | apply pd_ | apply d1_) hb); clear HB; have HB := n0_; clear n0_; (try clear hb); (try clear hb2); (try clear hk); (try clear hi)))
   go_ret
   exact ⟨by first | rfl | (simp [errW_none, errW_some] <;> rfl) | (simp [*, errW_none, errW_some] <;> rfl), by repeat first | exact HB.out | apply ba_ | apply pd_ | apply d1_⟩
  ·rw [if_neg c4] at H
   have c4b0 : (t140 == 0) = false := beq_eq_false_iff_ne.mpr c4
   have c4b1 : (t140 != 0) = true := bne_iff_ne.mpr c4
   exact absurd ((Option.some.inj H).trans hxt.out) (by decide)
 ·rw [if_neg c3] at H
  have c3b0 : decide (a0 < 0) = false := df_ c3
  clear c3
  by_cases c7 : t140 < 0
  ·rw [if_pos c7] at H
   have c7b0 : decide (t140 < 0) = true := dt_ c7
   clear c7
   exact absurd ((Option.some.inj H).trans hxt.out) (by decide)
  ·rw [if_neg c7] at H
   have c7b0 : decide (t140 < 0) = false := df_ c7
   clear c7
   by_cases c8 : t140 > 3037000499
   ·rw [if_pos c8] at H
    have c8b0 : decide (3037000499 < t140) = true := dt_ c8
    clear c8
    exact absurd ((Option.some.inj H).trans hxt.out) (by decide)
   ·rw [if_neg c8] at H
    have c8b0 : decide (3037000499 < t140) = false := df_ c8
    clear c8
    by_cases c9 : (wrap64 (t140 * t140)) > a0
    ·rw [if_pos c9] at H
     have c9b0 : decide (a0 < (wrap64 (t140 * t140))) = true := dt_ c9
     clear c9
     exact absurd ((Option.some.inj H).trans hxt.out) (by decide)
    ·rw [if_neg c9] at H
     have c9b0 : decide (a0 < (wrap64 (t140 * t140))) = false := df_ c9
     clear c9
     by_cases c10 : t140 = 3037000499
     ·rw [if_pos c10] at H
      have c10b0 : (t140 == 3037000499) = true := beq_iff_eq.mpr c10
      have c10b1 : (t140 != 3037000499) = false := bne_eq_false_iff_eq.mpr c10
      clear c10
      replace H := ob_ H
      obtain ⟨t142, A110, H⟩ := H
      replace H : (some t142) = some r := H
      have A11 := sd_ A110
      clear A110
      obtain rfl := Option.some.inj H
      go_enter Tryd.func7, Tryd.ntmps7
      go_wp2_with (first | ((with_reducible refine gate_callee (f := 25) rfl ?_); refine goesL_ (some 5) rfl rfl Tryd.func25 (by kernel_rfl) rfl #[.int .i64 a0] rfl (by (try simp only [lm_, lq_, lx_]); first | done | rfl | (simp only [ld_, lt_]; rfl)) ?_; (with_reducible refine (fix_Root.calls k a0 t140 _ A2.out).mono ?_); rintro e w' ⟨rfl, ⟨nd, rfl⟩⟩; refine ⟨_, rfl, ?_⟩) | (go_at_call 20; (with_reducible refine (neumelaw01_heads.calls k  t142 _ ?side1 A11.out).mono ?_); (case side1 => first | exact hE | exact sd_ (LaidE.below hE.out (by repeat first | exact HB.out | apply ba_ | apply pd_ | apply d1_))); rintro e w12 ⟨rfl, hb⟩; have n0_ := sd_ (bt_ (by repeat first | exact HB.out | apply ba_ | apply pd_ | apply d1_) hb); clear HB; have HB := n0_; clear n0_; (try clear hb); (try clear hb2); (try clear hk); (try clear hi)))
      go_ret
      exact ⟨by first | rfl | (simp [errW_none, errW_some] <;> rfl) | (simp [*, errW_none, errW_some] <;> rfl), by repeat first | exact HB.out | apply ba_ | apply pd_ | apply d1_⟩
     ·rw [if_neg c10] at H
      have c10b0 : (t140 == 3037000499) = false := beq_eq_false_iff_ne.mpr c10
      have c10b1 : (t140 != 3037000499) = true := bne_iff_ne.mpr c10
      by_cases c13 : (wrap64 ((wrap64 (t140 + 1)) * (wrap64 (t140 + 1)))) > a0
      ·rw [if_pos c13] at H
       have c13b0 : decide (a0 < (wrap64 ((wrap64 (t140 + 1)) * (wrap64 (t140 + 1))))) = true := dt_ c13
       clear c13
       replace H := ob_ H
       obtain ⟨t143, A140, H⟩ := H
       replace H : (some t143) = some r := H
       have A14 := sd_ A140
       clear A140
       obtain rfl := Option.some.inj H
       go_enter Tryd.func7, Tryd.ntmps7
       go_wp2_with (first | ((with_reducible refine gate_callee (f := 25) rfl ?_); refine goesL_ (some 5) rfl rfl Tryd.func25 (by kernel_rfl) rfl #[.int .i64 a0] rfl (by (try simp only [lm_, lq_, lx_]); first | done | rfl | (simp only [ld_, lt_]; rfl)) ?_; (with_reducible refine (fix_Root.calls k a0 t140 _ A2.out).mono ?_); rintro e w' ⟨rfl, ⟨nd, rfl⟩⟩; refine ⟨_, rfl, ?_⟩) | (go_at_call 20; (with_reducible refine (neumelaw01_heads.calls k  t143 _ ?side1 A14.out).mono ?_); (case side1 => first | exact hE | exact sd_ (LaidE.below hE.out (by repeat first | exact HB.out | apply ba_ | apply pd_ | apply d1_))); rintro e w15 ⟨rfl, hb⟩; have n0_ := sd_ (bt_ (by repeat first | exact HB.out | apply ba_ | apply pd_ | apply d1_) hb); clear HB; have HB := n0_; clear n0_; (try clear hb); (try clear hb2); (try clear hk); (try clear hi)))
       go_ret
       exact ⟨by first | rfl | (simp [errW_none, errW_some] <;> rfl) | (simp [*, errW_none, errW_some] <;> rfl), by repeat first | exact HB.out | apply ba_ | apply pd_ | apply d1_⟩
      ·rw [if_neg c13] at H
       have c13b0 : decide (a0 < (wrap64 ((wrap64 (t140 + 1)) * (wrap64 (t140 + 1))))) = false := df_ c13
       clear c13
       exact absurd ((Option.some.inj H).trans hxt.out) (by decide)

end Go.Proofs.YtfnpnkhhmehidaaDoor.P
