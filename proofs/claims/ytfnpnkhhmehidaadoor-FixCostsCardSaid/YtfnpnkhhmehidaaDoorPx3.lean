-- Written by a program of this session (wip/tools/xprint.py, over the kit's print): Lean checks it.
import Derived.Test.YtfnpnkhhmehidaaDoorPx0
namespace Go.Proofs.YtfnpnkhhmehidaaDoor.P
open Go.RowKit Go.Proofs.YtfnpnkhhmehidaaDoorW.PrintWords Go.Proofs.YtfnpnkhhmehidaaDoorW.PrintLast Go.Proofs.YtfnpnkhhmehidaaDoorW.PrintMore
attribute [local go_sem] max2_int min2_int max_two min_two max_three min_three max_four min_four   -- for this text's walks alone
set_option linter.unusedVariables false
set_option linter.unusedSimpArgs false

/-! ### neumeref01_bound: function 33 -/
def neumeref01_bound.f (a0 : Int) : Option (Int) := some (mx 0 (mn a0 1125899906842624))
set_option maxHeartbeats 8000000 in
set_option maxRecDepth 100000 in
theorem neumeref01_bound.calls (a0 : Int) (r : Int) (w : World) (h : neumeref01_bound.f a0 = some r) :
  Calls Tryd.prog 33 #[.int .i64 a0] w fun e w' => e = .returned (.int .i64 r) ∧ Below w.heap.size w w' := by
 have HB := sd_ (Below.refl w.heap.size w)
 have H : (some (mx 0 (mn a0 1125899906842624))) = some r := h
 clear h
 obtain ⟨ji2, hji2⟩ : ∃ j_ : Int, (mn a0 1125899906842624) = j_ := ⟨_, rfl⟩
 replace H : (some (mx 0 (ji2))) = some r := by first | (rw [hji2] at H; exact H) | (simp only [hji2] at H ⊢; exact H)
 (try (have hji2h : ji2 ≤ 1125899906842624 := by (rw [← hji2]; unfold mn; (repeat' split) <;> omega)))
 (try (have hji2g : ji2 ≤ 64 := by omega))
 have hji2_ : (if 1125899906842624 < a0 then 1125899906842624 else a0) = ji2 := hji2
 obtain ⟨ji3, hji3⟩ : ∃ j_ : Int, (mx 0 (ji2)) = j_ := ⟨_, rfl⟩
 replace H : (some ji3) = some r := by first | (rw [hji3] at H; exact H) | (simp only [hji3] at H ⊢; exact H)
 have hji3_ : (if 0 < (ji2) then (ji2) else 0) = ji3 := hji3
 obtain rfl := Option.some.inj H
 go_enter Tryd.func33, Tryd.ntmps33
 go_wp2
 go_ret
 exact ⟨by first | rfl | (simp [errW_none, errW_some] <;> rfl) | (simp only [← hji2, ← hji3]; first | rfl | (simp [errW_none, errW_some] <;> rfl)) | (simp [*, errW_none, errW_some] <;> rfl), by repeat first | exact HB.out | apply ba_ | apply pd_ | apply d1_⟩

/-! ### neumeref01_Cost: function 22 -/
def neumeref01_Cost.f (a0 : Int) (a1 : Int) : Option (Int) := (neumeref01_bound.f a0).bind fun t123 => ((neumeref01_bound.f a1).bind fun t124 => (some (mn (wrap64 (t123 + t124)) 1125899906842624)))
set_option maxHeartbeats 8000000 in
set_option maxRecDepth 100000 in
theorem neumeref01_Cost.calls (a0 : Int) (a1 : Int) (r : Int) (w : World) (h : neumeref01_Cost.f a0 a1 = some r) :
  Calls Tryd.prog 22 #[.int .i64 a0, .int .i64 a1] w fun e w' => e = .returned (.int .i64 r) ∧ Below w.heap.size w w' := by
 have HB := sd_ (Below.refl w.heap.size w)
 have H : ((neumeref01_bound.f a0).bind fun t123 => ((neumeref01_bound.f a1).bind fun t124 => (some (mn (wrap64 (t123 + t124)) 1125899906842624)))) = some r := h
 clear h
 replace H := ob_ H
 obtain ⟨t123, A30, H⟩ := H
 replace H : ((neumeref01_bound.f a1).bind fun t124 => (some (mn (wrap64 (t123 + t124)) 1125899906842624))) = some r := H
 have A3 := sd_ A30
 clear A30
 replace H := ob_ H
 obtain ⟨t124, A40, H⟩ := H
 replace H : (some (mn (wrap64 (t123 + t124)) 1125899906842624)) = some r := H
 have A4 := sd_ A40
 clear A40
 obtain ⟨ji5, hji5⟩ : ∃ j_ : Int, (mn (wrap64 (t123 + t124)) 1125899906842624) = j_ := ⟨_, rfl⟩
 replace H : (some ji5) = some r := by first | (rw [hji5] at H; exact H) | (simp only [hji5] at H ⊢; exact H)
 (try rw [hji5] at A3)
 (try rw [hji5] at A4)
 (try (have hji5h : ji5 ≤ 1125899906842624 := by (rw [← hji5]; unfold mn; (repeat' split) <;> omega)))
 (try (have hji5g : ji5 ≤ 64 := by omega))
 have hji5_ : (if 1125899906842624 < (wrap64 (t123 + t124)) then 1125899906842624 else (wrap64 (t123 + t124))) = ji5 := hji5
 obtain rfl := Option.some.inj H
 go_enter Tryd.func22, Tryd.ntmps22
 go_wp2_with (first | ((with_reducible refine gate_callee (f := 33) rfl ?_); refine goesL_ (some 6) rfl rfl Tryd.func33 (by kernel_rfl) rfl #[.int .i64 a0] rfl (by (try simp only [lm_, lq_, lx_]); first | done | rfl | (simp only [ld_, lt_]; rfl)) ?_; (with_reducible refine (neumeref01_bound.calls a0 t123 _ A3.out).mono ?_); rintro e w6 ⟨rfl, hb⟩; refine ⟨_, rfl, ?_⟩; have n0_ := sd_ (bt_ (by repeat first | exact HB.out | apply ba_ | apply pd_ | apply d1_) hb); clear HB; have HB := n0_; clear n0_; (try clear hb); (try clear hb2); (try clear hk); (try clear hi)) | ((with_reducible refine gate_callee (f := 33) rfl ?_); refine goesL_ (some 8) rfl rfl Tryd.func33 (by kernel_rfl) rfl #[.int .i64 a1] rfl (by (try simp only [lm_, lq_, lx_]); first | done | rfl | (simp only [ld_, lt_]; rfl)) ?_; (with_reducible refine (neumeref01_bound.calls a1 t124 _ A4.out).mono ?_); rintro e w7 ⟨rfl, hb⟩; refine ⟨_, rfl, ?_⟩; have n0_ := sd_ (bt_ (by repeat first | exact HB.out | apply ba_ | apply pd_ | apply d1_) hb); clear HB; have HB := n0_; clear n0_; (try clear hb); (try clear hb2); (try clear hk); (try clear hi)))
 go_ret
 exact ⟨by first | rfl | (simp [errW_none, errW_some] <;> rfl) | (simp only [← hji5]; first | rfl | (simp [errW_none, errW_some] <;> rfl)) | (simp [*, errW_none, errW_some] <;> rfl), by repeat first | exact HB.out | apply ba_ | apply pd_ | apply d1_⟩

/-! ### neumeref01_Square: function 24 -/
def neumeref01_Square.f (a0 : Int) : Option (Int) := if a0 > 33554432 then (some 1125899906842624) else (if a0 < (-33554432) then (some 1125899906842624) else (some (mn (wrap64 (a0 * a0)) 1125899906842624)))
set_option maxHeartbeats 8000000 in
set_option maxRecDepth 100000 in
theorem neumeref01_Square.calls (a0 : Int) (r : Int) (w : World) (h : neumeref01_Square.f a0 = some r) :
  Calls Tryd.prog 24 #[.int .i64 a0] w fun e w' => e = .returned (.int .i64 r) ∧ Below w.heap.size w w' := by
 have HB := sd_ (Below.refl w.heap.size w)
 have H : (if a0 > 33554432 then (some 1125899906842624) else (if a0 < (-33554432) then (some 1125899906842624) else (some (mn (wrap64 (a0 * a0)) 1125899906842624)))) = some r := h
 clear h
 by_cases c2 : a0 > 33554432
 ·rw [if_pos c2] at H
  have c2b0 : decide (33554432 < a0) = true := dt_ c2
  clear c2
  obtain rfl := Option.some.inj H
  go_enter Tryd.func24, Tryd.ntmps24
  go_wp2
  go_ret
  exact ⟨by first | rfl | (simp [errW_none, errW_some] <;> rfl) | (simp [*, errW_none, errW_some] <;> rfl), by repeat first | exact HB.out | apply ba_ | apply pd_ | apply d1_⟩
 ·rw [if_neg c2] at H
  have c2b0 : decide (33554432 < a0) = false := df_ c2
  clear c2
  by_cases c3 : a0 < (-33554432)
  ·rw [if_pos c3] at H
   have c3b0 : decide (a0 < (-33554432)) = true := dt_ c3
   clear c3
   obtain rfl := Option.some.inj H
   go_enter Tryd.func24, Tryd.ntmps24
   go_wp2
   go_ret
   exact ⟨by first | rfl | (simp [errW_none, errW_some] <;> rfl) | (simp [*, errW_none, errW_some] <;> rfl), by repeat first | exact HB.out | apply ba_ | apply pd_ | apply d1_⟩
  ·rw [if_neg c3] at H
   have c3b0 : decide (a0 < (-33554432)) = false := df_ c3
   clear c3
   obtain ⟨ji4, hji4⟩ : ∃ j_ : Int, (mn (wrap64 (a0 * a0)) 1125899906842624) = j_ := ⟨_, rfl⟩
   replace H : (some ji4) = some r := by first | (rw [hji4] at H; exact H) | (simp only [hji4] at H ⊢; exact H)
   (try (have hji4h : ji4 ≤ 1125899906842624 := by (rw [← hji4]; unfold mn; (repeat' split) <;> omega)))
   (try (have hji4g : ji4 ≤ 64 := by omega))
   have hji4_ : (if 1125899906842624 < (wrap64 (a0 * a0)) then 1125899906842624 else (wrap64 (a0 * a0))) = ji4 := hji4
   obtain rfl := Option.some.inj H
   go_enter Tryd.func24, Tryd.ntmps24
   go_wp2
   go_ret
   exact ⟨by first | rfl | (simp [errW_none, errW_some] <;> rfl) | (simp only [← hji4]; first | rfl | (simp [errW_none, errW_some] <;> rfl)) | (simp [*, errW_none, errW_some] <;> rfl), by repeat first | exact HB.out | apply ba_ | apply pd_ | apply d1_⟩

/-! ### neumeref01_Root: function 26 -/
def neumeref01_Root.l0 : Nat → Int → Int → Int → Option (Int)
 | 0, _, _, _ => none
 | k + 1, x0, x3, x4 => if x4 ≥ 0 then (if 0 ≤ (IntKind.u64.wrap (x4)) then (if (wrap64 (x3 + (shl .i64 1 (IntKind.u64.wrap (x4))))) ≤ 3037000499 then (if (wrap64 ((wrap64 (x3 + (shl .i64 1 (IntKind.u64.wrap (x4))))) * (wrap64 (x3 + (shl .i64 1 (IntKind.u64.wrap (x4))))))) ≤ x0 then (neumeref01_Root.l0 k x0 (wrap64 (x3 + (shl .i64 1 (IntKind.u64.wrap (x4))))) (wrap64 (x4 - 1))) else (neumeref01_Root.l0 k x0 x3 (wrap64 (x4 - 1)))) else (neumeref01_Root.l0 k x0 x3 (wrap64 (x4 - 1)))) else (none)) else (some x3)
def neumeref01_Root.f (k : Nat) (a0 : Int) : Option (Int) := neumeref01_Root.l0 k a0 0 31
theorem neumeref01_Root.mono_l : ∀ k, (∀ y0 y1 y2, LeO (neumeref01_Root.l0 k y0 y1 y2) (neumeref01_Root.l0 (k + 1) y0 y1 y2))
 | 0 => fun _ _ _ r h => by simp [neumeref01_Root.l0] at h
 | k + 1 => by
  have ih0 := neumeref01_Root.mono_l k
  ·intro y0 y1 y2
   unfold neumeref01_Root.l0
   repeat' first
   | (with_reducible exact ih0 _ _ _)
   | (with_reducible exact LeO.refl _)
   | (with_reducible exact LeO.none _)
   | (with_reducible refine LeO.ite ?_ ?_)
   | (with_reducible refine LeO.bind ?_ (fun _ => ?_))
   | exact ih0 _ _ _
   | exact LeO.none _
   | refine LeO.ite ?_ ?_
   | refine LeO.bind ?_ (fun _ => ?_)
theorem neumeref01_Root.mono : ∀ a0 k, LeO (neumeref01_Root.f k a0) (neumeref01_Root.f (k + 1) a0) := by
 intro a0 k
 have ih0 := neumeref01_Root.mono_l k
 unfold neumeref01_Root.f
 repeat' first
   | (with_reducible exact ih0 _ _ _)
   | (with_reducible exact LeO.refl _)
   | (with_reducible exact LeO.none _)
   | (with_reducible refine LeO.ite ?_ ?_)
   | (with_reducible refine LeO.bind ?_ (fun _ => ?_))
   | exact ih0 _ _ _
   | exact LeO.none _
   | refine LeO.ite ?_ ?_
   | refine LeO.bind ?_ (fun _ => ?_)
set_option maxHeartbeats 8000000 in
set_option maxRecDepth 100000 in
theorem neumeref01_Root.calls (k : Nat) (a0 : Int) (r : Int) (w : World) (h : neumeref01_Root.f k a0 = some r) :
  Calls Tryd.prog 26 #[.int .i64 a0] w fun e w' => e = .returned (.int .i64 r) ∧ Drawn0 w w' := by
 have H : (neumeref01_Root.l0 k a0 0 31) = some r := h
 clear h
 have H' := sd_ H
 clear H
 go_enter Tryd.func26, Tryd.ntmps26
 go_wp2
 go_loopg [3, 4] k (fun kq v3 v4 w' => ∃ (x3_1 : Int) (x4_1 : Int), v3 = .int .i64 x3_1 ∧ v4 = .int .i64 x4_1 ∧ Aside0 (neumeref01_Root.l0 kq a0 x3_1 x4_1 = some r) ∧ Aside0 (kq ≤ k) ∧ Drawn0 w w')
 case atStart => exact ⟨(0), (31), (by first | rfl | (simp; done) | (simp [*]; done) | (simp [bne]; done)), (by first | rfl | (simp; done) | (simp [*]; done) | (simp [bne]; done)), H', ⟨Nat.le_refl _⟩, by repeat (first | exact Drawn0.refl _ | apply Drawn0.step)⟩
 case round =>
  clear H'
  obtain ⟨x3_1, x4_1, rfl, rfl, HA, HK1, ⟨m1, rfl⟩⟩ := hrel
  cases gk with
  | zero => exact absurd HA.out (by simp [neumeref01_Root.l0])
  | succ k1 =>
   have H := HA.out
   clear HA
   simp only [neumeref01_Root.l0] at H
   by_cases c2 : x4_1 ≥ 0
   ·rw [if_pos c2] at H
    have c2b0 : decide (0 ≤ x4_1) = true := dt_ c2
    clear c2
    obtain ⟨ji3, hji3⟩ : ∃ j_ : Int, (IntKind.u64.wrap (x4_1)) = j_ := ⟨_, rfl⟩
    replace H : (if 0 ≤ (ji3) then (if (wrap64 (x3_1 + (shl .i64 1 (ji3)))) ≤ 3037000499 then (if (wrap64 ((wrap64 (x3_1 + (shl .i64 1 (ji3)))) * (wrap64 (x3_1 + (shl .i64 1 (ji3)))))) ≤ a0 then (neumeref01_Root.l0 k1 a0 (wrap64 (x3_1 + (shl .i64 1 (ji3)))) (wrap64 (x4_1 - 1))) else (neumeref01_Root.l0 k1 a0 x3_1 (wrap64 (x4_1 - 1)))) else (neumeref01_Root.l0 k1 a0 x3_1 (wrap64 (x4_1 - 1)))) else (none)) = some r := by first | (rw [hji3] at H; exact H) | (simp only [hji3] at H ⊢; exact H)
    by_cases c4 : 0 ≤ (ji3)
    ·rw [if_pos c4] at H
     have c4b0 := eq_true c4
     have c4b1 : decide (0 ≤ (ji3)) = true := dt_ c4
     clear c4
     obtain ⟨ji5, hji5⟩ : ∃ j_ : Int, (shl .i64 1 (ji3)) = j_ := ⟨_, rfl⟩
     replace H : (if (wrap64 (x3_1 + (ji5))) ≤ 3037000499 then (if (wrap64 ((wrap64 (x3_1 + (ji5))) * (wrap64 (x3_1 + (ji5))))) ≤ a0 then (neumeref01_Root.l0 k1 a0 (wrap64 (x3_1 + (ji5))) (wrap64 (x4_1 - 1))) else (neumeref01_Root.l0 k1 a0 x3_1 (wrap64 (x4_1 - 1)))) else (neumeref01_Root.l0 k1 a0 x3_1 (wrap64 (x4_1 - 1)))) = some r := by first | (rw [hji5] at H; exact H) | (simp only [hji5] at H ⊢; exact H)
     have hji5_ : (IntKind.i64.wrap (1 * 2 ^ min (ji3).toNat 64)) = ji5 := hji5
     have hji5z : (ji3) ≤ 64 → (IntKind.i64.wrap (1 * 2 ^ (ji3).toNat)) = ji5 := shl_small hji5
     have hji5u : (IntKind.i64.wrap (2 ^ min (ji3).toNat 64)) = ji5 := by have h_ := hji5_; rw [Int.one_mul] at h_; exact h_
     have hji5v : (ji3) ≤ 64 → (IntKind.i64.wrap (2 ^ (ji3).toNat)) = ji5 := fun hle_ => by have h_ := hji5z hle_; rw [Int.one_mul] at h_; exact h_
     have hji5y : (wrap64 (1 * 2 ^ min (ji3).toNat 64)) = ji5 := (i64_w _).symm.trans hji5_
     have hji5x : (ji3) ≤ 64 → (wrap64 (1 * 2 ^ (ji3).toNat)) = ji5 := fun h_ => (i64_w _).symm.trans (hji5z h_)
     by_cases c6 : (wrap64 (x3_1 + (ji5))) ≤ 3037000499
     ·rw [if_pos c6] at H
      have c6b0 : decide ((wrap64 (x3_1 + (ji5))) ≤ 3037000499) = true := dt_ c6
      clear c6
      by_cases c7 : (wrap64 ((wrap64 (x3_1 + (ji5))) * (wrap64 (x3_1 + (ji5))))) ≤ a0
      ·rw [if_pos c7] at H
       have c7b0 : decide ((wrap64 ((wrap64 (x3_1 + (ji5))) * (wrap64 (x3_1 + (ji5))))) ≤ a0) = true := dt_ c7
       clear c7
       have H' := sd_ H
       clear H
       go_wp2
       go_roundg k1
       case measure => have := HK1.out; omega
       case rel => exact ⟨(wrap64 (x3_1 + (ji5))), (wrap64 (x4_1 - 1)), (by first | rfl | (simp; done) | (simp only [← hji5] <;> (first | rfl | simp)) | (simp [*]; done)), (by first | rfl | (simp; done) | (simp [*]; done) | (simp [bne]; done)), H', ⟨by have := HK1.out; omega⟩, by repeat (first | exact Drawn0.refl _ | apply Drawn0.step)⟩
      ·rw [if_neg c7] at H
       have c7b0 : decide ((wrap64 ((wrap64 (x3_1 + (ji5))) * (wrap64 (x3_1 + (ji5))))) ≤ a0) = false := df_ c7
       clear c7
       have H' := sd_ H
       clear H
       go_wp2
       go_roundg k1
       case measure => have := HK1.out; omega
       case rel => exact ⟨(x3_1), (wrap64 (x4_1 - 1)), (by first | rfl | (simp; done) | (simp [*]; done) | (simp [bne]; done)), (by first | rfl | (simp; done) | (simp [*]; done) | (simp [bne]; done)), H', ⟨by have := HK1.out; omega⟩, by repeat (first | exact Drawn0.refl _ | apply Drawn0.step)⟩
     ·rw [if_neg c6] at H
      have c6b0 : decide ((wrap64 (x3_1 + (ji5))) ≤ 3037000499) = false := df_ c6
      clear c6
      have H' := sd_ H
      clear H
      go_wp2
      go_roundg k1
      case measure => have := HK1.out; omega
      case rel => exact ⟨(x3_1), (wrap64 (x4_1 - 1)), (by first | rfl | (simp; done) | (simp [*]; done) | (simp [bne]; done)), (by first | rfl | (simp; done) | (simp [*]; done) | (simp [bne]; done)), H', ⟨by have := HK1.out; omega⟩, by repeat (first | exact Drawn0.refl _ | apply Drawn0.step)⟩
    ·rw [if_neg c4] at H
     exact absurd H (by simp)
   ·rw [if_neg c2] at H
    have c2b0 : decide (0 ≤ x4_1) = false := df_ c2
    clear c2
    obtain rfl := Option.some.inj H
    go_wp2
    go_ret
    exact ⟨by first | rfl | (simp; done) | (simp [*]; done), by repeat (first | exact Drawn0.refl _ | apply Drawn0.step)⟩

end Go.Proofs.YtfnpnkhhmehidaaDoor.P
