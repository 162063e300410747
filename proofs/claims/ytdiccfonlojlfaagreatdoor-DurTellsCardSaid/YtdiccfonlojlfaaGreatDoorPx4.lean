-- Written by a program of this session (wip/tools/xprint.py, over the kit's print): Lean checks it.
import Derived.Test.YtdiccfonlojlfaaGreatDoorPx0
import Derived.Test.YtdiccfonlojlfaaGreatDoorPx2
import Derived.Test.YtdiccfonlojlfaaGreatDoorPx3
namespace Go.Proofs.YtdiccfonlojlfaaGreatDoor.P
open Go.RowKit Go.Proofs.YtdiccfonlojlfaaGreatDoorW.PrintWords Go.Proofs.YtdiccfonlojlfaaGreatDoorW.PrintLast Go.Proofs.YtdiccfonlojlfaaGreatDoorW.PrintMore
attribute [local go_sem] max2_int min2_int max_two min_two max_three min_three max_four min_four   -- for this text's walks alone
set_option linter.unusedVariables false
set_option linter.unusedSimpArgs false

attribute [local go_sem high] eqA25
/-! ### dur_Value: function 6 -/
def dur_Value.f (k : Nat) (a0_0 : Int) (a0_1 : Int) : Option (Int × Int × Int) := (dur_Check.f a0_0 a0_1).bind fun t130 => ((dur_may.f t130).bind fun t131 => (if t131.isNone = true then ((dur_length.f k a0_0 a0_1).bind fun t133 => ((rat_Of.f k t133 1024).bind fun bt134 => (some (bt134.1, bt134.2.1, bt134.2.2)))) else ((dur_errno.f (some (t131.getD 0))).bind fun t137 => (some (0, 0, t137)))))
theorem dur_Value.mono : ∀ a0 a1 k, LeO (dur_Value.f k a0 a1) (dur_Value.f (k + 1) a0 a1) := by
 intro a0 a1 k
 unfold dur_Value.f
 repeat' first
   | (with_reducible exact dur_length.mono _ _ _)
   | (with_reducible exact rat_Of.mono _ _ _)
   | (with_reducible exact LeO.refl _)
   | (with_reducible exact LeO.none _)
   | (with_reducible refine LeO.ite ?_ ?_)
   | (with_reducible refine LeO.bind ?_ (fun _ => ?_))
   | exact dur_length.mono _ _ _
   | exact rat_Of.mono _ _ _
   | exact LeO.none _
   | refine LeO.ite ?_ ?_
   | refine LeO.bind ?_ (fun _ => ?_)
set_option maxHeartbeats 8000000 in
set_option maxRecDepth 100000 in
theorem dur_Value.calls (k : Nat) (a0_0 : Int) (a0_1 : Int) (r1 : Int) (r2 : Int) (r3 : Int) (w : World) (hE : Aside0 (LaidE w)) (h : dur_Value.f k a0_0 a0_1 = some (r1, r2, r3)) :
  Calls Tryz.prog 6 #[.agg #[.int .i64 a0_0, .int .i64 a0_1]] w fun e w' => e = .returned (.tuple #[.agg #[.int .i64 r1, .int .i64 r2], .int .i64 r3]) ∧ Below w.heap.size w w' := by
 have hu23 := Tryz.underlying23
 have hu25 := Tryz.underlying25
 have hu61 := Tryz.underlying61
 have HB := sd_ (Below.refl w.heap.size w)
 have H : ((dur_Check.f a0_0 a0_1).bind fun t130 => ((dur_may.f t130).bind fun t131 => (if t131.isNone = true then ((dur_length.f k a0_0 a0_1).bind fun t133 => ((rat_Of.f k t133 1024).bind fun bt134 => (some (bt134.1, bt134.2.1, bt134.2.2)))) else ((dur_errno.f (some (t131.getD 0))).bind fun t137 => (some (0, 0, t137)))))) = some (r1, r2, r3) := h
 clear h
 replace H := ob_ H
 obtain ⟨t130, A20, H⟩ := H
 replace H : ((dur_may.f t130).bind fun t131 => (if t131.isNone = true then ((dur_length.f k a0_0 a0_1).bind fun t133 => ((rat_Of.f k t133 1024).bind fun bt134 => (some (bt134.1, bt134.2.1, bt134.2.2)))) else ((dur_errno.f (some (t131.getD 0))).bind fun t137 => (some (0, 0, t137))))) = some (r1, r2, r3) := H
 have A2 := sd_ A20
 clear A20
 replace H := ob_ H
 obtain ⟨t131, A30, H⟩ := H
 replace H : (if t131.isNone = true then ((dur_length.f k a0_0 a0_1).bind fun t133 => ((rat_Of.f k t133 1024).bind fun bt134 => (some (bt134.1, bt134.2.1, bt134.2.2)))) else ((dur_errno.f (some (t131.getD 0))).bind fun t137 => (some (0, 0, t137)))) = some (r1, r2, r3) := H
 have A3 := sd_ A30
 clear A30
 rcases t131 with _ | q132
 ·have H1 : ((dur_length.f k a0_0 a0_1).bind fun t133 => ((rat_Of.f k t133 1024).bind fun bt134 => (some (bt134.1, bt134.2.1, bt134.2.2)))) = some (r1, r2, r3) := by rw [if_pos (show (none : Option Int).isNone = true by rfl)] at H; exact H
  clear H; have H := H1; clear H1
  try simp only [errW_none, errW_some]
  replace H := ob_ H
  obtain ⟨t133, A40, H⟩ := H
  replace H : ((rat_Of.f k t133 1024).bind fun bt134 => (some (bt134.1, bt134.2.1, bt134.2.2))) = some (r1, r2, r3) := H
  have A4 := sd_ A40
  clear A40
  replace H := ob_ H
  obtain ⟨⟨t134, t135, t136⟩, A50, H⟩ := H
  replace H : (some (t134, t135, t136)) = some (r1, r2, r3) := H
  have A5 := sd_ A50
  clear A50
  simp only [Option.some.injEq, Prod.mk.injEq] at H
  obtain ⟨rfl, rfl, rfl⟩ := H
  go_enter Tryz.func6, Tryz.ntmps6
  go_wp2_with (first | ((with_reducible refine gate_dst (N := 1) rfl ?_); refine box_event ?hg (N := 1) ?hd (cs := #[.int .i64 a0_0, .int .i64 a0_1]) (t := 23) ?hr ?_; (case hd => rfl); (case hg => rfl); (case hr => first | (go_simp; done) | (go_simp; rfl)); intro gb128 hg w6 hbox hb; have BK128 := sd_ hbox; have GW128 := gw_ HB e0_ hg; have GE128 := GW128; replace HB := hb_ HB e0_ hb; clear hb hbox hg) | ((with_reducible refine gate_dst (N := 2) rfl ?_); refine box_event ?hg (N := 2) ?hd (cs := #[.int .i64 0, .int .i64 0]) (t := 25) ?hr ?_; (case hd => rfl); (case hg => rfl); (case hr => first | (go_simp; done) | (go_simp; rfl)); intro gb129 hg w7 hbox hb; have BK129 := sd_ hbox; have GW129 := gw_ HB (e_ GE128 e0_) hg; have GE129 := GW129; have NB128_129 := nb_ BK128 hg; have NB129_128 := sy_ NB128_129; replace BK128 := kb_ BK128 hb; replace HB := hb_ HB (e_ GE128 e0_) hb; clear hb hbox hg; have hnb8 := NB128_129.out; have hnc8 := NB129_128.out; have hcz9_0 : w7.cell? ⟨gb128, 0, none⟩ = some (.int .i64 a0_0) := (kc_ BK128.out 0).trans rfl; have hcz9_1 : w7.cell? ⟨gb128, 1, none⟩ = some (.int .i64 a0_1) := (kc_ BK128.out 1).trans rfl; have hfz9_0 := kf_ BK128.out 0; have hfz9_1 := kf_ BK128.out 1) | ((with_reducible refine gate_callee (f := 15) rfl ?_); refine goesL_ (some 6) rfl rfl Tryz.func15 (by kernel_rfl) rfl #[.agg #[.int .i64 a0_0, .int .i64 a0_1]] rfl (by (try simp only [lm_, lq_, lx_]); first | done | rfl | (simp only [ld_, lt_]; rfl)) ?_; (with_reducible refine (dur_Check.calls a0_0 a0_1 t130 _ A2.out).mono ?_); rintro e w10 ⟨rfl, hb⟩; refine ⟨_, rfl, ?_⟩; replace BK128 := kb_ BK128 hb; replace BK129 := kb_ BK129 hb; replace HB := hb_ HB (e_ GE128 (e_ GE129 e0_)) hb; (try clear hb); (try clear hb2); (try clear hk); (try clear hi)) | ((with_reducible refine gate_callee (f := 34) rfl ?_); refine goesL_ (some 7) rfl rfl Tryz.func34 (by kernel_rfl) rfl #[.bool t130] rfl (by (try simp only [lm_, lq_, lx_]); first | done | rfl | (simp only [ld_, lt_]; rfl)) ?_; (with_reducible refine (dur_may.calls t130 none _ ?side1 A3.out).mono ?_); (case side1 => first | (with_reducible exact hE) | exact sd_ (LaidE.below hE.out (bb_ HB.out (e_ GE128 (e_ GE129 e0_))))); rintro e w' ⟨rfl, ⟨nd, rfl⟩⟩; refine ⟨_, rfl, ?_⟩; (try simp only [errW_none, errW_some]); (repeat (rw [drewN_self w10]; generalize hq_ : World.drewN w10 _ = w10; have n0_ : Aside0 (w10.heap[gb128]? = some (.cells #[.int .i64 a0_0, .int .i64 a0_1] 23 (0, 0))) := ⟨by rw [← hq_]; exact (kk_ BK128.out)⟩; have n1_ : Aside0 (w10.heap[gb129]? = some (.cells #[.int .i64 0, .int .i64 0] 25 (0, 0))) := ⟨by rw [← hq_]; exact (kk_ BK129.out)⟩; have n2_ : Aside0 (Below w.heap.size w w10) := ⟨by rw [← hq_]; exact (bb_ HB.out (e_ GE128 (e_ GE129 e0_)))⟩; clear BK128 BK129 HB hq_; have BK128 := n0_; have BK129 := n1_; have HB := n2_; clear n0_ n1_ n2_)); have hcz11_0 : w10.cell? ⟨gb128, 0, none⟩ = some (.int .i64 a0_0) := (kc_ BK128.out 0).trans rfl; have hcz11_1 : w10.cell? ⟨gb128, 1, none⟩ = some (.int .i64 a0_1) := (kc_ BK128.out 1).trans rfl; have hfz11_0 := kf_ BK128.out 0; have hfz11_1 := kf_ BK128.out 1) | ((with_reducible refine gate_callee (f := 37) rfl ?_); refine goesL_ (some 14) rfl rfl Tryz.func37 (by kernel_rfl) rfl #[.agg #[.int .i64 a0_0, .int .i64 a0_1]] rfl (by (try simp only [lm_, lq_, lx_]); first | done | rfl | (simp only [ld_, lt_]; rfl)) ?_; (with_reducible refine (dur_length.calls k a0_0 a0_1 t133 _ A4.out).mono ?_); rintro e w12 ⟨rfl, hb⟩; refine ⟨_, rfl, ?_⟩; replace BK128 := kb_ BK128 hb; replace BK129 := kb_ BK129 hb; replace HB := hb_ HB (e_ GE128 (e_ GE129 e0_)) hb; (try clear hb); (try clear hb2); (try clear hk); (try clear hi)) | ((with_reducible refine gate_callee (f := 36) rfl ?_); refine goesL_ (some 15) rfl rfl Tryz.func36 (by kernel_rfl) rfl #[.int .i64 t133, .int .i64 1024] rfl (by (try simp only [lm_, lq_, lx_]); first | done | rfl | (simp only [ld_, lt_]; rfl)) ?_; (with_reducible refine (rat_Of.calls k t133 1024 t134 t135 t136 _ A5.out).mono ?_); rintro e w13 ⟨rfl, hb⟩; refine ⟨_, rfl, ?_⟩; replace BK128 := kb_ BK128 hb; replace BK129 := kb_ BK129 hb; replace HB := hb_ HB (e_ GE128 (e_ GE129 e0_)) hb; (try clear hb); (try clear hb2); (try clear hk); (try clear hi); have hcz14_0 : w13.cell? ⟨gb129, 0, none⟩ = some (.int .i64 0) := (kc_ BK129.out 0).trans rfl; have hcz14_1 : w13.cell? ⟨gb129, 1, none⟩ = some (.int .i64 0) := (kc_ BK129.out 1).trans rfl; have hfz14_0 := kf_ BK129.out 0; have hfz14_1 := kf_ BK129.out 1))
  refine bodyPost_ret (results_ct rfl _ _ gb129 25 #[.int .i64 t134, .int .i64 t135] (0, 0) _ rfl (by (with_reducible repeat first | apply kn_ | apply kd_ | apply ka_); refine blk_put (cs := #[.int .i64 t134, .int .i64 0]) ?_ 1 _ rfl; (with_reducible repeat first | apply kn_ | apply kd_ | apply ka_); refine blk_put (cs := #[.int .i64 0, .int .i64 0]) ?_ 0 _ rfl; (with_reducible repeat first | apply kn_ | apply kd_ | apply ka_); exact BK129.out) Tryz.underlying25 rfl (by kernel_rfl)) rfl ?_
  exact ⟨by first | rfl | (simp [errW_none, errW_some] <;> rfl) | (simp [*, errW_none, errW_some] <;> rfl), by repeat (first | (with_reducible first | exact HB.out | apply ba_ | apply pd_ | apply d1_ | refine bs_ ?_ GE128.out | refine bs_ ?_ GE129.out) | exact HB.out)⟩
 ·have H1 : ((dur_errno.f (some q132)).bind fun t137 => (some (0, 0, t137))) = some (r1, r2, r3) := by rw [if_neg (show ¬ (some q132).isNone = true by simp)] at H; exact H
  clear H; have H := H1; clear H1
  try simp only [errW_none, errW_some]
  replace H := ob_ H
  obtain ⟨t137, A150, H⟩ := H
  replace H : (some (0, 0, t137)) = some (r1, r2, r3) := H
  have A15 := sd_ A150
  clear A150
  simp only [Option.some.injEq, Prod.mk.injEq] at H
  obtain ⟨rfl, rfl, rfl⟩ := H
  go_enter Tryz.func6, Tryz.ntmps6
  go_wp2_with (first | ((with_reducible refine gate_dst (N := 1) rfl ?_); refine box_event ?hg (N := 1) ?hd (cs := #[.int .i64 a0_0, .int .i64 a0_1]) (t := 23) ?hr ?_; (case hd => rfl); (case hg => rfl); (case hr => first | (go_simp; done) | (go_simp; rfl)); intro gb128 hg w16 hbox hb; have BK128 := sd_ hbox; have GW128 := gw_ HB e0_ hg; have GE128 := GW128; replace HB := hb_ HB e0_ hb; clear hb hbox hg) | ((with_reducible refine gate_dst (N := 2) rfl ?_); refine box_event ?hg (N := 2) ?hd (cs := #[.int .i64 0, .int .i64 0]) (t := 25) ?hr ?_; (case hd => rfl); (case hg => rfl); (case hr => first | (go_simp; done) | (go_simp; rfl)); intro gb129 hg w17 hbox hb; have BK129 := sd_ hbox; have GW129 := gw_ HB (e_ GE128 e0_) hg; have GE129 := GW129; have NB128_129 := nb_ BK128 hg; have NB129_128 := sy_ NB128_129; replace BK128 := kb_ BK128 hb; replace HB := hb_ HB (e_ GE128 e0_) hb; clear hb hbox hg; have hnb18 := NB128_129.out; have hnc18 := NB129_128.out; have hcz19_0 : w17.cell? ⟨gb128, 0, none⟩ = some (.int .i64 a0_0) := (kc_ BK128.out 0).trans rfl; have hcz19_1 : w17.cell? ⟨gb128, 1, none⟩ = some (.int .i64 a0_1) := (kc_ BK128.out 1).trans rfl; have hfz19_0 := kf_ BK128.out 0; have hfz19_1 := kf_ BK128.out 1) | ((with_reducible refine gate_callee (f := 15) rfl ?_); refine goesL_ (some 6) rfl rfl Tryz.func15 (by kernel_rfl) rfl #[.agg #[.int .i64 a0_0, .int .i64 a0_1]] rfl (by (try simp only [lm_, lq_, lx_]); first | done | rfl | (simp only [ld_, lt_]; rfl)) ?_; (with_reducible refine (dur_Check.calls a0_0 a0_1 t130 _ A2.out).mono ?_); rintro e w20 ⟨rfl, hb⟩; refine ⟨_, rfl, ?_⟩; replace BK128 := kb_ BK128 hb; replace BK129 := kb_ BK129 hb; replace HB := hb_ HB (e_ GE128 (e_ GE129 e0_)) hb; (try clear hb); (try clear hb2); (try clear hk); (try clear hi)) | ((with_reducible refine gate_callee (f := 34) rfl ?_); refine goesL_ (some 7) rfl rfl Tryz.func34 (by kernel_rfl) rfl #[.bool t130] rfl (by (try simp only [lm_, lq_, lx_]); first | done | rfl | (simp only [ld_, lt_]; rfl)) ?_; (with_reducible refine (dur_may.calls t130 (some q132) _ ?side1 A3.out).mono ?_); (case side1 => first | (with_reducible exact hE) | exact sd_ (LaidE.below hE.out (bb_ HB.out (e_ GE128 (e_ GE129 e0_))))); rintro e w' ⟨rfl, ⟨nd, rfl⟩⟩; refine ⟨_, rfl, ?_⟩; (try simp only [errW_none, errW_some]); (repeat (rw [drewN_self w20]; generalize hq_ : World.drewN w20 _ = w20; have n0_ : Aside0 (w20.heap[gb128]? = some (.cells #[.int .i64 a0_0, .int .i64 a0_1] 23 (0, 0))) := ⟨by rw [← hq_]; exact (kk_ BK128.out)⟩; have n1_ : Aside0 (w20.heap[gb129]? = some (.cells #[.int .i64 0, .int .i64 0] 25 (0, 0))) := ⟨by rw [← hq_]; exact (kk_ BK129.out)⟩; have n2_ : Aside0 (Below w.heap.size w w20) := ⟨by rw [← hq_]; exact (bb_ HB.out (e_ GE128 (e_ GE129 e0_)))⟩; clear BK128 BK129 HB hq_; have BK128 := n0_; have BK129 := n1_; have HB := n2_; clear n0_ n1_ n2_)); have CA15 := fun W => dur_errno.calls (some q132) t137 W A15.out; try simp only [errW_none, errW_some] at CA15) | (go_at_call 35; (with_reducible refine (CA15 _).mono ?_); rintro e w21 ⟨rfl, hb⟩; replace BK128 := kb_ BK128 hb; replace BK129 := kb_ BK129 hb; replace HB := hb_ HB (e_ GE128 (e_ GE129 e0_)) hb; (try clear hb); (try clear hb2); (try clear hk); (try clear hi); have hcz22_0 : w21.cell? ⟨gb129, 0, none⟩ = some (.int .i64 0) := (kc_ BK129.out 0).trans rfl; have hcz22_1 : w21.cell? ⟨gb129, 1, none⟩ = some (.int .i64 0) := (kc_ BK129.out 1).trans rfl; have hfz22_0 := kf_ BK129.out 0; have hfz22_1 := kf_ BK129.out 1))
  refine bodyPost_ret (results_ct rfl _ _ gb129 25 #[.int .i64 0, .int .i64 0] (0, 0) _ rfl (by (with_reducible repeat first | apply kn_ | apply kd_ | apply ka_); refine blk_put (cs := #[.int .i64 0, .int .i64 0]) ?_ 1 _ rfl; (with_reducible repeat first | apply kn_ | apply kd_ | apply ka_); refine blk_put (cs := #[.int .i64 0, .int .i64 0]) ?_ 0 _ rfl; (with_reducible repeat first | apply kn_ | apply kd_ | apply ka_); exact BK129.out) Tryz.underlying25 rfl (by kernel_rfl)) rfl ?_
  exact ⟨by first | rfl | (simp [errW_none, errW_some] <;> rfl) | (simp [*, errW_none, errW_some] <;> rfl), by repeat (first | (with_reducible first | exact HB.out | apply ba_ | apply pd_ | apply d1_ | refine bs_ ?_ GE128.out | refine bs_ ?_ GE129.out) | exact HB.out)⟩

/-! ### strings_TrimRight: function 40 -/
def strings_TrimRight.f (a0 a1 : ByteArray) : Option ByteArray := if a0.size ≤ 9223372036854775807 then (if a1.size < 4294967281 then (if a1.data.toList.all (fun b => decide (b.toNat < 128)) = true then some ⟨(Lib.trimRightS a0.data.toList a1.data.toList).toArray⟩ else none) else none) else none
theorem strings_TrimRight.calls (a0 a1 : ByteArray) (r : ByteArray) (w : World) (h : strings_TrimRight.f a0 a1 = some r) :
  Calls Tryz.prog 40 #[.string a0, .string a1] w fun e w' => e = .returned (.string r) ∧ Below w.heap.size w w' := by
 unfold strings_TrimRight.f at h
 split at h
 ·split at h
  ·split at h
   ·rename_i h1 h2 h3
    obtain rfl := Option.some.inj h
    exact Any.strings_TrimRight_laid Tryz.lays162 (by kernel_rfl) a0 a1 w h1 h2 (fun j b hj => by
     have := List.all_eq_true.1 h3 b (List.mem_of_getElem? hj)
     simpa using this)
   ·cases h
  ·cases h
 ·cases h

/-! ### slices_Index_string_string: function 41 -/
def slices_Index_string_string.l0 : Nat → List ByteArray → ByteArray → Int → Int → Option (Int)
 | 0, _, _, _, _ => none
 | k + 1, x0, x1, x7, x8 => if x8 < x7 then (if 0 ≤ x8 then (if x8 < (x0.length : Int) then (if x1.toList = (rdOf ByteArray.empty x0 x8).toList then (some x8) else (slices_Index_string_string.l0 k x0 x1 x7 (wrap64 (x8 + 1)))) else (none)) else (none)) else (some (-1))
def slices_Index_string_string.f (k : Nat) (l0 : List ByteArray) (a1 : ByteArray) : Option (Int) := slices_Index_string_string.l0 k l0 a1 (l0.length : Int) 0
theorem slices_Index_string_string.mono_l : ∀ k, (∀ y0 y1 y2 y3, LeO (slices_Index_string_string.l0 k y0 y1 y2 y3) (slices_Index_string_string.l0 (k + 1) y0 y1 y2 y3))
 | 0 => fun _ _ _ _ r h => by simp [slices_Index_string_string.l0] at h
 | k + 1 => by
  have ih0 := slices_Index_string_string.mono_l k
  ·intro y0 y1 y2 y3
   unfold slices_Index_string_string.l0
   repeat' first
   | (with_reducible exact ih0 _ _ _ _)
   | (with_reducible exact LeO.refl _)
   | (with_reducible exact LeO.none _)
   | (with_reducible refine LeO.ite ?_ ?_)
   | (with_reducible refine LeO.bind ?_ (fun _ => ?_))
   | exact ih0 _ _ _ _
   | exact LeO.none _
   | refine LeO.ite ?_ ?_
   | refine LeO.bind ?_ (fun _ => ?_)
theorem slices_Index_string_string.mono : ∀ a0 a1 k, LeO (slices_Index_string_string.f k a0 a1) (slices_Index_string_string.f (k + 1) a0 a1) := by
 intro a0 a1 k
 have ih0 := slices_Index_string_string.mono_l k
 unfold slices_Index_string_string.f
 repeat' first
   | (with_reducible exact ih0 _ _ _ _)
   | (with_reducible exact LeO.refl _)
   | (with_reducible exact LeO.none _)
   | (with_reducible refine LeO.ite ?_ ?_)
   | (with_reducible refine LeO.bind ?_ (fun _ => ?_))
   | exact ih0 _ _ _ _
   | exact LeO.none _
   | refine LeO.ite ?_ ?_
   | refine LeO.bind ?_ (fun _ => ?_)
set_option maxHeartbeats 8000000 in
set_option maxRecDepth 100000 in
theorem slices_Index_string_string.calls (k : Nat) (A0 : Option Addr) (c0 : Nat) (l0 : List ByteArray) (a1 : ByteArray) (r : Int) (w : World) (hr0 : Kd.C Kd.string w A0 l0.length l0) (hc0 : l0.length ≤ c0) (h : slices_Index_string_string.f k l0 a1 = some r) :
  Calls Tryz.prog 41 #[.slice A0 l0.length c0, .string a1] w fun e w' => e = .returned (.int .i64 r) ∧ Drawn0 w w' := by
 have HR0 := sd_ hr0
 have HC0 := sd_ hc0
 clear hr0 hc0
 have H : (slices_Index_string_string.l0 k l0 a1 (l0.length : Int) 0) = some r := h
 clear h
 have H' := sd_ H
 clear H
 go_enter Tryz.func41, Tryz.ntmps41
 go_wp2
 go_loopg [8] k (fun kq v8 w' => ∃ (x8_1 : Int), v8 = .int .i64 x8_1 ∧ Aside0 (slices_Index_string_string.l0 kq l0 a1 (l0.length : Int) x8_1 = some r) ∧ Aside0 (kq ≤ k) ∧ Drawn0 w w')
 case atStart => exact ⟨(0), (by first | rfl | (simp; done) | (simp [*]; done) | (simp [bne]; done)), H', ⟨Nat.le_refl _⟩, by repeat (first | exact Drawn0.refl _ | apply Drawn0.step)⟩
 case round =>
  clear H'
  try clear p2
  obtain ⟨x8_1, rfl, HA, HK1, ⟨m1, rfl⟩⟩ := hrel
  cases gk with
  | zero => exact absurd HA.out (by simp [slices_Index_string_string.l0])
  | succ k1 =>
   have H := HA.out
   clear HA
   simp only [slices_Index_string_string.l0] at H
   by_cases c3 : x8_1 < (l0.length : Int)
   ·rw [if_pos c3] at H
    have c3b0 : decide (x8_1 < (l0.length : Int)) = true := dt_ c3
    clear c3
    by_cases c4 : 0 ≤ x8_1
    ·rw [if_pos c4] at H
     have c4b0 : decide (0 ≤ x8_1) = true := dt_ c4
     clear c4
     by_cases c5 : x8_1 < (l0.length : Int)
     ·rw [if_pos c5] at H
      have c5b0 : decide (x8_1 < (l0.length : Int)) = true := dt_ c5
      clear c5
      by_cases c6 : a1.toList = (rdOf ByteArray.empty l0 x8_1).toList
      ·rw [if_pos c6] at H
       have c6b0 : (a1.toList == (rdOf ByteArray.empty l0 x8_1).toList) = true := beq_iff_eq.mpr c6
       have c6b1 : (a1.toList != (rdOf ByteArray.empty l0 x8_1).toList) = false := bne_eq_false_iff_eq.mpr c6
       clear c6
       obtain rfl := Option.some.inj H
       have p138 : 0 ≤ (x8_1 : Int) := od_ (by first | (with_reducible assumption) | assumption)
       have q138 : x8_1 < (l0.length : Int) := od_ (by first | (with_reducible assumption) | assumption)
       obtain ⟨ad138, e138, hx138_0⟩ := Kd.at_string HR0.out x8_1 p138 q138
       cases e138
       replace p138 := eq_true p138
       replace q138 := eq_true q138
       go_wp2
       go_ret
       exact ⟨by first | rfl | (simp; done) | (simp [*]; done), by repeat (first | exact Drawn0.refl _ | apply Drawn0.step)⟩
      ·rw [if_neg c6] at H
       have c6b0 : (a1.toList == (rdOf ByteArray.empty l0 x8_1).toList) = false := beq_eq_false_iff_ne.mpr c6
       have c6b1 : (a1.toList != (rdOf ByteArray.empty l0 x8_1).toList) = true := bne_iff_ne.mpr c6
       have H' := sd_ H
       clear H
       have p138 : 0 ≤ (x8_1 : Int) := od_ (by first | (with_reducible assumption) | assumption)
       have q138 : x8_1 < (l0.length : Int) := od_ (by first | (with_reducible assumption) | assumption)
       obtain ⟨ad138, e138, hx138_0⟩ := Kd.at_string HR0.out x8_1 p138 q138
       cases e138
       replace p138 := eq_true p138
       replace q138 := eq_true q138
       go_wp2
       go_roundg k1
       case measure => have := HK1.out; omega
       case rel => exact ⟨(wrap64 (x8_1 + 1)), (by first | rfl | (simp; done) | (simp [*]; done) | (simp [bne]; done)), H', ⟨by have := HK1.out; omega⟩, by repeat (first | exact Drawn0.refl _ | apply Drawn0.step)⟩
     ·rw [if_neg c5] at H
      exact absurd H (by simp)
    ·rw [if_neg c4] at H
     exact absurd H (by simp)
   ·rw [if_neg c3] at H
    have c3b0 : decide (x8_1 < (l0.length : Int)) = false := df_ c3
    clear c3
    obtain rfl := Option.some.inj H
    go_wp2
    go_ret
    exact ⟨by first | rfl | (simp; done) | (simp [*]; done), by repeat (first | exact Drawn0.refl _ | apply Drawn0.step)⟩

/-! ### dur_names: function 42 -/
def dur_names.f  : Option (List ByteArray) := some (([(⟨#[98, 114, 101, 118, 101]⟩ : ByteArray), (⟨#[49]⟩ : ByteArray), (⟨#[50]⟩ : ByteArray), (⟨#[52]⟩ : ByteArray), (⟨#[56]⟩ : ByteArray), (⟨#[49, 54]⟩ : ByteArray), (⟨#[51, 50]⟩ : ByteArray), (⟨#[54, 52]⟩ : ByteArray)] : List ByteArray))
set_option maxHeartbeats 8000000 in
set_option maxRecDepth 100000 in
theorem dur_names.calls  (r : List ByteArray) (w : World) (h : dur_names.f  = some r) :
  Calls Tryz.prog 42 #[] w fun e w' => ∃ v0_ : Value, e = .returned (v0_) ∧ Kd.R Kd.string 9 w' w.heap.size (fun _ => True) v0_ r ∧ Below w.heap.size w w' := by
 have HB := sd_ (Below.refl w.heap.size w)
 have H : (some (([(⟨#[98, 114, 101, 118, 101]⟩ : ByteArray), (⟨#[49]⟩ : ByteArray), (⟨#[50]⟩ : ByteArray), (⟨#[52]⟩ : ByteArray), (⟨#[56]⟩ : ByteArray), (⟨#[49, 54]⟩ : ByteArray), (⟨#[51, 50]⟩ : ByteArray), (⟨#[54, 52]⟩ : ByteArray)] : List ByteArray))) = some r := h
 clear h
 obtain ⟨y139, hy139⟩ : ∃ y_ : List ByteArray, y_ = (([(⟨#[98, 114, 101, 118, 101]⟩ : ByteArray), (⟨#[49]⟩ : ByteArray), (⟨#[50]⟩ : ByteArray), (⟨#[52]⟩ : ByteArray), (⟨#[56]⟩ : ByteArray), (⟨#[49, 54]⟩ : ByteArray), (⟨#[51, 50]⟩ : ByteArray), (⟨#[54, 52]⟩ : ByteArray)] : List ByteArray)) := ⟨_, rfl⟩
 replace H : (some y139) = some r := by first | (rw [hy139]; with_reducible exact H) | (have H2_ := (Option.bind_some _ _).symm.trans H; rw [hy139]; with_reducible exact H2_) | (have H2_ := (Option.bind_some _ _).symm.trans H; with_reducible exact H2_) | with_reducible exact H | (rw [hy139]; exact H) | exact H
 have Ny139 := sd_ hy139
 clear hy139
 obtain rfl := Option.some.inj H
 go_enter Tryz.func42, Tryz.ntmps42
 go_wp2_with (first | ((with_reducible refine gate_dst (N := 1) rfl ?_); refine Kd.R_lit Kd.string _ 9 ?hg (N := 1) ?hd (xs := ([(⟨#[98, 114, 101, 118, 101]⟩ : ByteArray), (⟨#[49]⟩ : ByteArray), (⟨#[50]⟩ : ByteArray), (⟨#[52]⟩ : ByteArray), (⟨#[56]⟩ : ByteArray), (⟨#[49, 54]⟩ : ByteArray), (⟨#[51, 50]⟩ : ByteArray), (⟨#[54, 52]⟩ : ByteArray)] : List ByteArray)) (inner := [.string (⟨#[98, 114, 101, 118, 101]⟩ : ByteArray), .string (⟨#[49]⟩ : ByteArray), .string (⟨#[50]⟩ : ByteArray), .string (⟨#[52]⟩ : ByteArray), .string (⟨#[56]⟩ : ByteArray), .string (⟨#[49, 54]⟩ : ByteArray), .string (⟨#[51, 50]⟩ : ByteArray), .string (⟨#[54, 52]⟩ : ByteArray)]) (ok := fun _ => True) (okp := fun _ => True) ?hr ?hp (fun _ hk => hk) trivial (Below.refl _ _) (Nat.le_refl _) (by simp) ?_; (case hd => rfl); (case hg => rfl); (case hr => first | (go_simp; done) | (go_simp; rfl)); (case hp => exact (Reps.one (show Kd.M Kd.string _ _ _ (⟨#[98, 114, 101, 118, 101]⟩ : ByteArray) [.string (⟨#[98, 114, 101, 118, 101]⟩ : ByteArray)] from rfl) (Reps.one (show Kd.M Kd.string _ _ _ (⟨#[49]⟩ : ByteArray) [.string (⟨#[49]⟩ : ByteArray)] from rfl) (Reps.one (show Kd.M Kd.string _ _ _ (⟨#[50]⟩ : ByteArray) [.string (⟨#[50]⟩ : ByteArray)] from rfl) (Reps.one (show Kd.M Kd.string _ _ _ (⟨#[52]⟩ : ByteArray) [.string (⟨#[52]⟩ : ByteArray)] from rfl) (Reps.one (show Kd.M Kd.string _ _ _ (⟨#[56]⟩ : ByteArray) [.string (⟨#[56]⟩ : ByteArray)] from rfl) (Reps.one (show Kd.M Kd.string _ _ _ (⟨#[49, 54]⟩ : ByteArray) [.string (⟨#[49, 54]⟩ : ByteArray)] from rfl) (Reps.one (show Kd.M Kd.string _ _ _ (⟨#[51, 50]⟩ : ByteArray) [.string (⟨#[51, 50]⟩ : ByteArray)] from rfl) (Reps.one (show Kd.M Kd.string _ _ _ (⟨#[54, 52]⟩ : ByteArray) [.string (⟨#[54, 52]⟩ : ByteArray)] from rfl) (Reps.none _ _)))))))))); intro v140 w1 ho2 hb hg_ hnew_; clear hg_ hnew_; (first | rw [← Ny139.out] at ho2 | (simp only [Int.reduceToNat] at ho2; rw [← Ny139.out] at ho2)); have HO141 := sd_ (Kd.R_lower ho2 (bz_ (bb_ HB.out e0_))); replace HB := hb_ HB e0_ hb; clear hb ho2))
 go_ret
 exact ⟨_, by first | rfl | (simp [errW_none, errW_some] <;> rfl) | (simp [*, errW_none, errW_some] <;> rfl), by (with_reducible repeat (first | apply Kd.R_alloc | apply Kd.R_drewN | apply Kd.R_drew)); exact HO141.out, by repeat (first | (with_reducible first | exact HB.out | apply ba_ | apply pd_ | apply d1_) | exact HB.out)⟩

/-! ### dur_Parse: function 8 -/
def dur_Parse.f (k : Nat) (a0 : ByteArray) : Option (Int × Int × Bool) := (strings_TrimRight.f a0 (⟨#[46]⟩ : ByteArray)).bind fun t143 => ((dur_names.f).bind fun t144 => ((slices_Index_string_string.f k t144 t143).bind fun t147 => (if t147 < 0 then (some (0, 0, false)) else ((dur_Check.f (wrap64 (t147 + (-1))) (wrap64 ((a0.size : Int) - (t143.size : Int)))).bind fun t149 => (if t149 = true then (some (wrap64 (t147 + (-1)), wrap64 ((a0.size : Int) - (t143.size : Int)), true)) else (some (0, 0, false)))))))
theorem dur_Parse.mono : ∀ a0 k, LeO (dur_Parse.f k a0) (dur_Parse.f (k + 1) a0) := by
 intro a0 k
 unfold dur_Parse.f
 repeat' first
   | (with_reducible exact slices_Index_string_string.mono _ _ _)
   | (with_reducible exact LeO.refl _)
   | (with_reducible exact LeO.none _)
   | (with_reducible refine LeO.ite ?_ ?_)
   | (with_reducible refine LeO.bind ?_ (fun _ => ?_))
   | exact slices_Index_string_string.mono _ _ _
   | exact LeO.none _
   | refine LeO.ite ?_ ?_
   | refine LeO.bind ?_ (fun _ => ?_)
set_option maxHeartbeats 8000000 in
set_option maxRecDepth 100000 in
theorem dur_Parse.calls (k : Nat) (a0 : ByteArray) (r1 : Int) (r2 : Int) (r3 : Bool) (w : World) (h : dur_Parse.f k a0 = some (r1, r2, r3)) :
  Calls Tryz.prog 8 #[.string a0] w fun e w' => e = .returned (.tuple #[.agg #[.int .i64 r1, .int .i64 r2], .bool r3]) ∧ Below w.heap.size w w' := by
 have hu23 := Tryz.underlying23
 have HB := sd_ (Below.refl w.heap.size w)
 have H : ((strings_TrimRight.f a0 (⟨#[46]⟩ : ByteArray)).bind fun t143 => ((dur_names.f).bind fun t144 => ((slices_Index_string_string.f k t144 t143).bind fun t147 => (if t147 < 0 then (some (0, 0, false)) else ((dur_Check.f (wrap64 (t147 + (-1))) (wrap64 ((a0.size : Int) - (t143.size : Int)))).bind fun t149 => (if t149 = true then (some (wrap64 (t147 + (-1)), wrap64 ((a0.size : Int) - (t143.size : Int)), true)) else (some (0, 0, false)))))))) = some (r1, r2, r3) := h
 clear h
 replace H := ob_ H
 obtain ⟨t143, A20, H⟩ := H
 replace H : ((dur_names.f).bind fun t144 => ((slices_Index_string_string.f k t144 t143).bind fun t147 => (if t147 < 0 then (some (0, 0, false)) else ((dur_Check.f (wrap64 (t147 + (-1))) (wrap64 ((a0.size : Int) - (t143.size : Int)))).bind fun t149 => (if t149 = true then (some (wrap64 (t147 + (-1)), wrap64 ((a0.size : Int) - (t143.size : Int)), true)) else (some (0, 0, false))))))) = some (r1, r2, r3) := H
 have A2 := sd_ A20
 clear A20
 replace H := ob_ H
 obtain ⟨t144, A30, H⟩ := H
 replace H : ((slices_Index_string_string.f k t144 t143).bind fun t147 => (if t147 < 0 then (some (0, 0, false)) else ((dur_Check.f (wrap64 (t147 + (-1))) (wrap64 ((a0.size : Int) - (t143.size : Int)))).bind fun t149 => (if t149 = true then (some (wrap64 (t147 + (-1)), wrap64 ((a0.size : Int) - (t143.size : Int)), true)) else (some (0, 0, false)))))) = some (r1, r2, r3) := H
 have A3 := sd_ A30
 clear A30
 replace H := ob_ H
 obtain ⟨t147, A40, H⟩ := H
 replace H : (if t147 < 0 then (some (0, 0, false)) else ((dur_Check.f (wrap64 (t147 + (-1))) (wrap64 ((a0.size : Int) - (t143.size : Int)))).bind fun t149 => (if t149 = true then (some (wrap64 (t147 + (-1)), wrap64 ((a0.size : Int) - (t143.size : Int)), true)) else (some (0, 0, false))))) = some (r1, r2, r3) := H
 have A4 := sd_ A40
 clear A40
 by_cases c5 : t147 < 0
 ·rw [if_pos c5] at H
  have c5b0 : decide (t147 < 0) = true := dt_ c5
  clear c5
  simp only [Option.some.injEq, Prod.mk.injEq] at H
  obtain ⟨rfl, rfl, rfl⟩ := H
  go_enter Tryz.func8, Tryz.ntmps8
  go_wp2_with (first | ((with_reducible refine gate_dst (N := 2) rfl ?_); refine box_event ?hg (N := 2) ?hd (cs := #[.int .i64 0, .int .i64 0]) (t := 23) ?hr ?_; (case hd => rfl); (case hg => rfl); (case hr => first | (go_simp; done) | (go_simp; rfl)); intro gb142 hg w6 hbox hb; have BK142 := sd_ hbox; have GW142 := gw_ HB e0_ hg; have GE142 := GW142; replace HB := hb_ HB e0_ hb; clear hb hbox hg) | ((with_reducible refine gate_callee (f := 40) rfl ?_); refine goesL_ (some 8) rfl rfl Tryz.func40 (by kernel_rfl) rfl #[.string a0, .string (⟨#[46]⟩ : ByteArray)] rfl (by (try simp only [lm_, lq_, lx_]); first | done | rfl | (simp only [ld_, lt_]; rfl)) ?_; (with_reducible refine (strings_TrimRight.calls a0 (⟨#[46]⟩ : ByteArray) t143 _ A2.out).mono ?_); rintro e w7 ⟨rfl, hb⟩; refine ⟨_, rfl, ?_⟩; replace BK142 := kb_ BK142 hb; replace HB := hb_ HB (e_ GE142 e0_) hb; (try clear hb); (try clear hb2); (try clear hk); (try clear hi)) | ((with_reducible refine gate_callee (f := 42) rfl ?_); refine goesL_ (some 9) rfl rfl Tryz.func42 (by kernel_rfl) rfl #[] rfl (by (try simp only [lm_, lq_, lx_]); first | done | rfl | (simp only [ld_, lt_]; rfl)) ?_; (with_reducible refine (dur_names.calls  t144 _ A3.out).mono ?_); rintro e w8 ⟨v145, rfl, ho0, hb⟩; refine ⟨_, rfl, ?_⟩; have HO146 := sd_ (Kd.R_lower ho0 (bz_ (bb_ HB.out (e_ GE142 e0_)))); replace BK142 := kb_ BK142 hb; replace HB := hb_ HB (e_ GE142 e0_) hb; (try clear hb); (try clear hb2); (try clear hk); (try clear hi); (try clear ho0); obtain ⟨Ao9, co9, eo9⟩ := Kd.R_slice HO146.out; subst eo9) | ((with_reducible refine gate_callee (f := 41) rfl ?_); refine goesL_ (some 11) rfl rfl Tryz.func41 (by kernel_rfl) rfl #[.slice Ao9 t144.length co9, .string t143] rfl (by (try simp only [lm_, lq_, lx_]); first | done | rfl | (simp only [ld_, lt_]; rfl)) ?_; (with_reducible refine (slices_Index_string_string.calls k _ _ t144 t143 t147 _ ?side1 ?side2 A4.out).mono ?_); (case side1 => repeat (first | exact (Kd.R_reads' HO146.out).2.2 | (with_reducible refine Kd.C_alloc ?_ _) | (with_reducible refine Kd.C_drewN ?_ _) | (with_reducible refine Kd.C_drew ?_))); (case side2 => exact (Kd.R_reads' HO146.out).2.1); rintro e w' ⟨rfl, ⟨nd, rfl⟩⟩; refine ⟨_, rfl, ?_⟩; (repeat (rw [drewN_self w8]; generalize hq_ : World.drewN w8 _ = w8; have n0_ : Aside0 (Kd.R Kd.string 9 w8 w.heap.size (fun _ => True) (.slice Ao9 t144.length co9) t144) := ⟨by rw [← hq_]; exact (by (with_reducible repeat (first | apply Kd.R_alloc | apply Kd.R_drewN | apply Kd.R_drew)); exact HO146.out)⟩; have n1_ : Aside0 (w8.heap[gb142]? = some (.cells #[.int .i64 0, .int .i64 0] 23 (0, 0))) := ⟨by rw [← hq_]; exact (kk_ BK142.out)⟩; have n2_ : Aside0 (Below w.heap.size w w8) := ⟨by rw [← hq_]; exact (bb_ HB.out (e_ GE142 e0_))⟩; clear HO146 BK142 HB hq_; have HO146 := n0_; have BK142 := n1_; have HB := n2_; clear n0_ n1_ n2_))) | ((with_reducible refine gate_dst (N := 6) rfl ?_); refine box_event ?hg (N := 6) ?hd (cs := #[.int .i64 0, .int .i64 0]) (t := 23) ?hr ?_; (case hd => rfl); (case hg => rfl); (case hr => first | (go_simp; done) | (go_simp; rfl)); intro gb148 hg w10 hbox hb; have BK148 := sd_ hbox; have GW148 := gw_ HB (e_ GE142 e0_) hg; have GE148 := GW148; have NB142_148 := nb_ BK142 hg; have NB148_142 := sy_ NB142_148; replace HO146 := sd_ (Kd.R_below (by (with_reducible repeat (first | apply Kd.R_alloc | apply Kd.R_drewN | apply Kd.R_drew)); exact HO146.out) hb); replace BK142 := kb_ BK142 hb; replace HB := hb_ HB (e_ GE142 e0_) hb; clear hb hbox hg; have hnb11 := NB148_142.out; have hnc11 := NB142_148.out; have hcz12_0 : w10.cell? ⟨gb148, 0, none⟩ = some (.int .i64 0) := (kc_ BK148.out 0).trans rfl; have hcz12_1 : w10.cell? ⟨gb148, 1, none⟩ = some (.int .i64 0) := (kc_ BK148.out 1).trans rfl; have hfz12_0 := kf_ BK148.out 0; have hfz12_1 := kf_ BK148.out 1; have hcz13_0 : w10.cell? ⟨gb142, 0, none⟩ = some (.int .i64 0) := (kc_ BK142.out 0).trans rfl; have hcz13_1 : w10.cell? ⟨gb142, 1, none⟩ = some (.int .i64 0) := (kc_ BK142.out 1).trans rfl; have hfz13_0 := kf_ BK142.out 0; have hfz13_1 := kf_ BK142.out 1))
  refine bodyPost_ret (results_ct rfl _ _ gb142 23 #[.int .i64 0, .int .i64 0] (0, 0) _ rfl (by (with_reducible repeat first | apply kn_ | apply kd_ | apply ka_); refine blk_put (cs := #[.int .i64 0, .int .i64 0]) ?_ 1 _ rfl; (with_reducible repeat first | apply kn_ | apply kd_ | apply ka_); refine blk_put (cs := #[.int .i64 0, .int .i64 0]) ?_ 0 _ rfl; (with_reducible repeat first | apply kn_ | apply kd_ | apply ka_); refine blk_far ?_ NB142_148.out _; (with_reducible repeat first | apply kn_ | apply kd_ | apply ka_); refine blk_far ?_ NB142_148.out _; (with_reducible repeat first | apply kn_ | apply kd_ | apply ka_); exact BK142.out) Tryz.underlying23 rfl (by kernel_rfl)) rfl ?_
  exact ⟨by first | rfl | (simp [errW_none, errW_some] <;> rfl) | (simp [*, errW_none, errW_some] <;> rfl), by repeat (first | (with_reducible first | exact HB.out | apply ba_ | apply pd_ | apply d1_ | refine bs_ ?_ GE142.out | refine bs_ ?_ GE148.out) | exact HB.out)⟩
 ·rw [if_neg c5] at H
  have c5b0 : decide (t147 < 0) = false := df_ c5
  clear c5
  replace H := ob_ H
  obtain ⟨t149, A140, H⟩ := H
  replace H : (if t149 = true then (some (wrap64 (t147 + (-1)), wrap64 ((a0.size : Int) - (t143.size : Int)), true)) else (some (0, 0, false))) = some (r1, r2, r3) := H
  have A14 := sd_ A140
  clear A140
  by_cases c15 : t149 = true
  ·subst c15
   have H1 : (some (wrap64 (t147 + (-1)), wrap64 ((a0.size : Int) - (t143.size : Int)), true)) = some (r1, r2, r3) := by rw [if_pos rfl] at H; exact H
   clear H; have H := H1; clear H1
   simp only [Option.some.injEq, Prod.mk.injEq] at H
   obtain ⟨rfl, rfl, rfl⟩ := H
   go_enter Tryz.func8, Tryz.ntmps8
   go_wp2_with (first | ((with_reducible refine gate_dst (N := 2) rfl ?_); refine box_event ?hg (N := 2) ?hd (cs := #[.int .i64 0, .int .i64 0]) (t := 23) ?hr ?_; (case hd => rfl); (case hg => rfl); (case hr => first | (go_simp; done) | (go_simp; rfl)); intro gb142 hg w16 hbox hb; have BK142 := sd_ hbox; have GW142 := gw_ HB e0_ hg; have GE142 := GW142; replace HB := hb_ HB e0_ hb; clear hb hbox hg) | ((with_reducible refine gate_callee (f := 40) rfl ?_); refine goesL_ (some 8) rfl rfl Tryz.func40 (by kernel_rfl) rfl #[.string a0, .string (⟨#[46]⟩ : ByteArray)] rfl (by (try simp only [lm_, lq_, lx_]); first | done | rfl | (simp only [ld_, lt_]; rfl)) ?_; (with_reducible refine (strings_TrimRight.calls a0 (⟨#[46]⟩ : ByteArray) t143 _ A2.out).mono ?_); rintro e w17 ⟨rfl, hb⟩; refine ⟨_, rfl, ?_⟩; replace BK142 := kb_ BK142 hb; replace HB := hb_ HB (e_ GE142 e0_) hb; (try clear hb); (try clear hb2); (try clear hk); (try clear hi)) | ((with_reducible refine gate_callee (f := 42) rfl ?_); refine goesL_ (some 9) rfl rfl Tryz.func42 (by kernel_rfl) rfl #[] rfl (by (try simp only [lm_, lq_, lx_]); first | done | rfl | (simp only [ld_, lt_]; rfl)) ?_; (with_reducible refine (dur_names.calls  t144 _ A3.out).mono ?_); rintro e w18 ⟨v145, rfl, ho0, hb⟩; refine ⟨_, rfl, ?_⟩; have HO146 := sd_ (Kd.R_lower ho0 (bz_ (bb_ HB.out (e_ GE142 e0_)))); replace BK142 := kb_ BK142 hb; replace HB := hb_ HB (e_ GE142 e0_) hb; (try clear hb); (try clear hb2); (try clear hk); (try clear hi); (try clear ho0); obtain ⟨Ao19, co19, eo19⟩ := Kd.R_slice HO146.out; subst eo19) | ((with_reducible refine gate_callee (f := 41) rfl ?_); refine goesL_ (some 11) rfl rfl Tryz.func41 (by kernel_rfl) rfl #[.slice Ao19 t144.length co19, .string t143] rfl (by (try simp only [lm_, lq_, lx_]); first | done | rfl | (simp only [ld_, lt_]; rfl)) ?_; (with_reducible refine (slices_Index_string_string.calls k _ _ t144 t143 t147 _ ?side1 ?side2 A4.out).mono ?_); (case side1 => repeat (first | exact (Kd.R_reads' HO146.out).2.2 | (with_reducible refine Kd.C_alloc ?_ _) | (with_reducible refine Kd.C_drewN ?_ _) | (with_reducible refine Kd.C_drew ?_))); (case side2 => exact (Kd.R_reads' HO146.out).2.1); rintro e w' ⟨rfl, ⟨nd, rfl⟩⟩; refine ⟨_, rfl, ?_⟩; (repeat (rw [drewN_self w18]; generalize hq_ : World.drewN w18 _ = w18; have n0_ : Aside0 (Kd.R Kd.string 9 w18 w.heap.size (fun _ => True) (.slice Ao19 t144.length co19) t144) := ⟨by rw [← hq_]; exact (by (with_reducible repeat (first | apply Kd.R_alloc | apply Kd.R_drewN | apply Kd.R_drew)); exact HO146.out)⟩; have n1_ : Aside0 (w18.heap[gb142]? = some (.cells #[.int .i64 0, .int .i64 0] 23 (0, 0))) := ⟨by rw [← hq_]; exact (kk_ BK142.out)⟩; have n2_ : Aside0 (Below w.heap.size w w18) := ⟨by rw [← hq_]; exact (bb_ HB.out (e_ GE142 e0_))⟩; clear HO146 BK142 HB hq_; have HO146 := n0_; have BK142 := n1_; have HB := n2_; clear n0_ n1_ n2_))) | ((with_reducible refine gate_dst (N := 6) rfl ?_); refine box_event ?hg (N := 6) ?hd (cs := #[.int .i64 0, .int .i64 0]) (t := 23) ?hr ?_; (case hd => rfl); (case hg => rfl); (case hr => first | (go_simp; done) | (go_simp; rfl)); intro gb148 hg w20 hbox hb; have BK148 := sd_ hbox; have GW148 := gw_ HB (e_ GE142 e0_) hg; have GE148 := GW148; have NB142_148 := nb_ BK142 hg; have NB148_142 := sy_ NB142_148; replace HO146 := sd_ (Kd.R_below (by (with_reducible repeat (first | apply Kd.R_alloc | apply Kd.R_drewN | apply Kd.R_drew)); exact HO146.out) hb); replace BK142 := kb_ BK142 hb; replace HB := hb_ HB (e_ GE142 e0_) hb; clear hb hbox hg; have hnb21 := NB148_142.out; have hnc21 := NB142_148.out; have hcz22_0 : w20.cell? ⟨gb148, 0, none⟩ = some (.int .i64 0) := (kc_ BK148.out 0).trans rfl; have hcz22_1 : w20.cell? ⟨gb148, 1, none⟩ = some (.int .i64 0) := (kc_ BK148.out 1).trans rfl; have hfz22_0 := kf_ BK148.out 0; have hfz22_1 := kf_ BK148.out 1) | (go_at_call 15; (with_reducible refine (dur_Check.calls (wrap64 (t147 + (-1))) (wrap64 ((a0.size : Int) - (t143.size : Int))) true _ A14.out).mono ?_); rintro e w23 ⟨rfl, hb⟩; have n0_ := sd_ (Kd.R_below (by (with_reducible repeat (first | apply Kd.R_alloc | apply Kd.R_drewN | apply Kd.R_drew)); exact (Kd.R_mono (Kd.R_far (p := ⟨gb148, 1, none⟩) (Kd.R_far (p := ⟨gb148, 0, none⟩) (Kd.R_types HO146.out BK148.out (by decide)) (fun _ hk => hk.2) (.int .i64 (wrap64 (t147 + (-1))))) (fun _ hk => hk.2) (.int .i64 (wrap64 ((a0.size : Int) - (t143.size : Int))))) (fun _ h_ => h_.1))) hb); have n1_ := sd_ (blk_below (g := gb142) (o := .cells #[.int .i64 0, .int .i64 0] 23 (0, 0)) (by (with_reducible repeat first | apply kn_ | apply kd_ | apply ka_); refine blk_far ?_ NB142_148.out _; (with_reducible repeat first | apply kn_ | apply kd_ | apply ka_); refine blk_far ?_ NB142_148.out _; (with_reducible repeat first | apply kn_ | apply kd_ | apply ka_); exact BK142.out) hb); have n2_ := sd_ (blk_below (g := gb148) (o := .cells #[.int .i64 (wrap64 (t147 + (-1))), .int .i64 (wrap64 ((a0.size : Int) - (t143.size : Int)))] 23 (0, 0)) (by (with_reducible repeat first | apply kn_ | apply kd_ | apply ka_); refine blk_put (cs := #[.int .i64 (wrap64 (t147 + (-1))), .int .i64 0]) ?_ 1 _ rfl; (with_reducible repeat first | apply kn_ | apply kd_ | apply ka_); refine blk_put (cs := #[.int .i64 0, .int .i64 0]) ?_ 0 _ rfl; (with_reducible repeat first | apply kn_ | apply kd_ | apply ka_); exact BK148.out) hb); have n3_ := hb_ HB (e_ GE142 (e_ GE148 e0_)) hb; clear HO146; clear BK142; clear BK148; clear HB; have HO146 := n0_; have BK142 := n1_; have BK148 := n2_; have HB := n3_; clear n0_ n1_ n2_ n3_; (try clear hb); (try clear hb2); (try clear hk); (try clear hi); have hcz24_0 : w23.cell? ⟨gb148, 0, none⟩ = some (.int .i64 (wrap64 (t147 + (-1)))) := (kc_ BK148.out 0).trans rfl; have hcz24_1 : w23.cell? ⟨gb148, 1, none⟩ = some (.int .i64 (wrap64 ((a0.size : Int) - (t143.size : Int)))) := (kc_ BK148.out 1).trans rfl; have hfz24_0 := kf_ BK148.out 0; have hfz24_1 := kf_ BK148.out 1; have hcz25_0 : w23.cell? ⟨gb142, 0, none⟩ = some (.int .i64 0) := (kc_ BK142.out 0).trans rfl; have hcz25_1 : w23.cell? ⟨gb142, 1, none⟩ = some (.int .i64 0) := (kc_ BK142.out 1).trans rfl; have hfz25_0 := kf_ BK142.out 0; have hfz25_1 := kf_ BK142.out 1))
   refine bodyPost_ret (results_ct rfl _ _ gb142 23 #[.int .i64 (wrap64 (t147 + (-1))), .int .i64 (wrap64 ((a0.size : Int) - (t143.size : Int)))] (0, 0) _ rfl (by (with_reducible repeat first | apply kn_ | apply kd_ | apply ka_); refine blk_put (cs := #[.int .i64 (wrap64 (t147 + (-1))), .int .i64 0]) ?_ 1 _ rfl; (with_reducible repeat first | apply kn_ | apply kd_ | apply ka_); refine blk_put (cs := #[.int .i64 0, .int .i64 0]) ?_ 0 _ rfl; (with_reducible repeat first | apply kn_ | apply kd_ | apply ka_); exact BK142.out) Tryz.underlying23 rfl (by kernel_rfl)) rfl ?_
   exact ⟨by first | rfl | (simp [errW_none, errW_some] <;> rfl) | (simp [*, errW_none, errW_some] <;> rfl), by repeat (first | (with_reducible first | exact HB.out | apply ba_ | apply pd_ | apply d1_ | refine bs_ ?_ GE142.out | refine bs_ ?_ GE148.out) | exact HB.out)⟩
  ·replace c15 := bf_ c15
   subst c15
   have H1 : (some (0, 0, false)) = some (r1, r2, r3) := by rw [if_neg (show ¬ (false = true) by decide)] at H; exact H
   clear H; have H := H1; clear H1
   simp only [Option.some.injEq, Prod.mk.injEq] at H
   obtain ⟨rfl, rfl, rfl⟩ := H
   go_enter Tryz.func8, Tryz.ntmps8
   go_wp2_with (first | ((with_reducible refine gate_dst (N := 2) rfl ?_); refine box_event ?hg (N := 2) ?hd (cs := #[.int .i64 0, .int .i64 0]) (t := 23) ?hr ?_; (case hd => rfl); (case hg => rfl); (case hr => first | (go_simp; done) | (go_simp; rfl)); intro gb142 hg w26 hbox hb; have BK142 := sd_ hbox; have GW142 := gw_ HB e0_ hg; have GE142 := GW142; replace HB := hb_ HB e0_ hb; clear hb hbox hg) | ((with_reducible refine gate_callee (f := 40) rfl ?_); refine goesL_ (some 8) rfl rfl Tryz.func40 (by kernel_rfl) rfl #[.string a0, .string (⟨#[46]⟩ : ByteArray)] rfl (by (try simp only [lm_, lq_, lx_]); first | done | rfl | (simp only [ld_, lt_]; rfl)) ?_; (with_reducible refine (strings_TrimRight.calls a0 (⟨#[46]⟩ : ByteArray) t143 _ A2.out).mono ?_); rintro e w27 ⟨rfl, hb⟩; refine ⟨_, rfl, ?_⟩; replace BK142 := kb_ BK142 hb; replace HB := hb_ HB (e_ GE142 e0_) hb; (try clear hb); (try clear hb2); (try clear hk); (try clear hi)) | ((with_reducible refine gate_callee (f := 42) rfl ?_); refine goesL_ (some 9) rfl rfl Tryz.func42 (by kernel_rfl) rfl #[] rfl (by (try simp only [lm_, lq_, lx_]); first | done | rfl | (simp only [ld_, lt_]; rfl)) ?_; (with_reducible refine (dur_names.calls  t144 _ A3.out).mono ?_); rintro e w28 ⟨v145, rfl, ho0, hb⟩; refine ⟨_, rfl, ?_⟩; have HO146 := sd_ (Kd.R_lower ho0 (bz_ (bb_ HB.out (e_ GE142 e0_)))); replace BK142 := kb_ BK142 hb; replace HB := hb_ HB (e_ GE142 e0_) hb; (try clear hb); (try clear hb2); (try clear hk); (try clear hi); (try clear ho0); obtain ⟨Ao29, co29, eo29⟩ := Kd.R_slice HO146.out; subst eo29) | ((with_reducible refine gate_callee (f := 41) rfl ?_); refine goesL_ (some 11) rfl rfl Tryz.func41 (by kernel_rfl) rfl #[.slice Ao29 t144.length co29, .string t143] rfl (by (try simp only [lm_, lq_, lx_]); first | done | rfl | (simp only [ld_, lt_]; rfl)) ?_; (with_reducible refine (slices_Index_string_string.calls k _ _ t144 t143 t147 _ ?side1 ?side2 A4.out).mono ?_); (case side1 => repeat (first | exact (Kd.R_reads' HO146.out).2.2 | (with_reducible refine Kd.C_alloc ?_ _) | (with_reducible refine Kd.C_drewN ?_ _) | (with_reducible refine Kd.C_drew ?_))); (case side2 => exact (Kd.R_reads' HO146.out).2.1); rintro e w' ⟨rfl, ⟨nd, rfl⟩⟩; refine ⟨_, rfl, ?_⟩; (repeat (rw [drewN_self w28]; generalize hq_ : World.drewN w28 _ = w28; have n0_ : Aside0 (Kd.R Kd.string 9 w28 w.heap.size (fun _ => True) (.slice Ao29 t144.length co29) t144) := ⟨by rw [← hq_]; exact (by (with_reducible repeat (first | apply Kd.R_alloc | apply Kd.R_drewN | apply Kd.R_drew)); exact HO146.out)⟩; have n1_ : Aside0 (w28.heap[gb142]? = some (.cells #[.int .i64 0, .int .i64 0] 23 (0, 0))) := ⟨by rw [← hq_]; exact (kk_ BK142.out)⟩; have n2_ : Aside0 (Below w.heap.size w w28) := ⟨by rw [← hq_]; exact (bb_ HB.out (e_ GE142 e0_))⟩; clear HO146 BK142 HB hq_; have HO146 := n0_; have BK142 := n1_; have HB := n2_; clear n0_ n1_ n2_))) | ((with_reducible refine gate_dst (N := 6) rfl ?_); refine box_event ?hg (N := 6) ?hd (cs := #[.int .i64 0, .int .i64 0]) (t := 23) ?hr ?_; (case hd => rfl); (case hg => rfl); (case hr => first | (go_simp; done) | (go_simp; rfl)); intro gb148 hg w30 hbox hb; have BK148 := sd_ hbox; have GW148 := gw_ HB (e_ GE142 e0_) hg; have GE148 := GW148; have NB142_148 := nb_ BK142 hg; have NB148_142 := sy_ NB142_148; replace HO146 := sd_ (Kd.R_below (by (with_reducible repeat (first | apply Kd.R_alloc | apply Kd.R_drewN | apply Kd.R_drew)); exact HO146.out) hb); replace BK142 := kb_ BK142 hb; replace HB := hb_ HB (e_ GE142 e0_) hb; clear hb hbox hg; have hnb31 := NB148_142.out; have hnc31 := NB142_148.out; have hcz32_0 : w30.cell? ⟨gb148, 0, none⟩ = some (.int .i64 0) := (kc_ BK148.out 0).trans rfl; have hcz32_1 : w30.cell? ⟨gb148, 1, none⟩ = some (.int .i64 0) := (kc_ BK148.out 1).trans rfl; have hfz32_0 := kf_ BK148.out 0; have hfz32_1 := kf_ BK148.out 1) | (go_at_call 15; (with_reducible refine (dur_Check.calls (wrap64 (t147 + (-1))) (wrap64 ((a0.size : Int) - (t143.size : Int))) false _ A14.out).mono ?_); rintro e w33 ⟨rfl, hb⟩; have n0_ := sd_ (Kd.R_below (by (with_reducible repeat (first | apply Kd.R_alloc | apply Kd.R_drewN | apply Kd.R_drew)); exact (Kd.R_mono (Kd.R_far (p := ⟨gb148, 1, none⟩) (Kd.R_far (p := ⟨gb148, 0, none⟩) (Kd.R_types HO146.out BK148.out (by decide)) (fun _ hk => hk.2) (.int .i64 (wrap64 (t147 + (-1))))) (fun _ hk => hk.2) (.int .i64 (wrap64 ((a0.size : Int) - (t143.size : Int))))) (fun _ h_ => h_.1))) hb); have n1_ := sd_ (blk_below (g := gb142) (o := .cells #[.int .i64 0, .int .i64 0] 23 (0, 0)) (by (with_reducible repeat first | apply kn_ | apply kd_ | apply ka_); refine blk_far ?_ NB142_148.out _; (with_reducible repeat first | apply kn_ | apply kd_ | apply ka_); refine blk_far ?_ NB142_148.out _; (with_reducible repeat first | apply kn_ | apply kd_ | apply ka_); exact BK142.out) hb); have n2_ := sd_ (blk_below (g := gb148) (o := .cells #[.int .i64 (wrap64 (t147 + (-1))), .int .i64 (wrap64 ((a0.size : Int) - (t143.size : Int)))] 23 (0, 0)) (by (with_reducible repeat first | apply kn_ | apply kd_ | apply ka_); refine blk_put (cs := #[.int .i64 (wrap64 (t147 + (-1))), .int .i64 0]) ?_ 1 _ rfl; (with_reducible repeat first | apply kn_ | apply kd_ | apply ka_); refine blk_put (cs := #[.int .i64 0, .int .i64 0]) ?_ 0 _ rfl; (with_reducible repeat first | apply kn_ | apply kd_ | apply ka_); exact BK148.out) hb); have n3_ := hb_ HB (e_ GE142 (e_ GE148 e0_)) hb; clear HO146; clear BK142; clear BK148; clear HB; have HO146 := n0_; have BK142 := n1_; have BK148 := n2_; have HB := n3_; clear n0_ n1_ n2_ n3_; (try clear hb); (try clear hb2); (try clear hk); (try clear hi); have hcz34_0 : w33.cell? ⟨gb142, 0, none⟩ = some (.int .i64 0) := (kc_ BK142.out 0).trans rfl; have hcz34_1 : w33.cell? ⟨gb142, 1, none⟩ = some (.int .i64 0) := (kc_ BK142.out 1).trans rfl; have hfz34_0 := kf_ BK142.out 0; have hfz34_1 := kf_ BK142.out 1))
   refine bodyPost_ret (results_ct rfl _ _ gb142 23 #[.int .i64 0, .int .i64 0] (0, 0) _ rfl (by (with_reducible repeat first | apply kn_ | apply kd_ | apply ka_); refine blk_put (cs := #[.int .i64 0, .int .i64 0]) ?_ 1 _ rfl; (with_reducible repeat first | apply kn_ | apply kd_ | apply ka_); refine blk_put (cs := #[.int .i64 0, .int .i64 0]) ?_ 0 _ rfl; (with_reducible repeat first | apply kn_ | apply kd_ | apply ka_); exact BK142.out) Tryz.underlying23 rfl (by kernel_rfl)) rfl ?_
   exact ⟨by first | rfl | (simp [errW_none, errW_some] <;> rfl) | (simp [*, errW_none, errW_some] <;> rfl), by repeat (first | (with_reducible first | exact HB.out | apply ba_ | apply pd_ | apply d1_ | refine bs_ ?_ GE142.out | refine bs_ ?_ GE148.out) | exact HB.out)⟩

/-! ### dur_Of: function 10 -/
mutual
def dur_Of.l0 : Nat → Int → Int → Int → Option (Int × Int × Bool)
 | 0, _, _, _ => none
 | k + 1, x4, x151000, x151001 => if x4 ≤ 6 then (dur_Of.l1 k x4 0 x151000 x151001) else (some (0, 0, false))
def dur_Of.l1 : Nat → Int → Int → Int → Int → Option (Int × Int × Bool)
 | 0, _, _, _, _ => none
 | k + 1, x4, x13, x151000, x151001 => if x13 < 4 then ((dur_Value.f k x4 x13).bind fun bt153 => (if (bt153.1 == x151000 && (bt153.2.1 == x151001)) = true then (some (x4, x13, true)) else (dur_Of.l1 k x4 (wrap64 (x13 + 1)) x151000 x151001))) else (dur_Of.l0 k (wrap64 (x4 + 1)) x151000 x151001)
end
def dur_Of.f (k : Nat) (a0_0 : Int) (a0_1 : Int) : Option (Int × Int × Bool) := dur_Of.l0 k (-1) a0_0 a0_1
theorem dur_Of.mono_l : ∀ k, (∀ y0 y1 y2, LeO (dur_Of.l0 k y0 y1 y2) (dur_Of.l0 (k + 1) y0 y1 y2)) ∧ (∀ y0 y1 y2 y3, LeO (dur_Of.l1 k y0 y1 y2 y3) (dur_Of.l1 (k + 1) y0 y1 y2 y3))
 | 0 => ⟨fun _ _ _ r h => by simp [dur_Of.l0] at h, fun _ _ _ _ r h => by simp [dur_Of.l1] at h⟩
 | k + 1 => by
  obtain ⟨ih0, ih1⟩ := dur_Of.mono_l k
  refine ⟨?_, ?_⟩
  ·intro y0 y1 y2
   unfold dur_Of.l0
   repeat' first
   | (with_reducible exact ih0 _ _ _)
   | (with_reducible exact ih1 _ _ _ _)
   | (with_reducible exact dur_Value.mono _ _ _)
   | (with_reducible exact LeO.refl _)
   | (with_reducible exact LeO.none _)
   | (with_reducible refine LeO.ite ?_ ?_)
   | (with_reducible refine LeO.bind ?_ (fun _ => ?_))
   | exact ih0 _ _ _
   | exact ih1 _ _ _ _
   | exact dur_Value.mono _ _ _
   | exact LeO.none _
   | refine LeO.ite ?_ ?_
   | refine LeO.bind ?_ (fun _ => ?_)
  ·intro y0 y1 y2 y3
   unfold dur_Of.l1
   repeat' first
   | (with_reducible exact ih0 _ _ _)
   | (with_reducible exact ih1 _ _ _ _)
   | (with_reducible exact dur_Value.mono _ _ _)
   | (with_reducible exact LeO.refl _)
   | (with_reducible exact LeO.none _)
   | (with_reducible refine LeO.ite ?_ ?_)
   | (with_reducible refine LeO.bind ?_ (fun _ => ?_))
   | exact ih0 _ _ _
   | exact ih1 _ _ _ _
   | exact dur_Value.mono _ _ _
   | exact LeO.none _
   | refine LeO.ite ?_ ?_
   | refine LeO.bind ?_ (fun _ => ?_)
theorem dur_Of.mono : ∀ a0 a1 k, LeO (dur_Of.f k a0 a1) (dur_Of.f (k + 1) a0 a1) := by
 intro a0 a1 k
 obtain ⟨ih0, ih1⟩ := dur_Of.mono_l k
 unfold dur_Of.f
 repeat' first
   | (with_reducible exact ih0 _ _ _)
   | (with_reducible exact ih1 _ _ _ _)
   | (with_reducible exact dur_Value.mono _ _ _)
   | (with_reducible exact LeO.refl _)
   | (with_reducible exact LeO.none _)
   | (with_reducible refine LeO.ite ?_ ?_)
   | (with_reducible refine LeO.bind ?_ (fun _ => ?_))
   | exact ih0 _ _ _
   | exact ih1 _ _ _ _
   | exact dur_Value.mono _ _ _
   | exact LeO.none _
   | refine LeO.ite ?_ ?_
   | refine LeO.bind ?_ (fun _ => ?_)
set_option maxHeartbeats 8000000 in
set_option maxRecDepth 100000 in
theorem dur_Of.calls (k : Nat) (a0_0 : Int) (a0_1 : Int) (r1 : Int) (r2 : Int) (r3 : Bool) (w : World) (hE : Aside0 (LaidE w)) (h : dur_Of.f k a0_0 a0_1 = some (r1, r2, r3)) :
  Calls Tryz.prog 10 #[.agg #[.int .i64 a0_0, .int .i64 a0_1]] w fun e w' => e = .returned (.tuple #[.agg #[.int .i64 r1, .int .i64 r2], .bool r3]) ∧ Below w.heap.size w w' := by
 have hu25 := Tryz.underlying25
 have hu23 := Tryz.underlying23
 have HB := sd_ (Below.refl w.heap.size w)
 have H : (dur_Of.l0 k (-1) a0_0 a0_1) = some (r1, r2, r3) := h
 clear h
 have H' := sd_ H
 clear H
 go_enter Tryz.func10, Tryz.ntmps10
 go_wp2_with (first | ((with_reducible refine gate_dst (N := 1) rfl ?_); refine box_event ?hg (N := 1) ?hd (cs := #[.int .i64 a0_0, .int .i64 a0_1]) (t := 25) ?hr ?_; (case hd => rfl); (case hg => rfl); (case hr => first | (go_simp; done) | (go_simp; rfl)); intro gb150 hg w2 hbox hb; have BK150 := sd_ hbox; have GW150 := gw_ HB e0_ hg; have GE150 := GW150; replace HB := hb_ HB e0_ hb; clear hb hbox hg) | ((with_reducible refine gate_dst (N := 2) rfl ?_); refine box_event ?hg (N := 2) ?hd (cs := #[.int .i64 0, .int .i64 0]) (t := 23) ?hr ?_; (case hd => rfl); (case hg => rfl); (case hr => first | (go_simp; done) | (go_simp; rfl)); intro gb151 hg w3 hbox hb; have BK151 := sd_ hbox; have GW151 := gw_ HB (e_ GE150 e0_) hg; have GE151 := GW151; have NB150_151 := nb_ BK150 hg; have NB151_150 := sy_ NB150_151; replace BK150 := kb_ BK150 hb; replace HB := hb_ HB (e_ GE150 e0_) hb; clear hb hbox hg))
 go_loopg [4] k (fun kq v4 w' => ∃ (x4_1 : Int) (x152000_1 : Int) (x152001_1 : Int), v4 = .int .i64 x4_1 ∧ Aside0 (dur_Of.l0 kq x4_1 a0_0 a0_1 = some (r1, r2, r3)) ∧ Aside0 (kq ≤ k) ∧ Aside0 (w'.heap[gb150]? = some (.cells #[.int .i64 a0_0, .int .i64 a0_1] 25 (0, 0))) ∧ Aside0 (w'.heap[gb151]? = some (.cells #[.int .i64 x152000_1, .int .i64 x152001_1] 23 (0, 0))) ∧ Aside0 (Below w.heap.size w w'))
 case atStart => exact ⟨((-1)), (0), (0), (by first | rfl | (simp; done) | (simp [*]; done) | (simp [bne]; done)), H', ⟨Nat.le_refl _⟩, ⟨by (with_reducible repeat first | apply kn_ | apply kd_ | apply ka_); exact BK150.out⟩, ⟨by (with_reducible repeat first | apply kn_ | apply kd_ | apply ka_); exact BK151.out⟩, ⟨by repeat (first | (with_reducible first | exact HB.out | apply ba_ | apply pd_ | apply d1_ | refine bs_ ?_ GE150.out | refine bs_ ?_ GE151.out) | exact HB.out)⟩⟩
 case round =>
  clear H'
  try clear c1; try clear p2
  obtain ⟨x4_1, x152000_1, x152001_1, rfl, HA, HK1, BK150, BK151, HB⟩ := hrel
  cases gk with
  | zero => exact absurd HA.out (by simp [dur_Of.l0])
  | succ k1 =>
   have H := HA.out
   clear HA
   simp only [dur_Of.l0] at H
   by_cases c4 : x4_1 ≤ 6
   ·rw [if_pos c4] at H
    have c4b0 : decide (x4_1 ≤ 6) = true := dt_ c4
    clear c4
    have H' := sd_ H
    clear H
    go_wp2
    go_loopg [13] k1 (fun kq v13 w' => ∃ (x13_2 : Int) (x152000_2 : Int) (x152001_2 : Int), v13 = .int .i64 x13_2 ∧ Aside0 (dur_Of.l1 kq x4_1 x13_2 a0_0 a0_1 = some (r1, r2, r3)) ∧ Aside0 (kq ≤ k1) ∧ Aside0 (w'.heap[gb150]? = some (.cells #[.int .i64 a0_0, .int .i64 a0_1] 25 (0, 0))) ∧ Aside0 (w'.heap[gb151]? = some (.cells #[.int .i64 x152000_2, .int .i64 x152001_2] 23 (0, 0))) ∧ Aside0 (Below w.heap.size w w'))
    case atStart => exact ⟨(0), (x152000_1), (x152001_1), (by first | rfl | (simp; done) | (simp [*]; done) | (simp [bne]; done)), H', ⟨Nat.le_refl _⟩, ⟨by (with_reducible repeat first | apply kn_ | apply kd_ | apply ka_); exact BK150.out⟩, ⟨by (with_reducible repeat first | apply kn_ | apply kd_ | apply ka_); exact BK151.out⟩, ⟨by repeat (first | (with_reducible first | exact HB.out | apply ba_ | apply pd_ | apply d1_ | refine bs_ ?_ GE150.out | refine bs_ ?_ GE151.out) | exact HB.out)⟩⟩
    case round =>
     clear H'
     try clear c1; try clear p2; try clear c4; try clear c4b0; try clear p2
     obtain ⟨x13_2, x152000_2, x152001_2, rfl, HA, HK2, BK150, BK151, HB⟩ := hrel
     cases gk with
     | zero => exact absurd HA.out (by simp [dur_Of.l1])
     | succ k2 =>
      have H := HA.out
      clear HA
      simp only [dur_Of.l1] at H
      by_cases c5 : x13_2 < 4
      ·rw [if_pos c5] at H
       have c5b0 : decide (x13_2 < 4) = true := dt_ c5
       clear c5
       replace H := ob_ H
       obtain ⟨⟨t153, t154, t155⟩, A60, H⟩ := H
       replace H : (if (t153 == a0_0 && (t154 == a0_1)) = true then (some (x4_1, x13_2, true)) else (dur_Of.l1 k2 x4_1 (wrap64 (x13_2 + 1)) a0_0 a0_1)) = some (r1, r2, r3) := H
       have A6 := sd_ A60
       clear A60
       by_cases c7 : (t153 == a0_0 && (t154 == a0_1)) = true
       ·rw [if_pos c7] at H
        have c7b0 : (t153 == a0_0 && (t154 == a0_1)) = true := c7
        (try (have c7b1 : decide (t153 = a0_0 && (t154 == a0_1)) = true := by simpa using c7))
        (try (have c7b2 : (t153 == a0_0 && (t154 == a0_1)) = true := by simpa using c7))
        clear c7
        simp only [Option.some.injEq, Prod.mk.injEq] at H
        obtain ⟨rfl, rfl, rfl⟩ := H
        go_wp2_with (first | ((with_reducible refine gate_dst (N := 6) rfl ?_); refine box_event ?hg (N := 6) ?hd (cs := #[.int .i64 0, .int .i64 0]) (t := 23) ?hr ?_; (case hd => rfl); (case hg => rfl); (case hr => first | (go_simp; done) | (go_simp; rfl)); intro gb152 hg w8 hbox hb; have BK152 := sd_ hbox; have GW152 := gw_ HB (e_ GE150 (e_ GE151 e0_)) hg; have GE152 := GW152; have NB150_152 := nb_ BK150 hg; have NB152_150 := sy_ NB150_152; have NB151_152 := nb_ BK151 hg; have NB152_151 := sy_ NB151_152; replace BK150 := kb_ BK150 hb; replace BK151 := kb_ BK151 hb; replace HB := hb_ HB (e_ GE150 (e_ GE151 e0_)) hb; clear hb hbox hg; have hnb9 := NB152_150.out; have hnc9 := NB150_152.out; have hnb10 := NB152_151.out; have hnc10 := NB151_152.out; have hcz11_0 : w8.cell? ⟨gb152, 0, none⟩ = some (.int .i64 0) := (kc_ BK152.out 0).trans rfl; have hcz11_1 : w8.cell? ⟨gb152, 1, none⟩ = some (.int .i64 0) := (kc_ BK152.out 1).trans rfl; have hfz11_0 := kf_ BK152.out 0; have hfz11_1 := kf_ BK152.out 1) | ((with_reducible refine gate_callee (f := 6) rfl ?_); refine goesL_ (some 21) rfl rfl Tryz.func6 (by kernel_rfl) rfl #[.agg #[.int .i64 x4_1, .int .i64 x13_2]] rfl (by (try simp only [lm_, lq_, lx_]); first | done | rfl | (simp only [ld_, lt_]; rfl)) ?_; (with_reducible refine (dur_Value.calls k2 x4_1 x13_2 t153 t154 t155 _ ?side1 A6.out).mono ?_); (case side1 => first | (with_reducible exact hE) | exact sd_ (LaidE.below hE.out (bb_ HB.out (e_ GE150 (e_ GE151 (e_ GE152 e0_)))))); rintro e w12 ⟨rfl, hb⟩; refine ⟨_, rfl, ?_⟩; replace BK150 := sd_ (blk_below (g := gb150) (o := .cells #[.int .i64 a0_0, .int .i64 a0_1] 25 (0, 0)) (by (with_reducible repeat first | apply kn_ | apply kd_ | apply ka_); refine blk_far ?_ NB150_152.out _; (with_reducible repeat first | apply kn_ | apply kd_ | apply ka_); refine blk_far ?_ NB150_152.out _; (with_reducible repeat first | apply kn_ | apply kd_ | apply ka_); exact BK150.out) hb); replace BK151 := sd_ (blk_below (g := gb151) (o := .cells #[.int .i64 x152000_2, .int .i64 x152001_2] 23 (0, 0)) (by (with_reducible repeat first | apply kn_ | apply kd_ | apply ka_); refine blk_far ?_ NB151_152.out _; (with_reducible repeat first | apply kn_ | apply kd_ | apply ka_); refine blk_far ?_ NB151_152.out _; (with_reducible repeat first | apply kn_ | apply kd_ | apply ka_); exact BK151.out) hb); replace BK152 := sd_ (blk_below (g := gb152) (o := .cells #[.int .i64 x4_1, .int .i64 x13_2] 23 (0, 0)) (by (with_reducible repeat first | apply kn_ | apply kd_ | apply ka_); refine blk_put (cs := #[.int .i64 x4_1, .int .i64 0]) ?_ 1 _ rfl; (with_reducible repeat first | apply kn_ | apply kd_ | apply ka_); refine blk_put (cs := #[.int .i64 0, .int .i64 0]) ?_ 0 _ rfl; (with_reducible repeat first | apply kn_ | apply kd_ | apply ka_); exact BK152.out) hb); replace HB := hb_ HB (e_ GE150 (e_ GE151 (e_ GE152 e0_))) hb; (try clear hb); (try clear hb2); (try clear hk); (try clear hi)) | ((with_reducible refine gate_dst (N := 7) rfl ?_); refine box_event ?hg (N := 7) ?hd (cs := #[.int .i64 0, .int .i64 0]) (t := 25) ?hr ?_; (case hd => rfl); (case hg => rfl); (case hr => first | (go_simp; done) | (go_simp; rfl)); intro gb156 hg w13 hbox hb; have BK156 := sd_ hbox; have GW156 := gw_ HB (e_ GE150 (e_ GE151 (e_ GE152 e0_))) hg; have GE156 := GW156; have NB150_156 := nb_ BK150 hg; have NB156_150 := sy_ NB150_156; have NB151_156 := nb_ BK151 hg; have NB156_151 := sy_ NB151_156; have NB152_156 := nb_ BK152 hg; have NB156_152 := sy_ NB152_156; replace BK150 := kb_ BK150 hb; replace BK151 := kb_ BK151 hb; replace BK152 := kb_ BK152 hb; replace HB := hb_ HB (e_ GE150 (e_ GE151 (e_ GE152 e0_))) hb; clear hb hbox hg; have hnb14 := NB156_150.out; have hnc14 := NB150_156.out; have hnb15 := NB156_151.out; have hnc15 := NB151_156.out; have hnb16 := NB156_152.out; have hnc16 := NB152_156.out; have hcz17_0 : w13.cell? ⟨gb156, 0, none⟩ = some (.int .i64 0) := (kc_ BK156.out 0).trans rfl; have hcz17_1 : w13.cell? ⟨gb156, 1, none⟩ = some (.int .i64 0) := (kc_ BK156.out 1).trans rfl; have hfz17_0 := kf_ BK156.out 0; have hfz17_1 := kf_ BK156.out 1; have hnb18 := NB150_151.out; have hnc18 := NB151_150.out; have hcz19_0 : w13.cell? ⟨gb150, 0, none⟩ = some (.int .i64 a0_0) := (kc_ BK150.out 0).trans rfl; have hcz19_1 : w13.cell? ⟨gb150, 1, none⟩ = some (.int .i64 a0_1) := (kc_ BK150.out 1).trans rfl; have hfz19_0 := kf_ BK150.out 0; have hfz19_1 := kf_ BK150.out 1; have hcz20_0 : w13.cell? ⟨gb152, 0, none⟩ = some (.int .i64 x4_1) := (kc_ BK152.out 0).trans rfl; have hcz20_1 : w13.cell? ⟨gb152, 1, none⟩ = some (.int .i64 x13_2) := (kc_ BK152.out 1).trans rfl; have hfz20_0 := kf_ BK152.out 0; have hfz20_1 := kf_ BK152.out 1; have hcz21_0 : w13.cell? ⟨gb151, 0, none⟩ = some (.int .i64 x152000_2) := (kc_ BK151.out 0).trans rfl; have hcz21_1 : w13.cell? ⟨gb151, 1, none⟩ = some (.int .i64 x152001_2) := (kc_ BK151.out 1).trans rfl; have hfz21_0 := kf_ BK151.out 0; have hfz21_1 := kf_ BK151.out 1))
        refine bodyPost_ret (results_ct rfl _ _ gb151 23 #[.int .i64 x4_1, .int .i64 x13_2] (0, 0) _ rfl (by (with_reducible repeat first | apply kn_ | apply kd_ | apply ka_); refine blk_put (cs := #[.int .i64 x4_1, .int .i64 x152001_2]) ?_ 1 _ rfl; (with_reducible repeat first | apply kn_ | apply kd_ | apply ka_); refine blk_put (cs := #[.int .i64 x152000_2, .int .i64 x152001_2]) ?_ 0 _ rfl; (with_reducible repeat first | apply kn_ | apply kd_ | apply ka_); refine blk_far ?_ NB151_156.out _; (with_reducible repeat first | apply kn_ | apply kd_ | apply ka_); refine blk_far ?_ NB151_156.out _; (with_reducible repeat first | apply kn_ | apply kd_ | apply ka_); exact BK151.out) Tryz.underlying23 rfl (by kernel_rfl)) rfl ?_
        exact ⟨by first | rfl | (simp [errW_none, errW_some] <;> rfl) | (simp [*, errW_none, errW_some] <;> rfl), by repeat (first | (with_reducible first | exact HB.out | apply ba_ | apply pd_ | apply d1_ | refine bs_ ?_ GE150.out | refine bs_ ?_ GE151.out | refine bs_ ?_ GE152.out | refine bs_ ?_ GE156.out) | exact HB.out)⟩
       ·rw [if_neg c7] at H
        have c7b0 : (t153 == a0_0 && (t154 == a0_1)) = false := by simpa using c7
        (try (have c7b1 : decide (t153 = a0_0 && (t154 == a0_1)) = false := by simpa using c7))
        (try (have c7b2 : (t153 == a0_0 && (t154 == a0_1)) = false := by simpa using c7))
        (try (have c7b3 : ¬ (t153 = a0_0 && (t154 == a0_1)) := by simpa using c7))
        clear c7
        have H' := sd_ H
        clear H
        go_wp2_with (first | ((with_reducible refine gate_dst (N := 6) rfl ?_); refine box_event ?hg (N := 6) ?hd (cs := #[.int .i64 0, .int .i64 0]) (t := 23) ?hr ?_; (case hd => rfl); (case hg => rfl); (case hr => first | (go_simp; done) | (go_simp; rfl)); intro gb152 hg w22 hbox hb; have BK152 := sd_ hbox; have GW152 := gw_ HB (e_ GE150 (e_ GE151 e0_)) hg; have GE152 := GW152; have NB150_152 := nb_ BK150 hg; have NB152_150 := sy_ NB150_152; have NB151_152 := nb_ BK151 hg; have NB152_151 := sy_ NB151_152; replace BK150 := kb_ BK150 hb; replace BK151 := kb_ BK151 hb; replace HB := hb_ HB (e_ GE150 (e_ GE151 e0_)) hb; clear hb hbox hg; have hnb23 := NB152_150.out; have hnc23 := NB150_152.out; have hnb24 := NB152_151.out; have hnc24 := NB151_152.out; have hcz25_0 : w22.cell? ⟨gb152, 0, none⟩ = some (.int .i64 0) := (kc_ BK152.out 0).trans rfl; have hcz25_1 : w22.cell? ⟨gb152, 1, none⟩ = some (.int .i64 0) := (kc_ BK152.out 1).trans rfl; have hfz25_0 := kf_ BK152.out 0; have hfz25_1 := kf_ BK152.out 1) | ((with_reducible refine gate_callee (f := 6) rfl ?_); refine goesL_ (some 21) rfl rfl Tryz.func6 (by kernel_rfl) rfl #[.agg #[.int .i64 x4_1, .int .i64 x13_2]] rfl (by (try simp only [lm_, lq_, lx_]); first | done | rfl | (simp only [ld_, lt_]; rfl)) ?_; (with_reducible refine (dur_Value.calls k2 x4_1 x13_2 t153 t154 t155 _ ?side1 A6.out).mono ?_); (case side1 => first | (with_reducible exact hE) | exact sd_ (LaidE.below hE.out (bb_ HB.out (e_ GE150 (e_ GE151 (e_ GE152 e0_)))))); rintro e w26 ⟨rfl, hb⟩; refine ⟨_, rfl, ?_⟩; replace BK150 := sd_ (blk_below (g := gb150) (o := .cells #[.int .i64 a0_0, .int .i64 a0_1] 25 (0, 0)) (by (with_reducible repeat first | apply kn_ | apply kd_ | apply ka_); refine blk_far ?_ NB150_152.out _; (with_reducible repeat first | apply kn_ | apply kd_ | apply ka_); refine blk_far ?_ NB150_152.out _; (with_reducible repeat first | apply kn_ | apply kd_ | apply ka_); exact BK150.out) hb); replace BK151 := sd_ (blk_below (g := gb151) (o := .cells #[.int .i64 x152000_2, .int .i64 x152001_2] 23 (0, 0)) (by (with_reducible repeat first | apply kn_ | apply kd_ | apply ka_); refine blk_far ?_ NB151_152.out _; (with_reducible repeat first | apply kn_ | apply kd_ | apply ka_); refine blk_far ?_ NB151_152.out _; (with_reducible repeat first | apply kn_ | apply kd_ | apply ka_); exact BK151.out) hb); replace BK152 := sd_ (blk_below (g := gb152) (o := .cells #[.int .i64 x4_1, .int .i64 x13_2] 23 (0, 0)) (by (with_reducible repeat first | apply kn_ | apply kd_ | apply ka_); refine blk_put (cs := #[.int .i64 x4_1, .int .i64 0]) ?_ 1 _ rfl; (with_reducible repeat first | apply kn_ | apply kd_ | apply ka_); refine blk_put (cs := #[.int .i64 0, .int .i64 0]) ?_ 0 _ rfl; (with_reducible repeat first | apply kn_ | apply kd_ | apply ka_); exact BK152.out) hb); replace HB := hb_ HB (e_ GE150 (e_ GE151 (e_ GE152 e0_))) hb; (try clear hb); (try clear hb2); (try clear hk); (try clear hi)) | ((with_reducible refine gate_dst (N := 7) rfl ?_); refine box_event ?hg (N := 7) ?hd (cs := #[.int .i64 0, .int .i64 0]) (t := 25) ?hr ?_; (case hd => rfl); (case hg => rfl); (case hr => first | (go_simp; done) | (go_simp; rfl)); intro gb156 hg w27 hbox hb; have BK156 := sd_ hbox; have GW156 := gw_ HB (e_ GE150 (e_ GE151 (e_ GE152 e0_))) hg; have GE156 := GW156; have NB150_156 := nb_ BK150 hg; have NB156_150 := sy_ NB150_156; have NB151_156 := nb_ BK151 hg; have NB156_151 := sy_ NB151_156; have NB152_156 := nb_ BK152 hg; have NB156_152 := sy_ NB152_156; replace BK150 := kb_ BK150 hb; replace BK151 := kb_ BK151 hb; replace BK152 := kb_ BK152 hb; replace HB := hb_ HB (e_ GE150 (e_ GE151 (e_ GE152 e0_))) hb; clear hb hbox hg; have hnb28 := NB156_150.out; have hnc28 := NB150_156.out; have hnb29 := NB156_151.out; have hnc29 := NB151_156.out; have hnb30 := NB156_152.out; have hnc30 := NB152_156.out; have hcz31_0 : w27.cell? ⟨gb156, 0, none⟩ = some (.int .i64 0) := (kc_ BK156.out 0).trans rfl; have hcz31_1 : w27.cell? ⟨gb156, 1, none⟩ = some (.int .i64 0) := (kc_ BK156.out 1).trans rfl; have hfz31_0 := kf_ BK156.out 0; have hfz31_1 := kf_ BK156.out 1; have hnb32 := NB150_151.out; have hnc32 := NB151_150.out; have hcz33_0 : w27.cell? ⟨gb150, 0, none⟩ = some (.int .i64 a0_0) := (kc_ BK150.out 0).trans rfl; have hcz33_1 : w27.cell? ⟨gb150, 1, none⟩ = some (.int .i64 a0_1) := (kc_ BK150.out 1).trans rfl; have hfz33_0 := kf_ BK150.out 0; have hfz33_1 := kf_ BK150.out 1))
        go_roundg k2
        case measure => have := HK1.out; have := HK2.out; omega
        case rel => exact ⟨(wrap64 (x13_2 + 1)), (x152000_2), (x152001_2), (by first | rfl | (simp; done) | (simp [*]; done) | (simp [bne]; done)), H', ⟨by have := HK1.out; have := HK2.out; omega⟩, ⟨by (with_reducible repeat first | apply kn_ | apply kd_ | apply ka_); refine blk_far ?_ NB150_156.out _; (with_reducible repeat first | apply kn_ | apply kd_ | apply ka_); refine blk_far ?_ NB150_156.out _; (with_reducible repeat first | apply kn_ | apply kd_ | apply ka_); exact BK150.out⟩, ⟨by (with_reducible repeat first | apply kn_ | apply kd_ | apply ka_); refine blk_far ?_ NB151_156.out _; (with_reducible repeat first | apply kn_ | apply kd_ | apply ka_); refine blk_far ?_ NB151_156.out _; (with_reducible repeat first | apply kn_ | apply kd_ | apply ka_); exact BK151.out⟩, ⟨by repeat (first | (with_reducible first | exact HB.out | apply ba_ | apply pd_ | apply d1_ | refine bs_ ?_ GE150.out | refine bs_ ?_ GE151.out | refine bs_ ?_ GE152.out | refine bs_ ?_ GE156.out) | exact HB.out)⟩⟩
      ·rw [if_neg c5] at H
       have c5b0 : decide (x13_2 < 4) = false := df_ c5
       clear c5
       have H' := sd_ H
       clear H
       go_wp2
       go_roundg k2
       case measure => have := HK1.out; have := HK2.out; omega
       case rel => exact ⟨(wrap64 (x4_1 + 1)), (x152000_2), (x152001_2), (by first | rfl | (simp; done) | (simp [*]; done) | (simp [bne]; done)), H', ⟨by have := HK1.out; have := HK2.out; omega⟩, ⟨by (with_reducible repeat first | apply kn_ | apply kd_ | apply ka_); exact BK150.out⟩, ⟨by (with_reducible repeat first | apply kn_ | apply kd_ | apply ka_); exact BK151.out⟩, ⟨by repeat (first | (with_reducible first | exact HB.out | apply ba_ | apply pd_ | apply d1_ | refine bs_ ?_ GE150.out | refine bs_ ?_ GE151.out) | exact HB.out)⟩⟩
   ·rw [if_neg c4] at H
    have c4b0 : decide (x4_1 ≤ 6) = false := df_ c4
    clear c4
    simp only [Option.some.injEq, Prod.mk.injEq] at H
    obtain ⟨rfl, rfl, rfl⟩ := H
    have hnb34 := NB151_150.out
    have hnc34 := NB150_151.out
    have hcz35_0 : wr.cell? ⟨gb151, 0, none⟩ = some (.int .i64 x152000_1) := (kc_ BK151.out 0).trans rfl
    have hcz35_1 : wr.cell? ⟨gb151, 1, none⟩ = some (.int .i64 x152001_1) := (kc_ BK151.out 1).trans rfl
    have hfz35_0 := kf_ BK151.out 0
    have hfz35_1 := kf_ BK151.out 1
    go_wp2
    refine bodyPost_ret (results_ct rfl _ _ gb151 23 #[.int .i64 0, .int .i64 0] (0, 0) _ rfl (by (with_reducible repeat first | apply kn_ | apply kd_ | apply ka_); refine blk_put (cs := #[.int .i64 0, .int .i64 x152001_1]) ?_ 1 _ rfl; (with_reducible repeat first | apply kn_ | apply kd_ | apply ka_); refine blk_put (cs := #[.int .i64 x152000_1, .int .i64 x152001_1]) ?_ 0 _ rfl; (with_reducible repeat first | apply kn_ | apply kd_ | apply ka_); exact BK151.out) Tryz.underlying23 rfl (by kernel_rfl)) rfl ?_
    exact ⟨by first | rfl | (simp [errW_none, errW_some] <;> rfl) | (simp [*, errW_none, errW_some] <;> rfl), by repeat (first | (with_reducible first | exact HB.out | apply ba_ | apply pd_ | apply d1_ | refine bs_ ?_ GE150.out | refine bs_ ?_ GE151.out) | exact HB.out)⟩

/-! ### rat_Check: function 44 -/
def rat_Check.j0 : Nat → Bool → Int → Int → Option (Bool)
 | 0, _, _, _ => none
 | k + 1, x20, x158000, x158001 => if x20 = true then (some false) else ((rat_abs.f x158000).bind fun t158 => ((rat_common.f k t158 x158001).bind fun t159 => (some (t159 == 1))))
def rat_Check.f (k : Nat) (a0_0 : Int) (a0_1 : Int) : Option (Bool) := if a0_1 < 1 then (rat_Check.j0 k true a0_0 a0_1) else (if a0_1 > 1048576 then (rat_Check.j0 k true a0_0 a0_1) else (if a0_0 < (-1099511627776) then (rat_Check.j0 k true a0_0 a0_1) else (rat_Check.j0 k (decide (a0_0 > 1099511627776)) a0_0 a0_1)))
theorem rat_Check.mono_l : ∀ k, (∀ y0 y1 y2, LeO (rat_Check.j0 k y0 y1 y2) (rat_Check.j0 (k + 1) y0 y1 y2))
 | 0 => fun _ _ _ r h => by simp [rat_Check.j0] at h
 | k + 1 => by
  have ih0 := rat_Check.mono_l k
  ·intro y0 y1 y2
   unfold rat_Check.j0
   repeat' first
   | (with_reducible exact ih0 _ _ _)
   | (with_reducible exact rat_common.mono _ _ _)
   | (with_reducible exact LeO.refl _)
   | (with_reducible exact LeO.none _)
   | (with_reducible refine LeO.ite ?_ ?_)
   | (with_reducible refine LeO.bind ?_ (fun _ => ?_))
   | exact ih0 _ _ _
   | exact rat_common.mono _ _ _
   | exact LeO.none _
   | refine LeO.ite ?_ ?_
   | refine LeO.bind ?_ (fun _ => ?_)
theorem rat_Check.mono : ∀ a0 a1 k, LeO (rat_Check.f k a0 a1) (rat_Check.f (k + 1) a0 a1) := by
 intro a0 a1 k
 have ih0 := rat_Check.mono_l k
 unfold rat_Check.f
 repeat' first
   | (with_reducible exact ih0 _ _ _)
   | (with_reducible exact rat_common.mono _ _ _)
   | (with_reducible exact LeO.refl _)
   | (with_reducible exact LeO.none _)
   | (with_reducible refine LeO.ite ?_ ?_)
   | (with_reducible refine LeO.bind ?_ (fun _ => ?_))
   | exact ih0 _ _ _
   | exact rat_common.mono _ _ _
   | exact LeO.none _
   | refine LeO.ite ?_ ?_
   | refine LeO.bind ?_ (fun _ => ?_)
set_option maxHeartbeats 8000000 in
set_option maxRecDepth 100000 in
theorem rat_Check.calls (k : Nat) (a0_0 : Int) (a0_1 : Int) (r : Bool) (w : World) (h : rat_Check.f k a0_0 a0_1 = some r) :
  Calls Tryz.prog 44 #[.agg #[.int .i64 a0_0, .int .i64 a0_1]] w fun e w' => e = .returned (.bool r) ∧ Below w.heap.size w w' := by
 have hu25 := Tryz.underlying25
 have HB := sd_ (Below.refl w.heap.size w)
 have H : (if a0_1 < 1 then (rat_Check.j0 k true a0_0 a0_1) else (if a0_1 > 1048576 then (rat_Check.j0 k true a0_0 a0_1) else (if a0_0 < (-1099511627776) then (rat_Check.j0 k true a0_0 a0_1) else (rat_Check.j0 k (decide (a0_0 > 1099511627776)) a0_0 a0_1)))) = some r := h
 clear h
 have HC2 := sd_ H
 clear H
 go_enter Tryz.func44, Tryz.ntmps44
 go_upto_region 1 with (first | ((with_reducible refine gate_dst (N := 1) rfl ?_); refine box_event ?hg (N := 1) ?hd (cs := #[.int .i64 a0_0, .int .i64 a0_1]) (t := 25) ?hr ?_; (case hd => rfl); (case hg => rfl); (case hr => first | (go_simp; done) | (go_simp; rfl)); intro gb157 hg w3 hbox hb; have BK157 := sd_ hbox; have GW157 := gw_ HB e0_ hg; have GE157 := GW157; replace HB := hb_ HB e0_ hb; clear hb hbox hg))
 repeat (go_quiet (first | ((with_reducible refine gate_dst (N := 1) rfl ?_); refine box_event ?hg (N := 1) ?hd (cs := #[.int .i64 a0_0, .int .i64 a0_1]) (t := 25) ?hr ?_; (case hd => rfl); (case hg => rfl); (case hr => first | (go_simp; done) | (go_simp; rfl)); intro gb157 hg w3 hbox hb; have BK157 := sd_ hbox; have GW157 := gw_ HB e0_ hg; have GE157 := GW157; replace HB := hb_ HB e0_ hb; clear hb hbox hg)); go_upto_region 1 with (first | ((with_reducible refine gate_dst (N := 1) rfl ?_); refine box_event ?hg (N := 1) ?hd (cs := #[.int .i64 a0_0, .int .i64 a0_1]) (t := 25) ?hr ?_; (case hd => rfl); (case hg => rfl); (case hr => first | (go_simp; done) | (go_simp; rfl)); intro gb157 hg w3 hbox hb; have BK157 := sd_ hbox; have GW157 := gw_ HB e0_ hg; have GE157 := GW157; replace HB := hb_ HB e0_ hb; clear hb hbox hg)))
 (try simp only [Act.put, ls_, lz_, lc_])
 go_cut [20] (fun v20 wc => ∃ (kq : Nat) (x20_1 : Bool), v20 = .bool x20_1 ∧ Aside0 (rat_Check.j0 kq x20_1 a0_0 a0_1 = some r) ∧ Aside0 (kq ≤ k) ∧ Aside0 (wc.heap[gb157]? = some (.cells #[.int .i64 a0_0, .int .i64 a0_1] 25 (0, 0))) ∧ Aside0 (Below w.heap.size w wc))
 case first =>
  have H := HC2.out
  clear HC2
  by_cases c4 : a0_1 < 1
  ·rw [if_pos c4] at H
   have c4b0 : decide (a0_1 < 1) = true := dt_ c4
   clear c4
   (first | rw [c4b0] | (simp only [i64_w, i32_w]; rw [c4b0]) | skip)
   have H' := sd_ H
   clear H
   have hcz5_0 : w3.cell? ⟨gb157, 0, none⟩ = some (.int .i64 a0_0) := (kc_ BK157.out 0).trans rfl
   have hcz5_1 : w3.cell? ⟨gb157, 1, none⟩ = some (.int .i64 a0_1) := (kc_ BK157.out 1).trans rfl
   have hfz5_0 := kf_ BK157.out 0
   have hfz5_1 := kf_ BK157.out 1
   go_wp2
   repeat (go_quiet (fail); try go_wp2)
   go_meet
   case rel => exact ⟨_, (true), (by first | rfl | (simp; done) | (simp [*]; done) | (simp [bne]; done)), H', ⟨by first | omega | exact Nat.le_refl _⟩, ⟨by (with_reducible repeat first | apply kn_ | apply kd_ | apply ka_); exact BK157.out⟩, ⟨by repeat (first | (with_reducible first | exact HB.out | apply ba_ | apply pd_ | apply d1_ | refine bs_ ?_ GE157.out) | exact HB.out)⟩⟩
  ·rw [if_neg c4] at H
   have c4b0 : decide (a0_1 < 1) = false := df_ c4
   clear c4
   (first | rw [c4b0] | (simp only [i64_w, i32_w]; rw [c4b0]) | skip)
   by_cases c6 : a0_1 > 1048576
   ·rw [if_pos c6] at H
    have c6b0 : decide (1048576 < a0_1) = true := dt_ c6
    clear c6
    have H' := sd_ H
    clear H
    have hcz7_0 : w3.cell? ⟨gb157, 0, none⟩ = some (.int .i64 a0_0) := (kc_ BK157.out 0).trans rfl
    have hcz7_1 : w3.cell? ⟨gb157, 1, none⟩ = some (.int .i64 a0_1) := (kc_ BK157.out 1).trans rfl
    have hfz7_0 := kf_ BK157.out 0
    have hfz7_1 := kf_ BK157.out 1
    go_wp2
    repeat (go_quiet (fail); try go_wp2)
    go_meet
    case rel => exact ⟨_, (true), (by first | rfl | (simp; done) | (simp [*]; done) | (simp [bne]; done)), H', ⟨by first | omega | exact Nat.le_refl _⟩, ⟨by (with_reducible repeat first | apply kn_ | apply kd_ | apply ka_); exact BK157.out⟩, ⟨by repeat (first | (with_reducible first | exact HB.out | apply ba_ | apply pd_ | apply d1_ | refine bs_ ?_ GE157.out) | exact HB.out)⟩⟩
   ·rw [if_neg c6] at H
    have c6b0 : decide (1048576 < a0_1) = false := df_ c6
    clear c6
    by_cases c8 : a0_0 < (-1099511627776)
    ·rw [if_pos c8] at H
     have c8b0 : decide (a0_0 < (-1099511627776)) = true := dt_ c8
     clear c8
     have H' := sd_ H
     clear H
     have hcz9_0 : w3.cell? ⟨gb157, 0, none⟩ = some (.int .i64 a0_0) := (kc_ BK157.out 0).trans rfl
     have hcz9_1 : w3.cell? ⟨gb157, 1, none⟩ = some (.int .i64 a0_1) := (kc_ BK157.out 1).trans rfl
     have hfz9_0 := kf_ BK157.out 0
     have hfz9_1 := kf_ BK157.out 1
     go_wp2
     repeat (go_quiet (fail); try go_wp2)
     go_meet
     case rel => exact ⟨_, (true), (by first | rfl | (simp; done) | (simp [*]; done) | (simp [bne]; done)), H', ⟨by first | omega | exact Nat.le_refl _⟩, ⟨by (with_reducible repeat first | apply kn_ | apply kd_ | apply ka_); exact BK157.out⟩, ⟨by repeat (first | (with_reducible first | exact HB.out | apply ba_ | apply pd_ | apply d1_ | refine bs_ ?_ GE157.out) | exact HB.out)⟩⟩
    ·rw [if_neg c8] at H
     have c8b0 : decide (a0_0 < (-1099511627776)) = false := df_ c8
     clear c8
     have H' := sd_ H
     clear H
     have hcz10_0 : w3.cell? ⟨gb157, 0, none⟩ = some (.int .i64 a0_0) := (kc_ BK157.out 0).trans rfl
     have hcz10_1 : w3.cell? ⟨gb157, 1, none⟩ = some (.int .i64 a0_1) := (kc_ BK157.out 1).trans rfl
     have hfz10_0 := kf_ BK157.out 0
     have hfz10_1 := kf_ BK157.out 1
     go_wp2
     repeat (go_quiet (fail); try go_wp2)
     go_meet
     case rel => exact ⟨_, (decide (a0_0 > 1099511627776)), (by first | rfl | (simp; done) | (simp [*]; done) | (simp [bne]; done)), H', ⟨by first | omega | exact Nat.le_refl _⟩, ⟨by (with_reducible repeat first | apply kn_ | apply kd_ | apply ka_); exact BK157.out⟩, ⟨by repeat (first | (with_reducible first | exact HB.out | apply ba_ | apply pd_ | apply d1_ | refine bs_ ?_ GE157.out) | exact HB.out)⟩⟩
 case rest =>
  clear HC2
  try clear p2; try clear c4; try clear c4b0; try clear c6; try clear c6b0; try clear c8; try clear c8b0; try clear hcz10_0; try clear hcz10_1; try clear hcz5_0; try clear hcz5_1; try clear hcz7_0; try clear hcz7_1; try clear hcz9_0; try clear hcz9_1; try clear hfz10_0; try clear hfz10_1; try clear hfz5_0; try clear hfz5_1; try clear hfz7_0; try clear hfz7_1; try clear hfz9_0; try clear hfz9_1
  obtain ⟨kq, x20_1, rfl, HA, HJ1, BK157, HB⟩ := hcut
  cases kq with
  | zero => exact absurd HA.out (by simp [rat_Check.j0])
  | succ kj1 =>
   have H := HA.out
   clear HA
   simp only [rat_Check.j0] at H
   by_cases c11 : x20_1 = true
   ·subst c11
    have H1 : (some false) = some r := by rw [if_pos rfl] at H; exact H
    clear H; have H := H1; clear H1
    obtain rfl := Option.some.inj H
    go_wp2
    repeat (go_quiet (fail); try go_wp2)
    go_ret
    exact ⟨by first | rfl | (simp [errW_none, errW_some] <;> rfl) | (simp [*, errW_none, errW_some] <;> rfl), by repeat (first | (with_reducible first | exact HB.out | apply ba_ | apply pd_ | apply d1_ | refine bs_ ?_ GE157.out) | exact HB.out)⟩
   ·replace c11 := bf_ c11
    subst c11
    have H1 : ((rat_abs.f a0_0).bind fun t158 => ((rat_common.f kj1 t158 a0_1).bind fun t159 => (some (t159 == 1)))) = some r := by rw [if_neg (show ¬ (false = true) by decide)] at H; exact H
    clear H; have H := H1; clear H1
    replace H := ob_ H
    obtain ⟨t158, A120, H⟩ := H
    replace H : ((rat_common.f kj1 t158 a0_1).bind fun t159 => (some (t159 == 1))) = some r := H
    have A12 := sd_ A120
    clear A120
    replace H := ob_ H
    obtain ⟨t159, A130, H⟩ := H
    replace H : (some (t159 == 1)) = some r := H
    have A13 := sd_ A130
    clear A130
    obtain rfl := Option.some.inj H
    have hcz14_0 : wc.cell? ⟨gb157, 0, none⟩ = some (.int .i64 a0_0) := (kc_ BK157.out 0).trans rfl
    have hcz14_1 : wc.cell? ⟨gb157, 1, none⟩ = some (.int .i64 a0_1) := (kc_ BK157.out 1).trans rfl
    have hfz14_0 := kf_ BK157.out 0
    have hfz14_1 := kf_ BK157.out 1
    go_wp2_with (first | (go_at_call 65; (with_reducible refine (rat_abs.calls a0_0 t158 _ A12.out).mono ?_); rintro e w' ⟨rfl, ⟨nd, rfl⟩⟩; (try first | exact ⟨rfl, _, World.drewN_drewN _ _ _⟩ | exact ⟨rfl, _, Eq.trans (World.drewN_drewN _ _ _) (congrArg (World.drewN _) (Nat.add_assoc _ _ _))⟩)) | (go_at_call 64; (with_reducible refine (rat_common.calls kj1 t158 a0_1 t159 _ A13.out).mono ?_); rintro e w' ⟨rfl, ⟨nd, rfl⟩⟩; (try first | exact ⟨rfl, _, World.drewN_drewN _ _ _⟩ | exact ⟨rfl, _, Eq.trans (World.drewN_drewN _ _ _) (congrArg (World.drewN _) (Nat.add_assoc _ _ _))⟩)))
    repeat (go_quiet (first | (go_at_call 65; (with_reducible refine (rat_abs.calls a0_0 t158 _ A12.out).mono ?_); rintro e w' ⟨rfl, ⟨nd, rfl⟩⟩; (try first | exact ⟨rfl, _, World.drewN_drewN _ _ _⟩ | exact ⟨rfl, _, Eq.trans (World.drewN_drewN _ _ _) (congrArg (World.drewN _) (Nat.add_assoc _ _ _))⟩)) | (go_at_call 64; (with_reducible refine (rat_common.calls kj1 t158 a0_1 t159 _ A13.out).mono ?_); rintro e w' ⟨rfl, ⟨nd, rfl⟩⟩; (try first | exact ⟨rfl, _, World.drewN_drewN _ _ _⟩ | exact ⟨rfl, _, Eq.trans (World.drewN_drewN _ _ _) (congrArg (World.drewN _) (Nat.add_assoc _ _ _))⟩))); try go_wp2_with (first | (go_at_call 65; (with_reducible refine (rat_abs.calls a0_0 t158 _ A12.out).mono ?_); rintro e w' ⟨rfl, ⟨nd, rfl⟩⟩; (try first | exact ⟨rfl, _, World.drewN_drewN _ _ _⟩ | exact ⟨rfl, _, Eq.trans (World.drewN_drewN _ _ _) (congrArg (World.drewN _) (Nat.add_assoc _ _ _))⟩)) | (go_at_call 64; (with_reducible refine (rat_common.calls kj1 t158 a0_1 t159 _ A13.out).mono ?_); rintro e w' ⟨rfl, ⟨nd, rfl⟩⟩; (try first | exact ⟨rfl, _, World.drewN_drewN _ _ _⟩ | exact ⟨rfl, _, Eq.trans (World.drewN_drewN _ _ _) (congrArg (World.drewN _) (Nat.add_assoc _ _ _))⟩))))
    go_ret
    exact ⟨by first | rfl | (simp [errW_none, errW_some] <;> rfl) | (simp [*, errW_none, errW_some] <;> rfl), by repeat (first | (with_reducible first | exact HB.out | apply ba_ | apply pd_ | apply d1_ | refine bs_ ?_ GE157.out) | exact HB.out)⟩

/-! ### rat_both: function 66 -/
def rat_both.f (k : Nat) (a0_0 : Int) (a0_1 : Int) (a1_0 : Int) (a1_1 : Int) : Option (Bool) := (rat_Check.f k a0_0 a0_1).bind fun t162 => (if t162 = true then ((rat_Check.f k a1_0 a1_1).bind fun t163 => (some t163)) else (some false))
theorem rat_both.mono : ∀ a0 a1 a2 a3 k, LeO (rat_both.f k a0 a1 a2 a3) (rat_both.f (k + 1) a0 a1 a2 a3) := by
 intro a0 a1 a2 a3 k
 unfold rat_both.f
 repeat' first
   | (with_reducible exact rat_Check.mono _ _ _)
   | (with_reducible exact LeO.refl _)
   | (with_reducible exact LeO.none _)
   | (with_reducible refine LeO.ite ?_ ?_)
   | (with_reducible refine LeO.bind ?_ (fun _ => ?_))
   | exact rat_Check.mono _ _ _
   | exact LeO.none _
   | refine LeO.ite ?_ ?_
   | refine LeO.bind ?_ (fun _ => ?_)
set_option maxHeartbeats 8000000 in
set_option maxRecDepth 100000 in
theorem rat_both.calls (k : Nat) (a0_0 : Int) (a0_1 : Int) (a1_0 : Int) (a1_1 : Int) (r : Bool) (w : World) (h : rat_both.f k a0_0 a0_1 a1_0 a1_1 = some r) :
  Calls Tryz.prog 66 #[.agg #[.int .i64 a0_0, .int .i64 a0_1], .agg #[.int .i64 a1_0, .int .i64 a1_1]] w fun e w' => e = .returned (.bool r) ∧ Below w.heap.size w w' := by
 have hu25 := Tryz.underlying25
 have HB := sd_ (Below.refl w.heap.size w)
 have H : ((rat_Check.f k a0_0 a0_1).bind fun t162 => (if t162 = true then ((rat_Check.f k a1_0 a1_1).bind fun t163 => (some t163)) else (some false))) = some r := h
 clear h
 replace H := ob_ H
 obtain ⟨t162, A30, H⟩ := H
 replace H : (if t162 = true then ((rat_Check.f k a1_0 a1_1).bind fun t163 => (some t163)) else (some false)) = some r := H
 have A3 := sd_ A30
 clear A30
 by_cases c4 : t162 = true
 ·subst c4
  have H1 : ((rat_Check.f k a1_0 a1_1).bind fun t163 => (some t163)) = some r := by rw [if_pos rfl] at H; exact H
  clear H; have H := H1; clear H1
  replace H := ob_ H
  obtain ⟨t163, A50, H⟩ := H
  replace H : (some t163) = some r := H
  have A5 := sd_ A50
  clear A50
  obtain rfl := Option.some.inj H
  go_enter Tryz.func66, Tryz.ntmps66
  go_wp2_with (first | ((with_reducible refine gate_dst (N := 2) rfl ?_); refine box_event ?hg (N := 2) ?hd (cs := #[.int .i64 a0_0, .int .i64 a0_1]) (t := 25) ?hr ?_; (case hd => rfl); (case hg => rfl); (case hr => first | (go_simp; done) | (go_simp; rfl)); intro gb160 hg w6 hbox hb; have BK160 := sd_ hbox; have GW160 := gw_ HB e0_ hg; have GE160 := GW160; replace HB := hb_ HB e0_ hb; clear hb hbox hg) | ((with_reducible refine gate_dst (N := 3) rfl ?_); refine box_event ?hg (N := 3) ?hd (cs := #[.int .i64 a1_0, .int .i64 a1_1]) (t := 25) ?hr ?_; (case hd => rfl); (case hg => rfl); (case hr => first | (go_simp; done) | (go_simp; rfl)); intro gb161 hg w7 hbox hb; have BK161 := sd_ hbox; have GW161 := gw_ HB (e_ GE160 e0_) hg; have GE161 := GW161; have NB160_161 := nb_ BK160 hg; have NB161_160 := sy_ NB160_161; replace BK160 := kb_ BK160 hb; replace HB := hb_ HB (e_ GE160 e0_) hb; clear hb hbox hg; have hnb8 := NB160_161.out; have hnc8 := NB161_160.out; have hcz9_0 : w7.cell? ⟨gb160, 0, none⟩ = some (.int .i64 a0_0) := (kc_ BK160.out 0).trans rfl; have hcz9_1 : w7.cell? ⟨gb160, 1, none⟩ = some (.int .i64 a0_1) := (kc_ BK160.out 1).trans rfl; have hfz9_0 := kf_ BK160.out 0; have hfz9_1 := kf_ BK160.out 1) | ((with_reducible refine gate_callee (f := 44) rfl ?_); refine goesL_ (some 6) rfl rfl Tryz.func44 (by kernel_rfl) rfl #[.agg #[.int .i64 a0_0, .int .i64 a0_1]] rfl (by (try simp only [lm_, lq_, lx_]); first | done | rfl | (simp only [ld_, lt_]; rfl)) ?_; (with_reducible refine (rat_Check.calls k a0_0 a0_1 true _ A3.out).mono ?_); rintro e w10 ⟨rfl, hb⟩; refine ⟨_, rfl, ?_⟩; replace BK160 := kb_ BK160 hb; replace BK161 := kb_ BK161 hb; replace HB := hb_ HB (e_ GE160 (e_ GE161 e0_)) hb; (try clear hb); (try clear hb2); (try clear hk); (try clear hi); have hcz11_0 : w10.cell? ⟨gb161, 0, none⟩ = some (.int .i64 a1_0) := (kc_ BK161.out 0).trans rfl; have hcz11_1 : w10.cell? ⟨gb161, 1, none⟩ = some (.int .i64 a1_1) := (kc_ BK161.out 1).trans rfl; have hfz11_0 := kf_ BK161.out 0; have hfz11_1 := kf_ BK161.out 1) | (go_at_call 44; (with_reducible refine (rat_Check.calls k a1_0 a1_1 t163 _ A5.out).mono ?_); rintro e w12 ⟨rfl, hb⟩; replace BK160 := kb_ BK160 hb; replace BK161 := kb_ BK161 hb; replace HB := hb_ HB (e_ GE160 (e_ GE161 e0_)) hb; (try clear hb); (try clear hb2); (try clear hk); (try clear hi)))
  go_ret
  exact ⟨by first | rfl | (simp [errW_none, errW_some] <;> rfl) | (simp [*, errW_none, errW_some] <;> rfl), by repeat (first | (with_reducible first | exact HB.out | apply ba_ | apply pd_ | apply d1_ | refine bs_ ?_ GE160.out | refine bs_ ?_ GE161.out) | exact HB.out)⟩
 ·replace c4 := bf_ c4
  subst c4
  have H1 : (some false) = some r := by rw [if_neg (show ¬ (false = true) by decide)] at H; exact H
  clear H; have H := H1; clear H1
  obtain rfl := Option.some.inj H
  go_enter Tryz.func66, Tryz.ntmps66
  go_wp2_with (first | ((with_reducible refine gate_dst (N := 2) rfl ?_); refine box_event ?hg (N := 2) ?hd (cs := #[.int .i64 a0_0, .int .i64 a0_1]) (t := 25) ?hr ?_; (case hd => rfl); (case hg => rfl); (case hr => first | (go_simp; done) | (go_simp; rfl)); intro gb160 hg w13 hbox hb; have BK160 := sd_ hbox; have GW160 := gw_ HB e0_ hg; have GE160 := GW160; replace HB := hb_ HB e0_ hb; clear hb hbox hg) | ((with_reducible refine gate_dst (N := 3) rfl ?_); refine box_event ?hg (N := 3) ?hd (cs := #[.int .i64 a1_0, .int .i64 a1_1]) (t := 25) ?hr ?_; (case hd => rfl); (case hg => rfl); (case hr => first | (go_simp; done) | (go_simp; rfl)); intro gb161 hg w14 hbox hb; have BK161 := sd_ hbox; have GW161 := gw_ HB (e_ GE160 e0_) hg; have GE161 := GW161; have NB160_161 := nb_ BK160 hg; have NB161_160 := sy_ NB160_161; replace BK160 := kb_ BK160 hb; replace HB := hb_ HB (e_ GE160 e0_) hb; clear hb hbox hg; have hnb15 := NB160_161.out; have hnc15 := NB161_160.out; have hcz16_0 : w14.cell? ⟨gb160, 0, none⟩ = some (.int .i64 a0_0) := (kc_ BK160.out 0).trans rfl; have hcz16_1 : w14.cell? ⟨gb160, 1, none⟩ = some (.int .i64 a0_1) := (kc_ BK160.out 1).trans rfl; have hfz16_0 := kf_ BK160.out 0; have hfz16_1 := kf_ BK160.out 1) | ((with_reducible refine gate_callee (f := 44) rfl ?_); refine goesL_ (some 6) rfl rfl Tryz.func44 (by kernel_rfl) rfl #[.agg #[.int .i64 a0_0, .int .i64 a0_1]] rfl (by (try simp only [lm_, lq_, lx_]); first | done | rfl | (simp only [ld_, lt_]; rfl)) ?_; (with_reducible refine (rat_Check.calls k a0_0 a0_1 false _ A3.out).mono ?_); rintro e w17 ⟨rfl, hb⟩; refine ⟨_, rfl, ?_⟩; replace BK160 := kb_ BK160 hb; replace BK161 := kb_ BK161 hb; replace HB := hb_ HB (e_ GE160 (e_ GE161 e0_)) hb; (try clear hb); (try clear hb2); (try clear hk); (try clear hi)))
  go_ret
  exact ⟨by first | rfl | (simp [errW_none, errW_some] <;> rfl) | (simp [*, errW_none, errW_some] <;> rfl), by repeat (first | (with_reducible first | exact HB.out | apply ba_ | apply pd_ | apply d1_ | refine bs_ ?_ GE160.out | refine bs_ ?_ GE161.out) | exact HB.out)⟩

/-! ### rat_Cmp: function 52 -/
def rat_Cmp.f (k : Nat) (a0_0 : Int) (a0_1 : Int) (a1_0 : Int) (a1_1 : Int) : Option (Int) := (rat_both.f k a0_0 a0_1 a1_0 a1_1).bind fun t166 => (if t166 = true then (if (wrap64 (a0_0 * a1_1)) = (wrap64 (a1_0 * a0_1)) then (some 0) else (if (wrap64 (a0_0 * a1_1)) < (wrap64 (a1_0 * a0_1)) then (some (-1)) else (some 1))) else (some 0))
theorem rat_Cmp.mono : ∀ a0 a1 a2 a3 k, LeO (rat_Cmp.f k a0 a1 a2 a3) (rat_Cmp.f (k + 1) a0 a1 a2 a3) := by
 intro a0 a1 a2 a3 k
 unfold rat_Cmp.f
 repeat' first
   | (with_reducible exact rat_both.mono _ _ _ _ _)
   | (with_reducible exact LeO.refl _)
   | (with_reducible exact LeO.none _)
   | (with_reducible refine LeO.ite ?_ ?_)
   | (with_reducible refine LeO.bind ?_ (fun _ => ?_))
   | exact rat_both.mono _ _ _ _ _
   | exact LeO.none _
   | refine LeO.ite ?_ ?_
   | refine LeO.bind ?_ (fun _ => ?_)
set_option maxHeartbeats 8000000 in
set_option maxRecDepth 100000 in
theorem rat_Cmp.calls (k : Nat) (a0_0 : Int) (a0_1 : Int) (a1_0 : Int) (a1_1 : Int) (r : Int) (w : World) (h : rat_Cmp.f k a0_0 a0_1 a1_0 a1_1 = some r) :
  Calls Tryz.prog 52 #[.agg #[.int .i64 a0_0, .int .i64 a0_1], .agg #[.int .i64 a1_0, .int .i64 a1_1]] w fun e w' => e = .returned (.int .i64 r) ∧ Below w.heap.size w w' := by
 have hu25 := Tryz.underlying25
 have HB := sd_ (Below.refl w.heap.size w)
 have H : ((rat_both.f k a0_0 a0_1 a1_0 a1_1).bind fun t166 => (if t166 = true then (if (wrap64 (a0_0 * a1_1)) = (wrap64 (a1_0 * a0_1)) then (some 0) else (if (wrap64 (a0_0 * a1_1)) < (wrap64 (a1_0 * a0_1)) then (some (-1)) else (some 1))) else (some 0))) = some r := h
 clear h
 replace H := ob_ H
 obtain ⟨t166, A30, H⟩ := H
 replace H : (if t166 = true then (if (wrap64 (a0_0 * a1_1)) = (wrap64 (a1_0 * a0_1)) then (some 0) else (if (wrap64 (a0_0 * a1_1)) < (wrap64 (a1_0 * a0_1)) then (some (-1)) else (some 1))) else (some 0)) = some r := H
 have A3 := sd_ A30
 clear A30
 by_cases c4 : t166 = true
 ·subst c4
  have H1 : (if (wrap64 (a0_0 * a1_1)) = (wrap64 (a1_0 * a0_1)) then (some 0) else (if (wrap64 (a0_0 * a1_1)) < (wrap64 (a1_0 * a0_1)) then (some (-1)) else (some 1))) = some r := by rw [if_pos rfl] at H; exact H
  clear H; have H := H1; clear H1
  by_cases c5 : (wrap64 (a0_0 * a1_1)) = (wrap64 (a1_0 * a0_1))
  ·rw [if_pos c5] at H
   have c5b0 : ((wrap64 (a0_0 * a1_1)) == (wrap64 (a1_0 * a0_1))) = true := beq_iff_eq.mpr c5
   have c5b1 : ((wrap64 (a0_0 * a1_1)) != (wrap64 (a1_0 * a0_1))) = false := bne_eq_false_iff_eq.mpr c5
   clear c5
   obtain rfl := Option.some.inj H
   go_enter Tryz.func52, Tryz.ntmps52
   go_wp2_with (first | ((with_reducible refine gate_dst (N := 2) rfl ?_); refine box_event ?hg (N := 2) ?hd (cs := #[.int .i64 a0_0, .int .i64 a0_1]) (t := 25) ?hr ?_; (case hd => rfl); (case hg => rfl); (case hr => first | (go_simp; done) | (go_simp; rfl)); intro gb164 hg w6 hbox hb; have BK164 := sd_ hbox; have GW164 := gw_ HB e0_ hg; have GE164 := GW164; replace HB := hb_ HB e0_ hb; clear hb hbox hg) | ((with_reducible refine gate_dst (N := 3) rfl ?_); refine box_event ?hg (N := 3) ?hd (cs := #[.int .i64 a1_0, .int .i64 a1_1]) (t := 25) ?hr ?_; (case hd => rfl); (case hg => rfl); (case hr => first | (go_simp; done) | (go_simp; rfl)); intro gb165 hg w7 hbox hb; have BK165 := sd_ hbox; have GW165 := gw_ HB (e_ GE164 e0_) hg; have GE165 := GW165; have NB164_165 := nb_ BK164 hg; have NB165_164 := sy_ NB164_165; replace BK164 := kb_ BK164 hb; replace HB := hb_ HB (e_ GE164 e0_) hb; clear hb hbox hg; have hnb8 := NB164_165.out; have hnc8 := NB165_164.out; have hcz9_0 : w7.cell? ⟨gb164, 0, none⟩ = some (.int .i64 a0_0) := (kc_ BK164.out 0).trans rfl; have hcz9_1 : w7.cell? ⟨gb164, 1, none⟩ = some (.int .i64 a0_1) := (kc_ BK164.out 1).trans rfl; have hfz9_0 := kf_ BK164.out 0; have hfz9_1 := kf_ BK164.out 1; have hcz10_0 : w7.cell? ⟨gb165, 0, none⟩ = some (.int .i64 a1_0) := (kc_ BK165.out 0).trans rfl; have hcz10_1 : w7.cell? ⟨gb165, 1, none⟩ = some (.int .i64 a1_1) := (kc_ BK165.out 1).trans rfl; have hfz10_0 := kf_ BK165.out 0; have hfz10_1 := kf_ BK165.out 1) | (go_at_call 66; (with_reducible refine (rat_both.calls k a0_0 a0_1 a1_0 a1_1 true _ A3.out).mono ?_); rintro e w11 ⟨rfl, hb⟩; replace BK164 := kb_ BK164 hb; replace BK165 := kb_ BK165 hb; replace HB := hb_ HB (e_ GE164 (e_ GE165 e0_)) hb; (try clear hb); (try clear hb2); (try clear hk); (try clear hi); have hcz12_0 : w11.cell? ⟨gb164, 0, none⟩ = some (.int .i64 a0_0) := (kc_ BK164.out 0).trans rfl; have hcz12_1 : w11.cell? ⟨gb164, 1, none⟩ = some (.int .i64 a0_1) := (kc_ BK164.out 1).trans rfl; have hfz12_0 := kf_ BK164.out 0; have hfz12_1 := kf_ BK164.out 1; have hcz13_0 : w11.cell? ⟨gb165, 0, none⟩ = some (.int .i64 a1_0) := (kc_ BK165.out 0).trans rfl; have hcz13_1 : w11.cell? ⟨gb165, 1, none⟩ = some (.int .i64 a1_1) := (kc_ BK165.out 1).trans rfl; have hfz13_0 := kf_ BK165.out 0; have hfz13_1 := kf_ BK165.out 1))
   repeat (go_quiet (first | ((with_reducible refine gate_dst (N := 2) rfl ?_); refine box_event ?hg (N := 2) ?hd (cs := #[.int .i64 a0_0, .int .i64 a0_1]) (t := 25) ?hr ?_; (case hd => rfl); (case hg => rfl); (case hr => first | (go_simp; done) | (go_simp; rfl)); intro gb164 hg w6 hbox hb; have BK164 := sd_ hbox; have GW164 := gw_ HB e0_ hg; have GE164 := GW164; replace HB := hb_ HB e0_ hb; clear hb hbox hg) | ((with_reducible refine gate_dst (N := 3) rfl ?_); refine box_event ?hg (N := 3) ?hd (cs := #[.int .i64 a1_0, .int .i64 a1_1]) (t := 25) ?hr ?_; (case hd => rfl); (case hg => rfl); (case hr => first | (go_simp; done) | (go_simp; rfl)); intro gb165 hg w7 hbox hb; have BK165 := sd_ hbox; have GW165 := gw_ HB (e_ GE164 e0_) hg; have GE165 := GW165; have NB164_165 := nb_ BK164 hg; have NB165_164 := sy_ NB164_165; replace BK164 := kb_ BK164 hb; replace HB := hb_ HB (e_ GE164 e0_) hb; clear hb hbox hg; have hnb8 := NB164_165.out; have hnc8 := NB165_164.out; have hcz9_0 : w7.cell? ⟨gb164, 0, none⟩ = some (.int .i64 a0_0) := (kc_ BK164.out 0).trans rfl; have hcz9_1 : w7.cell? ⟨gb164, 1, none⟩ = some (.int .i64 a0_1) := (kc_ BK164.out 1).trans rfl; have hfz9_0 := kf_ BK164.out 0; have hfz9_1 := kf_ BK164.out 1; have hcz10_0 : w7.cell? ⟨gb165, 0, none⟩ = some (.int .i64 a1_0) := (kc_ BK165.out 0).trans rfl; have hcz10_1 : w7.cell? ⟨gb165, 1, none⟩ = some (.int .i64 a1_1) := (kc_ BK165.out 1).trans rfl; have hfz10_0 := kf_ BK165.out 0; have hfz10_1 := kf_ BK165.out 1) | (go_at_call 66; (with_reducible refine (rat_both.calls k a0_0 a0_1 a1_0 a1_1 true _ A3.out).mono ?_); rintro e w11 ⟨rfl, hb⟩; replace BK164 := kb_ BK164 hb; replace BK165 := kb_ BK165 hb; replace HB := hb_ HB (e_ GE164 (e_ GE165 e0_)) hb; (try clear hb); (try clear hb2); (try clear hk); (try clear hi); have hcz12_0 : w11.cell? ⟨gb164, 0, none⟩ = some (.int .i64 a0_0) := (kc_ BK164.out 0).trans rfl; have hcz12_1 : w11.cell? ⟨gb164, 1, none⟩ = some (.int .i64 a0_1) := (kc_ BK164.out 1).trans rfl; have hfz12_0 := kf_ BK164.out 0; have hfz12_1 := kf_ BK164.out 1; have hcz13_0 : w11.cell? ⟨gb165, 0, none⟩ = some (.int .i64 a1_0) := (kc_ BK165.out 0).trans rfl; have hcz13_1 : w11.cell? ⟨gb165, 1, none⟩ = some (.int .i64 a1_1) := (kc_ BK165.out 1).trans rfl; have hfz13_0 := kf_ BK165.out 0; have hfz13_1 := kf_ BK165.out 1)); try go_wp2_with (first | ((with_reducible refine gate_dst (N := 2) rfl ?_); refine box_event ?hg (N := 2) ?hd (cs := #[.int .i64 a0_0, .int .i64 a0_1]) (t := 25) ?hr ?_; (case hd => rfl); (case hg => rfl); (case hr => first | (go_simp; done) | (go_simp; rfl)); intro gb164 hg w6 hbox hb; have BK164 := sd_ hbox; have GW164 := gw_ HB e0_ hg; have GE164 := GW164; replace HB := hb_ HB e0_ hb; clear hb hbox hg) | ((with_reducible refine gate_dst (N := 3) rfl ?_); refine box_event ?hg (N := 3) ?hd (cs := #[.int .i64 a1_0, .int .i64 a1_1]) (t := 25) ?hr ?_; (case hd => rfl); (case hg => rfl); (case hr => first | (go_simp; done) | (go_simp; rfl)); intro gb165 hg w7 hbox hb; have BK165 := sd_ hbox; have GW165 := gw_ HB (e_ GE164 e0_) hg; have GE165 := GW165; have NB164_165 := nb_ BK164 hg; have NB165_164 := sy_ NB164_165; replace BK164 := kb_ BK164 hb; replace HB := hb_ HB (e_ GE164 e0_) hb; clear hb hbox hg; have hnb8 := NB164_165.out; have hnc8 := NB165_164.out; have hcz9_0 : w7.cell? ⟨gb164, 0, none⟩ = some (.int .i64 a0_0) := (kc_ BK164.out 0).trans rfl; have hcz9_1 : w7.cell? ⟨gb164, 1, none⟩ = some (.int .i64 a0_1) := (kc_ BK164.out 1).trans rfl; have hfz9_0 := kf_ BK164.out 0; have hfz9_1 := kf_ BK164.out 1; have hcz10_0 : w7.cell? ⟨gb165, 0, none⟩ = some (.int .i64 a1_0) := (kc_ BK165.out 0).trans rfl; have hcz10_1 : w7.cell? ⟨gb165, 1, none⟩ = some (.int .i64 a1_1) := (kc_ BK165.out 1).trans rfl; have hfz10_0 := kf_ BK165.out 0; have hfz10_1 := kf_ BK165.out 1) | (go_at_call 66; (with_reducible refine (rat_both.calls k a0_0 a0_1 a1_0 a1_1 true _ A3.out).mono ?_); rintro e w11 ⟨rfl, hb⟩; replace BK164 := kb_ BK164 hb; replace BK165 := kb_ BK165 hb; replace HB := hb_ HB (e_ GE164 (e_ GE165 e0_)) hb; (try clear hb); (try clear hb2); (try clear hk); (try clear hi); have hcz12_0 : w11.cell? ⟨gb164, 0, none⟩ = some (.int .i64 a0_0) := (kc_ BK164.out 0).trans rfl; have hcz12_1 : w11.cell? ⟨gb164, 1, none⟩ = some (.int .i64 a0_1) := (kc_ BK164.out 1).trans rfl; have hfz12_0 := kf_ BK164.out 0; have hfz12_1 := kf_ BK164.out 1; have hcz13_0 : w11.cell? ⟨gb165, 0, none⟩ = some (.int .i64 a1_0) := (kc_ BK165.out 0).trans rfl; have hcz13_1 : w11.cell? ⟨gb165, 1, none⟩ = some (.int .i64 a1_1) := (kc_ BK165.out 1).trans rfl; have hfz13_0 := kf_ BK165.out 0; have hfz13_1 := kf_ BK165.out 1)))
   go_ret
   exact ⟨by first | rfl | (simp [errW_none, errW_some] <;> rfl) | (simp [*, errW_none, errW_some] <;> rfl), by repeat (first | (with_reducible first | exact HB.out | apply ba_ | apply pd_ | apply d1_ | refine bs_ ?_ GE164.out | refine bs_ ?_ GE165.out) | exact HB.out)⟩
  ·rw [if_neg c5] at H
   have c5b0 : ((wrap64 (a0_0 * a1_1)) == (wrap64 (a1_0 * a0_1))) = false := beq_eq_false_iff_ne.mpr c5
   have c5b1 : ((wrap64 (a0_0 * a1_1)) != (wrap64 (a1_0 * a0_1))) = true := bne_iff_ne.mpr c5
   by_cases c14 : (wrap64 (a0_0 * a1_1)) < (wrap64 (a1_0 * a0_1))
   ·rw [if_pos c14] at H
    have c14b0 : decide ((wrap64 (a0_0 * a1_1)) < (wrap64 (a1_0 * a0_1))) = true := dt_ c14
    clear c14
    obtain rfl := Option.some.inj H
    go_enter Tryz.func52, Tryz.ntmps52
    go_wp2_with (first | ((with_reducible refine gate_dst (N := 2) rfl ?_); refine box_event ?hg (N := 2) ?hd (cs := #[.int .i64 a0_0, .int .i64 a0_1]) (t := 25) ?hr ?_; (case hd => rfl); (case hg => rfl); (case hr => first | (go_simp; done) | (go_simp; rfl)); intro gb164 hg w15 hbox hb; have BK164 := sd_ hbox; have GW164 := gw_ HB e0_ hg; have GE164 := GW164; replace HB := hb_ HB e0_ hb; clear hb hbox hg) | ((with_reducible refine gate_dst (N := 3) rfl ?_); refine box_event ?hg (N := 3) ?hd (cs := #[.int .i64 a1_0, .int .i64 a1_1]) (t := 25) ?hr ?_; (case hd => rfl); (case hg => rfl); (case hr => first | (go_simp; done) | (go_simp; rfl)); intro gb165 hg w16 hbox hb; have BK165 := sd_ hbox; have GW165 := gw_ HB (e_ GE164 e0_) hg; have GE165 := GW165; have NB164_165 := nb_ BK164 hg; have NB165_164 := sy_ NB164_165; replace BK164 := kb_ BK164 hb; replace HB := hb_ HB (e_ GE164 e0_) hb; clear hb hbox hg; have hnb17 := NB164_165.out; have hnc17 := NB165_164.out; have hcz18_0 : w16.cell? ⟨gb164, 0, none⟩ = some (.int .i64 a0_0) := (kc_ BK164.out 0).trans rfl; have hcz18_1 : w16.cell? ⟨gb164, 1, none⟩ = some (.int .i64 a0_1) := (kc_ BK164.out 1).trans rfl; have hfz18_0 := kf_ BK164.out 0; have hfz18_1 := kf_ BK164.out 1; have hcz19_0 : w16.cell? ⟨gb165, 0, none⟩ = some (.int .i64 a1_0) := (kc_ BK165.out 0).trans rfl; have hcz19_1 : w16.cell? ⟨gb165, 1, none⟩ = some (.int .i64 a1_1) := (kc_ BK165.out 1).trans rfl; have hfz19_0 := kf_ BK165.out 0; have hfz19_1 := kf_ BK165.out 1) | (go_at_call 66; (with_reducible refine (rat_both.calls k a0_0 a0_1 a1_0 a1_1 true _ A3.out).mono ?_); rintro e w20 ⟨rfl, hb⟩; replace BK164 := kb_ BK164 hb; replace BK165 := kb_ BK165 hb; replace HB := hb_ HB (e_ GE164 (e_ GE165 e0_)) hb; (try clear hb); (try clear hb2); (try clear hk); (try clear hi); have hcz21_0 : w20.cell? ⟨gb164, 0, none⟩ = some (.int .i64 a0_0) := (kc_ BK164.out 0).trans rfl; have hcz21_1 : w20.cell? ⟨gb164, 1, none⟩ = some (.int .i64 a0_1) := (kc_ BK164.out 1).trans rfl; have hfz21_0 := kf_ BK164.out 0; have hfz21_1 := kf_ BK164.out 1; have hcz22_0 : w20.cell? ⟨gb165, 0, none⟩ = some (.int .i64 a1_0) := (kc_ BK165.out 0).trans rfl; have hcz22_1 : w20.cell? ⟨gb165, 1, none⟩ = some (.int .i64 a1_1) := (kc_ BK165.out 1).trans rfl; have hfz22_0 := kf_ BK165.out 0; have hfz22_1 := kf_ BK165.out 1))
    repeat (go_quiet (first | ((with_reducible refine gate_dst (N := 2) rfl ?_); refine box_event ?hg (N := 2) ?hd (cs := #[.int .i64 a0_0, .int .i64 a0_1]) (t := 25) ?hr ?_; (case hd => rfl); (case hg => rfl); (case hr => first | (go_simp; done) | (go_simp; rfl)); intro gb164 hg w15 hbox hb; have BK164 := sd_ hbox; have GW164 := gw_ HB e0_ hg; have GE164 := GW164; replace HB := hb_ HB e0_ hb; clear hb hbox hg) | ((with_reducible refine gate_dst (N := 3) rfl ?_); refine box_event ?hg (N := 3) ?hd (cs := #[.int .i64 a1_0, .int .i64 a1_1]) (t := 25) ?hr ?_; (case hd => rfl); (case hg => rfl); (case hr => first | (go_simp; done) | (go_simp; rfl)); intro gb165 hg w16 hbox hb; have BK165 := sd_ hbox; have GW165 := gw_ HB (e_ GE164 e0_) hg; have GE165 := GW165; have NB164_165 := nb_ BK164 hg; have NB165_164 := sy_ NB164_165; replace BK164 := kb_ BK164 hb; replace HB := hb_ HB (e_ GE164 e0_) hb; clear hb hbox hg; have hnb17 := NB164_165.out; have hnc17 := NB165_164.out; have hcz18_0 : w16.cell? ⟨gb164, 0, none⟩ = some (.int .i64 a0_0) := (kc_ BK164.out 0).trans rfl; have hcz18_1 : w16.cell? ⟨gb164, 1, none⟩ = some (.int .i64 a0_1) := (kc_ BK164.out 1).trans rfl; have hfz18_0 := kf_ BK164.out 0; have hfz18_1 := kf_ BK164.out 1; have hcz19_0 : w16.cell? ⟨gb165, 0, none⟩ = some (.int .i64 a1_0) := (kc_ BK165.out 0).trans rfl; have hcz19_1 : w16.cell? ⟨gb165, 1, none⟩ = some (.int .i64 a1_1) := (kc_ BK165.out 1).trans rfl; have hfz19_0 := kf_ BK165.out 0; have hfz19_1 := kf_ BK165.out 1) | (go_at_call 66; (with_reducible refine (rat_both.calls k a0_0 a0_1 a1_0 a1_1 true _ A3.out).mono ?_); rintro e w20 ⟨rfl, hb⟩; replace BK164 := kb_ BK164 hb; replace BK165 := kb_ BK165 hb; replace HB := hb_ HB (e_ GE164 (e_ GE165 e0_)) hb; (try clear hb); (try clear hb2); (try clear hk); (try clear hi); have hcz21_0 : w20.cell? ⟨gb164, 0, none⟩ = some (.int .i64 a0_0) := (kc_ BK164.out 0).trans rfl; have hcz21_1 : w20.cell? ⟨gb164, 1, none⟩ = some (.int .i64 a0_1) := (kc_ BK164.out 1).trans rfl; have hfz21_0 := kf_ BK164.out 0; have hfz21_1 := kf_ BK164.out 1; have hcz22_0 : w20.cell? ⟨gb165, 0, none⟩ = some (.int .i64 a1_0) := (kc_ BK165.out 0).trans rfl; have hcz22_1 : w20.cell? ⟨gb165, 1, none⟩ = some (.int .i64 a1_1) := (kc_ BK165.out 1).trans rfl; have hfz22_0 := kf_ BK165.out 0; have hfz22_1 := kf_ BK165.out 1)); try go_wp2_with (first | ((with_reducible refine gate_dst (N := 2) rfl ?_); refine box_event ?hg (N := 2) ?hd (cs := #[.int .i64 a0_0, .int .i64 a0_1]) (t := 25) ?hr ?_; (case hd => rfl); (case hg => rfl); (case hr => first | (go_simp; done) | (go_simp; rfl)); intro gb164 hg w15 hbox hb; have BK164 := sd_ hbox; have GW164 := gw_ HB e0_ hg; have GE164 := GW164; replace HB := hb_ HB e0_ hb; clear hb hbox hg) | ((with_reducible refine gate_dst (N := 3) rfl ?_); refine box_event ?hg (N := 3) ?hd (cs := #[.int .i64 a1_0, .int .i64 a1_1]) (t := 25) ?hr ?_; (case hd => rfl); (case hg => rfl); (case hr => first | (go_simp; done) | (go_simp; rfl)); intro gb165 hg w16 hbox hb; have BK165 := sd_ hbox; have GW165 := gw_ HB (e_ GE164 e0_) hg; have GE165 := GW165; have NB164_165 := nb_ BK164 hg; have NB165_164 := sy_ NB164_165; replace BK164 := kb_ BK164 hb; replace HB := hb_ HB (e_ GE164 e0_) hb; clear hb hbox hg; have hnb17 := NB164_165.out; have hnc17 := NB165_164.out; have hcz18_0 : w16.cell? ⟨gb164, 0, none⟩ = some (.int .i64 a0_0) := (kc_ BK164.out 0).trans rfl; have hcz18_1 : w16.cell? ⟨gb164, 1, none⟩ = some (.int .i64 a0_1) := (kc_ BK164.out 1).trans rfl; have hfz18_0 := kf_ BK164.out 0; have hfz18_1 := kf_ BK164.out 1; have hcz19_0 : w16.cell? ⟨gb165, 0, none⟩ = some (.int .i64 a1_0) := (kc_ BK165.out 0).trans rfl; have hcz19_1 : w16.cell? ⟨gb165, 1, none⟩ = some (.int .i64 a1_1) := (kc_ BK165.out 1).trans rfl; have hfz19_0 := kf_ BK165.out 0; have hfz19_1 := kf_ BK165.out 1) | (go_at_call 66; (with_reducible refine (rat_both.calls k a0_0 a0_1 a1_0 a1_1 true _ A3.out).mono ?_); rintro e w20 ⟨rfl, hb⟩; replace BK164 := kb_ BK164 hb; replace BK165 := kb_ BK165 hb; replace HB := hb_ HB (e_ GE164 (e_ GE165 e0_)) hb; (try clear hb); (try clear hb2); (try clear hk); (try clear hi); have hcz21_0 : w20.cell? ⟨gb164, 0, none⟩ = some (.int .i64 a0_0) := (kc_ BK164.out 0).trans rfl; have hcz21_1 : w20.cell? ⟨gb164, 1, none⟩ = some (.int .i64 a0_1) := (kc_ BK164.out 1).trans rfl; have hfz21_0 := kf_ BK164.out 0; have hfz21_1 := kf_ BK164.out 1; have hcz22_0 : w20.cell? ⟨gb165, 0, none⟩ = some (.int .i64 a1_0) := (kc_ BK165.out 0).trans rfl; have hcz22_1 : w20.cell? ⟨gb165, 1, none⟩ = some (.int .i64 a1_1) := (kc_ BK165.out 1).trans rfl; have hfz22_0 := kf_ BK165.out 0; have hfz22_1 := kf_ BK165.out 1)))
    go_ret
    exact ⟨by first | rfl | (simp [errW_none, errW_some] <;> rfl) | (simp [*, errW_none, errW_some] <;> rfl), by repeat (first | (with_reducible first | exact HB.out | apply ba_ | apply pd_ | apply d1_ | refine bs_ ?_ GE164.out | refine bs_ ?_ GE165.out) | exact HB.out)⟩
   ·rw [if_neg c14] at H
    have c14b0 : decide ((wrap64 (a0_0 * a1_1)) < (wrap64 (a1_0 * a0_1))) = false := df_ c14
    clear c14
    obtain rfl := Option.some.inj H
    go_enter Tryz.func52, Tryz.ntmps52
    go_wp2_with (first | ((with_reducible refine gate_dst (N := 2) rfl ?_); refine box_event ?hg (N := 2) ?hd (cs := #[.int .i64 a0_0, .int .i64 a0_1]) (t := 25) ?hr ?_; (case hd => rfl); (case hg => rfl); (case hr => first | (go_simp; done) | (go_simp; rfl)); intro gb164 hg w23 hbox hb; have BK164 := sd_ hbox; have GW164 := gw_ HB e0_ hg; have GE164 := GW164; replace HB := hb_ HB e0_ hb; clear hb hbox hg) | ((with_reducible refine gate_dst (N := 3) rfl ?_); refine box_event ?hg (N := 3) ?hd (cs := #[.int .i64 a1_0, .int .i64 a1_1]) (t := 25) ?hr ?_; (case hd => rfl); (case hg => rfl); (case hr => first | (go_simp; done) | (go_simp; rfl)); intro gb165 hg w24 hbox hb; have BK165 := sd_ hbox; have GW165 := gw_ HB (e_ GE164 e0_) hg; have GE165 := GW165; have NB164_165 := nb_ BK164 hg; have NB165_164 := sy_ NB164_165; replace BK164 := kb_ BK164 hb; replace HB := hb_ HB (e_ GE164 e0_) hb; clear hb hbox hg; have hnb25 := NB164_165.out; have hnc25 := NB165_164.out; have hcz26_0 : w24.cell? ⟨gb164, 0, none⟩ = some (.int .i64 a0_0) := (kc_ BK164.out 0).trans rfl; have hcz26_1 : w24.cell? ⟨gb164, 1, none⟩ = some (.int .i64 a0_1) := (kc_ BK164.out 1).trans rfl; have hfz26_0 := kf_ BK164.out 0; have hfz26_1 := kf_ BK164.out 1; have hcz27_0 : w24.cell? ⟨gb165, 0, none⟩ = some (.int .i64 a1_0) := (kc_ BK165.out 0).trans rfl; have hcz27_1 : w24.cell? ⟨gb165, 1, none⟩ = some (.int .i64 a1_1) := (kc_ BK165.out 1).trans rfl; have hfz27_0 := kf_ BK165.out 0; have hfz27_1 := kf_ BK165.out 1) | (go_at_call 66; (with_reducible refine (rat_both.calls k a0_0 a0_1 a1_0 a1_1 true _ A3.out).mono ?_); rintro e w28 ⟨rfl, hb⟩; replace BK164 := kb_ BK164 hb; replace BK165 := kb_ BK165 hb; replace HB := hb_ HB (e_ GE164 (e_ GE165 e0_)) hb; (try clear hb); (try clear hb2); (try clear hk); (try clear hi); have hcz29_0 : w28.cell? ⟨gb164, 0, none⟩ = some (.int .i64 a0_0) := (kc_ BK164.out 0).trans rfl; have hcz29_1 : w28.cell? ⟨gb164, 1, none⟩ = some (.int .i64 a0_1) := (kc_ BK164.out 1).trans rfl; have hfz29_0 := kf_ BK164.out 0; have hfz29_1 := kf_ BK164.out 1; have hcz30_0 : w28.cell? ⟨gb165, 0, none⟩ = some (.int .i64 a1_0) := (kc_ BK165.out 0).trans rfl; have hcz30_1 : w28.cell? ⟨gb165, 1, none⟩ = some (.int .i64 a1_1) := (kc_ BK165.out 1).trans rfl; have hfz30_0 := kf_ BK165.out 0; have hfz30_1 := kf_ BK165.out 1))
    repeat (go_quiet (first | ((with_reducible refine gate_dst (N := 2) rfl ?_); refine box_event ?hg (N := 2) ?hd (cs := #[.int .i64 a0_0, .int .i64 a0_1]) (t := 25) ?hr ?_; (case hd => rfl); (case hg => rfl); (case hr => first | (go_simp; done) | (go_simp; rfl)); intro gb164 hg w23 hbox hb; have BK164 := sd_ hbox; have GW164 := gw_ HB e0_ hg; have GE164 := GW164; replace HB := hb_ HB e0_ hb; clear hb hbox hg) | ((with_reducible refine gate_dst (N := 3) rfl ?_); refine box_event ?hg (N := 3) ?hd (cs := #[.int .i64 a1_0, .int .i64 a1_1]) (t := 25) ?hr ?_; (case hd => rfl); (case hg => rfl); (case hr => first | (go_simp; done) | (go_simp; rfl)); intro gb165 hg w24 hbox hb; have BK165 := sd_ hbox; have GW165 := gw_ HB (e_ GE164 e0_) hg; have GE165 := GW165; have NB164_165 := nb_ BK164 hg; have NB165_164 := sy_ NB164_165; replace BK164 := kb_ BK164 hb; replace HB := hb_ HB (e_ GE164 e0_) hb; clear hb hbox hg; have hnb25 := NB164_165.out; have hnc25 := NB165_164.out; have hcz26_0 : w24.cell? ⟨gb164, 0, none⟩ = some (.int .i64 a0_0) := (kc_ BK164.out 0).trans rfl; have hcz26_1 : w24.cell? ⟨gb164, 1, none⟩ = some (.int .i64 a0_1) := (kc_ BK164.out 1).trans rfl; have hfz26_0 := kf_ BK164.out 0; have hfz26_1 := kf_ BK164.out 1; have hcz27_0 : w24.cell? ⟨gb165, 0, none⟩ = some (.int .i64 a1_0) := (kc_ BK165.out 0).trans rfl; have hcz27_1 : w24.cell? ⟨gb165, 1, none⟩ = some (.int .i64 a1_1) := (kc_ BK165.out 1).trans rfl; have hfz27_0 := kf_ BK165.out 0; have hfz27_1 := kf_ BK165.out 1) | (go_at_call 66; (with_reducible refine (rat_both.calls k a0_0 a0_1 a1_0 a1_1 true _ A3.out).mono ?_); rintro e w28 ⟨rfl, hb⟩; replace BK164 := kb_ BK164 hb; replace BK165 := kb_ BK165 hb; replace HB := hb_ HB (e_ GE164 (e_ GE165 e0_)) hb; (try clear hb); (try clear hb2); (try clear hk); (try clear hi); have hcz29_0 : w28.cell? ⟨gb164, 0, none⟩ = some (.int .i64 a0_0) := (kc_ BK164.out 0).trans rfl; have hcz29_1 : w28.cell? ⟨gb164, 1, none⟩ = some (.int .i64 a0_1) := (kc_ BK164.out 1).trans rfl; have hfz29_0 := kf_ BK164.out 0; have hfz29_1 := kf_ BK164.out 1; have hcz30_0 : w28.cell? ⟨gb165, 0, none⟩ = some (.int .i64 a1_0) := (kc_ BK165.out 0).trans rfl; have hcz30_1 : w28.cell? ⟨gb165, 1, none⟩ = some (.int .i64 a1_1) := (kc_ BK165.out 1).trans rfl; have hfz30_0 := kf_ BK165.out 0; have hfz30_1 := kf_ BK165.out 1)); try go_wp2_with (first | ((with_reducible refine gate_dst (N := 2) rfl ?_); refine box_event ?hg (N := 2) ?hd (cs := #[.int .i64 a0_0, .int .i64 a0_1]) (t := 25) ?hr ?_; (case hd => rfl); (case hg => rfl); (case hr => first | (go_simp; done) | (go_simp; rfl)); intro gb164 hg w23 hbox hb; have BK164 := sd_ hbox; have GW164 := gw_ HB e0_ hg; have GE164 := GW164; replace HB := hb_ HB e0_ hb; clear hb hbox hg) | ((with_reducible refine gate_dst (N := 3) rfl ?_); refine box_event ?hg (N := 3) ?hd (cs := #[.int .i64 a1_0, .int .i64 a1_1]) (t := 25) ?hr ?_; (case hd => rfl); (case hg => rfl); (case hr => first | (go_simp; done) | (go_simp; rfl)); intro gb165 hg w24 hbox hb; have BK165 := sd_ hbox; have GW165 := gw_ HB (e_ GE164 e0_) hg; have GE165 := GW165; have NB164_165 := nb_ BK164 hg; have NB165_164 := sy_ NB164_165; replace BK164 := kb_ BK164 hb; replace HB := hb_ HB (e_ GE164 e0_) hb; clear hb hbox hg; have hnb25 := NB164_165.out; have hnc25 := NB165_164.out; have hcz26_0 : w24.cell? ⟨gb164, 0, none⟩ = some (.int .i64 a0_0) := (kc_ BK164.out 0).trans rfl; have hcz26_1 : w24.cell? ⟨gb164, 1, none⟩ = some (.int .i64 a0_1) := (kc_ BK164.out 1).trans rfl; have hfz26_0 := kf_ BK164.out 0; have hfz26_1 := kf_ BK164.out 1; have hcz27_0 : w24.cell? ⟨gb165, 0, none⟩ = some (.int .i64 a1_0) := (kc_ BK165.out 0).trans rfl; have hcz27_1 : w24.cell? ⟨gb165, 1, none⟩ = some (.int .i64 a1_1) := (kc_ BK165.out 1).trans rfl; have hfz27_0 := kf_ BK165.out 0; have hfz27_1 := kf_ BK165.out 1) | (go_at_call 66; (with_reducible refine (rat_both.calls k a0_0 a0_1 a1_0 a1_1 true _ A3.out).mono ?_); rintro e w28 ⟨rfl, hb⟩; replace BK164 := kb_ BK164 hb; replace BK165 := kb_ BK165 hb; replace HB := hb_ HB (e_ GE164 (e_ GE165 e0_)) hb; (try clear hb); (try clear hb2); (try clear hk); (try clear hi); have hcz29_0 : w28.cell? ⟨gb164, 0, none⟩ = some (.int .i64 a0_0) := (kc_ BK164.out 0).trans rfl; have hcz29_1 : w28.cell? ⟨gb164, 1, none⟩ = some (.int .i64 a0_1) := (kc_ BK164.out 1).trans rfl; have hfz29_0 := kf_ BK164.out 0; have hfz29_1 := kf_ BK164.out 1; have hcz30_0 : w28.cell? ⟨gb165, 0, none⟩ = some (.int .i64 a1_0) := (kc_ BK165.out 0).trans rfl; have hcz30_1 : w28.cell? ⟨gb165, 1, none⟩ = some (.int .i64 a1_1) := (kc_ BK165.out 1).trans rfl; have hfz30_0 := kf_ BK165.out 0; have hfz30_1 := kf_ BK165.out 1)))
    go_ret
    exact ⟨by first | rfl | (simp [errW_none, errW_some] <;> rfl) | (simp [*, errW_none, errW_some] <;> rfl), by repeat (first | (with_reducible first | exact HB.out | apply ba_ | apply pd_ | apply d1_ | refine bs_ ?_ GE164.out | refine bs_ ?_ GE165.out) | exact HB.out)⟩
 ·replace c4 := bf_ c4
  subst c4
  have H1 : (some 0) = some r := by rw [if_neg (show ¬ (false = true) by decide)] at H; exact H
  clear H; have H := H1; clear H1
  obtain rfl := Option.some.inj H
  go_enter Tryz.func52, Tryz.ntmps52
  go_wp2_with (first | ((with_reducible refine gate_dst (N := 2) rfl ?_); refine box_event ?hg (N := 2) ?hd (cs := #[.int .i64 a0_0, .int .i64 a0_1]) (t := 25) ?hr ?_; (case hd => rfl); (case hg => rfl); (case hr => first | (go_simp; done) | (go_simp; rfl)); intro gb164 hg w31 hbox hb; have BK164 := sd_ hbox; have GW164 := gw_ HB e0_ hg; have GE164 := GW164; replace HB := hb_ HB e0_ hb; clear hb hbox hg) | ((with_reducible refine gate_dst (N := 3) rfl ?_); refine box_event ?hg (N := 3) ?hd (cs := #[.int .i64 a1_0, .int .i64 a1_1]) (t := 25) ?hr ?_; (case hd => rfl); (case hg => rfl); (case hr => first | (go_simp; done) | (go_simp; rfl)); intro gb165 hg w32 hbox hb; have BK165 := sd_ hbox; have GW165 := gw_ HB (e_ GE164 e0_) hg; have GE165 := GW165; have NB164_165 := nb_ BK164 hg; have NB165_164 := sy_ NB164_165; replace BK164 := kb_ BK164 hb; replace HB := hb_ HB (e_ GE164 e0_) hb; clear hb hbox hg; have hnb33 := NB164_165.out; have hnc33 := NB165_164.out; have hcz34_0 : w32.cell? ⟨gb164, 0, none⟩ = some (.int .i64 a0_0) := (kc_ BK164.out 0).trans rfl; have hcz34_1 : w32.cell? ⟨gb164, 1, none⟩ = some (.int .i64 a0_1) := (kc_ BK164.out 1).trans rfl; have hfz34_0 := kf_ BK164.out 0; have hfz34_1 := kf_ BK164.out 1; have hcz35_0 : w32.cell? ⟨gb165, 0, none⟩ = some (.int .i64 a1_0) := (kc_ BK165.out 0).trans rfl; have hcz35_1 : w32.cell? ⟨gb165, 1, none⟩ = some (.int .i64 a1_1) := (kc_ BK165.out 1).trans rfl; have hfz35_0 := kf_ BK165.out 0; have hfz35_1 := kf_ BK165.out 1) | (go_at_call 66; (with_reducible refine (rat_both.calls k a0_0 a0_1 a1_0 a1_1 false _ A3.out).mono ?_); rintro e w36 ⟨rfl, hb⟩; replace BK164 := kb_ BK164 hb; replace BK165 := kb_ BK165 hb; replace HB := hb_ HB (e_ GE164 (e_ GE165 e0_)) hb; (try clear hb); (try clear hb2); (try clear hk); (try clear hi)))
  repeat (go_quiet (first | ((with_reducible refine gate_dst (N := 2) rfl ?_); refine box_event ?hg (N := 2) ?hd (cs := #[.int .i64 a0_0, .int .i64 a0_1]) (t := 25) ?hr ?_; (case hd => rfl); (case hg => rfl); (case hr => first | (go_simp; done) | (go_simp; rfl)); intro gb164 hg w31 hbox hb; have BK164 := sd_ hbox; have GW164 := gw_ HB e0_ hg; have GE164 := GW164; replace HB := hb_ HB e0_ hb; clear hb hbox hg) | ((with_reducible refine gate_dst (N := 3) rfl ?_); refine box_event ?hg (N := 3) ?hd (cs := #[.int .i64 a1_0, .int .i64 a1_1]) (t := 25) ?hr ?_; (case hd => rfl); (case hg => rfl); (case hr => first | (go_simp; done) | (go_simp; rfl)); intro gb165 hg w32 hbox hb; have BK165 := sd_ hbox; have GW165 := gw_ HB (e_ GE164 e0_) hg; have GE165 := GW165; have NB164_165 := nb_ BK164 hg; have NB165_164 := sy_ NB164_165; replace BK164 := kb_ BK164 hb; replace HB := hb_ HB (e_ GE164 e0_) hb; clear hb hbox hg; have hnb33 := NB164_165.out; have hnc33 := NB165_164.out; have hcz34_0 : w32.cell? ⟨gb164, 0, none⟩ = some (.int .i64 a0_0) := (kc_ BK164.out 0).trans rfl; have hcz34_1 : w32.cell? ⟨gb164, 1, none⟩ = some (.int .i64 a0_1) := (kc_ BK164.out 1).trans rfl; have hfz34_0 := kf_ BK164.out 0; have hfz34_1 := kf_ BK164.out 1; have hcz35_0 : w32.cell? ⟨gb165, 0, none⟩ = some (.int .i64 a1_0) := (kc_ BK165.out 0).trans rfl; have hcz35_1 : w32.cell? ⟨gb165, 1, none⟩ = some (.int .i64 a1_1) := (kc_ BK165.out 1).trans rfl; have hfz35_0 := kf_ BK165.out 0; have hfz35_1 := kf_ BK165.out 1) | (go_at_call 66; (with_reducible refine (rat_both.calls k a0_0 a0_1 a1_0 a1_1 false _ A3.out).mono ?_); rintro e w36 ⟨rfl, hb⟩; replace BK164 := kb_ BK164 hb; replace BK165 := kb_ BK165 hb; replace HB := hb_ HB (e_ GE164 (e_ GE165 e0_)) hb; (try clear hb); (try clear hb2); (try clear hk); (try clear hi))); try go_wp2_with (first | ((with_reducible refine gate_dst (N := 2) rfl ?_); refine box_event ?hg (N := 2) ?hd (cs := #[.int .i64 a0_0, .int .i64 a0_1]) (t := 25) ?hr ?_; (case hd => rfl); (case hg => rfl); (case hr => first | (go_simp; done) | (go_simp; rfl)); intro gb164 hg w31 hbox hb; have BK164 := sd_ hbox; have GW164 := gw_ HB e0_ hg; have GE164 := GW164; replace HB := hb_ HB e0_ hb; clear hb hbox hg) | ((with_reducible refine gate_dst (N := 3) rfl ?_); refine box_event ?hg (N := 3) ?hd (cs := #[.int .i64 a1_0, .int .i64 a1_1]) (t := 25) ?hr ?_; (case hd => rfl); (case hg => rfl); (case hr => first | (go_simp; done) | (go_simp; rfl)); intro gb165 hg w32 hbox hb; have BK165 := sd_ hbox; have GW165 := gw_ HB (e_ GE164 e0_) hg; have GE165 := GW165; have NB164_165 := nb_ BK164 hg; have NB165_164 := sy_ NB164_165; replace BK164 := kb_ BK164 hb; replace HB := hb_ HB (e_ GE164 e0_) hb; clear hb hbox hg; have hnb33 := NB164_165.out; have hnc33 := NB165_164.out; have hcz34_0 : w32.cell? ⟨gb164, 0, none⟩ = some (.int .i64 a0_0) := (kc_ BK164.out 0).trans rfl; have hcz34_1 : w32.cell? ⟨gb164, 1, none⟩ = some (.int .i64 a0_1) := (kc_ BK164.out 1).trans rfl; have hfz34_0 := kf_ BK164.out 0; have hfz34_1 := kf_ BK164.out 1; have hcz35_0 : w32.cell? ⟨gb165, 0, none⟩ = some (.int .i64 a1_0) := (kc_ BK165.out 0).trans rfl; have hcz35_1 : w32.cell? ⟨gb165, 1, none⟩ = some (.int .i64 a1_1) := (kc_ BK165.out 1).trans rfl; have hfz35_0 := kf_ BK165.out 0; have hfz35_1 := kf_ BK165.out 1) | (go_at_call 66; (with_reducible refine (rat_both.calls k a0_0 a0_1 a1_0 a1_1 false _ A3.out).mono ?_); rintro e w36 ⟨rfl, hb⟩; replace BK164 := kb_ BK164 hb; replace BK165 := kb_ BK165 hb; replace HB := hb_ HB (e_ GE164 (e_ GE165 e0_)) hb; (try clear hb); (try clear hb2); (try clear hk); (try clear hi))))
  go_ret
  exact ⟨by first | rfl | (simp [errW_none, errW_some] <;> rfl) | (simp [*, errW_none, errW_some] <;> rfl), by repeat (first | (with_reducible first | exact HB.out | apply ba_ | apply pd_ | apply d1_ | refine bs_ ?_ GE164.out | refine bs_ ?_ GE165.out) | exact HB.out)⟩

end Go.Proofs.YtdiccfonlojlfaaGreatDoor.P
