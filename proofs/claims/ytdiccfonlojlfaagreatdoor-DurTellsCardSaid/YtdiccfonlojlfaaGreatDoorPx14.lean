-- Written by a program of this session (wip/tools/xprint.py, over the kit's print): Lean checks it.
import Derived.Test.YtdiccfonlojlfaaGreatDoorPx0
import Derived.Test.YtdiccfonlojlfaaGreatDoorPx2
import Derived.Test.YtdiccfonlojlfaaGreatDoorPx11
namespace Go.Proofs.YtdiccfonlojlfaaGreatDoor.P
open Go.RowKit Go.Proofs.YtdiccfonlojlfaaGreatDoorW.PrintWords Go.Proofs.YtdiccfonlojlfaaGreatDoorW.PrintLast Go.Proofs.YtdiccfonlojlfaaGreatDoorW.PrintMore
attribute [local go_sem] max2_int min2_int max_two min_two max_three min_three max_four min_four   -- for this text's walks alone
set_option linter.unusedVariables false
set_option linter.unusedSimpArgs false

attribute [local go_sem high] eqA25
/-! ### neumeref07_Check: function 16 -/
def neumeref07_Check.f (a0_0 : Int) (a0_1 : Int) : Option (Bool) := if a0_0 ≥ (-1) then (if a0_0 ≤ 6 then (if a0_1 ≥ 0 then (some (decide (a0_1 ≤ 3))) else (some false)) else (some false)) else (some false)
set_option maxHeartbeats 8000000 in
set_option maxRecDepth 100000 in
theorem neumeref07_Check.calls (a0_0 : Int) (a0_1 : Int) (r : Bool) (w : World) (h : neumeref07_Check.f a0_0 a0_1 = some r) :
  Calls Tryz.prog 16 #[.agg #[.int .i64 a0_0, .int .i64 a0_1]] w fun e w' => e = .returned (.bool r) ∧ Below w.heap.size w w' := by
 have hu23 := Tryz.underlying23
 have HB := sd_ (Below.refl w.heap.size w)
 have H : (if a0_0 ≥ (-1) then (if a0_0 ≤ 6 then (if a0_1 ≥ 0 then (some (decide (a0_1 ≤ 3))) else (some false)) else (some false)) else (some false)) = some r := h
 clear h
 by_cases c2 : a0_0 ≥ (-1)
 ·rw [if_pos c2] at H
  have c2b0 : decide ((-1) ≤ a0_0) = true := dt_ c2
  clear c2
  by_cases c3 : a0_0 ≤ 6
  ·rw [if_pos c3] at H
   have c3b0 : decide (a0_0 ≤ 6) = true := dt_ c3
   clear c3
   by_cases c4 : a0_1 ≥ 0
   ·rw [if_pos c4] at H
    have c4b0 : decide (0 ≤ a0_1) = true := dt_ c4
    clear c4
    obtain rfl := Option.some.inj H
    go_enter Tryz.func16, Tryz.ntmps16
    go_wp2_with (first | ((with_reducible refine gate_dst (N := 1) rfl ?_); refine box_event ?hg (N := 1) ?hd (cs := #[.int .i64 a0_0, .int .i64 a0_1]) (t := 23) ?hr ?_; (case hd => rfl); (case hg => rfl); (case hr => first | (go_simp; done) | (go_simp; rfl)); intro gb341 hg w5 hbox hb; have BK341 := sd_ hbox; have GW341 := gw_ HB e0_ hg; have GE341 := GW341; replace HB := hb_ HB e0_ hb; clear hb hbox hg; have hcz6_0 : w5.cell? ⟨gb341, 0, none⟩ = some (.int .i64 a0_0) := (kc_ BK341.out 0).trans rfl; have hcz6_1 : w5.cell? ⟨gb341, 1, none⟩ = some (.int .i64 a0_1) := (kc_ BK341.out 1).trans rfl; have hfz6_0 := kf_ BK341.out 0; have hfz6_1 := kf_ BK341.out 1))
    go_ret
    exact ⟨by first | rfl | (simp [errW_none, errW_some] <;> rfl) | (simp [*, errW_none, errW_some] <;> rfl), by repeat (first | (with_reducible first | exact HB.out | apply ba_ | apply pd_ | apply d1_ | refine bs_ ?_ GE341.out) | exact HB.out)⟩
   ·rw [if_neg c4] at H
    have c4b0 : decide (0 ≤ a0_1) = false := df_ c4
    clear c4
    obtain rfl := Option.some.inj H
    go_enter Tryz.func16, Tryz.ntmps16
    go_wp2_with (first | ((with_reducible refine gate_dst (N := 1) rfl ?_); refine box_event ?hg (N := 1) ?hd (cs := #[.int .i64 a0_0, .int .i64 a0_1]) (t := 23) ?hr ?_; (case hd => rfl); (case hg => rfl); (case hr => first | (go_simp; done) | (go_simp; rfl)); intro gb341 hg w7 hbox hb; have BK341 := sd_ hbox; have GW341 := gw_ HB e0_ hg; have GE341 := GW341; replace HB := hb_ HB e0_ hb; clear hb hbox hg; have hcz8_0 : w7.cell? ⟨gb341, 0, none⟩ = some (.int .i64 a0_0) := (kc_ BK341.out 0).trans rfl; have hcz8_1 : w7.cell? ⟨gb341, 1, none⟩ = some (.int .i64 a0_1) := (kc_ BK341.out 1).trans rfl; have hfz8_0 := kf_ BK341.out 0; have hfz8_1 := kf_ BK341.out 1))
    go_ret
    exact ⟨by first | rfl | (simp [errW_none, errW_some] <;> rfl) | (simp [*, errW_none, errW_some] <;> rfl), by repeat (first | (with_reducible first | exact HB.out | apply ba_ | apply pd_ | apply d1_ | refine bs_ ?_ GE341.out) | exact HB.out)⟩
  ·rw [if_neg c3] at H
   have c3b0 : decide (a0_0 ≤ 6) = false := df_ c3
   clear c3
   obtain rfl := Option.some.inj H
   go_enter Tryz.func16, Tryz.ntmps16
   go_wp2_with (first | ((with_reducible refine gate_dst (N := 1) rfl ?_); refine box_event ?hg (N := 1) ?hd (cs := #[.int .i64 a0_0, .int .i64 a0_1]) (t := 23) ?hr ?_; (case hd => rfl); (case hg => rfl); (case hr => first | (go_simp; done) | (go_simp; rfl)); intro gb341 hg w9 hbox hb; have BK341 := sd_ hbox; have GW341 := gw_ HB e0_ hg; have GE341 := GW341; replace HB := hb_ HB e0_ hb; clear hb hbox hg; have hcz10_0 : w9.cell? ⟨gb341, 0, none⟩ = some (.int .i64 a0_0) := (kc_ BK341.out 0).trans rfl; have hcz10_1 : w9.cell? ⟨gb341, 1, none⟩ = some (.int .i64 a0_1) := (kc_ BK341.out 1).trans rfl; have hfz10_0 := kf_ BK341.out 0; have hfz10_1 := kf_ BK341.out 1))
   go_ret
   exact ⟨by first | rfl | (simp [errW_none, errW_some] <;> rfl) | (simp [*, errW_none, errW_some] <;> rfl), by repeat (first | (with_reducible first | exact HB.out | apply ba_ | apply pd_ | apply d1_ | refine bs_ ?_ GE341.out) | exact HB.out)⟩
 ·rw [if_neg c2] at H
  have c2b0 : decide ((-1) ≤ a0_0) = false := df_ c2
  clear c2
  obtain rfl := Option.some.inj H
  go_enter Tryz.func16, Tryz.ntmps16
  go_wp2_with (first | ((with_reducible refine gate_dst (N := 1) rfl ?_); refine box_event ?hg (N := 1) ?hd (cs := #[.int .i64 a0_0, .int .i64 a0_1]) (t := 23) ?hr ?_; (case hd => rfl); (case hg => rfl); (case hr => first | (go_simp; done) | (go_simp; rfl)); intro gb341 hg w11 hbox hb; have BK341 := sd_ hbox; have GW341 := gw_ HB e0_ hg; have GE341 := GW341; replace HB := hb_ HB e0_ hb; clear hb hbox hg; have hcz12_0 : w11.cell? ⟨gb341, 0, none⟩ = some (.int .i64 a0_0) := (kc_ BK341.out 0).trans rfl; have hcz12_1 : w11.cell? ⟨gb341, 1, none⟩ = some (.int .i64 a0_1) := (kc_ BK341.out 1).trans rfl; have hfz12_0 := kf_ BK341.out 0; have hfz12_1 := kf_ BK341.out 1))
  go_ret
  exact ⟨by first | rfl | (simp [errW_none, errW_some] <;> rfl) | (simp [*, errW_none, errW_some] <;> rfl), by repeat (first | (with_reducible first | exact HB.out | apply ba_ | apply pd_ | apply d1_ | refine bs_ ?_ GE341.out) | exact HB.out)⟩

/-! ### neumeref07_value: function 39 -/
def neumeref07_value.l0 : Nat → Int → Int → Int → Int → Int → Option (Int)
 | 0, _, _, _, _, _ => none
 | k + 1, x3, x4, x5, x352000, x352001 => if x5 < x352001 then (neumeref07_value.l0 k (wrap64 (Int.tdiv x3 2)) (wrap64 (x4 + (wrap64 (Int.tdiv x3 2)))) (wrap64 (x5 + 1)) x352000 x352001) else (some x4)
def neumeref07_value.f (k : Nat) (a0_0 : Int) (a0_1 : Int) : Option (Int) := if 0 ≤ (IntKind.u64.wrap (wrap64 (a0_0 + 1))) then (neumeref07_value.l0 k (shr .i64 2048 (IntKind.u64.wrap (wrap64 (a0_0 + 1)))) (shr .i64 2048 (IntKind.u64.wrap (wrap64 (a0_0 + 1)))) 0 a0_0 a0_1) else (none)
theorem neumeref07_value.mono_l : ∀ k, (∀ y0 y1 y2 y3 y4, LeO (neumeref07_value.l0 k y0 y1 y2 y3 y4) (neumeref07_value.l0 (k + 1) y0 y1 y2 y3 y4))
 | 0 => fun _ _ _ _ _ r h => by simp [neumeref07_value.l0] at h
 | k + 1 => by
  have ih0 := neumeref07_value.mono_l k
  ·intro y0 y1 y2 y3 y4
   unfold neumeref07_value.l0
   repeat' first
   | (with_reducible exact ih0 _ _ _ _ _)
   | (with_reducible exact LeO.refl _)
   | (with_reducible exact LeO.none _)
   | (with_reducible refine LeO.ite ?_ ?_)
   | (with_reducible refine LeO.bind ?_ (fun _ => ?_))
   | exact ih0 _ _ _ _ _
   | exact LeO.none _
   | refine LeO.ite ?_ ?_
   | refine LeO.bind ?_ (fun _ => ?_)
theorem neumeref07_value.mono : ∀ a0 a1 k, LeO (neumeref07_value.f k a0 a1) (neumeref07_value.f (k + 1) a0 a1) := by
 intro a0 a1 k
 have ih0 := neumeref07_value.mono_l k
 unfold neumeref07_value.f
 repeat' first
   | (with_reducible exact ih0 _ _ _ _ _)
   | (with_reducible exact LeO.refl _)
   | (with_reducible exact LeO.none _)
   | (with_reducible refine LeO.ite ?_ ?_)
   | (with_reducible refine LeO.bind ?_ (fun _ => ?_))
   | exact ih0 _ _ _ _ _
   | exact LeO.none _
   | refine LeO.ite ?_ ?_
   | refine LeO.bind ?_ (fun _ => ?_)
set_option maxHeartbeats 8000000 in
set_option maxRecDepth 100000 in
theorem neumeref07_value.calls (k : Nat) (a0_0 : Int) (a0_1 : Int) (r : Int) (w : World) (h : neumeref07_value.f k a0_0 a0_1 = some r) :
  Calls Tryz.prog 39 #[.agg #[.int .i64 a0_0, .int .i64 a0_1]] w fun e w' => e = .returned (.int .i64 r) ∧ Below w.heap.size w w' := by
 have hu23 := Tryz.underlying23
 have HB := sd_ (Below.refl w.heap.size w)
 have H : (if 0 ≤ (IntKind.u64.wrap (wrap64 (a0_0 + 1))) then (neumeref07_value.l0 k (shr .i64 2048 (IntKind.u64.wrap (wrap64 (a0_0 + 1)))) (shr .i64 2048 (IntKind.u64.wrap (wrap64 (a0_0 + 1)))) 0 a0_0 a0_1) else (none)) = some r := h
 clear h
 obtain ⟨ji2, hji2⟩ : ∃ j_ : Int, (IntKind.u64.wrap (wrap64 (a0_0 + 1))) = j_ := ⟨_, rfl⟩
 replace H : (if 0 ≤ (ji2) then (neumeref07_value.l0 k (shr .i64 2048 (ji2)) (shr .i64 2048 (ji2)) 0 a0_0 a0_1) else (none)) = some r := by first | (rw [hji2] at H; exact H) | (simp only [hji2] at H ⊢; exact H)
 by_cases c3 : 0 ≤ (ji2)
 ·rw [if_pos c3] at H
  have c3b0 := eq_true c3
  have c3b1 : decide (0 ≤ (ji2)) = true := dt_ c3
  clear c3
  obtain ⟨ji4, hji4⟩ : ∃ j_ : Int, (shr .i64 2048 (ji2)) = j_ := ⟨_, rfl⟩
  replace H : (neumeref07_value.l0 k ji4 ji4 0 a0_0 a0_1) = some r := by first | (rw [hji4] at H; exact H) | (simp only [hji4] at H ⊢; exact H)
  have hji4_ : (2048 / 2 ^ min (ji2).toNat 64) = ji4 := hji4
  have hji4z : (ji2) ≤ 64 → (2048 / 2 ^ (ji2).toNat) = ji4 := shr_small hji4
  have H' := sd_ H
  clear H
  go_enter Tryz.func39, Tryz.ntmps39
  go_wp2_with (first | ((with_reducible refine gate_dst (N := 1) rfl ?_); refine box_event ?hg (N := 1) ?hd (cs := #[.int .i64 a0_0, .int .i64 a0_1]) (t := 23) ?hr ?_; (case hd => rfl); (case hg => rfl); (case hr => first | (go_simp; done) | (go_simp; rfl)); intro gb351 hg w5 hbox hb; have BK351 := sd_ hbox; have GW351 := gw_ HB e0_ hg; have GE351 := GW351; replace HB := hb_ HB e0_ hb; clear hb hbox hg; have hcz6_0 : w5.cell? ⟨gb351, 0, none⟩ = some (.int .i64 a0_0) := (kc_ BK351.out 0).trans rfl; have hcz6_1 : w5.cell? ⟨gb351, 1, none⟩ = some (.int .i64 a0_1) := (kc_ BK351.out 1).trans rfl; have hfz6_0 := kf_ BK351.out 0; have hfz6_1 := kf_ BK351.out 1))
  go_loopg [3, 4, 5] k (fun kq v3 v4 v5 w' => ∃ (x3_1 : Int) (x4_1 : Int) (x5_1 : Int), v3 = .int .i64 x3_1 ∧ v4 = .int .i64 x4_1 ∧ v5 = .int .i64 x5_1 ∧ Aside0 (neumeref07_value.l0 kq x3_1 x4_1 x5_1 a0_0 a0_1 = some r) ∧ Aside0 (kq ≤ k) ∧ Aside0 (w'.heap[gb351]? = some (.cells #[.int .i64 a0_0, .int .i64 a0_1] 23 (0, 0))) ∧ Aside0 (Below w.heap.size w w'))
  case atStart => exact ⟨(ji4), (ji4), (0), (by first | rfl | (simp; done) | (simp only [← hji4] <;> (first | rfl | simp)) | (simp [*]; done)), (by first | rfl | (simp; done) | (simp only [← hji4] <;> (first | rfl | simp)) | (simp [*]; done)), (by first | rfl | (simp; done) | (simp [*]; done) | (simp [bne]; done)), H', ⟨Nat.le_refl _⟩, ⟨by (with_reducible repeat first | apply kn_ | apply kd_ | apply ka_); exact BK351.out⟩, ⟨by repeat (first | (with_reducible first | exact HB.out | apply ba_ | apply pd_ | apply d1_ | refine bs_ ?_ GE351.out) | exact HB.out)⟩⟩
  case round =>
   clear H'
   try clear p2; try clear c3; try clear c3b0; try clear c3b1; try clear p6; try clear hcz6_0; try clear hcz6_1; try clear hfz6_0; try clear hfz6_1
   obtain ⟨x3_1, x4_1, x5_1, rfl, rfl, rfl, HA, HK1, BK351, HB⟩ := hrel
   cases gk with
   | zero => exact absurd HA.out (by simp [neumeref07_value.l0])
   | succ k1 =>
    have H := HA.out
    clear HA
    simp only [neumeref07_value.l0] at H
    by_cases c7 : x5_1 < a0_1
    ·rw [if_pos c7] at H
     have c7b0 : decide (x5_1 < a0_1) = true := dt_ c7
     clear c7
     have H' := sd_ H
     clear H
     have hcz8_0 : wr.cell? ⟨gb351, 0, none⟩ = some (.int .i64 a0_0) := (kc_ BK351.out 0).trans rfl
     have hcz8_1 : wr.cell? ⟨gb351, 1, none⟩ = some (.int .i64 a0_1) := (kc_ BK351.out 1).trans rfl
     have hfz8_0 := kf_ BK351.out 0
     have hfz8_1 := kf_ BK351.out 1
     go_wp2
     go_roundg k1
     case measure => have := HK1.out; omega
     case rel => exact ⟨(wrap64 (Int.tdiv x3_1 2)), (wrap64 (x4_1 + (wrap64 (Int.tdiv x3_1 2)))), (wrap64 (x5_1 + 1)), (by first | rfl | (simp; done) | (simp [*]; done) | (simp [bne]; done)), (by first | rfl | (simp; done) | (simp [*]; done) | (simp [bne]; done)), (by first | rfl | (simp; done) | (simp [*]; done) | (simp [bne]; done)), H', ⟨by have := HK1.out; omega⟩, ⟨by (with_reducible repeat first | apply kn_ | apply kd_ | apply ka_); exact BK351.out⟩, ⟨by repeat (first | (with_reducible first | exact HB.out | apply ba_ | apply pd_ | apply d1_ | refine bs_ ?_ GE351.out) | exact HB.out)⟩⟩
    ·rw [if_neg c7] at H
     have c7b0 : decide (x5_1 < a0_1) = false := df_ c7
     clear c7
     obtain rfl := Option.some.inj H
     have hcz9_0 : wr.cell? ⟨gb351, 0, none⟩ = some (.int .i64 a0_0) := (kc_ BK351.out 0).trans rfl
     have hcz9_1 : wr.cell? ⟨gb351, 1, none⟩ = some (.int .i64 a0_1) := (kc_ BK351.out 1).trans rfl
     have hfz9_0 := kf_ BK351.out 0
     have hfz9_1 := kf_ BK351.out 1
     go_wp2
     go_ret
     exact ⟨by first | rfl | (simp [errW_none, errW_some] <;> rfl) | (simp only [← hji2, ← hji4]; first | rfl | (simp [errW_none, errW_some] <;> rfl)) | (simp [*, errW_none, errW_some] <;> rfl), by repeat (first | (with_reducible first | exact HB.out | apply ba_ | apply pd_ | apply d1_ | refine bs_ ?_ GE351.out) | exact HB.out)⟩
 ·rw [if_neg c3] at H
  exact absurd H (by simp)

/-! ### neumeref07_Value: function 7 -/
def neumeref07_Value.f (k : Nat) (a0_0 : Int) (a0_1 : Int) : Option (Int × Int × Int) := (neumeref07_Check.f a0_0 a0_1).bind fun t354 => (if t354 = true then ((neumeref07_value.f k a0_0 a0_1).bind fun t355 => ((neumeref02_Of.f k t355 1024).bind fun bt356 => (some (bt356.1, bt356.2.1, bt356.2.2)))) else (some (0, 0, 2)))
theorem neumeref07_Value.mono : ∀ a0 a1 k, LeO (neumeref07_Value.f k a0 a1) (neumeref07_Value.f (k + 1) a0 a1) := by
 intro a0 a1 k
 unfold neumeref07_Value.f
 repeat' first
   | (with_reducible exact neumeref02_Of.mono _ _ _)
   | (with_reducible exact neumeref07_value.mono _ _ _)
   | (with_reducible exact LeO.refl _)
   | (with_reducible exact LeO.none _)
   | (with_reducible refine LeO.ite ?_ ?_)
   | (with_reducible refine LeO.bind ?_ (fun _ => ?_))
   | exact neumeref02_Of.mono _ _ _
   | exact neumeref07_value.mono _ _ _
   | exact LeO.none _
   | refine LeO.ite ?_ ?_
   | refine LeO.bind ?_ (fun _ => ?_)
set_option maxHeartbeats 8000000 in
set_option maxRecDepth 100000 in
theorem neumeref07_Value.calls (k : Nat) (a0_0 : Int) (a0_1 : Int) (r1 : Int) (r2 : Int) (r3 : Int) (w : World) (h : neumeref07_Value.f k a0_0 a0_1 = some (r1, r2, r3)) :
  Calls Tryz.prog 7 #[.agg #[.int .i64 a0_0, .int .i64 a0_1]] w fun e w' => e = .returned (.tuple #[.agg #[.int .i64 r1, .int .i64 r2], .int .i64 r3]) ∧ Below w.heap.size w w' := by
 have hu23 := Tryz.underlying23
 have hu25 := Tryz.underlying25
 have HB := sd_ (Below.refl w.heap.size w)
 have H : ((neumeref07_Check.f a0_0 a0_1).bind fun t354 => (if t354 = true then ((neumeref07_value.f k a0_0 a0_1).bind fun t355 => ((neumeref02_Of.f k t355 1024).bind fun bt356 => (some (bt356.1, bt356.2.1, bt356.2.2)))) else (some (0, 0, 2)))) = some (r1, r2, r3) := h
 clear h
 replace H := ob_ H
 obtain ⟨t354, A20, H⟩ := H
 replace H : (if t354 = true then ((neumeref07_value.f k a0_0 a0_1).bind fun t355 => ((neumeref02_Of.f k t355 1024).bind fun bt356 => (some (bt356.1, bt356.2.1, bt356.2.2)))) else (some (0, 0, 2))) = some (r1, r2, r3) := H
 have A2 := sd_ A20
 clear A20
 by_cases c3 : t354 = true
 ·subst c3
  have H1 : ((neumeref07_value.f k a0_0 a0_1).bind fun t355 => ((neumeref02_Of.f k t355 1024).bind fun bt356 => (some (bt356.1, bt356.2.1, bt356.2.2)))) = some (r1, r2, r3) := by rw [if_pos rfl] at H; exact H
  clear H; have H := H1; clear H1
  replace H := ob_ H
  obtain ⟨t355, A40, H⟩ := H
  replace H : ((neumeref02_Of.f k t355 1024).bind fun bt356 => (some (bt356.1, bt356.2.1, bt356.2.2))) = some (r1, r2, r3) := H
  have A4 := sd_ A40
  clear A40
  replace H := ob_ H
  obtain ⟨⟨t356, t357, t358⟩, A50, H⟩ := H
  replace H : (some (t356, t357, t358)) = some (r1, r2, r3) := H
  have A5 := sd_ A50
  clear A50
  simp only [Option.some.injEq, Prod.mk.injEq] at H
  obtain ⟨rfl, rfl, rfl⟩ := H
  go_enter Tryz.func7, Tryz.ntmps7
  go_wp2_with (first | ((with_reducible refine gate_dst (N := 1) rfl ?_); refine box_event ?hg (N := 1) ?hd (cs := #[.int .i64 a0_0, .int .i64 a0_1]) (t := 23) ?hr ?_; (case hd => rfl); (case hg => rfl); (case hr => first | (go_simp; done) | (go_simp; rfl)); intro gb352 hg w6 hbox hb; have BK352 := sd_ hbox; have GW352 := gw_ HB e0_ hg; have GE352 := GW352; replace HB := hb_ HB e0_ hb; clear hb hbox hg) | ((with_reducible refine gate_dst (N := 2) rfl ?_); refine box_event ?hg (N := 2) ?hd (cs := #[.int .i64 0, .int .i64 0]) (t := 25) ?hr ?_; (case hd => rfl); (case hg => rfl); (case hr => first | (go_simp; done) | (go_simp; rfl)); intro gb353 hg w7 hbox hb; have BK353 := sd_ hbox; have GW353 := gw_ HB (e_ GE352 e0_) hg; have GE353 := GW353; have NB352_353 := nb_ BK352 hg; have NB353_352 := sy_ NB352_353; replace BK352 := kb_ BK352 hb; replace HB := hb_ HB (e_ GE352 e0_) hb; clear hb hbox hg; have hnb8 := NB352_353.out; have hnc8 := NB353_352.out; have hcz9_0 : w7.cell? ⟨gb352, 0, none⟩ = some (.int .i64 a0_0) := (kc_ BK352.out 0).trans rfl; have hcz9_1 : w7.cell? ⟨gb352, 1, none⟩ = some (.int .i64 a0_1) := (kc_ BK352.out 1).trans rfl; have hfz9_0 := kf_ BK352.out 0; have hfz9_1 := kf_ BK352.out 1) | ((with_reducible refine gate_callee (f := 16) rfl ?_); refine goesL_ (some 5) rfl rfl Tryz.func16 (by kernel_rfl) rfl #[.agg #[.int .i64 a0_0, .int .i64 a0_1]] rfl (by (try simp only [lm_, lq_, lx_]); first | done | rfl | (simp only [ld_, lt_]; rfl)) ?_; (with_reducible refine (neumeref07_Check.calls a0_0 a0_1 true _ A2.out).mono ?_); rintro e w10 ⟨rfl, hb⟩; refine ⟨_, rfl, ?_⟩; replace BK352 := kb_ BK352 hb; replace BK353 := kb_ BK353 hb; replace HB := hb_ HB (e_ GE352 (e_ GE353 e0_)) hb; (try clear hb); (try clear hb2); (try clear hk); (try clear hi); have hcz11_0 : w10.cell? ⟨gb352, 0, none⟩ = some (.int .i64 a0_0) := (kc_ BK352.out 0).trans rfl; have hcz11_1 : w10.cell? ⟨gb352, 1, none⟩ = some (.int .i64 a0_1) := (kc_ BK352.out 1).trans rfl; have hfz11_0 := kf_ BK352.out 0; have hfz11_1 := kf_ BK352.out 1) | ((with_reducible refine gate_callee (f := 39) rfl ?_); refine goesL_ (some 9) rfl rfl Tryz.func39 (by kernel_rfl) rfl #[.agg #[.int .i64 a0_0, .int .i64 a0_1]] rfl (by (try simp only [lm_, lq_, lx_]); first | done | rfl | (simp only [ld_, lt_]; rfl)) ?_; (with_reducible refine (neumeref07_value.calls k a0_0 a0_1 t355 _ A4.out).mono ?_); rintro e w12 ⟨rfl, hb⟩; refine ⟨_, rfl, ?_⟩; replace BK352 := kb_ BK352 hb; replace BK353 := kb_ BK353 hb; replace HB := hb_ HB (e_ GE352 (e_ GE353 e0_)) hb; (try clear hb); (try clear hb2); (try clear hk); (try clear hi)) | ((with_reducible refine gate_callee (f := 38) rfl ?_); refine goesL_ (some 10) rfl rfl Tryz.func38 (by kernel_rfl) rfl #[.int .i64 t355, .int .i64 1024] rfl (by (try simp only [lm_, lq_, lx_]); first | done | rfl | (simp only [ld_, lt_]; rfl)) ?_; (with_reducible refine (neumeref02_Of.calls k t355 1024 t356 t357 t358 _ A5.out).mono ?_); rintro e w13 ⟨rfl, hb⟩; refine ⟨_, rfl, ?_⟩; replace BK352 := kb_ BK352 hb; replace BK353 := kb_ BK353 hb; replace HB := hb_ HB (e_ GE352 (e_ GE353 e0_)) hb; (try clear hb); (try clear hb2); (try clear hk); (try clear hi); have hcz14_0 : w13.cell? ⟨gb353, 0, none⟩ = some (.int .i64 0) := (kc_ BK353.out 0).trans rfl; have hcz14_1 : w13.cell? ⟨gb353, 1, none⟩ = some (.int .i64 0) := (kc_ BK353.out 1).trans rfl; have hfz14_0 := kf_ BK353.out 0; have hfz14_1 := kf_ BK353.out 1))
  refine bodyPost_ret (results_ct rfl _ _ gb353 25 #[.int .i64 t356, .int .i64 t357] (0, 0) _ rfl (by (with_reducible repeat first | apply kn_ | apply kd_ | apply ka_); refine blk_put (cs := #[.int .i64 t356, .int .i64 0]) ?_ 1 _ rfl; (with_reducible repeat first | apply kn_ | apply kd_ | apply ka_); refine blk_put (cs := #[.int .i64 0, .int .i64 0]) ?_ 0 _ rfl; (with_reducible repeat first | apply kn_ | apply kd_ | apply ka_); exact BK353.out) Tryz.underlying25 rfl (by kernel_rfl)) rfl ?_
  exact ⟨by first | rfl | (simp [errW_none, errW_some] <;> rfl) | (simp [*, errW_none, errW_some] <;> rfl), by repeat (first | (with_reducible first | exact HB.out | apply ba_ | apply pd_ | apply d1_ | refine bs_ ?_ GE352.out | refine bs_ ?_ GE353.out) | exact HB.out)⟩
 ·replace c3 := bf_ c3
  subst c3
  have H1 : (some (0, 0, 2)) = some (r1, r2, r3) := by rw [if_neg (show ¬ (false = true) by decide)] at H; exact H
  clear H; have H := H1; clear H1
  simp only [Option.some.injEq, Prod.mk.injEq] at H
  obtain ⟨rfl, rfl, rfl⟩ := H
  go_enter Tryz.func7, Tryz.ntmps7
  go_wp2_with (first | ((with_reducible refine gate_dst (N := 1) rfl ?_); refine box_event ?hg (N := 1) ?hd (cs := #[.int .i64 a0_0, .int .i64 a0_1]) (t := 23) ?hr ?_; (case hd => rfl); (case hg => rfl); (case hr => first | (go_simp; done) | (go_simp; rfl)); intro gb352 hg w15 hbox hb; have BK352 := sd_ hbox; have GW352 := gw_ HB e0_ hg; have GE352 := GW352; replace HB := hb_ HB e0_ hb; clear hb hbox hg) | ((with_reducible refine gate_dst (N := 2) rfl ?_); refine box_event ?hg (N := 2) ?hd (cs := #[.int .i64 0, .int .i64 0]) (t := 25) ?hr ?_; (case hd => rfl); (case hg => rfl); (case hr => first | (go_simp; done) | (go_simp; rfl)); intro gb353 hg w16 hbox hb; have BK353 := sd_ hbox; have GW353 := gw_ HB (e_ GE352 e0_) hg; have GE353 := GW353; have NB352_353 := nb_ BK352 hg; have NB353_352 := sy_ NB352_353; replace BK352 := kb_ BK352 hb; replace HB := hb_ HB (e_ GE352 e0_) hb; clear hb hbox hg; have hnb17 := NB352_353.out; have hnc17 := NB353_352.out; have hcz18_0 : w16.cell? ⟨gb352, 0, none⟩ = some (.int .i64 a0_0) := (kc_ BK352.out 0).trans rfl; have hcz18_1 : w16.cell? ⟨gb352, 1, none⟩ = some (.int .i64 a0_1) := (kc_ BK352.out 1).trans rfl; have hfz18_0 := kf_ BK352.out 0; have hfz18_1 := kf_ BK352.out 1) | ((with_reducible refine gate_callee (f := 16) rfl ?_); refine goesL_ (some 5) rfl rfl Tryz.func16 (by kernel_rfl) rfl #[.agg #[.int .i64 a0_0, .int .i64 a0_1]] rfl (by (try simp only [lm_, lq_, lx_]); first | done | rfl | (simp only [ld_, lt_]; rfl)) ?_; (with_reducible refine (neumeref07_Check.calls a0_0 a0_1 false _ A2.out).mono ?_); rintro e w19 ⟨rfl, hb⟩; refine ⟨_, rfl, ?_⟩; replace BK352 := kb_ BK352 hb; replace BK353 := kb_ BK353 hb; replace HB := hb_ HB (e_ GE352 (e_ GE353 e0_)) hb; (try clear hb); (try clear hb2); (try clear hk); (try clear hi); have hcz20_0 : w19.cell? ⟨gb353, 0, none⟩ = some (.int .i64 0) := (kc_ BK353.out 0).trans rfl; have hcz20_1 : w19.cell? ⟨gb353, 1, none⟩ = some (.int .i64 0) := (kc_ BK353.out 1).trans rfl; have hfz20_0 := kf_ BK353.out 0; have hfz20_1 := kf_ BK353.out 1))
  refine bodyPost_ret (results_ct rfl _ _ gb353 25 #[.int .i64 0, .int .i64 0] (0, 0) _ rfl (by (with_reducible repeat first | apply kn_ | apply kd_ | apply ka_); refine blk_put (cs := #[.int .i64 0, .int .i64 0]) ?_ 1 _ rfl; (with_reducible repeat first | apply kn_ | apply kd_ | apply ka_); refine blk_put (cs := #[.int .i64 0, .int .i64 0]) ?_ 0 _ rfl; (with_reducible repeat first | apply kn_ | apply kd_ | apply ka_); exact BK353.out) Tryz.underlying25 rfl (by kernel_rfl)) rfl ?_
  exact ⟨by first | rfl | (simp [errW_none, errW_some] <;> rfl) | (simp [*, errW_none, errW_some] <;> rfl), by repeat (first | (with_reducible first | exact HB.out | apply ba_ | apply pd_ | apply d1_ | refine bs_ ?_ GE352.out | refine bs_ ?_ GE353.out) | exact HB.out)⟩

/-! ### neumeref07_Name: function 18 -/
def neumeref07_Name.l0 : Nat → ByteArray → Int → Int → Int → Option (ByteArray)
 | 0, _, _, _, _ => none
 | k + 1, x3, x4, x360000, x360001 => if x4 < x360001 then (if x3.size + 1 ≤ 9223372036854775807 then (neumeref07_Name.l0 k (x3 ++ (⟨#[46]⟩ : ByteArray)) (wrap64 (x4 + 1)) x360000 x360001) else (none)) else (some x3)
def neumeref07_Name.f (k : Nat) (a0_0 : Int) (a0_1 : Int) : Option (ByteArray) := (neumeref07_Check.f a0_0 a0_1).bind fun t360 => (if t360 = true then ((some (([(⟨#[98, 114, 101, 118, 101]⟩ : ByteArray), (⟨#[49]⟩ : ByteArray), (⟨#[50]⟩ : ByteArray), (⟨#[52]⟩ : ByteArray), (⟨#[56]⟩ : ByteArray), (⟨#[49, 54]⟩ : ByteArray), (⟨#[51, 50]⟩ : ByteArray), (⟨#[54, 52]⟩ : ByteArray)] : List ByteArray) : List ByteArray)).bind fun y361 => (if 0 ≤ (wrap64 (a0_0 + 1)) then (if (wrap64 (a0_0 + 1)) < (y361.length : Int) then (neumeref07_Name.l0 k (rdOf ByteArray.empty y361 (wrap64 (a0_0 + 1))) 0 a0_0 a0_1) else (none)) else (none))) else (some (⟨#[]⟩ : ByteArray)))
theorem neumeref07_Name.mono_l : ∀ k, (∀ y0 y1 y2 y3, LeO (neumeref07_Name.l0 k y0 y1 y2 y3) (neumeref07_Name.l0 (k + 1) y0 y1 y2 y3))
 | 0 => fun _ _ _ _ r h => by simp [neumeref07_Name.l0] at h
 | k + 1 => by
  have ih0 := neumeref07_Name.mono_l k
  ·intro y0 y1 y2 y3
   unfold neumeref07_Name.l0
   repeat' first
   | (with_reducible exact ih0 _ _ _ _)
   | (with_reducible exact LeO.refl _)
   | (with_reducible exact LeO.none _)
   | (with_reducible refine LeO.ite ?_ ?_)
   | (with_reducible refine LeO.bind ?_ (fun _ => ?_))
   | exact ih0 _ _ _ _
   | exact LeO.none _
   | refine LeO.ite ?_ ?_
   | refine LeO.bind ?_ (fun _ => ?_)
theorem neumeref07_Name.mono : ∀ a0 a1 k, LeO (neumeref07_Name.f k a0 a1) (neumeref07_Name.f (k + 1) a0 a1) := by
 intro a0 a1 k
 have ih0 := neumeref07_Name.mono_l k
 unfold neumeref07_Name.f
 repeat' first
   | (with_reducible exact ih0 _ _ _ _)
   | (with_reducible exact LeO.refl _)
   | (with_reducible exact LeO.none _)
   | (with_reducible refine LeO.ite ?_ ?_)
   | (with_reducible refine LeO.bind ?_ (fun _ => ?_))
   | exact ih0 _ _ _ _
   | exact LeO.none _
   | refine LeO.ite ?_ ?_
   | refine LeO.bind ?_ (fun _ => ?_)
set_option maxHeartbeats 8000000 in
set_option maxRecDepth 100000 in
theorem neumeref07_Name.calls (k : Nat) (a0_0 : Int) (a0_1 : Int) (r : ByteArray) (w : World) (h : neumeref07_Name.f k a0_0 a0_1 = some r) :
  Calls Tryz.prog 18 #[.agg #[.int .i64 a0_0, .int .i64 a0_1]] w fun e w' => e = .returned (.string r) ∧ Below w.heap.size w w' := by
 have hu23 := Tryz.underlying23
 have HB := sd_ (Below.refl w.heap.size w)
 have H : ((neumeref07_Check.f a0_0 a0_1).bind fun t360 => (if t360 = true then ((some (([(⟨#[98, 114, 101, 118, 101]⟩ : ByteArray), (⟨#[49]⟩ : ByteArray), (⟨#[50]⟩ : ByteArray), (⟨#[52]⟩ : ByteArray), (⟨#[56]⟩ : ByteArray), (⟨#[49, 54]⟩ : ByteArray), (⟨#[51, 50]⟩ : ByteArray), (⟨#[54, 52]⟩ : ByteArray)] : List ByteArray) : List ByteArray)).bind fun y361 => (if 0 ≤ (wrap64 (a0_0 + 1)) then (if (wrap64 (a0_0 + 1)) < (y361.length : Int) then (neumeref07_Name.l0 k (rdOf ByteArray.empty y361 (wrap64 (a0_0 + 1))) 0 a0_0 a0_1) else (none)) else (none))) else (some (⟨#[]⟩ : ByteArray)))) = some r := h
 clear h
 replace H := ob_ H
 obtain ⟨t360, A20, H⟩ := H
 replace H : (if t360 = true then ((some (([(⟨#[98, 114, 101, 118, 101]⟩ : ByteArray), (⟨#[49]⟩ : ByteArray), (⟨#[50]⟩ : ByteArray), (⟨#[52]⟩ : ByteArray), (⟨#[56]⟩ : ByteArray), (⟨#[49, 54]⟩ : ByteArray), (⟨#[51, 50]⟩ : ByteArray), (⟨#[54, 52]⟩ : ByteArray)] : List ByteArray) : List ByteArray)).bind fun y361 => (if 0 ≤ (wrap64 (a0_0 + 1)) then (if (wrap64 (a0_0 + 1)) < (y361.length : Int) then (neumeref07_Name.l0 k (rdOf ByteArray.empty y361 (wrap64 (a0_0 + 1))) 0 a0_0 a0_1) else (none)) else (none))) else (some (⟨#[]⟩ : ByteArray))) = some r := H
 have A2 := sd_ A20
 clear A20
 by_cases c3 : t360 = true
 ·subst c3
  have H1 : ((some (([(⟨#[98, 114, 101, 118, 101]⟩ : ByteArray), (⟨#[49]⟩ : ByteArray), (⟨#[50]⟩ : ByteArray), (⟨#[52]⟩ : ByteArray), (⟨#[56]⟩ : ByteArray), (⟨#[49, 54]⟩ : ByteArray), (⟨#[51, 50]⟩ : ByteArray), (⟨#[54, 52]⟩ : ByteArray)] : List ByteArray) : List ByteArray)).bind fun y361 => (if 0 ≤ (wrap64 (a0_0 + 1)) then (if (wrap64 (a0_0 + 1)) < (y361.length : Int) then (neumeref07_Name.l0 k (rdOf ByteArray.empty y361 (wrap64 (a0_0 + 1))) 0 a0_0 a0_1) else (none)) else (none))) = some r := by rw [if_pos rfl] at H; exact H
  clear H; have H := H1; clear H1
  obtain ⟨y361, hy361⟩ : ∃ y_ : List ByteArray, y_ = (([(⟨#[98, 114, 101, 118, 101]⟩ : ByteArray), (⟨#[49]⟩ : ByteArray), (⟨#[50]⟩ : ByteArray), (⟨#[52]⟩ : ByteArray), (⟨#[56]⟩ : ByteArray), (⟨#[49, 54]⟩ : ByteArray), (⟨#[51, 50]⟩ : ByteArray), (⟨#[54, 52]⟩ : ByteArray)] : List ByteArray)) := ⟨_, rfl⟩
  replace H : (if 0 ≤ (wrap64 (a0_0 + 1)) then (if (wrap64 (a0_0 + 1)) < (y361.length : Int) then (neumeref07_Name.l0 k (rdOf ByteArray.empty y361 (wrap64 (a0_0 + 1))) 0 a0_0 a0_1) else (none)) else (none)) = some r := by first | (rw [hy361]; with_reducible exact H) | (have H2_ := (Option.bind_some _ _).symm.trans H; rw [hy361]; with_reducible exact H2_) | (have H2_ := (Option.bind_some _ _).symm.trans H; with_reducible exact H2_) | with_reducible exact H | (rw [hy361]; exact H) | exact H
  have Ny361 := sd_ hy361
  clear hy361
  obtain ⟨ji4, hji4⟩ : ∃ j_ : Int, (wrap64 (a0_0 + 1)) = j_ := ⟨_, rfl⟩
  replace H : (if 0 ≤ (ji4) then (if (ji4) < (y361.length : Int) then (neumeref07_Name.l0 k (rdOf ByteArray.empty y361 (ji4)) 0 a0_0 a0_1) else (none)) else (none)) = some r := by first | (rw [hji4] at H; exact H) | (simp only [hji4] at H ⊢; exact H)
  (try rw [hji4] at A2)
  have hji4w : (IntKind.i64.wrap (a0_0 + 1)) = ji4 := (i64_w _).trans hji4
  by_cases c5 : 0 ≤ (ji4)
  ·rw [if_pos c5] at H
   have c5b0 : decide (0 ≤ (ji4)) = true := dt_ c5
   clear c5
   by_cases c6 : (ji4) < (y361.length : Int)
   ·rw [if_pos c6] at H
    have c6b0 : decide ((ji4) < (y361.length : Int)) = true := dt_ c6
    clear c6
    have H' := sd_ H
    clear H
    go_enter Tryz.func18, Tryz.ntmps18
    go_wp2_with (first | ((with_reducible refine gate_dst (N := 1) rfl ?_); refine box_event ?hg (N := 1) ?hd (cs := #[.int .i64 a0_0, .int .i64 a0_1]) (t := 23) ?hr ?_; (case hd => rfl); (case hg => rfl); (case hr => first | (go_simp; done) | (go_simp; rfl)); intro gb359 hg w7 hbox hb; have BK359 := sd_ hbox; have GW359 := gw_ HB e0_ hg; have GE359 := GW359; replace HB := hb_ HB e0_ hb; clear hb hbox hg; have hcz8_0 : w7.cell? ⟨gb359, 0, none⟩ = some (.int .i64 a0_0) := (kc_ BK359.out 0).trans rfl; have hcz8_1 : w7.cell? ⟨gb359, 1, none⟩ = some (.int .i64 a0_1) := (kc_ BK359.out 1).trans rfl; have hfz8_0 := kf_ BK359.out 0; have hfz8_1 := kf_ BK359.out 1) | ((with_reducible refine gate_callee (f := 16) rfl ?_); refine goesL_ (some 6) rfl rfl Tryz.func16 (by kernel_rfl) rfl #[.agg #[.int .i64 a0_0, .int .i64 a0_1]] rfl (by (try simp only [lm_, lq_, lx_]); first | done | rfl | (simp only [ld_, lt_]; rfl)) ?_; (with_reducible refine (neumeref07_Check.calls a0_0 a0_1 true _ A2.out).mono ?_); rintro e w9 ⟨rfl, hb⟩; refine ⟨_, rfl, ?_⟩; replace BK359 := kb_ BK359 hb; replace HB := hb_ HB (e_ GE359 e0_) hb; (try clear hb); (try clear hb2); (try clear hk); (try clear hi)) | ((with_reducible refine gate_dst (N := 8) rfl ?_); refine Kd.R_lit Kd.string _ 9 ?hg (N := 8) ?hd (xs := ([(⟨#[98, 114, 101, 118, 101]⟩ : ByteArray), (⟨#[49]⟩ : ByteArray), (⟨#[50]⟩ : ByteArray), (⟨#[52]⟩ : ByteArray), (⟨#[56]⟩ : ByteArray), (⟨#[49, 54]⟩ : ByteArray), (⟨#[51, 50]⟩ : ByteArray), (⟨#[54, 52]⟩ : ByteArray)] : List ByteArray)) (inner := [.string (⟨#[98, 114, 101, 118, 101]⟩ : ByteArray), .string (⟨#[49]⟩ : ByteArray), .string (⟨#[50]⟩ : ByteArray), .string (⟨#[52]⟩ : ByteArray), .string (⟨#[56]⟩ : ByteArray), .string (⟨#[49, 54]⟩ : ByteArray), .string (⟨#[51, 50]⟩ : ByteArray), .string (⟨#[54, 52]⟩ : ByteArray)]) (ok := fun _ => True) (okp := fun _ => True) ?hr ?hp (fun _ hk => hk) trivial (Below.refl _ _) (Nat.le_refl _) (by simp) ?_; (case hd => rfl); (case hg => rfl); (case hr => first | (go_simp; done) | (go_simp; rfl)); (case hp => exact (Reps.one (show Kd.M Kd.string _ _ _ (⟨#[98, 114, 101, 118, 101]⟩ : ByteArray) [.string (⟨#[98, 114, 101, 118, 101]⟩ : ByteArray)] from rfl) (Reps.one (show Kd.M Kd.string _ _ _ (⟨#[49]⟩ : ByteArray) [.string (⟨#[49]⟩ : ByteArray)] from rfl) (Reps.one (show Kd.M Kd.string _ _ _ (⟨#[50]⟩ : ByteArray) [.string (⟨#[50]⟩ : ByteArray)] from rfl) (Reps.one (show Kd.M Kd.string _ _ _ (⟨#[52]⟩ : ByteArray) [.string (⟨#[52]⟩ : ByteArray)] from rfl) (Reps.one (show Kd.M Kd.string _ _ _ (⟨#[56]⟩ : ByteArray) [.string (⟨#[56]⟩ : ByteArray)] from rfl) (Reps.one (show Kd.M Kd.string _ _ _ (⟨#[49, 54]⟩ : ByteArray) [.string (⟨#[49, 54]⟩ : ByteArray)] from rfl) (Reps.one (show Kd.M Kd.string _ _ _ (⟨#[51, 50]⟩ : ByteArray) [.string (⟨#[51, 50]⟩ : ByteArray)] from rfl) (Reps.one (show Kd.M Kd.string _ _ _ (⟨#[54, 52]⟩ : ByteArray) [.string (⟨#[54, 52]⟩ : ByteArray)] from rfl) (Reps.none _ _)))))))))); intro v362 w10 ho11 hb hg_ hnew_; clear hg_ hnew_; (first | rw [← Ny361.out] at ho11 | (simp only [Int.reduceToNat] at ho11; rw [← Ny361.out] at ho11)); have HO363 := sd_ (Kd.R_lower ho11 (bz_ (bb_ HB.out (e_ GE359 e0_)))); replace BK359 := kb_ BK359 hb; replace HB := hb_ HB (e_ GE359 e0_) hb; clear hb ho11; have hcz12_0 : w10.cell? ⟨gb359, 0, none⟩ = some (.int .i64 a0_0) := (kc_ BK359.out 0).trans rfl; have hcz12_1 : w10.cell? ⟨gb359, 1, none⟩ = some (.int .i64 a0_1) := (kc_ BK359.out 1).trans rfl; have hfz12_0 := kf_ BK359.out 0; have hfz12_1 := kf_ BK359.out 1; obtain ⟨Ao13, co13, eo13⟩ := Kd.R_slice HO363.out; subst eo13; have p364 : 0 ≤ ((ji4) : Int) := od_ (by first | (with_reducible assumption) | assumption); have q364 : (ji4) < (y361.length : Int) := od_ (by first | (with_reducible assumption) | assumption); obtain ⟨ad364, e364, hx364_0⟩ := Kd.at_string (Kd.R_reads' HO363.out).2.2 (ji4) p364 q364; cases e364; replace p364 := eq_true p364; replace q364 := eq_true q364))
    go_loopg [3, 4] k (fun kq v3 v4 w' => ∃ (x3_1 : ByteArray) (x4_1 : Int), v3 = .string x3_1 ∧ v4 = .int .i64 x4_1 ∧ Aside0 (neumeref07_Name.l0 kq x3_1 x4_1 a0_0 a0_1 = some r) ∧ Aside0 (kq ≤ k) ∧ Aside0 (w'.heap[gb359]? = some (.cells #[.int .i64 a0_0, .int .i64 a0_1] 23 (0, 0))) ∧ Aside0 (Below w.heap.size w w'))
    case atStart => exact ⟨(rdOf ByteArray.empty y361 (ji4)), (0), (by first | rfl | (simp; done) | (simp only [← hji4] <;> (first | rfl | simp)) | (simp [*]; done)), (by first | rfl | (simp; done) | (simp [*]; done) | (simp [bne]; done)), H', ⟨Nat.le_refl _⟩, ⟨by (with_reducible repeat first | apply kn_ | apply kd_ | apply ka_); exact BK359.out⟩, ⟨by repeat (first | (with_reducible first | exact HB.out | apply ba_ | apply pd_ | apply d1_ | refine bs_ ?_ GE359.out) | exact HB.out)⟩⟩
    case round =>
     clear H'
     try clear c1; try clear p2; try clear c3; try clear p3; try clear q3; try clear hx3; try clear c5; try clear c5b0; try clear c6; try clear c6b0; try clear p6; try clear hcz12_0; try clear hcz12_1; try clear hcz8_0; try clear hcz8_1; try clear hfz12_0; try clear hfz12_1; try clear hfz8_0; try clear hfz8_1; try clear hx364_0; try clear p364; try clear q364
     obtain ⟨x3_1, x4_1, rfl, rfl, HA, HK1, BK359, HB⟩ := hrel
     cases gk with
     | zero => exact absurd HA.out (by simp [neumeref07_Name.l0])
     | succ k1 =>
      have H := HA.out
      clear HA
      simp only [neumeref07_Name.l0] at H
      by_cases c14 : x4_1 < a0_1
      ·rw [if_pos c14] at H
       have c14b0 : decide (x4_1 < a0_1) = true := dt_ c14
       clear c14
       by_cases c15 : x3_1.size + 1 ≤ 9223372036854775807
       ·rw [if_pos c15] at H
        have c15b0 := eq_true c15
        have c15b1 : decide (x3_1.size + 1 ≤ 9223372036854775807) = true := dt_ c15
        try have c15b2 : (9223372036854775807 < x3_1.size + 1) = False := eq_false (Nat.not_lt.2 c15)
        have H' := sd_ H
        clear H
        have hcz16_0 : wr.cell? ⟨gb359, 0, none⟩ = some (.int .i64 a0_0) := (kc_ BK359.out 0).trans rfl
        have hcz16_1 : wr.cell? ⟨gb359, 1, none⟩ = some (.int .i64 a0_1) := (kc_ BK359.out 1).trans rfl
        have hfz16_0 := kf_ BK359.out 0
        have hfz16_1 := kf_ BK359.out 1
        go_wp2
        go_roundg k1
        case measure => have := HK1.out; omega
        case rel => exact ⟨(x3_1 ++ (⟨#[46]⟩ : ByteArray)), (wrap64 (x4_1 + 1)), (by first | rfl | (simp; done) | (simp [*]; done) | (simp [bne]; done)), (by first | rfl | (simp; done) | (simp [*]; done) | (simp [bne]; done)), H', ⟨by have := HK1.out; omega⟩, ⟨by (with_reducible repeat first | apply kn_ | apply kd_ | apply ka_); exact BK359.out⟩, ⟨by repeat (first | (with_reducible first | exact HB.out | apply ba_ | apply pd_ | apply d1_ | refine bs_ ?_ GE359.out) | exact HB.out)⟩⟩
       ·rw [if_neg c15] at H
        exact absurd H (by simp)
      ·rw [if_neg c14] at H
       have c14b0 : decide (x4_1 < a0_1) = false := df_ c14
       clear c14
       obtain rfl := Option.some.inj H
       have hcz17_0 : wr.cell? ⟨gb359, 0, none⟩ = some (.int .i64 a0_0) := (kc_ BK359.out 0).trans rfl
       have hcz17_1 : wr.cell? ⟨gb359, 1, none⟩ = some (.int .i64 a0_1) := (kc_ BK359.out 1).trans rfl
       have hfz17_0 := kf_ BK359.out 0
       have hfz17_1 := kf_ BK359.out 1
       go_wp2
       go_ret
       exact ⟨by first | rfl | (simp [errW_none, errW_some] <;> rfl) | (simp only [← hji4]; first | rfl | (simp [errW_none, errW_some] <;> rfl)) | (simp [*, errW_none, errW_some] <;> rfl), by repeat (first | (with_reducible first | exact HB.out | apply ba_ | apply pd_ | apply d1_ | refine bs_ ?_ GE359.out) | exact HB.out)⟩
   ·rw [if_neg c6] at H
    exact absurd H (by simp)
  ·rw [if_neg c5] at H
   exact absurd H (by simp)
 ·replace c3 := bf_ c3
  subst c3
  have H1 : (some (⟨#[]⟩ : ByteArray)) = some r := by rw [if_neg (show ¬ (false = true) by decide)] at H; exact H
  clear H; have H := H1; clear H1
  obtain rfl := Option.some.inj H
  go_enter Tryz.func18, Tryz.ntmps18
  go_wp2_with (first | ((with_reducible refine gate_dst (N := 1) rfl ?_); refine box_event ?hg (N := 1) ?hd (cs := #[.int .i64 a0_0, .int .i64 a0_1]) (t := 23) ?hr ?_; (case hd => rfl); (case hg => rfl); (case hr => first | (go_simp; done) | (go_simp; rfl)); intro gb359 hg w18 hbox hb; have BK359 := sd_ hbox; have GW359 := gw_ HB e0_ hg; have GE359 := GW359; replace HB := hb_ HB e0_ hb; clear hb hbox hg; have hcz19_0 : w18.cell? ⟨gb359, 0, none⟩ = some (.int .i64 a0_0) := (kc_ BK359.out 0).trans rfl; have hcz19_1 : w18.cell? ⟨gb359, 1, none⟩ = some (.int .i64 a0_1) := (kc_ BK359.out 1).trans rfl; have hfz19_0 := kf_ BK359.out 0; have hfz19_1 := kf_ BK359.out 1) | ((with_reducible refine gate_callee (f := 16) rfl ?_); refine goesL_ (some 6) rfl rfl Tryz.func16 (by kernel_rfl) rfl #[.agg #[.int .i64 a0_0, .int .i64 a0_1]] rfl (by (try simp only [lm_, lq_, lx_]); first | done | rfl | (simp only [ld_, lt_]; rfl)) ?_; (with_reducible refine (neumeref07_Check.calls a0_0 a0_1 false _ A2.out).mono ?_); rintro e w20 ⟨rfl, hb⟩; refine ⟨_, rfl, ?_⟩; replace BK359 := kb_ BK359 hb; replace HB := hb_ HB (e_ GE359 e0_) hb; (try clear hb); (try clear hb2); (try clear hk); (try clear hi)))
  go_ret
  exact ⟨by first | rfl | (simp [errW_none, errW_some] <;> rfl) | (simp [*, errW_none, errW_some] <;> rfl), by repeat (first | (with_reducible first | exact HB.out | apply ba_ | apply pd_ | apply d1_ | refine bs_ ?_ GE359.out) | exact HB.out)⟩

/-! ### neumeref07_all: function 43 -/
mutual
def neumeref07_all.l0 : Nat → List (S23) → Int → Option ((List (S23)))
 | 0, _, _ => none
 | k + 1, x1, x2 => if x2 ≤ 6 then (neumeref07_all.l1 k x1 x2 0) else (some x1)
def neumeref07_all.l1 : Nat → List (S23) → Int → Int → Option ((List (S23)))
 | 0, _, _, _ => none
 | k + 1, x1, x2, x3 => if x3 ≤ 3 then (if x1.length < 8796093022208 then (neumeref07_all.l1 k (x1 ++ [(⟨x2, x3⟩ : S23)]) x2 (wrap64 (x3 + 1))) else (none)) else (neumeref07_all.l0 k x1 (wrap64 (x2 + 1)))
end
def neumeref07_all.f (k : Nat)  : Option ((List (S23))) := neumeref07_all.l0 k ([] : List (S23)) (-1)
theorem neumeref07_all.mono_l : ∀ k, (∀ y0 y1, LeO (neumeref07_all.l0 k y0 y1) (neumeref07_all.l0 (k + 1) y0 y1)) ∧ (∀ y0 y1 y2, LeO (neumeref07_all.l1 k y0 y1 y2) (neumeref07_all.l1 (k + 1) y0 y1 y2))
 | 0 => ⟨fun _ _ r h => by simp [neumeref07_all.l0] at h, fun _ _ _ r h => by simp [neumeref07_all.l1] at h⟩
 | k + 1 => by
  obtain ⟨ih0, ih1⟩ := neumeref07_all.mono_l k
  refine ⟨?_, ?_⟩
  ·intro y0 y1
   unfold neumeref07_all.l0
   repeat' first
   | (with_reducible exact ih0 _ _)
   | (with_reducible exact ih1 _ _ _)
   | (with_reducible exact LeO.refl _)
   | (with_reducible exact LeO.none _)
   | (with_reducible refine LeO.ite ?_ ?_)
   | (with_reducible refine LeO.bind ?_ (fun _ => ?_))
   | exact ih0 _ _
   | exact ih1 _ _ _
   | exact LeO.none _
   | refine LeO.ite ?_ ?_
   | refine LeO.bind ?_ (fun _ => ?_)
  ·intro y0 y1 y2
   unfold neumeref07_all.l1
   repeat' first
   | (with_reducible exact ih0 _ _)
   | (with_reducible exact ih1 _ _ _)
   | (with_reducible exact LeO.refl _)
   | (with_reducible exact LeO.none _)
   | (with_reducible refine LeO.ite ?_ ?_)
   | (with_reducible refine LeO.bind ?_ (fun _ => ?_))
   | exact ih0 _ _
   | exact ih1 _ _ _
   | exact LeO.none _
   | refine LeO.ite ?_ ?_
   | refine LeO.bind ?_ (fun _ => ?_)
theorem neumeref07_all.mono : ∀ k, LeO (neumeref07_all.f k ) (neumeref07_all.f (k + 1) ) := by
 intro  k
 obtain ⟨ih0, ih1⟩ := neumeref07_all.mono_l k
 unfold neumeref07_all.f
 repeat' first
   | (with_reducible exact ih0 _ _)
   | (with_reducible exact ih1 _ _ _)
   | (with_reducible exact LeO.refl _)
   | (with_reducible exact LeO.none _)
   | (with_reducible refine LeO.ite ?_ ?_)
   | (with_reducible refine LeO.bind ?_ (fun _ => ?_))
   | exact ih0 _ _
   | exact ih1 _ _ _
   | exact LeO.none _
   | refine LeO.ite ?_ ?_
   | refine LeO.bind ?_ (fun _ => ?_)
set_option maxHeartbeats 8000000 in
set_option maxRecDepth 100000 in
theorem neumeref07_all.calls (k : Nat)  (r : List (S23)) (w : World) (h : neumeref07_all.f k  = some r) :
  Calls Tryz.prog 43 #[] w fun e w' => ∃ v0_ : Value, e = .returned (v0_) ∧ Kd.R k23 23 w' w.heap.size (fun _ => True) v0_ r ∧ Below w.heap.size w w' := by
 have hu23 := Tryz.underlying23
 have HB := sd_ (Below.refl w.heap.size w)
 have H : (neumeref07_all.l0 k ([] : List (S23)) (-1)) = some r := h
 clear h
 have H' := sd_ H
 clear H
 go_enter Tryz.func43, Tryz.ntmps43
 go_wp2
 go_loopg [1, 2] k (fun kq v1 v2 w' => ∃ (x1_1 : List (S23)) (x2_1 : Int), v2 = .int .i64 x2_1 ∧ Aside0 (neumeref07_all.l0 kq x1_1 x2_1 = some r) ∧ Aside0 (kq ≤ k) ∧ Aside0 (Kd.R k23 23 w' w.heap.size (fun _ => True) v1 x1_1) ∧ Aside0 (Below w.heap.size w w'))
 case atStart => exact ⟨(([] : List (S23))), ((-1)), (by first | rfl | (simp; done) | (simp [*]; done) | (simp [bne]; done)), H', ⟨Nat.le_refl _⟩, ⟨by first | exact Kd.R_nil _ _ _ _ _ | exact Kd.N_nil _ _ _ _ _ | exact Kd.V_nil _ _ _ _ _ | exact Kd.Q_nil _ _ _ _ _ | exact Kd.S_nil _ _ _ _ _⟩, ⟨by repeat (first | (with_reducible first | exact HB.out | apply ba_ | apply pd_ | apply d1_) | exact HB.out)⟩⟩
 case round =>
  clear H'
  obtain ⟨x1_1, x2_1, rfl, HA, HK1, HO_1, HB⟩ := hrel
  cases gk with
  | zero => exact absurd HA.out (by simp [neumeref07_all.l0])
  | succ k1 =>
   have H := HA.out
   clear HA
   simp only [neumeref07_all.l0] at H
   by_cases c1 : x2_1 ≤ 6
   ·rw [if_pos c1] at H
    have c1b0 : decide (x2_1 ≤ 6) = true := dt_ c1
    clear c1
    have H' := sd_ H
    clear H
    go_wp2
    go_loopg [1, 3] k1 (fun kq v1 v3 w' => ∃ (x1_2 : List (S23)) (x3_2 : Int), v3 = .int .i64 x3_2 ∧ Aside0 (neumeref07_all.l1 kq x1_2 x2_1 x3_2 = some r) ∧ Aside0 (kq ≤ k1) ∧ Aside0 (Kd.R k23 23 w' w.heap.size (fun _ => True) v1 x1_2) ∧ Aside0 (Below w.heap.size w w'))
    case atStart => exact ⟨(x1_1), (0), (by first | rfl | (simp; done) | (simp [*]; done) | (simp [bne]; done)), H', ⟨Nat.le_refl _⟩, ⟨by (with_reducible repeat (first | apply Kd.R_alloc | apply Kd.R_drewN | apply Kd.R_drew)); exact HO_1.out⟩, ⟨by repeat (first | (with_reducible first | exact HB.out | apply ba_ | apply pd_ | apply d1_) | exact HB.out)⟩⟩
    case round =>
     clear H'
     try clear c1; try clear c1b0
     obtain ⟨x1_2, x3_2, rfl, HA, HK2, HO_1, HB⟩ := hrel
     cases gk with
     | zero => exact absurd HA.out (by simp [neumeref07_all.l1])
     | succ k2 =>
      have H := HA.out
      clear HA
      simp only [neumeref07_all.l1] at H
      by_cases c2 : x3_2 ≤ 3
      ·rw [if_pos c2] at H
       have c2b0 : decide (x3_2 ≤ 3) = true := dt_ c2
       clear c2
       by_cases c3 : x1_2.length < 8796093022208
       ·rw [if_pos c3] at H
        have LMc3 := sd_ c3
        clear c3
        obtain ⟨y365, hy365⟩ : ∃ y_ : List (S23), y_ = (x1_2 ++ [(⟨x2_1, x3_2⟩ : S23)]) := ⟨_, rfl⟩
        replace H : (neumeref07_all.l1 k2 y365 x2_1 (wrap64 (x3_2 + 1))) = some r := by first | (rw [hy365]; with_reducible exact H) | (have H2_ := (Option.bind_some _ _).symm.trans H; rw [hy365]; with_reducible exact H2_) | (have H2_ := (Option.bind_some _ _).symm.trans H; with_reducible exact H2_) | with_reducible exact H | (rw [hy365]; exact H) | exact H
        have Ny365 := sd_ hy365
        clear hy365
        have H' := sd_ H
        clear H
        go_wp2_with (first | ((with_reducible refine gate_builtin (b := .append) (xs := #[.tmp 12, .tmp 16]) rfl ?_); at_builtin; refine Kd.R_append k23 (w0 := w) w.heap.size rfl (.tmp 12) (.tmp 16) 35 23 (.agg #[(.int .i64 0), (.int .i64 0)]) 16 rfl Tryz.underlying35 info23 rfl (by decide) (by omega) u1 x1_2 (⟨x2_1, x3_2⟩ : S23) [.int .i64 x2_1, .int .i64 x3_2] (fun _ => True) (fun _ => False) rfl rfl ?aP (fun _ hk => hk.elim) ?aF ?aO ?aB ?aS ?aL ?_; (case aP => exact k23_mkM _ _ _ (⟨x2_1, x3_2⟩ : S23)); (case aB => exact (bb_ HB.out e0_)); (case aF => exact (fun _ _ => trivial)); (case aO => exact (by (with_reducible repeat (first | apply Kd.R_alloc | apply Kd.R_drewN | apply Kd.R_drew)); exact HO_1.out)); (case aS => exact (bz_ (bb_ HB.out e0_))); (case aL => have := LMc3.out; omega); intro v366 w4 ho hb hg hat; rw [← Ny365.out] at ho; have HO367 := sd_ (ho); replace HB := sd_ (hb); clear HO_1; clear ho hb hg hat))
        go_roundg k2
        case measure => have := HK1.out; have := HK2.out; omega
        case rel => exact ⟨(y365), (wrap64 (x3_2 + 1)), (by first | rfl | (simp; done) | (simp [*]; done) | (simp [bne]; done)), H', ⟨by have := HK1.out; have := HK2.out; omega⟩, ⟨by (with_reducible repeat (first | apply Kd.R_alloc | apply Kd.R_drewN | apply Kd.R_drew)); exact HO367.out⟩, ⟨by repeat (first | (with_reducible first | exact HB.out | apply ba_ | apply pd_ | apply d1_) | exact HB.out)⟩⟩
       ·rw [if_neg c3] at H
        exact absurd H (by simp)
      ·rw [if_neg c2] at H
       have c2b0 : decide (x3_2 ≤ 3) = false := df_ c2
       clear c2
       have H' := sd_ H
       clear H
       go_wp2
       go_roundg k2
       case measure => have := HK1.out; have := HK2.out; omega
       case rel => exact ⟨(x1_2), (wrap64 (x2_1 + 1)), (by first | rfl | (simp; done) | (simp [*]; done) | (simp [bne]; done)), H', ⟨by have := HK1.out; have := HK2.out; omega⟩, ⟨by (with_reducible repeat (first | apply Kd.R_alloc | apply Kd.R_drewN | apply Kd.R_drew)); exact HO_1.out⟩, ⟨by repeat (first | (with_reducible first | exact HB.out | apply ba_ | apply pd_ | apply d1_) | exact HB.out)⟩⟩
   ·rw [if_neg c1] at H
    have c1b0 : decide (x2_1 ≤ 6) = false := df_ c1
    clear c1
    obtain rfl := Option.some.inj H
    go_wp2
    go_ret
    exact ⟨_, by first | rfl | (simp [errW_none, errW_some] <;> rfl) | (simp [*, errW_none, errW_some] <;> rfl), by (with_reducible repeat (first | apply Kd.R_alloc | apply Kd.R_drewN | apply Kd.R_drew)); exact HO_1.out, by repeat (first | (with_reducible first | exact HB.out | apply ba_ | apply pd_ | apply d1_) | exact HB.out)⟩

/-! ### neumeref07_Parse: function 9 -/
def neumeref07_Parse.l0 : Nat → ByteArray → List (S23) → Int → Option (Int × Int × Bool)
 | 0, _, _, _ => none
 | k + 1, x0, x4, x5 => if x5 < (x4.length : Int) then (if 0 ≤ x5 then ((neumeref07_Name.f k ((rd_T23 x4 x5).f0) ((rd_T23 x4 x5).f1)).bind fun t373 => (if t373.toList = x0.toList then (some ((rd_T23 x4 x5).f0, (rd_T23 x4 x5).f1, true)) else (neumeref07_Parse.l0 k x0 x4 (wrap64 (x5 + 1))))) else (none)) else (some (0, 0, false))
def neumeref07_Parse.f (k : Nat) (a0 : ByteArray) : Option (Int × Int × Bool) := (neumeref07_all.f k).bind fun t369 => (neumeref07_Parse.l0 k a0 t369 0)
theorem neumeref07_Parse.mono_l : ∀ k, (∀ y0 y1 y2, LeO (neumeref07_Parse.l0 k y0 y1 y2) (neumeref07_Parse.l0 (k + 1) y0 y1 y2))
 | 0 => fun _ _ _ r h => by simp [neumeref07_Parse.l0] at h
 | k + 1 => by
  have ih0 := neumeref07_Parse.mono_l k
  ·intro y0 y1 y2
   unfold neumeref07_Parse.l0
   repeat' first
   | (with_reducible exact ih0 _ _ _)
   | (with_reducible exact neumeref07_Name.mono _ _ _)
   | (with_reducible exact neumeref07_all.mono _)
   | (with_reducible exact LeO.refl _)
   | (with_reducible exact LeO.none _)
   | (with_reducible refine LeO.ite ?_ ?_)
   | (with_reducible refine LeO.bind ?_ (fun _ => ?_))
   | exact ih0 _ _ _
   | exact neumeref07_Name.mono _ _ _
   | exact neumeref07_all.mono _
   | exact LeO.none _
   | refine LeO.ite ?_ ?_
   | refine LeO.bind ?_ (fun _ => ?_)
theorem neumeref07_Parse.mono : ∀ a0 k, LeO (neumeref07_Parse.f k a0) (neumeref07_Parse.f (k + 1) a0) := by
 intro a0 k
 have ih0 := neumeref07_Parse.mono_l k
 unfold neumeref07_Parse.f
 repeat' first
   | (with_reducible exact ih0 _ _ _)
   | (with_reducible exact neumeref07_Name.mono _ _ _)
   | (with_reducible exact neumeref07_all.mono _)
   | (with_reducible exact LeO.refl _)
   | (with_reducible exact LeO.none _)
   | (with_reducible refine LeO.ite ?_ ?_)
   | (with_reducible refine LeO.bind ?_ (fun _ => ?_))
   | exact ih0 _ _ _
   | exact neumeref07_Name.mono _ _ _
   | exact neumeref07_all.mono _
   | exact LeO.none _
   | refine LeO.ite ?_ ?_
   | refine LeO.bind ?_ (fun _ => ?_)
set_option maxHeartbeats 8000000 in
set_option maxRecDepth 100000 in
theorem neumeref07_Parse.calls (k : Nat) (a0 : ByteArray) (r1 : Int) (r2 : Int) (r3 : Bool) (w : World) (h : neumeref07_Parse.f k a0 = some (r1, r2, r3)) :
  Calls Tryz.prog 9 #[.string a0] w fun e w' => e = .returned (.tuple #[.agg #[.int .i64 r1, .int .i64 r2], .bool r3]) ∧ Below w.heap.size w w' := by
 have hu23 := Tryz.underlying23
 have HB := sd_ (Below.refl w.heap.size w)
 have H : ((neumeref07_all.f k).bind fun t369 => (neumeref07_Parse.l0 k a0 t369 0)) = some (r1, r2, r3) := h
 clear h
 replace H := ob_ H
 obtain ⟨t369, A20, H⟩ := H
 replace H : (neumeref07_Parse.l0 k a0 t369 0) = some (r1, r2, r3) := H
 have A2 := sd_ A20
 clear A20
 have H' := sd_ H
 clear H
 go_enter Tryz.func9, Tryz.ntmps9
 go_wp2_with (first | ((with_reducible refine gate_dst (N := 2) rfl ?_); refine box_event ?hg (N := 2) ?hd (cs := #[.int .i64 0, .int .i64 0]) (t := 23) ?hr ?_; (case hd => rfl); (case hg => rfl); (case hr => first | (go_simp; done) | (go_simp; rfl)); intro gb368 hg w3 hbox hb; have BK368 := sd_ hbox; have GW368 := gw_ HB e0_ hg; have GE368 := GW368; replace HB := hb_ HB e0_ hb; clear hb hbox hg) | ((with_reducible refine gate_callee (f := 43) rfl ?_); refine goesL_ (some 6) rfl rfl Tryz.func43 (by kernel_rfl) rfl #[] rfl (by (try simp only [lm_, lq_, lx_]); first | done | rfl | (simp only [ld_, lt_]; rfl)) ?_; (with_reducible refine (neumeref07_all.calls k  t369 _ A2.out).mono ?_); rintro e w4 ⟨v370, rfl, ho0, hb⟩; refine ⟨_, rfl, ?_⟩; have HO371 := sd_ (Kd.R_lower (Kd.R_newB ho0 (kk_ BK368.out)) (bz_ (bb_ HB.out (e_ GE368 e0_)))); replace BK368 := kb_ BK368 hb; replace HB := hb_ HB (e_ GE368 e0_) hb; (try clear hb); (try clear hb2); (try clear hk); (try clear hi); (try clear ho0)))
 go_loopg [5] k (fun kq v5 w' => ∃ (x5_1 : Int) (x369000_1 : Int) (x369001_1 : Int), v5 = .int .i64 x5_1 ∧ Aside0 (neumeref07_Parse.l0 kq a0 t369 x5_1 = some (r1, r2, r3)) ∧ Aside0 (kq ≤ k) ∧ Aside0 (Kd.R k23 23 w' w.heap.size (fun k_ => k_ ≠ gb368) v370 t369) ∧ Aside0 (w'.heap[gb368]? = some (.cells #[.int .i64 x369000_1, .int .i64 x369001_1] 23 (0, 0))) ∧ Aside0 (Below w.heap.size w w'))
 case atStart => exact ⟨(0), (0), (0), (by first | rfl | (simp; done) | (simp [*]; done) | (simp [bne]; done)), H', ⟨Nat.le_refl _⟩, ⟨by (with_reducible repeat (first | apply Kd.R_alloc | apply Kd.R_drewN | apply Kd.R_drew)); exact Kd.R_mono HO371.out (fun _ hk => hk.2)⟩, ⟨by (with_reducible repeat first | apply kn_ | apply kd_ | apply ka_); exact BK368.out⟩, ⟨by repeat (first | (with_reducible first | exact HB.out | apply ba_ | apply pd_ | apply d1_ | refine bs_ ?_ GE368.out) | exact HB.out)⟩⟩
 case round =>
  clear H'
  try clear p2; try clear c4
  obtain ⟨x5_1, x369000_1, x369001_1, rfl, HA, HK1, HO_4, BK368, HB⟩ := hrel
  cases gk with
  | zero => exact absurd HA.out (by simp [neumeref07_Parse.l0])
  | succ k1 =>
   have H := HA.out
   clear HA
   simp only [neumeref07_Parse.l0] at H
   by_cases c5 : x5_1 < (t369.length : Int)
   ·rw [if_pos c5] at H
    have c5b0 : decide (x5_1 < (t369.length : Int)) = true := dt_ c5
    clear c5
    by_cases c6 : 0 ≤ x5_1
    ·rw [if_pos c6] at H
     have c6b0 : decide (0 ≤ x5_1) = true := dt_ c6
     clear c6
     replace H := ob_ H
     obtain ⟨t373, A70, H⟩ := H
     replace H : (if t373.toList = a0.toList then (some ((rd_T23 t369 x5_1).f0, (rd_T23 t369 x5_1).f1, true)) else (neumeref07_Parse.l0 k1 a0 t369 (wrap64 (x5_1 + 1)))) = some (r1, r2, r3) := H
     have A7 := sd_ A70
     clear A70
     by_cases c8 : t373.toList = a0.toList
     ·rw [if_pos c8] at H
      have c8b0 : (t373.toList == a0.toList) = true := beq_iff_eq.mpr c8
      have c8b1 : (t373.toList != a0.toList) = false := bne_eq_false_iff_eq.mpr c8
      clear c8
      simp only [Option.some.injEq, Prod.mk.injEq] at H
      obtain ⟨rfl, rfl, rfl⟩ := H
      obtain ⟨Ao9, co9, eo9⟩ := Kd.R_slice HO_4.out
      subst eo9
      have p372 : 0 ≤ (x5_1 : Int) := od_ (by first | (with_reducible assumption) | assumption)
      have q372 : x5_1 < (t369.length : Int) := od_ (by first | (with_reducible assumption) | assumption)
      obtain ⟨ad372, e372, hx372_0, hx372_1⟩ := at_T23 (Kd.R_reads' HO_4.out).2.2 x5_1 p372 q372
      cases e372
      replace p372 := eq_true p372
      replace q372 := eq_true q372
      go_wp2_with (first | ((with_reducible refine gate_callee (f := 18) rfl ?_); refine goesL_ (some 17) rfl rfl Tryz.func18 (by kernel_rfl) rfl #[.agg #[.int .i64 ((rd_T23 t369 x5_1).f0), .int .i64 ((rd_T23 t369 x5_1).f1)]] rfl (by (try simp only [lm_, lq_, lx_]); first | done | rfl | (simp only [ld_, lt_]; rfl)) ?_; (with_reducible refine (neumeref07_Name.calls k1 ((rd_T23 t369 x5_1).f0) ((rd_T23 t369 x5_1).f1) t373 _ A7.out).mono ?_); rintro e w10 ⟨rfl, hb⟩; refine ⟨_, rfl, ?_⟩; replace HO_4 := sd_ (Kd.R_below (by (with_reducible repeat (first | apply Kd.R_alloc | apply Kd.R_drewN | apply Kd.R_drew)); exact HO_4.out) hb); replace BK368 := kb_ BK368 hb; replace HB := hb_ HB (e_ GE368 e0_) hb; (try clear hb); (try clear hb2); (try clear hk); (try clear hi); have p374 : 0 ≤ (x5_1 : Int) := od_ (by first | (with_reducible assumption) | assumption); have q374 : x5_1 < (t369.length : Int) := od_ (by first | (with_reducible assumption) | assumption); obtain ⟨ad374, e374, hx374_0, hx374_1⟩ := at_T23 (Kd.R_reads' HO_4.out).2.2 x5_1 p374 q374; obtain rfl : ad372 = ad374 := (by injection e374); replace p374 := eq_true p374; replace q374 := eq_true q374; have hcz11_0 : w10.cell? ⟨gb368, 0, none⟩ = some (.int .i64 x369000_1) := (kc_ BK368.out 0).trans rfl; have hcz11_1 : w10.cell? ⟨gb368, 1, none⟩ = some (.int .i64 x369001_1) := (kc_ BK368.out 1).trans rfl; have hfz11_0 := kf_ BK368.out 0; have hfz11_1 := kf_ BK368.out 1))
      refine bodyPost_ret (results_ct rfl _ _ gb368 23 #[.int .i64 ((rd_T23 t369 x5_1).f0), .int .i64 ((rd_T23 t369 x5_1).f1)] (0, 0) _ rfl (by (with_reducible repeat first | apply kn_ | apply kd_ | apply ka_); refine blk_put (cs := #[.int .i64 ((rd_T23 t369 x5_1).f0), .int .i64 x369001_1]) ?_ 1 _ rfl; (with_reducible repeat first | apply kn_ | apply kd_ | apply ka_); refine blk_put (cs := #[.int .i64 x369000_1, .int .i64 x369001_1]) ?_ 0 _ rfl; (with_reducible repeat first | apply kn_ | apply kd_ | apply ka_); exact BK368.out) Tryz.underlying23 rfl (by kernel_rfl)) rfl ?_
      exact ⟨by first | rfl | (simp [errW_none, errW_some] <;> rfl) | (simp [*, errW_none, errW_some] <;> rfl), by repeat (first | (with_reducible first | exact HB.out | apply ba_ | apply pd_ | apply d1_ | refine bs_ ?_ GE368.out) | exact HB.out)⟩
     ·rw [if_neg c8] at H
      have c8b0 : (t373.toList == a0.toList) = false := beq_eq_false_iff_ne.mpr c8
      have c8b1 : (t373.toList != a0.toList) = true := bne_iff_ne.mpr c8
      have H' := sd_ H
      clear H
      obtain ⟨Ao12, co12, eo12⟩ := Kd.R_slice HO_4.out
      subst eo12
      have p372 : 0 ≤ (x5_1 : Int) := od_ (by first | (with_reducible assumption) | assumption)
      have q372 : x5_1 < (t369.length : Int) := od_ (by first | (with_reducible assumption) | assumption)
      obtain ⟨ad372, e372, hx372_0, hx372_1⟩ := at_T23 (Kd.R_reads' HO_4.out).2.2 x5_1 p372 q372
      cases e372
      replace p372 := eq_true p372
      replace q372 := eq_true q372
      go_wp2_with (first | ((with_reducible refine gate_callee (f := 18) rfl ?_); refine goesL_ (some 17) rfl rfl Tryz.func18 (by kernel_rfl) rfl #[.agg #[.int .i64 ((rd_T23 t369 x5_1).f0), .int .i64 ((rd_T23 t369 x5_1).f1)]] rfl (by (try simp only [lm_, lq_, lx_]); first | done | rfl | (simp only [ld_, lt_]; rfl)) ?_; (with_reducible refine (neumeref07_Name.calls k1 ((rd_T23 t369 x5_1).f0) ((rd_T23 t369 x5_1).f1) t373 _ A7.out).mono ?_); rintro e w13 ⟨rfl, hb⟩; refine ⟨_, rfl, ?_⟩; replace HO_4 := sd_ (Kd.R_below (by (with_reducible repeat (first | apply Kd.R_alloc | apply Kd.R_drewN | apply Kd.R_drew)); exact HO_4.out) hb); replace BK368 := kb_ BK368 hb; replace HB := hb_ HB (e_ GE368 e0_) hb; (try clear hb); (try clear hb2); (try clear hk); (try clear hi)))
      go_roundg k1
      case measure => have := HK1.out; omega
      case rel => exact ⟨(wrap64 (x5_1 + 1)), (x369000_1), (x369001_1), (by first | rfl | (simp; done) | (simp [*]; done) | (simp [bne]; done)), H', ⟨by have := HK1.out; omega⟩, ⟨by (with_reducible repeat (first | apply Kd.R_alloc | apply Kd.R_drewN | apply Kd.R_drew)); exact HO_4.out⟩, ⟨by (with_reducible repeat first | apply kn_ | apply kd_ | apply ka_); exact BK368.out⟩, ⟨by repeat (first | (with_reducible first | exact HB.out | apply ba_ | apply pd_ | apply d1_ | refine bs_ ?_ GE368.out) | exact HB.out)⟩⟩
    ·rw [if_neg c6] at H
     exact absurd H (by simp)
   ·rw [if_neg c5] at H
    have c5b0 : decide (x5_1 < (t369.length : Int)) = false := df_ c5
    clear c5
    simp only [Option.some.injEq, Prod.mk.injEq] at H
    obtain ⟨rfl, rfl, rfl⟩ := H
    obtain ⟨Ao14, co14, eo14⟩ := Kd.R_slice HO_4.out
    subst eo14
    have hcz15_0 : wr.cell? ⟨gb368, 0, none⟩ = some (.int .i64 x369000_1) := (kc_ BK368.out 0).trans rfl
    have hcz15_1 : wr.cell? ⟨gb368, 1, none⟩ = some (.int .i64 x369001_1) := (kc_ BK368.out 1).trans rfl
    have hfz15_0 := kf_ BK368.out 0
    have hfz15_1 := kf_ BK368.out 1
    go_wp2
    refine bodyPost_ret (results_ct rfl _ _ gb368 23 #[.int .i64 0, .int .i64 0] (0, 0) _ rfl (by (with_reducible repeat first | apply kn_ | apply kd_ | apply ka_); refine blk_put (cs := #[.int .i64 0, .int .i64 x369001_1]) ?_ 1 _ rfl; (with_reducible repeat first | apply kn_ | apply kd_ | apply ka_); refine blk_put (cs := #[.int .i64 x369000_1, .int .i64 x369001_1]) ?_ 0 _ rfl; (with_reducible repeat first | apply kn_ | apply kd_ | apply ka_); exact BK368.out) Tryz.underlying23 rfl (by kernel_rfl)) rfl ?_
    exact ⟨by first | rfl | (simp [errW_none, errW_some] <;> rfl) | (simp [*, errW_none, errW_some] <;> rfl), by repeat (first | (with_reducible first | exact HB.out | apply ba_ | apply pd_ | apply d1_ | refine bs_ ?_ GE368.out) | exact HB.out)⟩

/-! ### neumeref07_Of: function 11 -/
def neumeref07_Of.l0 : Nat → List (S23) → Int → Int → Int → Option (Int × Int × Bool)
 | 0, _, _, _, _ => none
 | k + 1, x4, x5, x376000, x376001 => if x5 < (x4.length : Int) then (if 0 ≤ x5 then ((neumeref07_Value.f k ((rd_T23 x4 x5).f0) ((rd_T23 x4 x5).f1)).bind fun bt381 => (if (bt381.1 == x376000 && (bt381.2.1 == x376001)) = true then (some ((rd_T23 x4 x5).f0, (rd_T23 x4 x5).f1, true)) else (neumeref07_Of.l0 k x4 (wrap64 (x5 + 1)) x376000 x376001))) else (none)) else (some (0, 0, false))
def neumeref07_Of.f (k : Nat) (a0_0 : Int) (a0_1 : Int) : Option (Int × Int × Bool) := (neumeref07_all.f k).bind fun t377 => (neumeref07_Of.l0 k t377 0 a0_0 a0_1)
theorem neumeref07_Of.mono_l : ∀ k, (∀ y0 y1 y2 y3, LeO (neumeref07_Of.l0 k y0 y1 y2 y3) (neumeref07_Of.l0 (k + 1) y0 y1 y2 y3))
 | 0 => fun _ _ _ _ r h => by simp [neumeref07_Of.l0] at h
 | k + 1 => by
  have ih0 := neumeref07_Of.mono_l k
  ·intro y0 y1 y2 y3
   unfold neumeref07_Of.l0
   repeat' first
   | (with_reducible exact ih0 _ _ _ _)
   | (with_reducible exact neumeref07_Value.mono _ _ _)
   | (with_reducible exact neumeref07_all.mono _)
   | (with_reducible exact LeO.refl _)
   | (with_reducible exact LeO.none _)
   | (with_reducible refine LeO.ite ?_ ?_)
   | (with_reducible refine LeO.bind ?_ (fun _ => ?_))
   | exact ih0 _ _ _ _
   | exact neumeref07_Value.mono _ _ _
   | exact neumeref07_all.mono _
   | exact LeO.none _
   | refine LeO.ite ?_ ?_
   | refine LeO.bind ?_ (fun _ => ?_)
theorem neumeref07_Of.mono : ∀ a0 a1 k, LeO (neumeref07_Of.f k a0 a1) (neumeref07_Of.f (k + 1) a0 a1) := by
 intro a0 a1 k
 have ih0 := neumeref07_Of.mono_l k
 unfold neumeref07_Of.f
 repeat' first
   | (with_reducible exact ih0 _ _ _ _)
   | (with_reducible exact neumeref07_Value.mono _ _ _)
   | (with_reducible exact neumeref07_all.mono _)
   | (with_reducible exact LeO.refl _)
   | (with_reducible exact LeO.none _)
   | (with_reducible refine LeO.ite ?_ ?_)
   | (with_reducible refine LeO.bind ?_ (fun _ => ?_))
   | exact ih0 _ _ _ _
   | exact neumeref07_Value.mono _ _ _
   | exact neumeref07_all.mono _
   | exact LeO.none _
   | refine LeO.ite ?_ ?_
   | refine LeO.bind ?_ (fun _ => ?_)
set_option maxHeartbeats 8000000 in
set_option maxRecDepth 100000 in
theorem neumeref07_Of.calls (k : Nat) (a0_0 : Int) (a0_1 : Int) (r1 : Int) (r2 : Int) (r3 : Bool) (w : World) (h : neumeref07_Of.f k a0_0 a0_1 = some (r1, r2, r3)) :
  Calls Tryz.prog 11 #[.agg #[.int .i64 a0_0, .int .i64 a0_1]] w fun e w' => e = .returned (.tuple #[.agg #[.int .i64 r1, .int .i64 r2], .bool r3]) ∧ Below w.heap.size w w' := by
 have hu25 := Tryz.underlying25
 have hu23 := Tryz.underlying23
 have HB := sd_ (Below.refl w.heap.size w)
 have H : ((neumeref07_all.f k).bind fun t377 => (neumeref07_Of.l0 k t377 0 a0_0 a0_1)) = some (r1, r2, r3) := h
 clear h
 replace H := ob_ H
 obtain ⟨t377, A20, H⟩ := H
 replace H : (neumeref07_Of.l0 k t377 0 a0_0 a0_1) = some (r1, r2, r3) := H
 have A2 := sd_ A20
 clear A20
 have H' := sd_ H
 clear H
 go_enter Tryz.func11, Tryz.ntmps11
 go_wp2_with (first | ((with_reducible refine gate_dst (N := 1) rfl ?_); refine box_event ?hg (N := 1) ?hd (cs := #[.int .i64 a0_0, .int .i64 a0_1]) (t := 25) ?hr ?_; (case hd => rfl); (case hg => rfl); (case hr => first | (go_simp; done) | (go_simp; rfl)); intro gb375 hg w3 hbox hb; have BK375 := sd_ hbox; have GW375 := gw_ HB e0_ hg; have GE375 := GW375; replace HB := hb_ HB e0_ hb; clear hb hbox hg) | ((with_reducible refine gate_dst (N := 2) rfl ?_); refine box_event ?hg (N := 2) ?hd (cs := #[.int .i64 0, .int .i64 0]) (t := 23) ?hr ?_; (case hd => rfl); (case hg => rfl); (case hr => first | (go_simp; done) | (go_simp; rfl)); intro gb376 hg w4 hbox hb; have BK376 := sd_ hbox; have GW376 := gw_ HB (e_ GE375 e0_) hg; have GE376 := GW376; have NB375_376 := nb_ BK375 hg; have NB376_375 := sy_ NB375_376; replace BK375 := kb_ BK375 hb; replace HB := hb_ HB (e_ GE375 e0_) hb; clear hb hbox hg) | ((with_reducible refine gate_callee (f := 43) rfl ?_); refine goesL_ (some 8) rfl rfl Tryz.func43 (by kernel_rfl) rfl #[] rfl (by (try simp only [lm_, lq_, lx_]); first | done | rfl | (simp only [ld_, lt_]; rfl)) ?_; (with_reducible refine (neumeref07_all.calls k  t377 _ A2.out).mono ?_); rintro e w5 ⟨v378, rfl, ho0, hb⟩; refine ⟨_, rfl, ?_⟩; have HO379 := sd_ (Kd.R_lower (Kd.R_newB ho0 (kk_ BK376.out)) (bz_ (bb_ HB.out (e_ GE375 (e_ GE376 e0_))))); replace BK375 := kb_ BK375 hb; replace BK376 := kb_ BK376 hb; replace HB := hb_ HB (e_ GE375 (e_ GE376 e0_)) hb; (try clear hb); (try clear hb2); (try clear hk); (try clear hi); (try clear ho0)))
 go_loopg [5] k (fun kq v5 w' => ∃ (x5_1 : Int) (x377000_1 : Int) (x377001_1 : Int), v5 = .int .i64 x5_1 ∧ Aside0 (neumeref07_Of.l0 kq t377 x5_1 a0_0 a0_1 = some (r1, r2, r3)) ∧ Aside0 (kq ≤ k) ∧ Aside0 (Kd.R k23 23 w' w.heap.size (fun k_ => k_ ≠ gb376) v378 t377) ∧ Aside0 (w'.heap[gb375]? = some (.cells #[.int .i64 a0_0, .int .i64 a0_1] 25 (0, 0))) ∧ Aside0 (w'.heap[gb376]? = some (.cells #[.int .i64 x377000_1, .int .i64 x377001_1] 23 (0, 0))) ∧ Aside0 (Below w.heap.size w w'))
 case atStart => exact ⟨(0), (0), (0), (by first | rfl | (simp; done) | (simp [*]; done) | (simp [bne]; done)), H', ⟨Nat.le_refl _⟩, ⟨by (with_reducible repeat (first | apply Kd.R_alloc | apply Kd.R_drewN | apply Kd.R_drew)); exact Kd.R_mono HO379.out (fun _ hk => hk.2)⟩, ⟨by (with_reducible repeat first | apply kn_ | apply kd_ | apply ka_); exact BK375.out⟩, ⟨by (with_reducible repeat first | apply kn_ | apply kd_ | apply ka_); exact BK376.out⟩, ⟨by repeat (first | (with_reducible first | exact HB.out | apply ba_ | apply pd_ | apply d1_ | refine bs_ ?_ GE375.out | refine bs_ ?_ GE376.out) | exact HB.out)⟩⟩
 case round =>
  clear H'
  try clear c1; try clear p2; try clear c4
  obtain ⟨x5_1, x377000_1, x377001_1, rfl, HA, HK1, HO_4, BK375, BK376, HB⟩ := hrel
  cases gk with
  | zero => exact absurd HA.out (by simp [neumeref07_Of.l0])
  | succ k1 =>
   have H := HA.out
   clear HA
   simp only [neumeref07_Of.l0] at H
   by_cases c6 : x5_1 < (t377.length : Int)
   ·rw [if_pos c6] at H
    have c6b0 : decide (x5_1 < (t377.length : Int)) = true := dt_ c6
    clear c6
    by_cases c7 : 0 ≤ x5_1
    ·rw [if_pos c7] at H
     have c7b0 : decide (0 ≤ x5_1) = true := dt_ c7
     clear c7
     replace H := ob_ H
     obtain ⟨⟨t381, t382, t383⟩, A80, H⟩ := H
     replace H : (if (t381 == a0_0 && (t382 == a0_1)) = true then (some ((rd_T23 t377 x5_1).f0, (rd_T23 t377 x5_1).f1, true)) else (neumeref07_Of.l0 k1 t377 (wrap64 (x5_1 + 1)) a0_0 a0_1)) = some (r1, r2, r3) := H
     have A8 := sd_ A80
     clear A80
     by_cases c9 : (t381 == a0_0 && (t382 == a0_1)) = true
     ·rw [if_pos c9] at H
      have c9b0 : (t381 == a0_0 && (t382 == a0_1)) = true := c9
      (try (have c9b1 : decide (t381 = a0_0 && (t382 == a0_1)) = true := by simpa using c9))
      (try (have c9b2 : (t381 == a0_0 && (t382 == a0_1)) = true := by simpa using c9))
      clear c9
      simp only [Option.some.injEq, Prod.mk.injEq] at H
      obtain ⟨rfl, rfl, rfl⟩ := H
      obtain ⟨Ao10, co10, eo10⟩ := Kd.R_slice HO_4.out
      subst eo10
      have p380 : 0 ≤ (x5_1 : Int) := od_ (by first | (with_reducible assumption) | assumption)
      have q380 : x5_1 < (t377.length : Int) := od_ (by first | (with_reducible assumption) | assumption)
      obtain ⟨ad380, e380, hx380_0, hx380_1⟩ := at_T23 (Kd.R_reads' HO_4.out).2.2 x5_1 p380 q380
      cases e380
      replace p380 := eq_true p380
      replace q380 := eq_true q380
      go_wp2_with (first | ((with_reducible refine gate_callee (f := 7) rfl ?_); refine goesL_ (some 20) rfl rfl Tryz.func7 (by kernel_rfl) rfl #[.agg #[.int .i64 ((rd_T23 t377 x5_1).f0), .int .i64 ((rd_T23 t377 x5_1).f1)]] rfl (by (try simp only [lm_, lq_, lx_]); first | done | rfl | (simp only [ld_, lt_]; rfl)) ?_; (with_reducible refine (neumeref07_Value.calls k1 ((rd_T23 t377 x5_1).f0) ((rd_T23 t377 x5_1).f1) t381 t382 t383 _ A8.out).mono ?_); rintro e w11 ⟨rfl, hb⟩; refine ⟨_, rfl, ?_⟩; replace HO_4 := sd_ (Kd.R_below (by (with_reducible repeat (first | apply Kd.R_alloc | apply Kd.R_drewN | apply Kd.R_drew)); exact HO_4.out) hb); replace BK375 := kb_ BK375 hb; replace BK376 := kb_ BK376 hb; replace HB := hb_ HB (e_ GE375 (e_ GE376 e0_)) hb; (try clear hb); (try clear hb2); (try clear hk); (try clear hi)) | ((with_reducible refine gate_dst (N := 6) rfl ?_); refine box_event ?hg (N := 6) ?hd (cs := #[.int .i64 0, .int .i64 0]) (t := 25) ?hr ?_; (case hd => rfl); (case hg => rfl); (case hr => first | (go_simp; done) | (go_simp; rfl)); intro gb384 hg w12 hbox hb; have BK384 := sd_ hbox; have GW384 := gw_ HB (e_ GE375 (e_ GE376 e0_)) hg; have GE384 := GW384; have NB375_384 := nb_ BK375 hg; have NB384_375 := sy_ NB375_384; have NB376_384 := nb_ BK376 hg; have NB384_376 := sy_ NB376_384; replace HO_4 := sd_ (Kd.R_below (by (with_reducible repeat (first | apply Kd.R_alloc | apply Kd.R_drewN | apply Kd.R_drew)); exact HO_4.out) hb); replace BK375 := kb_ BK375 hb; replace BK376 := kb_ BK376 hb; replace HB := hb_ HB (e_ GE375 (e_ GE376 e0_)) hb; clear hb hbox hg; have hnb13 := NB384_375.out; have hnc13 := NB375_384.out; have hnb14 := NB384_376.out; have hnc14 := NB376_384.out; have hcz15_0 : w12.cell? ⟨gb384, 0, none⟩ = some (.int .i64 0) := (kc_ BK384.out 0).trans rfl; have hcz15_1 : w12.cell? ⟨gb384, 1, none⟩ = some (.int .i64 0) := (kc_ BK384.out 1).trans rfl; have hfz15_0 := kf_ BK384.out 0; have hfz15_1 := kf_ BK384.out 1; have hnb16 := NB375_376.out; have hnc16 := NB376_375.out; have hcz17_0 : w12.cell? ⟨gb375, 0, none⟩ = some (.int .i64 a0_0) := (kc_ BK375.out 0).trans rfl; have hcz17_1 : w12.cell? ⟨gb375, 1, none⟩ = some (.int .i64 a0_1) := (kc_ BK375.out 1).trans rfl; have hfz17_0 := kf_ BK375.out 0; have hfz17_1 := kf_ BK375.out 1; have p385 : 0 ≤ (x5_1 : Int) := od_ (by first | (with_reducible assumption) | assumption); have q385 : x5_1 < (t377.length : Int) := od_ (by first | (with_reducible assumption) | assumption); obtain ⟨ad385, e385, hx385_0, hx385_1⟩ := at_T23 (Kd.R_reads' HO_4.out).2.2 x5_1 p385 q385; obtain rfl : ad380 = ad385 := (by injection e385); have hn385_0 : ad380.block ≠ gb384 := Kd.own_blk (Kd.R_ne HO_4.out BK384.out (by decide)); have hn385_1 : ad380.block ≠ gb384 := Kd.own_blk (Kd.R_ne HO_4.out BK384.out (by decide)); replace hx385_0 := (cell_far (p := ⟨gb384, 0, none⟩) (by first | (rw [ak_]; exact hn385_0) | (show (Addr.add _ _).block ≠ _; rw [ak_]; exact hn385_0) | exact hn385_0) (.int .i64 t381)).trans hx385_0; replace hx385_1 := (cell_far (p := ⟨gb384, 0, none⟩) (by first | (rw [ak_]; exact hn385_0) | (show (Addr.add _ _).block ≠ _; rw [ak_]; exact hn385_0) | exact hn385_0) (.int .i64 t381)).trans hx385_1; replace hx385_0 := (cell_far (p := ⟨gb384, 1, none⟩) (by first | (rw [ak_]; exact hn385_1) | (show (Addr.add _ _).block ≠ _; rw [ak_]; exact hn385_1) | exact hn385_1) (.int .i64 t382)).trans hx385_0; replace hx385_1 := (cell_far (p := ⟨gb384, 1, none⟩) (by first | (rw [ak_]; exact hn385_1) | (show (Addr.add _ _).block ≠ _; rw [ak_]; exact hn385_1) | exact hn385_1) (.int .i64 t382)).trans hx385_1; clear hn385_0; clear hn385_1; replace p385 := eq_true p385; replace q385 := eq_true q385; have hcz18_0 : w12.cell? ⟨gb376, 0, none⟩ = some (.int .i64 x377000_1) := (kc_ BK376.out 0).trans rfl; have hcz18_1 : w12.cell? ⟨gb376, 1, none⟩ = some (.int .i64 x377001_1) := (kc_ BK376.out 1).trans rfl; have hfz18_0 := kf_ BK376.out 0; have hfz18_1 := kf_ BK376.out 1))
      refine bodyPost_ret (results_ct rfl _ _ gb376 23 #[.int .i64 ((rd_T23 t377 x5_1).f0), .int .i64 ((rd_T23 t377 x5_1).f1)] (0, 0) _ rfl (by (with_reducible repeat first | apply kn_ | apply kd_ | apply ka_); refine blk_put (cs := #[.int .i64 ((rd_T23 t377 x5_1).f0), .int .i64 x377001_1]) ?_ 1 _ rfl; (with_reducible repeat first | apply kn_ | apply kd_ | apply ka_); refine blk_put (cs := #[.int .i64 x377000_1, .int .i64 x377001_1]) ?_ 0 _ rfl; (with_reducible repeat first | apply kn_ | apply kd_ | apply ka_); refine blk_far ?_ NB376_384.out _; (with_reducible repeat first | apply kn_ | apply kd_ | apply ka_); refine blk_far ?_ NB376_384.out _; (with_reducible repeat first | apply kn_ | apply kd_ | apply ka_); exact BK376.out) Tryz.underlying23 rfl (by kernel_rfl)) rfl ?_
      exact ⟨by first | rfl | (simp [errW_none, errW_some] <;> rfl) | (simp [*, errW_none, errW_some] <;> rfl), by repeat (first | (with_reducible first | exact HB.out | apply ba_ | apply pd_ | apply d1_ | refine bs_ ?_ GE375.out | refine bs_ ?_ GE376.out | refine bs_ ?_ GE384.out) | exact HB.out)⟩
     ·rw [if_neg c9] at H
      have c9b0 : (t381 == a0_0 && (t382 == a0_1)) = false := by simpa using c9
      (try (have c9b1 : decide (t381 = a0_0 && (t382 == a0_1)) = false := by simpa using c9))
      (try (have c9b2 : (t381 == a0_0 && (t382 == a0_1)) = false := by simpa using c9))
      (try (have c9b3 : ¬ (t381 = a0_0 && (t382 == a0_1)) := by simpa using c9))
      clear c9
      have H' := sd_ H
      clear H
      obtain ⟨Ao19, co19, eo19⟩ := Kd.R_slice HO_4.out
      subst eo19
      have p380 : 0 ≤ (x5_1 : Int) := od_ (by first | (with_reducible assumption) | assumption)
      have q380 : x5_1 < (t377.length : Int) := od_ (by first | (with_reducible assumption) | assumption)
      obtain ⟨ad380, e380, hx380_0, hx380_1⟩ := at_T23 (Kd.R_reads' HO_4.out).2.2 x5_1 p380 q380
      cases e380
      replace p380 := eq_true p380
      replace q380 := eq_true q380
      go_wp2_with (first | ((with_reducible refine gate_callee (f := 7) rfl ?_); refine goesL_ (some 20) rfl rfl Tryz.func7 (by kernel_rfl) rfl #[.agg #[.int .i64 ((rd_T23 t377 x5_1).f0), .int .i64 ((rd_T23 t377 x5_1).f1)]] rfl (by (try simp only [lm_, lq_, lx_]); first | done | rfl | (simp only [ld_, lt_]; rfl)) ?_; (with_reducible refine (neumeref07_Value.calls k1 ((rd_T23 t377 x5_1).f0) ((rd_T23 t377 x5_1).f1) t381 t382 t383 _ A8.out).mono ?_); rintro e w20 ⟨rfl, hb⟩; refine ⟨_, rfl, ?_⟩; replace HO_4 := sd_ (Kd.R_below (by (with_reducible repeat (first | apply Kd.R_alloc | apply Kd.R_drewN | apply Kd.R_drew)); exact HO_4.out) hb); replace BK375 := kb_ BK375 hb; replace BK376 := kb_ BK376 hb; replace HB := hb_ HB (e_ GE375 (e_ GE376 e0_)) hb; (try clear hb); (try clear hb2); (try clear hk); (try clear hi)) | ((with_reducible refine gate_dst (N := 6) rfl ?_); refine box_event ?hg (N := 6) ?hd (cs := #[.int .i64 0, .int .i64 0]) (t := 25) ?hr ?_; (case hd => rfl); (case hg => rfl); (case hr => first | (go_simp; done) | (go_simp; rfl)); intro gb384 hg w21 hbox hb; have BK384 := sd_ hbox; have GW384 := gw_ HB (e_ GE375 (e_ GE376 e0_)) hg; have GE384 := GW384; have NB375_384 := nb_ BK375 hg; have NB384_375 := sy_ NB375_384; have NB376_384 := nb_ BK376 hg; have NB384_376 := sy_ NB376_384; replace HO_4 := sd_ (Kd.R_below (by (with_reducible repeat (first | apply Kd.R_alloc | apply Kd.R_drewN | apply Kd.R_drew)); exact HO_4.out) hb); replace BK375 := kb_ BK375 hb; replace BK376 := kb_ BK376 hb; replace HB := hb_ HB (e_ GE375 (e_ GE376 e0_)) hb; clear hb hbox hg; have hnb22 := NB384_375.out; have hnc22 := NB375_384.out; have hnb23 := NB384_376.out; have hnc23 := NB376_384.out; have hcz24_0 : w21.cell? ⟨gb384, 0, none⟩ = some (.int .i64 0) := (kc_ BK384.out 0).trans rfl; have hcz24_1 : w21.cell? ⟨gb384, 1, none⟩ = some (.int .i64 0) := (kc_ BK384.out 1).trans rfl; have hfz24_0 := kf_ BK384.out 0; have hfz24_1 := kf_ BK384.out 1; have hnb25 := NB375_376.out; have hnc25 := NB376_375.out; have hcz26_0 : w21.cell? ⟨gb375, 0, none⟩ = some (.int .i64 a0_0) := (kc_ BK375.out 0).trans rfl; have hcz26_1 : w21.cell? ⟨gb375, 1, none⟩ = some (.int .i64 a0_1) := (kc_ BK375.out 1).trans rfl; have hfz26_0 := kf_ BK375.out 0; have hfz26_1 := kf_ BK375.out 1))
      go_roundg k1
      case measure => have := HK1.out; omega
      case rel => exact ⟨(wrap64 (x5_1 + 1)), (x377000_1), (x377001_1), (by first | rfl | (simp; done) | (simp [*]; done) | (simp [bne]; done)), H', ⟨by have := HK1.out; omega⟩, ⟨by (with_reducible repeat (first | apply Kd.R_alloc | apply Kd.R_drewN | apply Kd.R_drew)); exact Kd.R_mono (Kd.R_far (p := ⟨gb384, 1, none⟩) (Kd.R_far (p := ⟨gb384, 0, none⟩) (Kd.R_types HO_4.out BK384.out (by decide)) (fun _ hk => hk.2) (.int .i64 t381)) (fun _ hk => hk.2) (.int .i64 t382)) (fun _ hk => hk.1)⟩, ⟨by (with_reducible repeat first | apply kn_ | apply kd_ | apply ka_); refine blk_far ?_ NB375_384.out _; (with_reducible repeat first | apply kn_ | apply kd_ | apply ka_); refine blk_far ?_ NB375_384.out _; (with_reducible repeat first | apply kn_ | apply kd_ | apply ka_); exact BK375.out⟩, ⟨by (with_reducible repeat first | apply kn_ | apply kd_ | apply ka_); refine blk_far ?_ NB376_384.out _; (with_reducible repeat first | apply kn_ | apply kd_ | apply ka_); refine blk_far ?_ NB376_384.out _; (with_reducible repeat first | apply kn_ | apply kd_ | apply ka_); exact BK376.out⟩, ⟨by repeat (first | (with_reducible first | exact HB.out | apply ba_ | apply pd_ | apply d1_ | refine bs_ ?_ GE375.out | refine bs_ ?_ GE376.out | refine bs_ ?_ GE384.out) | exact HB.out)⟩⟩
    ·rw [if_neg c7] at H
     exact absurd H (by simp)
   ·rw [if_neg c6] at H
    have c6b0 : decide (x5_1 < (t377.length : Int)) = false := df_ c6
    clear c6
    simp only [Option.some.injEq, Prod.mk.injEq] at H
    obtain ⟨rfl, rfl, rfl⟩ := H
    obtain ⟨Ao27, co27, eo27⟩ := Kd.R_slice HO_4.out
    subst eo27
    have hnb28 := NB376_375.out
    have hnc28 := NB375_376.out
    have hcz29_0 : wr.cell? ⟨gb376, 0, none⟩ = some (.int .i64 x377000_1) := (kc_ BK376.out 0).trans rfl
    have hcz29_1 : wr.cell? ⟨gb376, 1, none⟩ = some (.int .i64 x377001_1) := (kc_ BK376.out 1).trans rfl
    have hfz29_0 := kf_ BK376.out 0
    have hfz29_1 := kf_ BK376.out 1
    go_wp2
    refine bodyPost_ret (results_ct rfl _ _ gb376 23 #[.int .i64 0, .int .i64 0] (0, 0) _ rfl (by (with_reducible repeat first | apply kn_ | apply kd_ | apply ka_); refine blk_put (cs := #[.int .i64 0, .int .i64 x377001_1]) ?_ 1 _ rfl; (with_reducible repeat first | apply kn_ | apply kd_ | apply ka_); refine blk_put (cs := #[.int .i64 x377000_1, .int .i64 x377001_1]) ?_ 0 _ rfl; (with_reducible repeat first | apply kn_ | apply kd_ | apply ka_); exact BK376.out) Tryz.underlying23 rfl (by kernel_rfl)) rfl ?_
    exact ⟨by first | rfl | (simp [errW_none, errW_some] <;> rfl) | (simp [*, errW_none, errW_some] <;> rfl), by repeat (first | (with_reducible first | exact HB.out | apply ba_ | apply pd_ | apply d1_ | refine bs_ ?_ GE375.out | refine bs_ ?_ GE376.out) | exact HB.out)⟩

end Go.Proofs.YtdiccfonlojlfaaGreatDoor.P
