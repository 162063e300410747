-- Written by a program of this session (wip/tools/xprint.py, over the kit's print): Lean checks it.
import Derived.Test.YtcokemaiploejaaDoorPx0
namespace Go.Proofs.YtcokemaiploejaaDoor.P
open Go.RowKit Go.Proofs.YtcokemaiploejaaDoorW.PrintWords Go.Proofs.YtcokemaiploejaaDoorW.PrintLast Go.Proofs.YtcokemaiploejaaDoorW.PrintMore
attribute [local go_sem] max2_int min2_int max_two min_two max_three min_three max_four min_four   -- for this text's walks alone
set_option linter.unusedVariables false
set_option linter.unusedSimpArgs false

/-! ### glyph_first: function 57 -/
def glyph_first.f (row : Int) : Option Int := if row = 0 then some 1 else if row = 1 then some 5 else if row = 2 then some 13 else if row = 3 then some 17 else if row = 4 then some 21 else if row = 5 then some 26 else if row = 6 then some 30 else if row = 7 then some 40 else none
set_option maxHeartbeats 2000000 in
set_option maxRecDepth 100000 in
theorem glyph_first.calls (a0 : Int) (r : Int) (w : World) (h : glyph_first.f a0 = some r) :
  Calls Tryd.prog 57 #[.int .i64 a0] w fun e w' => e = .returned (.int .i64 r) ∧ Drawn0 w w' := by
 unfold glyph_first.f at h
 by_cases c0 : a0 = 0
 ·subst c0
  obtain rfl : 1 = r := Option.some.inj h
  clear h
  have hix : (Instr.index 91 (.agg #[.int .i64 1, .int .i64 5, .int .i64 13, .int .i64 17, .int .i64 21, .int .i64 26, .int .i64 30, .int .i64 40]) (.int .i64 0)).run Tryd.prog w = .ok (.int .i64 1) w := by kernel_rfl
  go_enter Tryd.func57, Tryd.ntmps57
  go_wp2
  go_ret
  exact ⟨rfl, Drawn0.refl _⟩
 rw [if_neg c0] at h
 by_cases c1 : a0 = 1
 ·subst c1
  obtain rfl : 5 = r := Option.some.inj h
  clear h
  have hix : (Instr.index 91 (.agg #[.int .i64 1, .int .i64 5, .int .i64 13, .int .i64 17, .int .i64 21, .int .i64 26, .int .i64 30, .int .i64 40]) (.int .i64 1)).run Tryd.prog w = .ok (.int .i64 5) w := by kernel_rfl
  go_enter Tryd.func57, Tryd.ntmps57
  go_wp2
  go_ret
  exact ⟨rfl, Drawn0.refl _⟩
 rw [if_neg c1] at h
 by_cases c2 : a0 = 2
 ·subst c2
  obtain rfl : 13 = r := Option.some.inj h
  clear h
  have hix : (Instr.index 91 (.agg #[.int .i64 1, .int .i64 5, .int .i64 13, .int .i64 17, .int .i64 21, .int .i64 26, .int .i64 30, .int .i64 40]) (.int .i64 2)).run Tryd.prog w = .ok (.int .i64 13) w := by kernel_rfl
  go_enter Tryd.func57, Tryd.ntmps57
  go_wp2
  go_ret
  exact ⟨rfl, Drawn0.refl _⟩
 rw [if_neg c2] at h
 by_cases c3 : a0 = 3
 ·subst c3
  obtain rfl : 17 = r := Option.some.inj h
  clear h
  have hix : (Instr.index 91 (.agg #[.int .i64 1, .int .i64 5, .int .i64 13, .int .i64 17, .int .i64 21, .int .i64 26, .int .i64 30, .int .i64 40]) (.int .i64 3)).run Tryd.prog w = .ok (.int .i64 17) w := by kernel_rfl
  go_enter Tryd.func57, Tryd.ntmps57
  go_wp2
  go_ret
  exact ⟨rfl, Drawn0.refl _⟩
 rw [if_neg c3] at h
 by_cases c4 : a0 = 4
 ·subst c4
  obtain rfl : 21 = r := Option.some.inj h
  clear h
  have hix : (Instr.index 91 (.agg #[.int .i64 1, .int .i64 5, .int .i64 13, .int .i64 17, .int .i64 21, .int .i64 26, .int .i64 30, .int .i64 40]) (.int .i64 4)).run Tryd.prog w = .ok (.int .i64 21) w := by kernel_rfl
  go_enter Tryd.func57, Tryd.ntmps57
  go_wp2
  go_ret
  exact ⟨rfl, Drawn0.refl _⟩
 rw [if_neg c4] at h
 by_cases c5 : a0 = 5
 ·subst c5
  obtain rfl : 26 = r := Option.some.inj h
  clear h
  have hix : (Instr.index 91 (.agg #[.int .i64 1, .int .i64 5, .int .i64 13, .int .i64 17, .int .i64 21, .int .i64 26, .int .i64 30, .int .i64 40]) (.int .i64 5)).run Tryd.prog w = .ok (.int .i64 26) w := by kernel_rfl
  go_enter Tryd.func57, Tryd.ntmps57
  go_wp2
  go_ret
  exact ⟨rfl, Drawn0.refl _⟩
 rw [if_neg c5] at h
 by_cases c6 : a0 = 6
 ·subst c6
  obtain rfl : 30 = r := Option.some.inj h
  clear h
  have hix : (Instr.index 91 (.agg #[.int .i64 1, .int .i64 5, .int .i64 13, .int .i64 17, .int .i64 21, .int .i64 26, .int .i64 30, .int .i64 40]) (.int .i64 6)).run Tryd.prog w = .ok (.int .i64 30) w := by kernel_rfl
  go_enter Tryd.func57, Tryd.ntmps57
  go_wp2
  go_ret
  exact ⟨rfl, Drawn0.refl _⟩
 rw [if_neg c6] at h
 by_cases c7 : a0 = 7
 ·subst c7
  obtain rfl : 40 = r := Option.some.inj h
  clear h
  have hix : (Instr.index 91 (.agg #[.int .i64 1, .int .i64 5, .int .i64 13, .int .i64 17, .int .i64 21, .int .i64 26, .int .i64 30, .int .i64 40]) (.int .i64 7)).run Tryd.prog w = .ok (.int .i64 40) w := by kernel_rfl
  go_enter Tryd.func57, Tryd.ntmps57
  go_wp2
  go_ret
  exact ⟨rfl, Drawn0.refl _⟩
 rw [if_neg c7] at h
 cases h

/-! ### glyph_rowOf: function 45 -/
def glyph_rowOf.l0 : Nat → Int → Int → Int → Option (Int × Int)
 | 0, _, _, _ => none
 | k + 1, x0, x4, x5 => if x5 ≤ 7 then ((glyph_first.f x5).bind fun t109 => (if x0 ≥ t109 then (glyph_rowOf.l0 k x0 x5 (wrap64 (x5 + 1))) else (glyph_rowOf.l0 k x0 x4 (wrap64 (x5 + 1))))) else ((glyph_first.f x4).bind fun t110 => (some (x4, wrap64 (x0 - t110))))
def glyph_rowOf.f (k : Nat) (a0 : Int) : Option (Int × Int) := glyph_rowOf.l0 k a0 0 0
theorem glyph_rowOf.mono_l : ∀ k, (∀ y0 y1 y2, LeO (glyph_rowOf.l0 k y0 y1 y2) (glyph_rowOf.l0 (k + 1) y0 y1 y2))
 | 0 => fun _ _ _ r h => by simp [glyph_rowOf.l0] at h
 | k + 1 => by
  have ih0 := glyph_rowOf.mono_l k
  ·intro y0 y1 y2
   unfold glyph_rowOf.l0
   repeat' first
   | (with_reducible exact ih0 _ _ _)
   | (with_reducible exact LeO.refl _)
   | (with_reducible exact LeO.none _)
   | (with_reducible refine LeO.ite ?_ ?_)
   | (with_reducible refine LeO.bind ?_ (fun _ => ?_))
   | exact ih0 _ _ _
   | exact LeO.none _
   | refine LeO.ite ?_ ?_
   | refine LeO.bind ?_ (fun _ => ?_)
theorem glyph_rowOf.mono : ∀ a0 k, LeO (glyph_rowOf.f k a0) (glyph_rowOf.f (k + 1) a0) := by
 intro a0 k
 have ih0 := glyph_rowOf.mono_l k
 unfold glyph_rowOf.f
 repeat' first
   | (with_reducible exact ih0 _ _ _)
   | (with_reducible exact LeO.refl _)
   | (with_reducible exact LeO.none _)
   | (with_reducible refine LeO.ite ?_ ?_)
   | (with_reducible refine LeO.bind ?_ (fun _ => ?_))
   | exact ih0 _ _ _
   | exact LeO.none _
   | refine LeO.ite ?_ ?_
   | refine LeO.bind ?_ (fun _ => ?_)
set_option maxHeartbeats 8000000 in
set_option maxRecDepth 100000 in
theorem glyph_rowOf.calls (k : Nat) (a0 : Int) (r1 : Int) (r2 : Int) (w : World) (h : glyph_rowOf.f k a0 = some (r1, r2)) :
  Calls Tryd.prog 45 #[.int .i64 a0] w fun e w' => e = .returned (.tuple #[.int .i64 r1, .int .i64 r2]) ∧ Drawn0 w w' := by
 have H : (glyph_rowOf.l0 k a0 0 0) = some (r1, r2) := h
 clear h
 have H' := sd_ H
 clear H
 go_enter Tryd.func45, Tryd.ntmps45
 go_wp2
 go_loopg [4, 5] k (fun kq v4 v5 w' => ∃ (x4_1 : Int) (x5_1 : Int), v4 = .int .i64 x4_1 ∧ v5 = .int .i64 x5_1 ∧ Aside0 (glyph_rowOf.l0 kq a0 x4_1 x5_1 = some (r1, r2)) ∧ Aside0 (kq ≤ k) ∧ Drawn0 w w')
 case atStart => exact ⟨(0), (0), (by first | rfl | (simp; done) | (simp [*]; done) | (simp [bne]; done)), (by first | rfl | (simp; done) | (simp [*]; done) | (simp [bne]; done)), H', ⟨Nat.le_refl _⟩, by repeat (first | exact Drawn0.refl _ | apply Drawn0.step)⟩
 case round =>
  clear H'
  obtain ⟨x4_1, x5_1, rfl, rfl, HA, HK1, ⟨m1, rfl⟩⟩ := hrel
  cases gk with
  | zero => exact absurd HA.out (by simp [glyph_rowOf.l0])
  | succ k1 =>
   have H := HA.out
   clear HA
   simp only [glyph_rowOf.l0] at H
   by_cases c2 : x5_1 ≤ 7
   ·rw [if_pos c2] at H
    have c2b0 : decide (x5_1 ≤ 7) = true := dt_ c2
    clear c2
    replace H := ob_ H
    obtain ⟨t109, A30, H⟩ := H
    replace H : (if a0 ≥ t109 then (glyph_rowOf.l0 k1 a0 x5_1 (wrap64 (x5_1 + 1))) else (glyph_rowOf.l0 k1 a0 x4_1 (wrap64 (x5_1 + 1)))) = some (r1, r2) := H
    have A3 := sd_ A30
    clear A30
    by_cases c4 : a0 ≥ t109
    ·rw [if_pos c4] at H
     have c4b0 : decide (t109 ≤ a0) = true := dt_ c4
     clear c4
     have H' := sd_ H
     clear H
     go_wp2_with (first | ((with_reducible refine gate_callee (f := 57) rfl ?_); refine goesL_ (some 12) rfl rfl Tryd.func57 (by kernel_rfl) rfl #[.int .i64 x5_1] rfl (by (try simp only [lm_, lq_, lx_]); first | done | rfl | (simp only [ld_, lt_]; rfl)) ?_; (with_reducible refine (glyph_first.calls x5_1 t109 _ A3.out).mono ?_); rintro e w' ⟨rfl, ⟨nd, rfl⟩⟩; refine ⟨_, rfl, ?_⟩))
     go_roundg k1
     case measure => have := HK1.out; omega
     case rel => exact ⟨(x5_1), (wrap64 (x5_1 + 1)), (by first | rfl | (simp; done) | (simp [*]; done) | (simp [bne]; done)), (by first | rfl | (simp; done) | (simp [*]; done) | (simp [bne]; done)), H', ⟨by have := HK1.out; omega⟩, by repeat (first | exact Drawn0.refl _ | apply Drawn0.step)⟩
    ·rw [if_neg c4] at H
     have c4b0 : decide (t109 ≤ a0) = false := df_ c4
     clear c4
     have H' := sd_ H
     clear H
     go_wp2_with (first | ((with_reducible refine gate_callee (f := 57) rfl ?_); refine goesL_ (some 12) rfl rfl Tryd.func57 (by kernel_rfl) rfl #[.int .i64 x5_1] rfl (by (try simp only [lm_, lq_, lx_]); first | done | rfl | (simp only [ld_, lt_]; rfl)) ?_; (with_reducible refine (glyph_first.calls x5_1 t109 _ A3.out).mono ?_); rintro e w' ⟨rfl, ⟨nd, rfl⟩⟩; refine ⟨_, rfl, ?_⟩))
     go_roundg k1
     case measure => have := HK1.out; omega
     case rel => exact ⟨(x4_1), (wrap64 (x5_1 + 1)), (by first | rfl | (simp; done) | (simp [*]; done) | (simp [bne]; done)), (by first | rfl | (simp; done) | (simp [*]; done) | (simp [bne]; done)), H', ⟨by have := HK1.out; omega⟩, by repeat (first | exact Drawn0.refl _ | apply Drawn0.step)⟩
   ·rw [if_neg c2] at H
    have c2b0 : decide (x5_1 ≤ 7) = false := df_ c2
    clear c2
    replace H := ob_ H
    obtain ⟨t110, A50, H⟩ := H
    replace H : (some (x4_1, wrap64 (a0 - t110))) = some (r1, r2) := H
    have A5 := sd_ A50
    clear A50
    simp only [Option.some.injEq, Prod.mk.injEq] at H
    obtain ⟨rfl, rfl⟩ := H
    go_wp2_with (first | ((with_reducible refine gate_callee (f := 57) rfl ?_); refine goesL_ (some 18) rfl rfl Tryd.func57 (by kernel_rfl) rfl #[.int .i64 x4_1] rfl (by (try simp only [lm_, lq_, lx_]); first | done | rfl | (simp only [ld_, lt_]; rfl)) ?_; (with_reducible refine (glyph_first.calls x4_1 t110 _ A5.out).mono ?_); rintro e w' ⟨rfl, ⟨nd, rfl⟩⟩; refine ⟨_, rfl, ?_⟩))
    go_ret2
    exact ⟨by first | rfl | (simp; done) | (simp [*]; done), by repeat (first | exact Drawn0.refl _ | apply Drawn0.step)⟩

/-! ### glyph_from: function 46 -/
def glyph_from.f (a0 : Int) (a1 : Int) (a2 : Int) : Option (Int × Int × Int × Int) := some (0, a0, a1, a2)
set_option maxHeartbeats 8000000 in
set_option maxRecDepth 100000 in
theorem glyph_from.calls (a0 : Int) (a1 : Int) (a2 : Int) (r1 : Int) (r2 : Int) (r3 : Int) (r4 : Int) (w : World) (h : glyph_from.f a0 a1 a2 = some (r1, r2, r3, r4)) :
  Calls Tryd.prog 46 #[.int .i64 a0, .int .i64 a1, .int .i64 a2] w fun e w' => e = .returned (.agg #[.int .i64 r1, .int .i64 r2, .int .i64 r3, .int .i64 r4]) ∧ Below w.heap.size w w' := by
 have hu46 := Tryd.underlying46
 have HB := sd_ (Below.refl w.heap.size w)
 have H : (some (0, a0, a1, a2)) = some (r1, r2, r3, r4) := h
 clear h
 simp only [Option.some.injEq, Prod.mk.injEq] at H
 obtain ⟨rfl, rfl, rfl, rfl⟩ := H
 go_enter Tryd.func46, Tryd.ntmps46
 go_wp2_with (first | ((with_reducible refine gate_dst (N := 6) rfl ?_); refine box_event ?hg (N := 6) ?hd (cs := #[.int .i64 0, .int .i64 0, .int .i64 0, .int .i64 0]) (t := 46) ?hr ?_; (case hd => rfl); (case hg => rfl); (case hr => first | (go_simp; done) | (go_simp; rfl)); intro gb111 hg w4 hbox hb; have BK111 := sd_ hbox; have GW111 := gw_ HB e0_ hg; have GE111 := GW111; replace HB := hb_ HB e0_ hb; clear hb hbox hg; have hcz5_0 : w4.cell? ⟨gb111, 0, none⟩ = some (.int .i64 0) := (kc_ BK111.out 0).trans rfl; have hcz5_1 : w4.cell? ⟨gb111, 1, none⟩ = some (.int .i64 0) := (kc_ BK111.out 1).trans rfl; have hcz5_2 : w4.cell? ⟨gb111, 2, none⟩ = some (.int .i64 0) := (kc_ BK111.out 2).trans rfl; have hcz5_3 : w4.cell? ⟨gb111, 3, none⟩ = some (.int .i64 0) := (kc_ BK111.out 3).trans rfl; have hfz5_0 := kf_ BK111.out 0; have hfz5_1 := kf_ BK111.out 1; have hfz5_2 := kf_ BK111.out 2; have hfz5_3 := kf_ BK111.out 3))
 refine bodyPost_ret (results_cell_row rfl _ _ gb111 46 #[.int .i64 0, .int .i64 a0, .int .i64 a1, .int .i64 a2] (0, 0) _ rfl (by (with_reducible repeat first | apply kn_ | apply kd_ | apply ka_); refine blk_put (cs := #[.int .i64 0, .int .i64 a0, .int .i64 a1, .int .i64 0]) ?_ 3 _ rfl; (with_reducible repeat first | apply kn_ | apply kd_ | apply ka_); refine blk_put (cs := #[.int .i64 0, .int .i64 a0, .int .i64 0, .int .i64 0]) ?_ 2 _ rfl; (with_reducible repeat first | apply kn_ | apply kd_ | apply ka_); refine blk_put (cs := #[.int .i64 0, .int .i64 0, .int .i64 0, .int .i64 0]) ?_ 1 _ rfl; (with_reducible repeat first | apply kn_ | apply kd_ | apply ka_); refine blk_put (cs := #[.int .i64 0, .int .i64 0, .int .i64 0, .int .i64 0]) ?_ 0 _ rfl; (with_reducible repeat first | apply kn_ | apply kd_ | apply ka_); exact BK111.out) Tryd.underlying46 rfl (by kernel_rfl)) rfl ?_
 exact ⟨by first | rfl | (simp [errW_none, errW_some] <;> rfl) | (simp [*, errW_none, errW_some] <;> rfl), by repeat (first | (with_reducible first | exact HB.out | apply ba_ | apply pd_ | apply d1_ | refine bs_ ?_ GE111.out) | exact HB.out)⟩

/-! ### glyph_rest: function 47 -/
def glyph_rest.f (a0 : Int) : Option (Int × Int × Int × Int) := if a0 = 0 then ((glyph_from.f 0 620 1024).bind fun bt113 => (some (bt113.1, bt113.2.1, bt113.2.2.1, bt113.2.2.2))) else (if a0 = 1 then ((glyph_from.f (-540) 1540 0).bind fun bt117 => (some (bt117.1, bt117.2.1, bt117.2.2.1, bt117.2.2.2))) else (if a0 = 2 then ((glyph_from.f 0 1540 540).bind fun bt121 => (some (bt121.1, bt121.2.1, bt121.2.2.1, bt121.2.2.2))) else (if a0 = 3 then ((glyph_from.f (-1400) 1120 1500).bind fun bt125 => (some (bt125.1, bt125.2.1, bt125.2.2.1, bt125.2.2.2))) else ((glyph_from.f (wrap64 ((-1000) - (wrap64 (1024 * (wrap64 (a0 - 4)))))) (wrap64 (1000 + (wrap64 (130 * (wrap64 (a0 - 4)))))) 900).bind fun bt129 => (some (bt129.1, bt129.2.1, bt129.2.2.1, bt129.2.2.2))))))
set_option maxHeartbeats 8000000 in
set_option maxRecDepth 100000 in
theorem glyph_rest.calls (a0 : Int) (r1 : Int) (r2 : Int) (r3 : Int) (r4 : Int) (w : World) (h : glyph_rest.f a0 = some (r1, r2, r3, r4)) :
  Calls Tryd.prog 47 #[.int .i64 a0] w fun e w' => e = .returned (.agg #[.int .i64 r1, .int .i64 r2, .int .i64 r3, .int .i64 r4]) ∧ Below w.heap.size w w' := by
 have hu46 := Tryd.underlying46
 have HB := sd_ (Below.refl w.heap.size w)
 have H : (if a0 = 0 then ((glyph_from.f 0 620 1024).bind fun bt113 => (some (bt113.1, bt113.2.1, bt113.2.2.1, bt113.2.2.2))) else (if a0 = 1 then ((glyph_from.f (-540) 1540 0).bind fun bt117 => (some (bt117.1, bt117.2.1, bt117.2.2.1, bt117.2.2.2))) else (if a0 = 2 then ((glyph_from.f 0 1540 540).bind fun bt121 => (some (bt121.1, bt121.2.1, bt121.2.2.1, bt121.2.2.2))) else (if a0 = 3 then ((glyph_from.f (-1400) 1120 1500).bind fun bt125 => (some (bt125.1, bt125.2.1, bt125.2.2.1, bt125.2.2.2))) else ((glyph_from.f (wrap64 ((-1000) - (wrap64 (1024 * (wrap64 (a0 - 4)))))) (wrap64 (1000 + (wrap64 (130 * (wrap64 (a0 - 4)))))) 900).bind fun bt129 => (some (bt129.1, bt129.2.1, bt129.2.2.1, bt129.2.2.2))))))) = some (r1, r2, r3, r4) := h
 clear h
 by_cases c2 : a0 = 0
 ·rw [if_pos c2] at H
  have c2b0 : (a0 == 0) = true := beq_iff_eq.mpr c2
  have c2b1 : (a0 != 0) = false := bne_eq_false_iff_eq.mpr c2
  clear c2
  replace H := ob_ H
  obtain ⟨⟨t113, t114, t115, t116⟩, A30, H⟩ := H
  replace H : (some (t113, t114, t115, t116)) = some (r1, r2, r3, r4) := H
  have A3 := sd_ A30
  clear A30
  simp only [Option.some.injEq, Prod.mk.injEq] at H
  obtain ⟨rfl, rfl, rfl, rfl⟩ := H
  go_enter Tryd.func47, Tryd.ntmps47
  go_wp2_with (first | ((with_reducible refine gate_dst (N := 2) rfl ?_); refine box_event ?hg (N := 2) ?hd (cs := #[.int .i64 0, .int .i64 0, .int .i64 0, .int .i64 0]) (t := 46) ?hr ?_; (case hd => rfl); (case hg => rfl); (case hr => first | (go_simp; done) | (go_simp; rfl)); intro gb112 hg w4 hbox hb; have BK112 := sd_ hbox; have GW112 := gw_ HB e0_ hg; have GE112 := GW112; replace HB := hb_ HB e0_ hb; clear hb hbox hg) | ((with_reducible refine gate_callee (f := 46) rfl ?_); refine goesL_ (some 7) rfl rfl Tryd.func46 (by kernel_rfl) rfl #[.int .i64 0, .int .i64 620, .int .i64 1024] rfl (by (try simp only [lm_, lq_, lx_]); first | done | rfl | (simp only [ld_, lt_]; rfl)) ?_; (with_reducible refine (glyph_from.calls 0 620 1024 t113 t114 t115 t116 _ A3.out).mono ?_); rintro e w5 ⟨rfl, hb⟩; refine ⟨_, rfl, ?_⟩; replace BK112 := kb_ BK112 hb; replace HB := hb_ HB (e_ GE112 e0_) hb; (try clear hb); (try clear hb2); (try clear hk); (try clear hi); have hcz6_0 : w5.cell? ⟨gb112, 0, none⟩ = some (.int .i64 0) := (kc_ BK112.out 0).trans rfl; have hcz6_1 : w5.cell? ⟨gb112, 1, none⟩ = some (.int .i64 0) := (kc_ BK112.out 1).trans rfl; have hcz6_2 : w5.cell? ⟨gb112, 2, none⟩ = some (.int .i64 0) := (kc_ BK112.out 2).trans rfl; have hcz6_3 : w5.cell? ⟨gb112, 3, none⟩ = some (.int .i64 0) := (kc_ BK112.out 3).trans rfl; have hfz6_0 := kf_ BK112.out 0; have hfz6_1 := kf_ BK112.out 1; have hfz6_2 := kf_ BK112.out 2; have hfz6_3 := kf_ BK112.out 3))
  refine bodyPost_ret (results_cell_row rfl _ _ gb112 46 #[.int .i64 t113, .int .i64 t114, .int .i64 t115, .int .i64 t116] (0, 0) _ rfl (by (with_reducible repeat first | apply kn_ | apply kd_ | apply ka_); refine blk_put (cs := #[.int .i64 t113, .int .i64 t114, .int .i64 t115, .int .i64 0]) ?_ 3 _ rfl; (with_reducible repeat first | apply kn_ | apply kd_ | apply ka_); refine blk_put (cs := #[.int .i64 t113, .int .i64 t114, .int .i64 0, .int .i64 0]) ?_ 2 _ rfl; (with_reducible repeat first | apply kn_ | apply kd_ | apply ka_); refine blk_put (cs := #[.int .i64 t113, .int .i64 0, .int .i64 0, .int .i64 0]) ?_ 1 _ rfl; (with_reducible repeat first | apply kn_ | apply kd_ | apply ka_); refine blk_put (cs := #[.int .i64 0, .int .i64 0, .int .i64 0, .int .i64 0]) ?_ 0 _ rfl; (with_reducible repeat first | apply kn_ | apply kd_ | apply ka_); exact BK112.out) Tryd.underlying46 rfl (by kernel_rfl)) rfl ?_
  exact ⟨by first | rfl | (simp [errW_none, errW_some] <;> rfl) | (simp [*, errW_none, errW_some] <;> rfl), by repeat (first | (with_reducible first | exact HB.out | apply ba_ | apply pd_ | apply d1_ | refine bs_ ?_ GE112.out) | exact HB.out)⟩
 ·rw [if_neg c2] at H
  have c2b0 : (a0 == 0) = false := beq_eq_false_iff_ne.mpr c2
  have c2b1 : (a0 != 0) = true := bne_iff_ne.mpr c2
  by_cases c7 : a0 = 1
  ·rw [if_pos c7] at H
   have c7b0 : (a0 == 1) = true := beq_iff_eq.mpr c7
   have c7b1 : (a0 != 1) = false := bne_eq_false_iff_eq.mpr c7
   clear c7
   replace H := ob_ H
   obtain ⟨⟨t117, t118, t119, t120⟩, A80, H⟩ := H
   replace H : (some (t117, t118, t119, t120)) = some (r1, r2, r3, r4) := H
   have A8 := sd_ A80
   clear A80
   simp only [Option.some.injEq, Prod.mk.injEq] at H
   obtain ⟨rfl, rfl, rfl, rfl⟩ := H
   go_enter Tryd.func47, Tryd.ntmps47
   go_wp2_with (first | ((with_reducible refine gate_dst (N := 2) rfl ?_); refine box_event ?hg (N := 2) ?hd (cs := #[.int .i64 0, .int .i64 0, .int .i64 0, .int .i64 0]) (t := 46) ?hr ?_; (case hd => rfl); (case hg => rfl); (case hr => first | (go_simp; done) | (go_simp; rfl)); intro gb112 hg w9 hbox hb; have BK112 := sd_ hbox; have GW112 := gw_ HB e0_ hg; have GE112 := GW112; replace HB := hb_ HB e0_ hb; clear hb hbox hg) | ((with_reducible refine gate_callee (f := 46) rfl ?_); refine goesL_ (some 10) rfl rfl Tryd.func46 (by kernel_rfl) rfl #[.int .i64 (-540), .int .i64 1540, .int .i64 0] rfl (by (try simp only [lm_, lq_, lx_]); first | done | rfl | (simp only [ld_, lt_]; rfl)) ?_; (with_reducible refine (glyph_from.calls (-540) 1540 0 t117 t118 t119 t120 _ A8.out).mono ?_); rintro e w10 ⟨rfl, hb⟩; refine ⟨_, rfl, ?_⟩; replace BK112 := kb_ BK112 hb; replace HB := hb_ HB (e_ GE112 e0_) hb; (try clear hb); (try clear hb2); (try clear hk); (try clear hi); have hcz11_0 : w10.cell? ⟨gb112, 0, none⟩ = some (.int .i64 0) := (kc_ BK112.out 0).trans rfl; have hcz11_1 : w10.cell? ⟨gb112, 1, none⟩ = some (.int .i64 0) := (kc_ BK112.out 1).trans rfl; have hcz11_2 : w10.cell? ⟨gb112, 2, none⟩ = some (.int .i64 0) := (kc_ BK112.out 2).trans rfl; have hcz11_3 : w10.cell? ⟨gb112, 3, none⟩ = some (.int .i64 0) := (kc_ BK112.out 3).trans rfl; have hfz11_0 := kf_ BK112.out 0; have hfz11_1 := kf_ BK112.out 1; have hfz11_2 := kf_ BK112.out 2; have hfz11_3 := kf_ BK112.out 3))
   refine bodyPost_ret (results_cell_row rfl _ _ gb112 46 #[.int .i64 t117, .int .i64 t118, .int .i64 t119, .int .i64 t120] (0, 0) _ rfl (by (with_reducible repeat first | apply kn_ | apply kd_ | apply ka_); refine blk_put (cs := #[.int .i64 t117, .int .i64 t118, .int .i64 t119, .int .i64 0]) ?_ 3 _ rfl; (with_reducible repeat first | apply kn_ | apply kd_ | apply ka_); refine blk_put (cs := #[.int .i64 t117, .int .i64 t118, .int .i64 0, .int .i64 0]) ?_ 2 _ rfl; (with_reducible repeat first | apply kn_ | apply kd_ | apply ka_); refine blk_put (cs := #[.int .i64 t117, .int .i64 0, .int .i64 0, .int .i64 0]) ?_ 1 _ rfl; (with_reducible repeat first | apply kn_ | apply kd_ | apply ka_); refine blk_put (cs := #[.int .i64 0, .int .i64 0, .int .i64 0, .int .i64 0]) ?_ 0 _ rfl; (with_reducible repeat first | apply kn_ | apply kd_ | apply ka_); exact BK112.out) Tryd.underlying46 rfl (by kernel_rfl)) rfl ?_
   exact ⟨by first | rfl | (simp [errW_none, errW_some] <;> rfl) | (simp [*, errW_none, errW_some] <;> rfl), by repeat (first | (with_reducible first | exact HB.out | apply ba_ | apply pd_ | apply d1_ | refine bs_ ?_ GE112.out) | exact HB.out)⟩
  ·rw [if_neg c7] at H
   have c7b0 : (a0 == 1) = false := beq_eq_false_iff_ne.mpr c7
   have c7b1 : (a0 != 1) = true := bne_iff_ne.mpr c7
   by_cases c12 : a0 = 2
   ·rw [if_pos c12] at H
    have c12b0 : (a0 == 2) = true := beq_iff_eq.mpr c12
    have c12b1 : (a0 != 2) = false := bne_eq_false_iff_eq.mpr c12
    clear c12
    replace H := ob_ H
    obtain ⟨⟨t121, t122, t123, t124⟩, A130, H⟩ := H
    replace H : (some (t121, t122, t123, t124)) = some (r1, r2, r3, r4) := H
    have A13 := sd_ A130
    clear A130
    simp only [Option.some.injEq, Prod.mk.injEq] at H
    obtain ⟨rfl, rfl, rfl, rfl⟩ := H
    go_enter Tryd.func47, Tryd.ntmps47
    go_wp2_with (first | ((with_reducible refine gate_dst (N := 2) rfl ?_); refine box_event ?hg (N := 2) ?hd (cs := #[.int .i64 0, .int .i64 0, .int .i64 0, .int .i64 0]) (t := 46) ?hr ?_; (case hd => rfl); (case hg => rfl); (case hr => first | (go_simp; done) | (go_simp; rfl)); intro gb112 hg w14 hbox hb; have BK112 := sd_ hbox; have GW112 := gw_ HB e0_ hg; have GE112 := GW112; replace HB := hb_ HB e0_ hb; clear hb hbox hg) | ((with_reducible refine gate_callee (f := 46) rfl ?_); refine goesL_ (some 13) rfl rfl Tryd.func46 (by kernel_rfl) rfl #[.int .i64 0, .int .i64 1540, .int .i64 540] rfl (by (try simp only [lm_, lq_, lx_]); first | done | rfl | (simp only [ld_, lt_]; rfl)) ?_; (with_reducible refine (glyph_from.calls 0 1540 540 t121 t122 t123 t124 _ A13.out).mono ?_); rintro e w15 ⟨rfl, hb⟩; refine ⟨_, rfl, ?_⟩; replace BK112 := kb_ BK112 hb; replace HB := hb_ HB (e_ GE112 e0_) hb; (try clear hb); (try clear hb2); (try clear hk); (try clear hi); have hcz16_0 : w15.cell? ⟨gb112, 0, none⟩ = some (.int .i64 0) := (kc_ BK112.out 0).trans rfl; have hcz16_1 : w15.cell? ⟨gb112, 1, none⟩ = some (.int .i64 0) := (kc_ BK112.out 1).trans rfl; have hcz16_2 : w15.cell? ⟨gb112, 2, none⟩ = some (.int .i64 0) := (kc_ BK112.out 2).trans rfl; have hcz16_3 : w15.cell? ⟨gb112, 3, none⟩ = some (.int .i64 0) := (kc_ BK112.out 3).trans rfl; have hfz16_0 := kf_ BK112.out 0; have hfz16_1 := kf_ BK112.out 1; have hfz16_2 := kf_ BK112.out 2; have hfz16_3 := kf_ BK112.out 3))
    refine bodyPost_ret (results_cell_row rfl _ _ gb112 46 #[.int .i64 t121, .int .i64 t122, .int .i64 t123, .int .i64 t124] (0, 0) _ rfl (by (with_reducible repeat first | apply kn_ | apply kd_ | apply ka_); refine blk_put (cs := #[.int .i64 t121, .int .i64 t122, .int .i64 t123, .int .i64 0]) ?_ 3 _ rfl; (with_reducible repeat first | apply kn_ | apply kd_ | apply ka_); refine blk_put (cs := #[.int .i64 t121, .int .i64 t122, .int .i64 0, .int .i64 0]) ?_ 2 _ rfl; (with_reducible repeat first | apply kn_ | apply kd_ | apply ka_); refine blk_put (cs := #[.int .i64 t121, .int .i64 0, .int .i64 0, .int .i64 0]) ?_ 1 _ rfl; (with_reducible repeat first | apply kn_ | apply kd_ | apply ka_); refine blk_put (cs := #[.int .i64 0, .int .i64 0, .int .i64 0, .int .i64 0]) ?_ 0 _ rfl; (with_reducible repeat first | apply kn_ | apply kd_ | apply ka_); exact BK112.out) Tryd.underlying46 rfl (by kernel_rfl)) rfl ?_
    exact ⟨by first | rfl | (simp [errW_none, errW_some] <;> rfl) | (simp [*, errW_none, errW_some] <;> rfl), by repeat (first | (with_reducible first | exact HB.out | apply ba_ | apply pd_ | apply d1_ | refine bs_ ?_ GE112.out) | exact HB.out)⟩
   ·rw [if_neg c12] at H
    have c12b0 : (a0 == 2) = false := beq_eq_false_iff_ne.mpr c12
    have c12b1 : (a0 != 2) = true := bne_iff_ne.mpr c12
    by_cases c17 : a0 = 3
    ·rw [if_pos c17] at H
     have c17b0 : (a0 == 3) = true := beq_iff_eq.mpr c17
     have c17b1 : (a0 != 3) = false := bne_eq_false_iff_eq.mpr c17
     clear c17
     replace H := ob_ H
     obtain ⟨⟨t125, t126, t127, t128⟩, A180, H⟩ := H
     replace H : (some (t125, t126, t127, t128)) = some (r1, r2, r3, r4) := H
     have A18 := sd_ A180
     clear A180
     simp only [Option.some.injEq, Prod.mk.injEq] at H
     obtain ⟨rfl, rfl, rfl, rfl⟩ := H
     go_enter Tryd.func47, Tryd.ntmps47
     go_wp2_with (first | ((with_reducible refine gate_dst (N := 2) rfl ?_); refine box_event ?hg (N := 2) ?hd (cs := #[.int .i64 0, .int .i64 0, .int .i64 0, .int .i64 0]) (t := 46) ?hr ?_; (case hd => rfl); (case hg => rfl); (case hr => first | (go_simp; done) | (go_simp; rfl)); intro gb112 hg w19 hbox hb; have BK112 := sd_ hbox; have GW112 := gw_ HB e0_ hg; have GE112 := GW112; replace HB := hb_ HB e0_ hb; clear hb hbox hg) | ((with_reducible refine gate_callee (f := 46) rfl ?_); refine goesL_ (some 16) rfl rfl Tryd.func46 (by kernel_rfl) rfl #[.int .i64 (-1400), .int .i64 1120, .int .i64 1500] rfl (by (try simp only [lm_, lq_, lx_]); first | done | rfl | (simp only [ld_, lt_]; rfl)) ?_; (with_reducible refine (glyph_from.calls (-1400) 1120 1500 t125 t126 t127 t128 _ A18.out).mono ?_); rintro e w20 ⟨rfl, hb⟩; refine ⟨_, rfl, ?_⟩; replace BK112 := kb_ BK112 hb; replace HB := hb_ HB (e_ GE112 e0_) hb; (try clear hb); (try clear hb2); (try clear hk); (try clear hi); have hcz21_0 : w20.cell? ⟨gb112, 0, none⟩ = some (.int .i64 0) := (kc_ BK112.out 0).trans rfl; have hcz21_1 : w20.cell? ⟨gb112, 1, none⟩ = some (.int .i64 0) := (kc_ BK112.out 1).trans rfl; have hcz21_2 : w20.cell? ⟨gb112, 2, none⟩ = some (.int .i64 0) := (kc_ BK112.out 2).trans rfl; have hcz21_3 : w20.cell? ⟨gb112, 3, none⟩ = some (.int .i64 0) := (kc_ BK112.out 3).trans rfl; have hfz21_0 := kf_ BK112.out 0; have hfz21_1 := kf_ BK112.out 1; have hfz21_2 := kf_ BK112.out 2; have hfz21_3 := kf_ BK112.out 3))
     refine bodyPost_ret (results_cell_row rfl _ _ gb112 46 #[.int .i64 t125, .int .i64 t126, .int .i64 t127, .int .i64 t128] (0, 0) _ rfl (by (with_reducible repeat first | apply kn_ | apply kd_ | apply ka_); refine blk_put (cs := #[.int .i64 t125, .int .i64 t126, .int .i64 t127, .int .i64 0]) ?_ 3 _ rfl; (with_reducible repeat first | apply kn_ | apply kd_ | apply ka_); refine blk_put (cs := #[.int .i64 t125, .int .i64 t126, .int .i64 0, .int .i64 0]) ?_ 2 _ rfl; (with_reducible repeat first | apply kn_ | apply kd_ | apply ka_); refine blk_put (cs := #[.int .i64 t125, .int .i64 0, .int .i64 0, .int .i64 0]) ?_ 1 _ rfl; (with_reducible repeat first | apply kn_ | apply kd_ | apply ka_); refine blk_put (cs := #[.int .i64 0, .int .i64 0, .int .i64 0, .int .i64 0]) ?_ 0 _ rfl; (with_reducible repeat first | apply kn_ | apply kd_ | apply ka_); exact BK112.out) Tryd.underlying46 rfl (by kernel_rfl)) rfl ?_
     exact ⟨by first | rfl | (simp [errW_none, errW_some] <;> rfl) | (simp [*, errW_none, errW_some] <;> rfl), by repeat (first | (with_reducible first | exact HB.out | apply ba_ | apply pd_ | apply d1_ | refine bs_ ?_ GE112.out) | exact HB.out)⟩
    ·rw [if_neg c17] at H
     have c17b0 : (a0 == 3) = false := beq_eq_false_iff_ne.mpr c17
     have c17b1 : (a0 != 3) = true := bne_iff_ne.mpr c17
     replace H := ob_ H
     obtain ⟨⟨t129, t130, t131, t132⟩, A220, H⟩ := H
     replace H : (some (t129, t130, t131, t132)) = some (r1, r2, r3, r4) := H
     have A22 := sd_ A220
     clear A220
     simp only [Option.some.injEq, Prod.mk.injEq] at H
     obtain ⟨rfl, rfl, rfl, rfl⟩ := H
     go_enter Tryd.func47, Tryd.ntmps47
     go_wp2_with (first | ((with_reducible refine gate_dst (N := 2) rfl ?_); refine box_event ?hg (N := 2) ?hd (cs := #[.int .i64 0, .int .i64 0, .int .i64 0, .int .i64 0]) (t := 46) ?hr ?_; (case hd => rfl); (case hg => rfl); (case hr => first | (go_simp; done) | (go_simp; rfl)); intro gb112 hg w23 hbox hb; have BK112 := sd_ hbox; have GW112 := gw_ HB e0_ hg; have GE112 := GW112; replace HB := hb_ HB e0_ hb; clear hb hbox hg) | ((with_reducible refine gate_callee (f := 46) rfl ?_); refine goesL_ (some 25) rfl rfl Tryd.func46 (by kernel_rfl) rfl #[.int .i64 (wrap64 ((-1000) - (wrap64 (1024 * (wrap64 (a0 - 4)))))), .int .i64 (wrap64 (1000 + (wrap64 (130 * (wrap64 (a0 - 4)))))), .int .i64 900] rfl (by (try simp only [lm_, lq_, lx_]); first | done | rfl | (simp only [ld_, lt_]; rfl)) ?_; (with_reducible refine (glyph_from.calls (wrap64 ((-1000) - (wrap64 (1024 * (wrap64 (a0 - 4)))))) (wrap64 (1000 + (wrap64 (130 * (wrap64 (a0 - 4)))))) 900 t129 t130 t131 t132 _ A22.out).mono ?_); rintro e w24 ⟨rfl, hb⟩; refine ⟨_, rfl, ?_⟩; replace BK112 := kb_ BK112 hb; replace HB := hb_ HB (e_ GE112 e0_) hb; (try clear hb); (try clear hb2); (try clear hk); (try clear hi); have hcz25_0 : w24.cell? ⟨gb112, 0, none⟩ = some (.int .i64 0) := (kc_ BK112.out 0).trans rfl; have hcz25_1 : w24.cell? ⟨gb112, 1, none⟩ = some (.int .i64 0) := (kc_ BK112.out 1).trans rfl; have hcz25_2 : w24.cell? ⟨gb112, 2, none⟩ = some (.int .i64 0) := (kc_ BK112.out 2).trans rfl; have hcz25_3 : w24.cell? ⟨gb112, 3, none⟩ = some (.int .i64 0) := (kc_ BK112.out 3).trans rfl; have hfz25_0 := kf_ BK112.out 0; have hfz25_1 := kf_ BK112.out 1; have hfz25_2 := kf_ BK112.out 2; have hfz25_3 := kf_ BK112.out 3))
     refine bodyPost_ret (results_cell_row rfl _ _ gb112 46 #[.int .i64 t129, .int .i64 t130, .int .i64 t131, .int .i64 t132] (0, 0) _ rfl (by (with_reducible repeat first | apply kn_ | apply kd_ | apply ka_); refine blk_put (cs := #[.int .i64 t129, .int .i64 t130, .int .i64 t131, .int .i64 0]) ?_ 3 _ rfl; (with_reducible repeat first | apply kn_ | apply kd_ | apply ka_); refine blk_put (cs := #[.int .i64 t129, .int .i64 t130, .int .i64 0, .int .i64 0]) ?_ 2 _ rfl; (with_reducible repeat first | apply kn_ | apply kd_ | apply ka_); refine blk_put (cs := #[.int .i64 t129, .int .i64 0, .int .i64 0, .int .i64 0]) ?_ 1 _ rfl; (with_reducible repeat first | apply kn_ | apply kd_ | apply ka_); refine blk_put (cs := #[.int .i64 0, .int .i64 0, .int .i64 0, .int .i64 0]) ?_ 0 _ rfl; (with_reducible repeat first | apply kn_ | apply kd_ | apply ka_); exact BK112.out) Tryd.underlying46 rfl (by kernel_rfl)) rfl ?_
     exact ⟨by first | rfl | (simp [errW_none, errW_some] <;> rfl) | (simp [*, errW_none, errW_some] <;> rfl), by repeat (first | (with_reducible first | exact HB.out | apply ba_ | apply pd_ | apply d1_ | refine bs_ ?_ GE112.out) | exact HB.out)⟩

/-! ### glyph_other: function 48 -/
theorem zc_ {w : World} {g : Nat} {t : TypeId} {cs : Array Value} (h : Aside0 (w.heap[g]? = some (.cells cs t (0, 0)))) (i : Nat) {v : Value} (hv : cs[i]? = some v) : w.cell? ⟨g, i, none⟩ = some v := (kc_ h.out i).trans hv
def glyph_other.f (a0 : Int) : Option (Int × Int × Int × Int) := if a0 = 0 then some (0, (-200), 400, 200) else if a0 = 1 then some (0, (-2048), 160, 2048) else if a0 = 2 then some (0, (-2048), 720, 2048) else if a0 = 3 then some (0, (-2048), 1000, 2048) else if a0 = 4 then some (0, (-600), 1500, 1200) else if a0 = 5 then some (0, 0, 1900, 1100) else if a0 = 6 then some (0, (-700), 1400, 1800) else if a0 = 7 then some ((-1000), (-2048), 0, 2048) else none
set_option maxHeartbeats 8000000 in
set_option maxRecDepth 100000 in
theorem glyph_other.calls (a0 : Int) (r1 r2 r3 r4 : Int) (w : World) (h : glyph_other.f a0 = some (r1, r2, r3, r4)) :
  Calls Tryd.prog 48 #[.int .i64 a0] w fun e w' => e = .returned (.agg #[.int .i64 r1, .int .i64 r2, .int .i64 r3, .int .i64 r4]) ∧ Below w.heap.size w w' := by
 have hu := Tryd.underlying46
 have HB := sd_ (Below.refl w.heap.size w)
 unfold glyph_other.f at h
 by_cases c0 : a0 = 0
 ·subst c0
  obtain ⟨rfl, rfl, rfl, rfl⟩ : 0 = r1 ∧ (-200) = r2 ∧ 400 = r3 ∧ 200 = r4 := by simpa using h
  clear h
  have hix : ∀ W, (Instr.index 81 (.agg #[.int .i64 0, .int .i64 (-200), .int .i64 400, .int .i64 200, .int .i64 0, .int .i64 (-2048), .int .i64 160, .int .i64 2048, .int .i64 0, .int .i64 (-2048), .int .i64 720, .int .i64 2048, .int .i64 0, .int .i64 (-2048), .int .i64 1000, .int .i64 2048, .int .i64 0, .int .i64 (-600), .int .i64 1500, .int .i64 1200, .int .i64 0, .int .i64 0, .int .i64 1900, .int .i64 1100, .int .i64 0, .int .i64 (-700), .int .i64 1400, .int .i64 1800, .int .i64 (-1000), .int .i64 (-2048), .int .i64 0, .int .i64 2048]) (.int .i64 0)).run Tryd.prog W = .ok (.agg #[.int .i64 0, .int .i64 (-200), .int .i64 400, .int .i64 200]) W := fun W => by kernel_rfl
  go_enter Tryd.func48, Tryd.ntmps48
  go_wp2_with (first | ((with_reducible refine gate_dst (N := 2) rfl ?_); refine box_event ?hg (N := 2) ?hd (cs := #[.int .i64 0, .int .i64 0, .int .i64 0, .int .i64 0]) (t := 46) ?hr ?_; (case hd => rfl); (case hg => rfl); (case hr => first | (go_simp; done) | (go_simp; rfl)); intro gb hg w4 hbox hb; have BK := sd_ hbox; have GE := gw_ HB e0_ hg; replace HB := hb_ HB e0_ hb; clear hb hbox hg; have z0 := zc_ BK 0 rfl; have z1 := zc_ BK 1 rfl; have z2 := zc_ BK 2 rfl; have z3 := zc_ BK 3 rfl; have f0 := kf_ BK.out 0; have f1 := kf_ BK.out 1; have f2 := kf_ BK.out 2; have f3 := kf_ BK.out 3) | (go_at_call 46; refine (glyph_from.calls _ _ _ _ _ _ _ _ rfl).mono ?_; rintro e w5 ⟨rfl, hb⟩; replace BK := kb_ BK hb; replace HB := hb_ HB (e_ GE e0_) hb; clear hb; have z0 := zc_ BK 0 rfl; have z1 := zc_ BK 1 rfl; have z2 := zc_ BK 2 rfl; have z3 := zc_ BK 3 rfl; have f0 := kf_ BK.out 0; have f1 := kf_ BK.out 1; have f2 := kf_ BK.out 2; have f3 := kf_ BK.out 3))
  refine bodyPost_ret (results_cell_row rfl _ _ gb 46 #[.int .i64 0, .int .i64 (-200), .int .i64 400, .int .i64 200] (0, 0) _ rfl (by refine blk_put (cs := #[.int .i64 0, .int .i64 (-200), .int .i64 400, .int .i64 0]) ?_ 3 _ rfl; refine blk_put (cs := #[.int .i64 0, .int .i64 (-200), .int .i64 0, .int .i64 0]) ?_ 2 _ rfl; refine blk_put (cs := #[.int .i64 0, .int .i64 0, .int .i64 0, .int .i64 0]) ?_ 1 _ rfl; refine blk_put (cs := #[.int .i64 0, .int .i64 0, .int .i64 0, .int .i64 0]) ?_ 0 _ rfl; exact kk_ BK.out) Tryd.underlying46 rfl (by kernel_rfl)) rfl ?_
  exact ⟨rfl, bb_ HB.out (e_ GE e0_)⟩
 rw [if_neg c0] at h
 by_cases c1 : a0 = 1
 ·subst c1
  obtain ⟨rfl, rfl, rfl, rfl⟩ : 0 = r1 ∧ (-2048) = r2 ∧ 160 = r3 ∧ 2048 = r4 := by simpa using h
  clear h
  have hix : ∀ W, (Instr.index 81 (.agg #[.int .i64 0, .int .i64 (-200), .int .i64 400, .int .i64 200, .int .i64 0, .int .i64 (-2048), .int .i64 160, .int .i64 2048, .int .i64 0, .int .i64 (-2048), .int .i64 720, .int .i64 2048, .int .i64 0, .int .i64 (-2048), .int .i64 1000, .int .i64 2048, .int .i64 0, .int .i64 (-600), .int .i64 1500, .int .i64 1200, .int .i64 0, .int .i64 0, .int .i64 1900, .int .i64 1100, .int .i64 0, .int .i64 (-700), .int .i64 1400, .int .i64 1800, .int .i64 (-1000), .int .i64 (-2048), .int .i64 0, .int .i64 2048]) (.int .i64 1)).run Tryd.prog W = .ok (.agg #[.int .i64 0, .int .i64 (-2048), .int .i64 160, .int .i64 2048]) W := fun W => by kernel_rfl
  go_enter Tryd.func48, Tryd.ntmps48
  go_wp2_with (first | ((with_reducible refine gate_dst (N := 2) rfl ?_); refine box_event ?hg (N := 2) ?hd (cs := #[.int .i64 0, .int .i64 0, .int .i64 0, .int .i64 0]) (t := 46) ?hr ?_; (case hd => rfl); (case hg => rfl); (case hr => first | (go_simp; done) | (go_simp; rfl)); intro gb hg w4 hbox hb; have BK := sd_ hbox; have GE := gw_ HB e0_ hg; replace HB := hb_ HB e0_ hb; clear hb hbox hg; have z0 := zc_ BK 0 rfl; have z1 := zc_ BK 1 rfl; have z2 := zc_ BK 2 rfl; have z3 := zc_ BK 3 rfl; have f0 := kf_ BK.out 0; have f1 := kf_ BK.out 1; have f2 := kf_ BK.out 2; have f3 := kf_ BK.out 3) | (go_at_call 46; refine (glyph_from.calls _ _ _ _ _ _ _ _ rfl).mono ?_; rintro e w5 ⟨rfl, hb⟩; replace BK := kb_ BK hb; replace HB := hb_ HB (e_ GE e0_) hb; clear hb; have z0 := zc_ BK 0 rfl; have z1 := zc_ BK 1 rfl; have z2 := zc_ BK 2 rfl; have z3 := zc_ BK 3 rfl; have f0 := kf_ BK.out 0; have f1 := kf_ BK.out 1; have f2 := kf_ BK.out 2; have f3 := kf_ BK.out 3))
  refine bodyPost_ret (results_cell_row rfl _ _ gb 46 #[.int .i64 0, .int .i64 (-2048), .int .i64 160, .int .i64 2048] (0, 0) _ rfl (by refine blk_put (cs := #[.int .i64 0, .int .i64 (-2048), .int .i64 160, .int .i64 0]) ?_ 3 _ rfl; refine blk_put (cs := #[.int .i64 0, .int .i64 (-2048), .int .i64 0, .int .i64 0]) ?_ 2 _ rfl; refine blk_put (cs := #[.int .i64 0, .int .i64 0, .int .i64 0, .int .i64 0]) ?_ 1 _ rfl; refine blk_put (cs := #[.int .i64 0, .int .i64 0, .int .i64 0, .int .i64 0]) ?_ 0 _ rfl; exact kk_ BK.out) Tryd.underlying46 rfl (by kernel_rfl)) rfl ?_
  exact ⟨rfl, bb_ HB.out (e_ GE e0_)⟩
 rw [if_neg c1] at h
 by_cases c2 : a0 = 2
 ·subst c2
  obtain ⟨rfl, rfl, rfl, rfl⟩ : 0 = r1 ∧ (-2048) = r2 ∧ 720 = r3 ∧ 2048 = r4 := by simpa using h
  clear h
  have hix : ∀ W, (Instr.index 81 (.agg #[.int .i64 0, .int .i64 (-200), .int .i64 400, .int .i64 200, .int .i64 0, .int .i64 (-2048), .int .i64 160, .int .i64 2048, .int .i64 0, .int .i64 (-2048), .int .i64 720, .int .i64 2048, .int .i64 0, .int .i64 (-2048), .int .i64 1000, .int .i64 2048, .int .i64 0, .int .i64 (-600), .int .i64 1500, .int .i64 1200, .int .i64 0, .int .i64 0, .int .i64 1900, .int .i64 1100, .int .i64 0, .int .i64 (-700), .int .i64 1400, .int .i64 1800, .int .i64 (-1000), .int .i64 (-2048), .int .i64 0, .int .i64 2048]) (.int .i64 2)).run Tryd.prog W = .ok (.agg #[.int .i64 0, .int .i64 (-2048), .int .i64 720, .int .i64 2048]) W := fun W => by kernel_rfl
  go_enter Tryd.func48, Tryd.ntmps48
  go_wp2_with (first | ((with_reducible refine gate_dst (N := 2) rfl ?_); refine box_event ?hg (N := 2) ?hd (cs := #[.int .i64 0, .int .i64 0, .int .i64 0, .int .i64 0]) (t := 46) ?hr ?_; (case hd => rfl); (case hg => rfl); (case hr => first | (go_simp; done) | (go_simp; rfl)); intro gb hg w4 hbox hb; have BK := sd_ hbox; have GE := gw_ HB e0_ hg; replace HB := hb_ HB e0_ hb; clear hb hbox hg; have z0 := zc_ BK 0 rfl; have z1 := zc_ BK 1 rfl; have z2 := zc_ BK 2 rfl; have z3 := zc_ BK 3 rfl; have f0 := kf_ BK.out 0; have f1 := kf_ BK.out 1; have f2 := kf_ BK.out 2; have f3 := kf_ BK.out 3) | (go_at_call 46; refine (glyph_from.calls _ _ _ _ _ _ _ _ rfl).mono ?_; rintro e w5 ⟨rfl, hb⟩; replace BK := kb_ BK hb; replace HB := hb_ HB (e_ GE e0_) hb; clear hb; have z0 := zc_ BK 0 rfl; have z1 := zc_ BK 1 rfl; have z2 := zc_ BK 2 rfl; have z3 := zc_ BK 3 rfl; have f0 := kf_ BK.out 0; have f1 := kf_ BK.out 1; have f2 := kf_ BK.out 2; have f3 := kf_ BK.out 3))
  refine bodyPost_ret (results_cell_row rfl _ _ gb 46 #[.int .i64 0, .int .i64 (-2048), .int .i64 720, .int .i64 2048] (0, 0) _ rfl (by refine blk_put (cs := #[.int .i64 0, .int .i64 (-2048), .int .i64 720, .int .i64 0]) ?_ 3 _ rfl; refine blk_put (cs := #[.int .i64 0, .int .i64 (-2048), .int .i64 0, .int .i64 0]) ?_ 2 _ rfl; refine blk_put (cs := #[.int .i64 0, .int .i64 0, .int .i64 0, .int .i64 0]) ?_ 1 _ rfl; refine blk_put (cs := #[.int .i64 0, .int .i64 0, .int .i64 0, .int .i64 0]) ?_ 0 _ rfl; exact kk_ BK.out) Tryd.underlying46 rfl (by kernel_rfl)) rfl ?_
  exact ⟨rfl, bb_ HB.out (e_ GE e0_)⟩
 rw [if_neg c2] at h
 by_cases c3 : a0 = 3
 ·subst c3
  obtain ⟨rfl, rfl, rfl, rfl⟩ : 0 = r1 ∧ (-2048) = r2 ∧ 1000 = r3 ∧ 2048 = r4 := by simpa using h
  clear h
  have hix : ∀ W, (Instr.index 81 (.agg #[.int .i64 0, .int .i64 (-200), .int .i64 400, .int .i64 200, .int .i64 0, .int .i64 (-2048), .int .i64 160, .int .i64 2048, .int .i64 0, .int .i64 (-2048), .int .i64 720, .int .i64 2048, .int .i64 0, .int .i64 (-2048), .int .i64 1000, .int .i64 2048, .int .i64 0, .int .i64 (-600), .int .i64 1500, .int .i64 1200, .int .i64 0, .int .i64 0, .int .i64 1900, .int .i64 1100, .int .i64 0, .int .i64 (-700), .int .i64 1400, .int .i64 1800, .int .i64 (-1000), .int .i64 (-2048), .int .i64 0, .int .i64 2048]) (.int .i64 3)).run Tryd.prog W = .ok (.agg #[.int .i64 0, .int .i64 (-2048), .int .i64 1000, .int .i64 2048]) W := fun W => by kernel_rfl
  go_enter Tryd.func48, Tryd.ntmps48
  go_wp2_with (first | ((with_reducible refine gate_dst (N := 2) rfl ?_); refine box_event ?hg (N := 2) ?hd (cs := #[.int .i64 0, .int .i64 0, .int .i64 0, .int .i64 0]) (t := 46) ?hr ?_; (case hd => rfl); (case hg => rfl); (case hr => first | (go_simp; done) | (go_simp; rfl)); intro gb hg w4 hbox hb; have BK := sd_ hbox; have GE := gw_ HB e0_ hg; replace HB := hb_ HB e0_ hb; clear hb hbox hg; have z0 := zc_ BK 0 rfl; have z1 := zc_ BK 1 rfl; have z2 := zc_ BK 2 rfl; have z3 := zc_ BK 3 rfl; have f0 := kf_ BK.out 0; have f1 := kf_ BK.out 1; have f2 := kf_ BK.out 2; have f3 := kf_ BK.out 3) | (go_at_call 46; refine (glyph_from.calls _ _ _ _ _ _ _ _ rfl).mono ?_; rintro e w5 ⟨rfl, hb⟩; replace BK := kb_ BK hb; replace HB := hb_ HB (e_ GE e0_) hb; clear hb; have z0 := zc_ BK 0 rfl; have z1 := zc_ BK 1 rfl; have z2 := zc_ BK 2 rfl; have z3 := zc_ BK 3 rfl; have f0 := kf_ BK.out 0; have f1 := kf_ BK.out 1; have f2 := kf_ BK.out 2; have f3 := kf_ BK.out 3))
  refine bodyPost_ret (results_cell_row rfl _ _ gb 46 #[.int .i64 0, .int .i64 (-2048), .int .i64 1000, .int .i64 2048] (0, 0) _ rfl (by refine blk_put (cs := #[.int .i64 0, .int .i64 (-2048), .int .i64 1000, .int .i64 0]) ?_ 3 _ rfl; refine blk_put (cs := #[.int .i64 0, .int .i64 (-2048), .int .i64 0, .int .i64 0]) ?_ 2 _ rfl; refine blk_put (cs := #[.int .i64 0, .int .i64 0, .int .i64 0, .int .i64 0]) ?_ 1 _ rfl; refine blk_put (cs := #[.int .i64 0, .int .i64 0, .int .i64 0, .int .i64 0]) ?_ 0 _ rfl; exact kk_ BK.out) Tryd.underlying46 rfl (by kernel_rfl)) rfl ?_
  exact ⟨rfl, bb_ HB.out (e_ GE e0_)⟩
 rw [if_neg c3] at h
 by_cases c4 : a0 = 4
 ·subst c4
  obtain ⟨rfl, rfl, rfl, rfl⟩ : 0 = r1 ∧ (-600) = r2 ∧ 1500 = r3 ∧ 1200 = r4 := by simpa using h
  clear h
  have hix : ∀ W, (Instr.index 81 (.agg #[.int .i64 0, .int .i64 (-200), .int .i64 400, .int .i64 200, .int .i64 0, .int .i64 (-2048), .int .i64 160, .int .i64 2048, .int .i64 0, .int .i64 (-2048), .int .i64 720, .int .i64 2048, .int .i64 0, .int .i64 (-2048), .int .i64 1000, .int .i64 2048, .int .i64 0, .int .i64 (-600), .int .i64 1500, .int .i64 1200, .int .i64 0, .int .i64 0, .int .i64 1900, .int .i64 1100, .int .i64 0, .int .i64 (-700), .int .i64 1400, .int .i64 1800, .int .i64 (-1000), .int .i64 (-2048), .int .i64 0, .int .i64 2048]) (.int .i64 4)).run Tryd.prog W = .ok (.agg #[.int .i64 0, .int .i64 (-600), .int .i64 1500, .int .i64 1200]) W := fun W => by kernel_rfl
  go_enter Tryd.func48, Tryd.ntmps48
  go_wp2_with (first | ((with_reducible refine gate_dst (N := 2) rfl ?_); refine box_event ?hg (N := 2) ?hd (cs := #[.int .i64 0, .int .i64 0, .int .i64 0, .int .i64 0]) (t := 46) ?hr ?_; (case hd => rfl); (case hg => rfl); (case hr => first | (go_simp; done) | (go_simp; rfl)); intro gb hg w4 hbox hb; have BK := sd_ hbox; have GE := gw_ HB e0_ hg; replace HB := hb_ HB e0_ hb; clear hb hbox hg; have z0 := zc_ BK 0 rfl; have z1 := zc_ BK 1 rfl; have z2 := zc_ BK 2 rfl; have z3 := zc_ BK 3 rfl; have f0 := kf_ BK.out 0; have f1 := kf_ BK.out 1; have f2 := kf_ BK.out 2; have f3 := kf_ BK.out 3) | (go_at_call 46; refine (glyph_from.calls _ _ _ _ _ _ _ _ rfl).mono ?_; rintro e w5 ⟨rfl, hb⟩; replace BK := kb_ BK hb; replace HB := hb_ HB (e_ GE e0_) hb; clear hb; have z0 := zc_ BK 0 rfl; have z1 := zc_ BK 1 rfl; have z2 := zc_ BK 2 rfl; have z3 := zc_ BK 3 rfl; have f0 := kf_ BK.out 0; have f1 := kf_ BK.out 1; have f2 := kf_ BK.out 2; have f3 := kf_ BK.out 3))
  refine bodyPost_ret (results_cell_row rfl _ _ gb 46 #[.int .i64 0, .int .i64 (-600), .int .i64 1500, .int .i64 1200] (0, 0) _ rfl (by refine blk_put (cs := #[.int .i64 0, .int .i64 (-600), .int .i64 1500, .int .i64 0]) ?_ 3 _ rfl; refine blk_put (cs := #[.int .i64 0, .int .i64 (-600), .int .i64 0, .int .i64 0]) ?_ 2 _ rfl; refine blk_put (cs := #[.int .i64 0, .int .i64 0, .int .i64 0, .int .i64 0]) ?_ 1 _ rfl; refine blk_put (cs := #[.int .i64 0, .int .i64 0, .int .i64 0, .int .i64 0]) ?_ 0 _ rfl; exact kk_ BK.out) Tryd.underlying46 rfl (by kernel_rfl)) rfl ?_
  exact ⟨rfl, bb_ HB.out (e_ GE e0_)⟩
 rw [if_neg c4] at h
 by_cases c5 : a0 = 5
 ·subst c5
  obtain ⟨rfl, rfl, rfl, rfl⟩ : 0 = r1 ∧ 0 = r2 ∧ 1900 = r3 ∧ 1100 = r4 := by simpa using h
  clear h
  have hix : ∀ W, (Instr.index 81 (.agg #[.int .i64 0, .int .i64 (-200), .int .i64 400, .int .i64 200, .int .i64 0, .int .i64 (-2048), .int .i64 160, .int .i64 2048, .int .i64 0, .int .i64 (-2048), .int .i64 720, .int .i64 2048, .int .i64 0, .int .i64 (-2048), .int .i64 1000, .int .i64 2048, .int .i64 0, .int .i64 (-600), .int .i64 1500, .int .i64 1200, .int .i64 0, .int .i64 0, .int .i64 1900, .int .i64 1100, .int .i64 0, .int .i64 (-700), .int .i64 1400, .int .i64 1800, .int .i64 (-1000), .int .i64 (-2048), .int .i64 0, .int .i64 2048]) (.int .i64 5)).run Tryd.prog W = .ok (.agg #[.int .i64 0, .int .i64 0, .int .i64 1900, .int .i64 1100]) W := fun W => by kernel_rfl
  go_enter Tryd.func48, Tryd.ntmps48
  go_wp2_with (first | ((with_reducible refine gate_dst (N := 2) rfl ?_); refine box_event ?hg (N := 2) ?hd (cs := #[.int .i64 0, .int .i64 0, .int .i64 0, .int .i64 0]) (t := 46) ?hr ?_; (case hd => rfl); (case hg => rfl); (case hr => first | (go_simp; done) | (go_simp; rfl)); intro gb hg w4 hbox hb; have BK := sd_ hbox; have GE := gw_ HB e0_ hg; replace HB := hb_ HB e0_ hb; clear hb hbox hg; have z0 := zc_ BK 0 rfl; have z1 := zc_ BK 1 rfl; have z2 := zc_ BK 2 rfl; have z3 := zc_ BK 3 rfl; have f0 := kf_ BK.out 0; have f1 := kf_ BK.out 1; have f2 := kf_ BK.out 2; have f3 := kf_ BK.out 3) | (go_at_call 46; refine (glyph_from.calls _ _ _ _ _ _ _ _ rfl).mono ?_; rintro e w5 ⟨rfl, hb⟩; replace BK := kb_ BK hb; replace HB := hb_ HB (e_ GE e0_) hb; clear hb; have z0 := zc_ BK 0 rfl; have z1 := zc_ BK 1 rfl; have z2 := zc_ BK 2 rfl; have z3 := zc_ BK 3 rfl; have f0 := kf_ BK.out 0; have f1 := kf_ BK.out 1; have f2 := kf_ BK.out 2; have f3 := kf_ BK.out 3))
  refine bodyPost_ret (results_cell_row rfl _ _ gb 46 #[.int .i64 0, .int .i64 0, .int .i64 1900, .int .i64 1100] (0, 0) _ rfl (by refine blk_put (cs := #[.int .i64 0, .int .i64 0, .int .i64 1900, .int .i64 0]) ?_ 3 _ rfl; refine blk_put (cs := #[.int .i64 0, .int .i64 0, .int .i64 0, .int .i64 0]) ?_ 2 _ rfl; refine blk_put (cs := #[.int .i64 0, .int .i64 0, .int .i64 0, .int .i64 0]) ?_ 1 _ rfl; refine blk_put (cs := #[.int .i64 0, .int .i64 0, .int .i64 0, .int .i64 0]) ?_ 0 _ rfl; exact kk_ BK.out) Tryd.underlying46 rfl (by kernel_rfl)) rfl ?_
  exact ⟨rfl, bb_ HB.out (e_ GE e0_)⟩
 rw [if_neg c5] at h
 by_cases c6 : a0 = 6
 ·subst c6
  obtain ⟨rfl, rfl, rfl, rfl⟩ : 0 = r1 ∧ (-700) = r2 ∧ 1400 = r3 ∧ 1800 = r4 := by simpa using h
  clear h
  have hix : ∀ W, (Instr.index 81 (.agg #[.int .i64 0, .int .i64 (-200), .int .i64 400, .int .i64 200, .int .i64 0, .int .i64 (-2048), .int .i64 160, .int .i64 2048, .int .i64 0, .int .i64 (-2048), .int .i64 720, .int .i64 2048, .int .i64 0, .int .i64 (-2048), .int .i64 1000, .int .i64 2048, .int .i64 0, .int .i64 (-600), .int .i64 1500, .int .i64 1200, .int .i64 0, .int .i64 0, .int .i64 1900, .int .i64 1100, .int .i64 0, .int .i64 (-700), .int .i64 1400, .int .i64 1800, .int .i64 (-1000), .int .i64 (-2048), .int .i64 0, .int .i64 2048]) (.int .i64 6)).run Tryd.prog W = .ok (.agg #[.int .i64 0, .int .i64 (-700), .int .i64 1400, .int .i64 1800]) W := fun W => by kernel_rfl
  go_enter Tryd.func48, Tryd.ntmps48
  go_wp2_with (first | ((with_reducible refine gate_dst (N := 2) rfl ?_); refine box_event ?hg (N := 2) ?hd (cs := #[.int .i64 0, .int .i64 0, .int .i64 0, .int .i64 0]) (t := 46) ?hr ?_; (case hd => rfl); (case hg => rfl); (case hr => first | (go_simp; done) | (go_simp; rfl)); intro gb hg w4 hbox hb; have BK := sd_ hbox; have GE := gw_ HB e0_ hg; replace HB := hb_ HB e0_ hb; clear hb hbox hg; have z0 := zc_ BK 0 rfl; have z1 := zc_ BK 1 rfl; have z2 := zc_ BK 2 rfl; have z3 := zc_ BK 3 rfl; have f0 := kf_ BK.out 0; have f1 := kf_ BK.out 1; have f2 := kf_ BK.out 2; have f3 := kf_ BK.out 3) | (go_at_call 46; refine (glyph_from.calls _ _ _ _ _ _ _ _ rfl).mono ?_; rintro e w5 ⟨rfl, hb⟩; replace BK := kb_ BK hb; replace HB := hb_ HB (e_ GE e0_) hb; clear hb; have z0 := zc_ BK 0 rfl; have z1 := zc_ BK 1 rfl; have z2 := zc_ BK 2 rfl; have z3 := zc_ BK 3 rfl; have f0 := kf_ BK.out 0; have f1 := kf_ BK.out 1; have f2 := kf_ BK.out 2; have f3 := kf_ BK.out 3))
  refine bodyPost_ret (results_cell_row rfl _ _ gb 46 #[.int .i64 0, .int .i64 (-700), .int .i64 1400, .int .i64 1800] (0, 0) _ rfl (by refine blk_put (cs := #[.int .i64 0, .int .i64 (-700), .int .i64 1400, .int .i64 0]) ?_ 3 _ rfl; refine blk_put (cs := #[.int .i64 0, .int .i64 (-700), .int .i64 0, .int .i64 0]) ?_ 2 _ rfl; refine blk_put (cs := #[.int .i64 0, .int .i64 0, .int .i64 0, .int .i64 0]) ?_ 1 _ rfl; refine blk_put (cs := #[.int .i64 0, .int .i64 0, .int .i64 0, .int .i64 0]) ?_ 0 _ rfl; exact kk_ BK.out) Tryd.underlying46 rfl (by kernel_rfl)) rfl ?_
  exact ⟨rfl, bb_ HB.out (e_ GE e0_)⟩
 rw [if_neg c6] at h
 by_cases c7 : a0 = 7
 ·subst c7
  obtain ⟨rfl, rfl, rfl, rfl⟩ : (-1000) = r1 ∧ (-2048) = r2 ∧ 0 = r3 ∧ 2048 = r4 := by simpa using h
  clear h
  have hix : ∀ W, (Instr.index 81 (.agg #[.int .i64 0, .int .i64 (-200), .int .i64 400, .int .i64 200, .int .i64 0, .int .i64 (-2048), .int .i64 160, .int .i64 2048, .int .i64 0, .int .i64 (-2048), .int .i64 720, .int .i64 2048, .int .i64 0, .int .i64 (-2048), .int .i64 1000, .int .i64 2048, .int .i64 0, .int .i64 (-600), .int .i64 1500, .int .i64 1200, .int .i64 0, .int .i64 0, .int .i64 1900, .int .i64 1100, .int .i64 0, .int .i64 (-700), .int .i64 1400, .int .i64 1800, .int .i64 (-1000), .int .i64 (-2048), .int .i64 0, .int .i64 2048]) (.int .i64 7)).run Tryd.prog W = .ok (.agg #[.int .i64 (-1000), .int .i64 (-2048), .int .i64 0, .int .i64 2048]) W := fun W => by kernel_rfl
  go_enter Tryd.func48, Tryd.ntmps48
  go_wp2_with (first | ((with_reducible refine gate_dst (N := 2) rfl ?_); refine box_event ?hg (N := 2) ?hd (cs := #[.int .i64 0, .int .i64 0, .int .i64 0, .int .i64 0]) (t := 46) ?hr ?_; (case hd => rfl); (case hg => rfl); (case hr => first | (go_simp; done) | (go_simp; rfl)); intro gb hg w4 hbox hb; have BK := sd_ hbox; have GE := gw_ HB e0_ hg; replace HB := hb_ HB e0_ hb; clear hb hbox hg; have z0 := zc_ BK 0 rfl; have z1 := zc_ BK 1 rfl; have z2 := zc_ BK 2 rfl; have z3 := zc_ BK 3 rfl; have f0 := kf_ BK.out 0; have f1 := kf_ BK.out 1; have f2 := kf_ BK.out 2; have f3 := kf_ BK.out 3) | (go_at_call 46; refine (glyph_from.calls _ _ _ _ _ _ _ _ rfl).mono ?_; rintro e w5 ⟨rfl, hb⟩; replace BK := kb_ BK hb; replace HB := hb_ HB (e_ GE e0_) hb; clear hb; have z0 := zc_ BK 0 rfl; have z1 := zc_ BK 1 rfl; have z2 := zc_ BK 2 rfl; have z3 := zc_ BK 3 rfl; have f0 := kf_ BK.out 0; have f1 := kf_ BK.out 1; have f2 := kf_ BK.out 2; have f3 := kf_ BK.out 3))
  refine bodyPost_ret (results_cell_row rfl _ _ gb 46 #[.int .i64 (-1000), .int .i64 (-2048), .int .i64 0, .int .i64 2048] (0, 0) _ rfl (by refine blk_put (cs := #[.int .i64 (-1000), .int .i64 (-2048), .int .i64 0, .int .i64 0]) ?_ 3 _ rfl; refine blk_put (cs := #[.int .i64 (-1000), .int .i64 (-2048), .int .i64 0, .int .i64 0]) ?_ 2 _ rfl; refine blk_put (cs := #[.int .i64 (-1000), .int .i64 0, .int .i64 0, .int .i64 0]) ?_ 1 _ rfl; refine blk_put (cs := #[.int .i64 0, .int .i64 0, .int .i64 0, .int .i64 0]) ?_ 0 _ rfl; exact kk_ BK.out) Tryd.underlying46 rfl (by kernel_rfl)) rfl ?_
  exact ⟨rfl, bb_ HB.out (e_ GE e0_)⟩
 rw [if_neg c7] at h
 cases h

/-! ### glyph_full: function 35 -/
/-- All glyphs' boxes, from the first on. -/
def fullT : List (Int × Int × Int × Int) := [(0, (-512), 2048, 512), (0, (-512), 1740, 512), (0, (-512), 1330, 512), (0, (-512), 1330, 512), (0, 0, 620, 1024), (0, (-540), 1540, 0), (0, 0, 1540, 540), (0, (-1400), 1120, 1500), (0, (-1000), 1000, 900), (0, (-2024), 1130, 900), (0, (-3048), 1260, 900), (0, (-4072), 1390, 900), (0, (-3000), 1080, 0), (0, (-3512), 1080, 0), (0, (-4024), 1080, 0), (0, (-4536), 1080, 0), (0, 0, 1180, 3000), (0, 0, 1180, 3512), (0, 0, 1180, 4024), (0, 0, 1180, 4536), (0, (-1430), 1020, 1430), (0, (-720), 920, 1800), (0, (-1400), 700, 1400), (0, (-520), 1030, 520), (0, (-720), 1660, 1800), (0, (-2700), 2750, 4500), (0, (-2600), 2800, 1100), (0, (-2100), 2860, 2100), (0, (-2100), 2860, 2100), (0, (-1024), 1740, 1024), (0, (-1024), 1300, 1024), (0, (-1024), 1740, 1024), (0, (-1024), 1740, 1024), (0, (-1024), 1740, 1024), (0, (-1024), 1740, 1024), (0, (-1024), 1740, 1024), (0, (-1024), 1740, 1024), (0, (-1024), 1740, 1024), (0, (-1024), 1740, 1024), (0, (-200), 400, 200), (0, (-2048), 160, 2048), (0, (-2048), 720, 2048), (0, (-2048), 1000, 2048), (0, (-600), 1500, 1200), (0, 0, 1900, 1100), (0, (-700), 1400, 1800), ((-1000), (-2048), 0, 2048)]
def glyph_full.f (a0 : Int) : Option (Int × Int × Int × Int) := if 1 ≤ a0 ∧ a0 ≤ 47 then fullT[(a0 - 1).toNat]? else none
set_option maxHeartbeats 16000000 in
set_option maxRecDepth 100000 in
theorem glyph_full.row0 (a0 : Int) (r1 r2 r3 r4 : Int) (w : World) (hr : 1 ≤ a0 ∧ a0 ≤ 4) (h : glyph_full.f a0 = some (r1, r2, r3, r4)) :
  Calls Tryd.prog 35 #[.int .i64 a0] w fun e w' => e = .returned (.agg #[.int .i64 r1, .int .i64 r2, .int .i64 r3, .int .i64 r4]) ∧ Below w.heap.size w w' := by
 have hu := Tryd.underlying46
 have HB := sd_ (Below.refl w.heap.size w)
 by_cases c1 : a0 = 1
 ·subst c1
  obtain ⟨rfl, rfl, rfl, rfl⟩ : 0 = r1 ∧ (-512) = r2 ∧ 2048 = r3 ∧ 512 = r4 := by simpa [glyph_full.f, fullT] using h
  clear h hr
  have hix : ∀ W, (Instr.index 72 (.agg #[.int .i64 2048, .int .i64 1740, .int .i64 1330, .int .i64 1330]) (.int .i64 0)).run Tryd.prog W = .ok (.int .i64 2048) W := fun W => by kernel_rfl
  go_enter Tryd.func35, Tryd.ntmps35
  go_wp2_with (first | ((with_reducible refine gate_dst (N := 2) rfl ?_); refine box_event ?hg (N := 2) ?hd (cs := #[.int .i64 0, .int .i64 0, .int .i64 0, .int .i64 0]) (t := 46) ?hr ?_; (case hd => rfl); (case hg => rfl); (case hr => first | (go_simp; done) | (go_simp; rfl)); intro gb hg w4 hbox hb; have BK := sd_ hbox; have GE := gw_ HB e0_ hg; replace HB := hb_ HB e0_ hb; clear hb hbox hg; have z0 := zc_ BK 0 rfl; have z1 := zc_ BK 1 rfl; have z2 := zc_ BK 2 rfl; have z3 := zc_ BK 3 rfl; have f0 := kf_ BK.out 0; have f1 := kf_ BK.out 1; have f2 := kf_ BK.out 2; have f3 := kf_ BK.out 3) | (go_at_call 45; refine (glyph_rowOf.calls 40 1 0 0 _ (by decide +kernel)).mono ?_; rintro e w5 ⟨rfl, hd⟩; have hb := Drawn0.below hd; clear hd; replace BK := kb_ BK hb; replace HB := hb_ HB (e_ GE e0_) hb; clear hb; have z0 := zc_ BK 0 rfl; have z1 := zc_ BK 1 rfl; have z2 := zc_ BK 2 rfl; have z3 := zc_ BK 3 rfl; have f0 := kf_ BK.out 0; have f1 := kf_ BK.out 1; have f2 := kf_ BK.out 2; have f3 := kf_ BK.out 3) | (go_at_call 46; refine (glyph_from.calls _ _ _ _ _ _ _ _ rfl).mono ?_; rintro e w5 ⟨rfl, hb⟩; replace BK := kb_ BK hb; replace HB := hb_ HB (e_ GE e0_) hb; clear hb; have z0 := zc_ BK 0 rfl; have z1 := zc_ BK 1 rfl; have z2 := zc_ BK 2 rfl; have z3 := zc_ BK 3 rfl; have f0 := kf_ BK.out 0; have f1 := kf_ BK.out 1; have f2 := kf_ BK.out 2; have f3 := kf_ BK.out 3))
  refine bodyPost_ret (results_cell_row rfl _ _ gb 46 #[.int .i64 0, .int .i64 (-512), .int .i64 2048, .int .i64 512] (0, 0) _ rfl (by refine blk_put (cs := #[.int .i64 0, .int .i64 (-512), .int .i64 2048, .int .i64 0]) ?_ 3 _ rfl; refine blk_put (cs := #[.int .i64 0, .int .i64 (-512), .int .i64 0, .int .i64 0]) ?_ 2 _ rfl; refine blk_put (cs := #[.int .i64 0, .int .i64 0, .int .i64 0, .int .i64 0]) ?_ 1 _ rfl; refine blk_put (cs := #[.int .i64 0, .int .i64 0, .int .i64 0, .int .i64 0]) ?_ 0 _ rfl; exact kk_ BK.out) Tryd.underlying46 rfl (by kernel_rfl)) rfl ?_
  exact ⟨rfl, bb_ HB.out (e_ GE e0_)⟩
 by_cases c2 : a0 = 2
 ·subst c2
  obtain ⟨rfl, rfl, rfl, rfl⟩ : 0 = r1 ∧ (-512) = r2 ∧ 1740 = r3 ∧ 512 = r4 := by simpa [glyph_full.f, fullT] using h
  clear h hr
  have hix : ∀ W, (Instr.index 72 (.agg #[.int .i64 2048, .int .i64 1740, .int .i64 1330, .int .i64 1330]) (.int .i64 1)).run Tryd.prog W = .ok (.int .i64 1740) W := fun W => by kernel_rfl
  go_enter Tryd.func35, Tryd.ntmps35
  go_wp2_with (first | ((with_reducible refine gate_dst (N := 2) rfl ?_); refine box_event ?hg (N := 2) ?hd (cs := #[.int .i64 0, .int .i64 0, .int .i64 0, .int .i64 0]) (t := 46) ?hr ?_; (case hd => rfl); (case hg => rfl); (case hr => first | (go_simp; done) | (go_simp; rfl)); intro gb hg w4 hbox hb; have BK := sd_ hbox; have GE := gw_ HB e0_ hg; replace HB := hb_ HB e0_ hb; clear hb hbox hg; have z0 := zc_ BK 0 rfl; have z1 := zc_ BK 1 rfl; have z2 := zc_ BK 2 rfl; have z3 := zc_ BK 3 rfl; have f0 := kf_ BK.out 0; have f1 := kf_ BK.out 1; have f2 := kf_ BK.out 2; have f3 := kf_ BK.out 3) | (go_at_call 45; refine (glyph_rowOf.calls 40 2 0 1 _ (by decide +kernel)).mono ?_; rintro e w5 ⟨rfl, hd⟩; have hb := Drawn0.below hd; clear hd; replace BK := kb_ BK hb; replace HB := hb_ HB (e_ GE e0_) hb; clear hb; have z0 := zc_ BK 0 rfl; have z1 := zc_ BK 1 rfl; have z2 := zc_ BK 2 rfl; have z3 := zc_ BK 3 rfl; have f0 := kf_ BK.out 0; have f1 := kf_ BK.out 1; have f2 := kf_ BK.out 2; have f3 := kf_ BK.out 3) | (go_at_call 46; refine (glyph_from.calls _ _ _ _ _ _ _ _ rfl).mono ?_; rintro e w5 ⟨rfl, hb⟩; replace BK := kb_ BK hb; replace HB := hb_ HB (e_ GE e0_) hb; clear hb; have z0 := zc_ BK 0 rfl; have z1 := zc_ BK 1 rfl; have z2 := zc_ BK 2 rfl; have z3 := zc_ BK 3 rfl; have f0 := kf_ BK.out 0; have f1 := kf_ BK.out 1; have f2 := kf_ BK.out 2; have f3 := kf_ BK.out 3))
  refine bodyPost_ret (results_cell_row rfl _ _ gb 46 #[.int .i64 0, .int .i64 (-512), .int .i64 1740, .int .i64 512] (0, 0) _ rfl (by refine blk_put (cs := #[.int .i64 0, .int .i64 (-512), .int .i64 1740, .int .i64 0]) ?_ 3 _ rfl; refine blk_put (cs := #[.int .i64 0, .int .i64 (-512), .int .i64 0, .int .i64 0]) ?_ 2 _ rfl; refine blk_put (cs := #[.int .i64 0, .int .i64 0, .int .i64 0, .int .i64 0]) ?_ 1 _ rfl; refine blk_put (cs := #[.int .i64 0, .int .i64 0, .int .i64 0, .int .i64 0]) ?_ 0 _ rfl; exact kk_ BK.out) Tryd.underlying46 rfl (by kernel_rfl)) rfl ?_
  exact ⟨rfl, bb_ HB.out (e_ GE e0_)⟩
 by_cases c3 : a0 = 3
 ·subst c3
  obtain ⟨rfl, rfl, rfl, rfl⟩ : 0 = r1 ∧ (-512) = r2 ∧ 1330 = r3 ∧ 512 = r4 := by simpa [glyph_full.f, fullT] using h
  clear h hr
  have hix : ∀ W, (Instr.index 72 (.agg #[.int .i64 2048, .int .i64 1740, .int .i64 1330, .int .i64 1330]) (.int .i64 2)).run Tryd.prog W = .ok (.int .i64 1330) W := fun W => by kernel_rfl
  go_enter Tryd.func35, Tryd.ntmps35
  go_wp2_with (first | ((with_reducible refine gate_dst (N := 2) rfl ?_); refine box_event ?hg (N := 2) ?hd (cs := #[.int .i64 0, .int .i64 0, .int .i64 0, .int .i64 0]) (t := 46) ?hr ?_; (case hd => rfl); (case hg => rfl); (case hr => first | (go_simp; done) | (go_simp; rfl)); intro gb hg w4 hbox hb; have BK := sd_ hbox; have GE := gw_ HB e0_ hg; replace HB := hb_ HB e0_ hb; clear hb hbox hg; have z0 := zc_ BK 0 rfl; have z1 := zc_ BK 1 rfl; have z2 := zc_ BK 2 rfl; have z3 := zc_ BK 3 rfl; have f0 := kf_ BK.out 0; have f1 := kf_ BK.out 1; have f2 := kf_ BK.out 2; have f3 := kf_ BK.out 3) | (go_at_call 45; refine (glyph_rowOf.calls 40 3 0 2 _ (by decide +kernel)).mono ?_; rintro e w5 ⟨rfl, hd⟩; have hb := Drawn0.below hd; clear hd; replace BK := kb_ BK hb; replace HB := hb_ HB (e_ GE e0_) hb; clear hb; have z0 := zc_ BK 0 rfl; have z1 := zc_ BK 1 rfl; have z2 := zc_ BK 2 rfl; have z3 := zc_ BK 3 rfl; have f0 := kf_ BK.out 0; have f1 := kf_ BK.out 1; have f2 := kf_ BK.out 2; have f3 := kf_ BK.out 3) | (go_at_call 46; refine (glyph_from.calls _ _ _ _ _ _ _ _ rfl).mono ?_; rintro e w5 ⟨rfl, hb⟩; replace BK := kb_ BK hb; replace HB := hb_ HB (e_ GE e0_) hb; clear hb; have z0 := zc_ BK 0 rfl; have z1 := zc_ BK 1 rfl; have z2 := zc_ BK 2 rfl; have z3 := zc_ BK 3 rfl; have f0 := kf_ BK.out 0; have f1 := kf_ BK.out 1; have f2 := kf_ BK.out 2; have f3 := kf_ BK.out 3))
  refine bodyPost_ret (results_cell_row rfl _ _ gb 46 #[.int .i64 0, .int .i64 (-512), .int .i64 1330, .int .i64 512] (0, 0) _ rfl (by refine blk_put (cs := #[.int .i64 0, .int .i64 (-512), .int .i64 1330, .int .i64 0]) ?_ 3 _ rfl; refine blk_put (cs := #[.int .i64 0, .int .i64 (-512), .int .i64 0, .int .i64 0]) ?_ 2 _ rfl; refine blk_put (cs := #[.int .i64 0, .int .i64 0, .int .i64 0, .int .i64 0]) ?_ 1 _ rfl; refine blk_put (cs := #[.int .i64 0, .int .i64 0, .int .i64 0, .int .i64 0]) ?_ 0 _ rfl; exact kk_ BK.out) Tryd.underlying46 rfl (by kernel_rfl)) rfl ?_
  exact ⟨rfl, bb_ HB.out (e_ GE e0_)⟩
 by_cases c4 : a0 = 4
 ·subst c4
  obtain ⟨rfl, rfl, rfl, rfl⟩ : 0 = r1 ∧ (-512) = r2 ∧ 1330 = r3 ∧ 512 = r4 := by simpa [glyph_full.f, fullT] using h
  clear h hr
  have hix : ∀ W, (Instr.index 72 (.agg #[.int .i64 2048, .int .i64 1740, .int .i64 1330, .int .i64 1330]) (.int .i64 3)).run Tryd.prog W = .ok (.int .i64 1330) W := fun W => by kernel_rfl
  go_enter Tryd.func35, Tryd.ntmps35
  go_wp2_with (first | ((with_reducible refine gate_dst (N := 2) rfl ?_); refine box_event ?hg (N := 2) ?hd (cs := #[.int .i64 0, .int .i64 0, .int .i64 0, .int .i64 0]) (t := 46) ?hr ?_; (case hd => rfl); (case hg => rfl); (case hr => first | (go_simp; done) | (go_simp; rfl)); intro gb hg w4 hbox hb; have BK := sd_ hbox; have GE := gw_ HB e0_ hg; replace HB := hb_ HB e0_ hb; clear hb hbox hg; have z0 := zc_ BK 0 rfl; have z1 := zc_ BK 1 rfl; have z2 := zc_ BK 2 rfl; have z3 := zc_ BK 3 rfl; have f0 := kf_ BK.out 0; have f1 := kf_ BK.out 1; have f2 := kf_ BK.out 2; have f3 := kf_ BK.out 3) | (go_at_call 45; refine (glyph_rowOf.calls 40 4 0 3 _ (by decide +kernel)).mono ?_; rintro e w5 ⟨rfl, hd⟩; have hb := Drawn0.below hd; clear hd; replace BK := kb_ BK hb; replace HB := hb_ HB (e_ GE e0_) hb; clear hb; have z0 := zc_ BK 0 rfl; have z1 := zc_ BK 1 rfl; have z2 := zc_ BK 2 rfl; have z3 := zc_ BK 3 rfl; have f0 := kf_ BK.out 0; have f1 := kf_ BK.out 1; have f2 := kf_ BK.out 2; have f3 := kf_ BK.out 3) | (go_at_call 46; refine (glyph_from.calls _ _ _ _ _ _ _ _ rfl).mono ?_; rintro e w5 ⟨rfl, hb⟩; replace BK := kb_ BK hb; replace HB := hb_ HB (e_ GE e0_) hb; clear hb; have z0 := zc_ BK 0 rfl; have z1 := zc_ BK 1 rfl; have z2 := zc_ BK 2 rfl; have z3 := zc_ BK 3 rfl; have f0 := kf_ BK.out 0; have f1 := kf_ BK.out 1; have f2 := kf_ BK.out 2; have f3 := kf_ BK.out 3))
  refine bodyPost_ret (results_cell_row rfl _ _ gb 46 #[.int .i64 0, .int .i64 (-512), .int .i64 1330, .int .i64 512] (0, 0) _ rfl (by refine blk_put (cs := #[.int .i64 0, .int .i64 (-512), .int .i64 1330, .int .i64 0]) ?_ 3 _ rfl; refine blk_put (cs := #[.int .i64 0, .int .i64 (-512), .int .i64 0, .int .i64 0]) ?_ 2 _ rfl; refine blk_put (cs := #[.int .i64 0, .int .i64 0, .int .i64 0, .int .i64 0]) ?_ 1 _ rfl; refine blk_put (cs := #[.int .i64 0, .int .i64 0, .int .i64 0, .int .i64 0]) ?_ 0 _ rfl; exact kk_ BK.out) Tryd.underlying46 rfl (by kernel_rfl)) rfl ?_
  exact ⟨rfl, bb_ HB.out (e_ GE e0_)⟩
 exact absurd hr (by omega)
set_option maxHeartbeats 16000000 in
set_option maxRecDepth 100000 in
theorem glyph_full.row1 (a0 : Int) (r1 r2 r3 r4 : Int) (w : World) (hr : 5 ≤ a0 ∧ a0 ≤ 12) (h : glyph_full.f a0 = some (r1, r2, r3, r4)) :
  Calls Tryd.prog 35 #[.int .i64 a0] w fun e w' => e = .returned (.agg #[.int .i64 r1, .int .i64 r2, .int .i64 r3, .int .i64 r4]) ∧ Below w.heap.size w w' := by
 have hu := Tryd.underlying46
 have HB := sd_ (Below.refl w.heap.size w)
 by_cases c5 : a0 = 5
 ·subst c5
  obtain ⟨rfl, rfl, rfl, rfl⟩ : 0 = r1 ∧ 0 = r2 ∧ 620 = r3 ∧ 1024 = r4 := by simpa [glyph_full.f, fullT] using h
  clear h hr
  go_enter Tryd.func35, Tryd.ntmps35
  go_wp2_with (first | ((with_reducible refine gate_dst (N := 2) rfl ?_); refine box_event ?hg (N := 2) ?hd (cs := #[.int .i64 0, .int .i64 0, .int .i64 0, .int .i64 0]) (t := 46) ?hr ?_; (case hd => rfl); (case hg => rfl); (case hr => first | (go_simp; done) | (go_simp; rfl)); intro gb hg w4 hbox hb; have BK := sd_ hbox; have GE := gw_ HB e0_ hg; replace HB := hb_ HB e0_ hb; clear hb hbox hg; have z0 := zc_ BK 0 rfl; have z1 := zc_ BK 1 rfl; have z2 := zc_ BK 2 rfl; have z3 := zc_ BK 3 rfl; have f0 := kf_ BK.out 0; have f1 := kf_ BK.out 1; have f2 := kf_ BK.out 2; have f3 := kf_ BK.out 3) | (go_at_call 45; refine (glyph_rowOf.calls 40 5 1 0 _ (by decide +kernel)).mono ?_; rintro e w5 ⟨rfl, hd⟩; have hb := Drawn0.below hd; clear hd; replace BK := kb_ BK hb; replace HB := hb_ HB (e_ GE e0_) hb; clear hb; have z0 := zc_ BK 0 rfl; have z1 := zc_ BK 1 rfl; have z2 := zc_ BK 2 rfl; have z3 := zc_ BK 3 rfl; have f0 := kf_ BK.out 0; have f1 := kf_ BK.out 1; have f2 := kf_ BK.out 2; have f3 := kf_ BK.out 3) | (go_at_call 46; refine (glyph_from.calls _ _ _ _ _ _ _ _ rfl).mono ?_; rintro e w5 ⟨rfl, hb⟩; replace BK := kb_ BK hb; replace HB := hb_ HB (e_ GE e0_) hb; clear hb; have z0 := zc_ BK 0 rfl; have z1 := zc_ BK 1 rfl; have z2 := zc_ BK 2 rfl; have z3 := zc_ BK 3 rfl; have f0 := kf_ BK.out 0; have f1 := kf_ BK.out 1; have f2 := kf_ BK.out 2; have f3 := kf_ BK.out 3) | (go_at_call 47; refine (glyph_rest.calls 0 0 0 620 1024 _ (by decide +kernel)).mono ?_; rintro e w5 ⟨rfl, hb⟩; replace BK := kb_ BK hb; replace HB := hb_ HB (e_ GE e0_) hb; clear hb; have z0 := zc_ BK 0 rfl; have z1 := zc_ BK 1 rfl; have z2 := zc_ BK 2 rfl; have z3 := zc_ BK 3 rfl; have f0 := kf_ BK.out 0; have f1 := kf_ BK.out 1; have f2 := kf_ BK.out 2; have f3 := kf_ BK.out 3))
  refine bodyPost_ret (results_cell_row rfl _ _ gb 46 #[.int .i64 0, .int .i64 0, .int .i64 620, .int .i64 1024] (0, 0) _ rfl (by refine blk_put (cs := #[.int .i64 0, .int .i64 0, .int .i64 620, .int .i64 0]) ?_ 3 _ rfl; refine blk_put (cs := #[.int .i64 0, .int .i64 0, .int .i64 0, .int .i64 0]) ?_ 2 _ rfl; refine blk_put (cs := #[.int .i64 0, .int .i64 0, .int .i64 0, .int .i64 0]) ?_ 1 _ rfl; refine blk_put (cs := #[.int .i64 0, .int .i64 0, .int .i64 0, .int .i64 0]) ?_ 0 _ rfl; exact kk_ BK.out) Tryd.underlying46 rfl (by kernel_rfl)) rfl ?_
  exact ⟨rfl, bb_ HB.out (e_ GE e0_)⟩
 by_cases c6 : a0 = 6
 ·subst c6
  obtain ⟨rfl, rfl, rfl, rfl⟩ : 0 = r1 ∧ (-540) = r2 ∧ 1540 = r3 ∧ 0 = r4 := by simpa [glyph_full.f, fullT] using h
  clear h hr
  go_enter Tryd.func35, Tryd.ntmps35
  go_wp2_with (first | ((with_reducible refine gate_dst (N := 2) rfl ?_); refine box_event ?hg (N := 2) ?hd (cs := #[.int .i64 0, .int .i64 0, .int .i64 0, .int .i64 0]) (t := 46) ?hr ?_; (case hd => rfl); (case hg => rfl); (case hr => first | (go_simp; done) | (go_simp; rfl)); intro gb hg w4 hbox hb; have BK := sd_ hbox; have GE := gw_ HB e0_ hg; replace HB := hb_ HB e0_ hb; clear hb hbox hg; have z0 := zc_ BK 0 rfl; have z1 := zc_ BK 1 rfl; have z2 := zc_ BK 2 rfl; have z3 := zc_ BK 3 rfl; have f0 := kf_ BK.out 0; have f1 := kf_ BK.out 1; have f2 := kf_ BK.out 2; have f3 := kf_ BK.out 3) | (go_at_call 45; refine (glyph_rowOf.calls 40 6 1 1 _ (by decide +kernel)).mono ?_; rintro e w5 ⟨rfl, hd⟩; have hb := Drawn0.below hd; clear hd; replace BK := kb_ BK hb; replace HB := hb_ HB (e_ GE e0_) hb; clear hb; have z0 := zc_ BK 0 rfl; have z1 := zc_ BK 1 rfl; have z2 := zc_ BK 2 rfl; have z3 := zc_ BK 3 rfl; have f0 := kf_ BK.out 0; have f1 := kf_ BK.out 1; have f2 := kf_ BK.out 2; have f3 := kf_ BK.out 3) | (go_at_call 46; refine (glyph_from.calls _ _ _ _ _ _ _ _ rfl).mono ?_; rintro e w5 ⟨rfl, hb⟩; replace BK := kb_ BK hb; replace HB := hb_ HB (e_ GE e0_) hb; clear hb; have z0 := zc_ BK 0 rfl; have z1 := zc_ BK 1 rfl; have z2 := zc_ BK 2 rfl; have z3 := zc_ BK 3 rfl; have f0 := kf_ BK.out 0; have f1 := kf_ BK.out 1; have f2 := kf_ BK.out 2; have f3 := kf_ BK.out 3) | (go_at_call 47; refine (glyph_rest.calls 1 0 (-540) 1540 0 _ (by decide +kernel)).mono ?_; rintro e w5 ⟨rfl, hb⟩; replace BK := kb_ BK hb; replace HB := hb_ HB (e_ GE e0_) hb; clear hb; have z0 := zc_ BK 0 rfl; have z1 := zc_ BK 1 rfl; have z2 := zc_ BK 2 rfl; have z3 := zc_ BK 3 rfl; have f0 := kf_ BK.out 0; have f1 := kf_ BK.out 1; have f2 := kf_ BK.out 2; have f3 := kf_ BK.out 3))
  refine bodyPost_ret (results_cell_row rfl _ _ gb 46 #[.int .i64 0, .int .i64 (-540), .int .i64 1540, .int .i64 0] (0, 0) _ rfl (by refine blk_put (cs := #[.int .i64 0, .int .i64 (-540), .int .i64 1540, .int .i64 0]) ?_ 3 _ rfl; refine blk_put (cs := #[.int .i64 0, .int .i64 (-540), .int .i64 0, .int .i64 0]) ?_ 2 _ rfl; refine blk_put (cs := #[.int .i64 0, .int .i64 0, .int .i64 0, .int .i64 0]) ?_ 1 _ rfl; refine blk_put (cs := #[.int .i64 0, .int .i64 0, .int .i64 0, .int .i64 0]) ?_ 0 _ rfl; exact kk_ BK.out) Tryd.underlying46 rfl (by kernel_rfl)) rfl ?_
  exact ⟨rfl, bb_ HB.out (e_ GE e0_)⟩
 by_cases c7 : a0 = 7
 ·subst c7
  obtain ⟨rfl, rfl, rfl, rfl⟩ : 0 = r1 ∧ 0 = r2 ∧ 1540 = r3 ∧ 540 = r4 := by simpa [glyph_full.f, fullT] using h
  clear h hr
  go_enter Tryd.func35, Tryd.ntmps35
  go_wp2_with (first | ((with_reducible refine gate_dst (N := 2) rfl ?_); refine box_event ?hg (N := 2) ?hd (cs := #[.int .i64 0, .int .i64 0, .int .i64 0, .int .i64 0]) (t := 46) ?hr ?_; (case hd => rfl); (case hg => rfl); (case hr => first | (go_simp; done) | (go_simp; rfl)); intro gb hg w4 hbox hb; have BK := sd_ hbox; have GE := gw_ HB e0_ hg; replace HB := hb_ HB e0_ hb; clear hb hbox hg; have z0 := zc_ BK 0 rfl; have z1 := zc_ BK 1 rfl; have z2 := zc_ BK 2 rfl; have z3 := zc_ BK 3 rfl; have f0 := kf_ BK.out 0; have f1 := kf_ BK.out 1; have f2 := kf_ BK.out 2; have f3 := kf_ BK.out 3) | (go_at_call 45; refine (glyph_rowOf.calls 40 7 1 2 _ (by decide +kernel)).mono ?_; rintro e w5 ⟨rfl, hd⟩; have hb := Drawn0.below hd; clear hd; replace BK := kb_ BK hb; replace HB := hb_ HB (e_ GE e0_) hb; clear hb; have z0 := zc_ BK 0 rfl; have z1 := zc_ BK 1 rfl; have z2 := zc_ BK 2 rfl; have z3 := zc_ BK 3 rfl; have f0 := kf_ BK.out 0; have f1 := kf_ BK.out 1; have f2 := kf_ BK.out 2; have f3 := kf_ BK.out 3) | (go_at_call 46; refine (glyph_from.calls _ _ _ _ _ _ _ _ rfl).mono ?_; rintro e w5 ⟨rfl, hb⟩; replace BK := kb_ BK hb; replace HB := hb_ HB (e_ GE e0_) hb; clear hb; have z0 := zc_ BK 0 rfl; have z1 := zc_ BK 1 rfl; have z2 := zc_ BK 2 rfl; have z3 := zc_ BK 3 rfl; have f0 := kf_ BK.out 0; have f1 := kf_ BK.out 1; have f2 := kf_ BK.out 2; have f3 := kf_ BK.out 3) | (go_at_call 47; refine (glyph_rest.calls 2 0 0 1540 540 _ (by decide +kernel)).mono ?_; rintro e w5 ⟨rfl, hb⟩; replace BK := kb_ BK hb; replace HB := hb_ HB (e_ GE e0_) hb; clear hb; have z0 := zc_ BK 0 rfl; have z1 := zc_ BK 1 rfl; have z2 := zc_ BK 2 rfl; have z3 := zc_ BK 3 rfl; have f0 := kf_ BK.out 0; have f1 := kf_ BK.out 1; have f2 := kf_ BK.out 2; have f3 := kf_ BK.out 3))
  refine bodyPost_ret (results_cell_row rfl _ _ gb 46 #[.int .i64 0, .int .i64 0, .int .i64 1540, .int .i64 540] (0, 0) _ rfl (by refine blk_put (cs := #[.int .i64 0, .int .i64 0, .int .i64 1540, .int .i64 0]) ?_ 3 _ rfl; refine blk_put (cs := #[.int .i64 0, .int .i64 0, .int .i64 0, .int .i64 0]) ?_ 2 _ rfl; refine blk_put (cs := #[.int .i64 0, .int .i64 0, .int .i64 0, .int .i64 0]) ?_ 1 _ rfl; refine blk_put (cs := #[.int .i64 0, .int .i64 0, .int .i64 0, .int .i64 0]) ?_ 0 _ rfl; exact kk_ BK.out) Tryd.underlying46 rfl (by kernel_rfl)) rfl ?_
  exact ⟨rfl, bb_ HB.out (e_ GE e0_)⟩
 by_cases c8 : a0 = 8
 ·subst c8
  obtain ⟨rfl, rfl, rfl, rfl⟩ : 0 = r1 ∧ (-1400) = r2 ∧ 1120 = r3 ∧ 1500 = r4 := by simpa [glyph_full.f, fullT] using h
  clear h hr
  go_enter Tryd.func35, Tryd.ntmps35
  go_wp2_with (first | ((with_reducible refine gate_dst (N := 2) rfl ?_); refine box_event ?hg (N := 2) ?hd (cs := #[.int .i64 0, .int .i64 0, .int .i64 0, .int .i64 0]) (t := 46) ?hr ?_; (case hd => rfl); (case hg => rfl); (case hr => first | (go_simp; done) | (go_simp; rfl)); intro gb hg w4 hbox hb; have BK := sd_ hbox; have GE := gw_ HB e0_ hg; replace HB := hb_ HB e0_ hb; clear hb hbox hg; have z0 := zc_ BK 0 rfl; have z1 := zc_ BK 1 rfl; have z2 := zc_ BK 2 rfl; have z3 := zc_ BK 3 rfl; have f0 := kf_ BK.out 0; have f1 := kf_ BK.out 1; have f2 := kf_ BK.out 2; have f3 := kf_ BK.out 3) | (go_at_call 45; refine (glyph_rowOf.calls 40 8 1 3 _ (by decide +kernel)).mono ?_; rintro e w5 ⟨rfl, hd⟩; have hb := Drawn0.below hd; clear hd; replace BK := kb_ BK hb; replace HB := hb_ HB (e_ GE e0_) hb; clear hb; have z0 := zc_ BK 0 rfl; have z1 := zc_ BK 1 rfl; have z2 := zc_ BK 2 rfl; have z3 := zc_ BK 3 rfl; have f0 := kf_ BK.out 0; have f1 := kf_ BK.out 1; have f2 := kf_ BK.out 2; have f3 := kf_ BK.out 3) | (go_at_call 46; refine (glyph_from.calls _ _ _ _ _ _ _ _ rfl).mono ?_; rintro e w5 ⟨rfl, hb⟩; replace BK := kb_ BK hb; replace HB := hb_ HB (e_ GE e0_) hb; clear hb; have z0 := zc_ BK 0 rfl; have z1 := zc_ BK 1 rfl; have z2 := zc_ BK 2 rfl; have z3 := zc_ BK 3 rfl; have f0 := kf_ BK.out 0; have f1 := kf_ BK.out 1; have f2 := kf_ BK.out 2; have f3 := kf_ BK.out 3) | (go_at_call 47; refine (glyph_rest.calls 3 0 (-1400) 1120 1500 _ (by decide +kernel)).mono ?_; rintro e w5 ⟨rfl, hb⟩; replace BK := kb_ BK hb; replace HB := hb_ HB (e_ GE e0_) hb; clear hb; have z0 := zc_ BK 0 rfl; have z1 := zc_ BK 1 rfl; have z2 := zc_ BK 2 rfl; have z3 := zc_ BK 3 rfl; have f0 := kf_ BK.out 0; have f1 := kf_ BK.out 1; have f2 := kf_ BK.out 2; have f3 := kf_ BK.out 3))
  refine bodyPost_ret (results_cell_row rfl _ _ gb 46 #[.int .i64 0, .int .i64 (-1400), .int .i64 1120, .int .i64 1500] (0, 0) _ rfl (by refine blk_put (cs := #[.int .i64 0, .int .i64 (-1400), .int .i64 1120, .int .i64 0]) ?_ 3 _ rfl; refine blk_put (cs := #[.int .i64 0, .int .i64 (-1400), .int .i64 0, .int .i64 0]) ?_ 2 _ rfl; refine blk_put (cs := #[.int .i64 0, .int .i64 0, .int .i64 0, .int .i64 0]) ?_ 1 _ rfl; refine blk_put (cs := #[.int .i64 0, .int .i64 0, .int .i64 0, .int .i64 0]) ?_ 0 _ rfl; exact kk_ BK.out) Tryd.underlying46 rfl (by kernel_rfl)) rfl ?_
  exact ⟨rfl, bb_ HB.out (e_ GE e0_)⟩
 by_cases c9 : a0 = 9
 ·subst c9
  obtain ⟨rfl, rfl, rfl, rfl⟩ : 0 = r1 ∧ (-1000) = r2 ∧ 1000 = r3 ∧ 900 = r4 := by simpa [glyph_full.f, fullT] using h
  clear h hr
  go_enter Tryd.func35, Tryd.ntmps35
  go_wp2_with (first | ((with_reducible refine gate_dst (N := 2) rfl ?_); refine box_event ?hg (N := 2) ?hd (cs := #[.int .i64 0, .int .i64 0, .int .i64 0, .int .i64 0]) (t := 46) ?hr ?_; (case hd => rfl); (case hg => rfl); (case hr => first | (go_simp; done) | (go_simp; rfl)); intro gb hg w4 hbox hb; have BK := sd_ hbox; have GE := gw_ HB e0_ hg; replace HB := hb_ HB e0_ hb; clear hb hbox hg; have z0 := zc_ BK 0 rfl; have z1 := zc_ BK 1 rfl; have z2 := zc_ BK 2 rfl; have z3 := zc_ BK 3 rfl; have f0 := kf_ BK.out 0; have f1 := kf_ BK.out 1; have f2 := kf_ BK.out 2; have f3 := kf_ BK.out 3) | (go_at_call 45; refine (glyph_rowOf.calls 40 9 1 4 _ (by decide +kernel)).mono ?_; rintro e w5 ⟨rfl, hd⟩; have hb := Drawn0.below hd; clear hd; replace BK := kb_ BK hb; replace HB := hb_ HB (e_ GE e0_) hb; clear hb; have z0 := zc_ BK 0 rfl; have z1 := zc_ BK 1 rfl; have z2 := zc_ BK 2 rfl; have z3 := zc_ BK 3 rfl; have f0 := kf_ BK.out 0; have f1 := kf_ BK.out 1; have f2 := kf_ BK.out 2; have f3 := kf_ BK.out 3) | (go_at_call 46; refine (glyph_from.calls _ _ _ _ _ _ _ _ rfl).mono ?_; rintro e w5 ⟨rfl, hb⟩; replace BK := kb_ BK hb; replace HB := hb_ HB (e_ GE e0_) hb; clear hb; have z0 := zc_ BK 0 rfl; have z1 := zc_ BK 1 rfl; have z2 := zc_ BK 2 rfl; have z3 := zc_ BK 3 rfl; have f0 := kf_ BK.out 0; have f1 := kf_ BK.out 1; have f2 := kf_ BK.out 2; have f3 := kf_ BK.out 3) | (go_at_call 47; refine (glyph_rest.calls 4 0 (-1000) 1000 900 _ (by decide +kernel)).mono ?_; rintro e w5 ⟨rfl, hb⟩; replace BK := kb_ BK hb; replace HB := hb_ HB (e_ GE e0_) hb; clear hb; have z0 := zc_ BK 0 rfl; have z1 := zc_ BK 1 rfl; have z2 := zc_ BK 2 rfl; have z3 := zc_ BK 3 rfl; have f0 := kf_ BK.out 0; have f1 := kf_ BK.out 1; have f2 := kf_ BK.out 2; have f3 := kf_ BK.out 3))
  refine bodyPost_ret (results_cell_row rfl _ _ gb 46 #[.int .i64 0, .int .i64 (-1000), .int .i64 1000, .int .i64 900] (0, 0) _ rfl (by refine blk_put (cs := #[.int .i64 0, .int .i64 (-1000), .int .i64 1000, .int .i64 0]) ?_ 3 _ rfl; refine blk_put (cs := #[.int .i64 0, .int .i64 (-1000), .int .i64 0, .int .i64 0]) ?_ 2 _ rfl; refine blk_put (cs := #[.int .i64 0, .int .i64 0, .int .i64 0, .int .i64 0]) ?_ 1 _ rfl; refine blk_put (cs := #[.int .i64 0, .int .i64 0, .int .i64 0, .int .i64 0]) ?_ 0 _ rfl; exact kk_ BK.out) Tryd.underlying46 rfl (by kernel_rfl)) rfl ?_
  exact ⟨rfl, bb_ HB.out (e_ GE e0_)⟩
 by_cases c10 : a0 = 10
 ·subst c10
  obtain ⟨rfl, rfl, rfl, rfl⟩ : 0 = r1 ∧ (-2024) = r2 ∧ 1130 = r3 ∧ 900 = r4 := by simpa [glyph_full.f, fullT] using h
  clear h hr
  go_enter Tryd.func35, Tryd.ntmps35
  go_wp2_with (first | ((with_reducible refine gate_dst (N := 2) rfl ?_); refine box_event ?hg (N := 2) ?hd (cs := #[.int .i64 0, .int .i64 0, .int .i64 0, .int .i64 0]) (t := 46) ?hr ?_; (case hd => rfl); (case hg => rfl); (case hr => first | (go_simp; done) | (go_simp; rfl)); intro gb hg w4 hbox hb; have BK := sd_ hbox; have GE := gw_ HB e0_ hg; replace HB := hb_ HB e0_ hb; clear hb hbox hg; have z0 := zc_ BK 0 rfl; have z1 := zc_ BK 1 rfl; have z2 := zc_ BK 2 rfl; have z3 := zc_ BK 3 rfl; have f0 := kf_ BK.out 0; have f1 := kf_ BK.out 1; have f2 := kf_ BK.out 2; have f3 := kf_ BK.out 3) | (go_at_call 45; refine (glyph_rowOf.calls 40 10 1 5 _ (by decide +kernel)).mono ?_; rintro e w5 ⟨rfl, hd⟩; have hb := Drawn0.below hd; clear hd; replace BK := kb_ BK hb; replace HB := hb_ HB (e_ GE e0_) hb; clear hb; have z0 := zc_ BK 0 rfl; have z1 := zc_ BK 1 rfl; have z2 := zc_ BK 2 rfl; have z3 := zc_ BK 3 rfl; have f0 := kf_ BK.out 0; have f1 := kf_ BK.out 1; have f2 := kf_ BK.out 2; have f3 := kf_ BK.out 3) | (go_at_call 46; refine (glyph_from.calls _ _ _ _ _ _ _ _ rfl).mono ?_; rintro e w5 ⟨rfl, hb⟩; replace BK := kb_ BK hb; replace HB := hb_ HB (e_ GE e0_) hb; clear hb; have z0 := zc_ BK 0 rfl; have z1 := zc_ BK 1 rfl; have z2 := zc_ BK 2 rfl; have z3 := zc_ BK 3 rfl; have f0 := kf_ BK.out 0; have f1 := kf_ BK.out 1; have f2 := kf_ BK.out 2; have f3 := kf_ BK.out 3) | (go_at_call 47; refine (glyph_rest.calls 5 0 (-2024) 1130 900 _ (by decide +kernel)).mono ?_; rintro e w5 ⟨rfl, hb⟩; replace BK := kb_ BK hb; replace HB := hb_ HB (e_ GE e0_) hb; clear hb; have z0 := zc_ BK 0 rfl; have z1 := zc_ BK 1 rfl; have z2 := zc_ BK 2 rfl; have z3 := zc_ BK 3 rfl; have f0 := kf_ BK.out 0; have f1 := kf_ BK.out 1; have f2 := kf_ BK.out 2; have f3 := kf_ BK.out 3))
  refine bodyPost_ret (results_cell_row rfl _ _ gb 46 #[.int .i64 0, .int .i64 (-2024), .int .i64 1130, .int .i64 900] (0, 0) _ rfl (by refine blk_put (cs := #[.int .i64 0, .int .i64 (-2024), .int .i64 1130, .int .i64 0]) ?_ 3 _ rfl; refine blk_put (cs := #[.int .i64 0, .int .i64 (-2024), .int .i64 0, .int .i64 0]) ?_ 2 _ rfl; refine blk_put (cs := #[.int .i64 0, .int .i64 0, .int .i64 0, .int .i64 0]) ?_ 1 _ rfl; refine blk_put (cs := #[.int .i64 0, .int .i64 0, .int .i64 0, .int .i64 0]) ?_ 0 _ rfl; exact kk_ BK.out) Tryd.underlying46 rfl (by kernel_rfl)) rfl ?_
  exact ⟨rfl, bb_ HB.out (e_ GE e0_)⟩
 by_cases c11 : a0 = 11
 ·subst c11
  obtain ⟨rfl, rfl, rfl, rfl⟩ : 0 = r1 ∧ (-3048) = r2 ∧ 1260 = r3 ∧ 900 = r4 := by simpa [glyph_full.f, fullT] using h
  clear h hr
  go_enter Tryd.func35, Tryd.ntmps35
  go_wp2_with (first | ((with_reducible refine gate_dst (N := 2) rfl ?_); refine box_event ?hg (N := 2) ?hd (cs := #[.int .i64 0, .int .i64 0, .int .i64 0, .int .i64 0]) (t := 46) ?hr ?_; (case hd => rfl); (case hg => rfl); (case hr => first | (go_simp; done) | (go_simp; rfl)); intro gb hg w4 hbox hb; have BK := sd_ hbox; have GE := gw_ HB e0_ hg; replace HB := hb_ HB e0_ hb; clear hb hbox hg; have z0 := zc_ BK 0 rfl; have z1 := zc_ BK 1 rfl; have z2 := zc_ BK 2 rfl; have z3 := zc_ BK 3 rfl; have f0 := kf_ BK.out 0; have f1 := kf_ BK.out 1; have f2 := kf_ BK.out 2; have f3 := kf_ BK.out 3) | (go_at_call 45; refine (glyph_rowOf.calls 40 11 1 6 _ (by decide +kernel)).mono ?_; rintro e w5 ⟨rfl, hd⟩; have hb := Drawn0.below hd; clear hd; replace BK := kb_ BK hb; replace HB := hb_ HB (e_ GE e0_) hb; clear hb; have z0 := zc_ BK 0 rfl; have z1 := zc_ BK 1 rfl; have z2 := zc_ BK 2 rfl; have z3 := zc_ BK 3 rfl; have f0 := kf_ BK.out 0; have f1 := kf_ BK.out 1; have f2 := kf_ BK.out 2; have f3 := kf_ BK.out 3) | (go_at_call 46; refine (glyph_from.calls _ _ _ _ _ _ _ _ rfl).mono ?_; rintro e w5 ⟨rfl, hb⟩; replace BK := kb_ BK hb; replace HB := hb_ HB (e_ GE e0_) hb; clear hb; have z0 := zc_ BK 0 rfl; have z1 := zc_ BK 1 rfl; have z2 := zc_ BK 2 rfl; have z3 := zc_ BK 3 rfl; have f0 := kf_ BK.out 0; have f1 := kf_ BK.out 1; have f2 := kf_ BK.out 2; have f3 := kf_ BK.out 3) | (go_at_call 47; refine (glyph_rest.calls 6 0 (-3048) 1260 900 _ (by decide +kernel)).mono ?_; rintro e w5 ⟨rfl, hb⟩; replace BK := kb_ BK hb; replace HB := hb_ HB (e_ GE e0_) hb; clear hb; have z0 := zc_ BK 0 rfl; have z1 := zc_ BK 1 rfl; have z2 := zc_ BK 2 rfl; have z3 := zc_ BK 3 rfl; have f0 := kf_ BK.out 0; have f1 := kf_ BK.out 1; have f2 := kf_ BK.out 2; have f3 := kf_ BK.out 3))
  refine bodyPost_ret (results_cell_row rfl _ _ gb 46 #[.int .i64 0, .int .i64 (-3048), .int .i64 1260, .int .i64 900] (0, 0) _ rfl (by refine blk_put (cs := #[.int .i64 0, .int .i64 (-3048), .int .i64 1260, .int .i64 0]) ?_ 3 _ rfl; refine blk_put (cs := #[.int .i64 0, .int .i64 (-3048), .int .i64 0, .int .i64 0]) ?_ 2 _ rfl; refine blk_put (cs := #[.int .i64 0, .int .i64 0, .int .i64 0, .int .i64 0]) ?_ 1 _ rfl; refine blk_put (cs := #[.int .i64 0, .int .i64 0, .int .i64 0, .int .i64 0]) ?_ 0 _ rfl; exact kk_ BK.out) Tryd.underlying46 rfl (by kernel_rfl)) rfl ?_
  exact ⟨rfl, bb_ HB.out (e_ GE e0_)⟩
 by_cases c12 : a0 = 12
 ·subst c12
  obtain ⟨rfl, rfl, rfl, rfl⟩ : 0 = r1 ∧ (-4072) = r2 ∧ 1390 = r3 ∧ 900 = r4 := by simpa [glyph_full.f, fullT] using h
  clear h hr
  go_enter Tryd.func35, Tryd.ntmps35
  go_wp2_with (first | ((with_reducible refine gate_dst (N := 2) rfl ?_); refine box_event ?hg (N := 2) ?hd (cs := #[.int .i64 0, .int .i64 0, .int .i64 0, .int .i64 0]) (t := 46) ?hr ?_; (case hd => rfl); (case hg => rfl); (case hr => first | (go_simp; done) | (go_simp; rfl)); intro gb hg w4 hbox hb; have BK := sd_ hbox; have GE := gw_ HB e0_ hg; replace HB := hb_ HB e0_ hb; clear hb hbox hg; have z0 := zc_ BK 0 rfl; have z1 := zc_ BK 1 rfl; have z2 := zc_ BK 2 rfl; have z3 := zc_ BK 3 rfl; have f0 := kf_ BK.out 0; have f1 := kf_ BK.out 1; have f2 := kf_ BK.out 2; have f3 := kf_ BK.out 3) | (go_at_call 45; refine (glyph_rowOf.calls 40 12 1 7 _ (by decide +kernel)).mono ?_; rintro e w5 ⟨rfl, hd⟩; have hb := Drawn0.below hd; clear hd; replace BK := kb_ BK hb; replace HB := hb_ HB (e_ GE e0_) hb; clear hb; have z0 := zc_ BK 0 rfl; have z1 := zc_ BK 1 rfl; have z2 := zc_ BK 2 rfl; have z3 := zc_ BK 3 rfl; have f0 := kf_ BK.out 0; have f1 := kf_ BK.out 1; have f2 := kf_ BK.out 2; have f3 := kf_ BK.out 3) | (go_at_call 46; refine (glyph_from.calls _ _ _ _ _ _ _ _ rfl).mono ?_; rintro e w5 ⟨rfl, hb⟩; replace BK := kb_ BK hb; replace HB := hb_ HB (e_ GE e0_) hb; clear hb; have z0 := zc_ BK 0 rfl; have z1 := zc_ BK 1 rfl; have z2 := zc_ BK 2 rfl; have z3 := zc_ BK 3 rfl; have f0 := kf_ BK.out 0; have f1 := kf_ BK.out 1; have f2 := kf_ BK.out 2; have f3 := kf_ BK.out 3) | (go_at_call 47; refine (glyph_rest.calls 7 0 (-4072) 1390 900 _ (by decide +kernel)).mono ?_; rintro e w5 ⟨rfl, hb⟩; replace BK := kb_ BK hb; replace HB := hb_ HB (e_ GE e0_) hb; clear hb; have z0 := zc_ BK 0 rfl; have z1 := zc_ BK 1 rfl; have z2 := zc_ BK 2 rfl; have z3 := zc_ BK 3 rfl; have f0 := kf_ BK.out 0; have f1 := kf_ BK.out 1; have f2 := kf_ BK.out 2; have f3 := kf_ BK.out 3))
  refine bodyPost_ret (results_cell_row rfl _ _ gb 46 #[.int .i64 0, .int .i64 (-4072), .int .i64 1390, .int .i64 900] (0, 0) _ rfl (by refine blk_put (cs := #[.int .i64 0, .int .i64 (-4072), .int .i64 1390, .int .i64 0]) ?_ 3 _ rfl; refine blk_put (cs := #[.int .i64 0, .int .i64 (-4072), .int .i64 0, .int .i64 0]) ?_ 2 _ rfl; refine blk_put (cs := #[.int .i64 0, .int .i64 0, .int .i64 0, .int .i64 0]) ?_ 1 _ rfl; refine blk_put (cs := #[.int .i64 0, .int .i64 0, .int .i64 0, .int .i64 0]) ?_ 0 _ rfl; exact kk_ BK.out) Tryd.underlying46 rfl (by kernel_rfl)) rfl ?_
  exact ⟨rfl, bb_ HB.out (e_ GE e0_)⟩
 exact absurd hr (by omega)
set_option maxHeartbeats 16000000 in
set_option maxRecDepth 100000 in
theorem glyph_full.row2 (a0 : Int) (r1 r2 r3 r4 : Int) (w : World) (hr : 13 ≤ a0 ∧ a0 ≤ 16) (h : glyph_full.f a0 = some (r1, r2, r3, r4)) :
  Calls Tryd.prog 35 #[.int .i64 a0] w fun e w' => e = .returned (.agg #[.int .i64 r1, .int .i64 r2, .int .i64 r3, .int .i64 r4]) ∧ Below w.heap.size w w' := by
 have hu := Tryd.underlying46
 have HB := sd_ (Below.refl w.heap.size w)
 by_cases c13 : a0 = 13
 ·subst c13
  obtain ⟨rfl, rfl, rfl, rfl⟩ : 0 = r1 ∧ (-3000) = r2 ∧ 1080 = r3 ∧ 0 = r4 := by simpa [glyph_full.f, fullT] using h
  clear h hr
  go_enter Tryd.func35, Tryd.ntmps35
  go_wp2_with (first | ((with_reducible refine gate_dst (N := 2) rfl ?_); refine box_event ?hg (N := 2) ?hd (cs := #[.int .i64 0, .int .i64 0, .int .i64 0, .int .i64 0]) (t := 46) ?hr ?_; (case hd => rfl); (case hg => rfl); (case hr => first | (go_simp; done) | (go_simp; rfl)); intro gb hg w4 hbox hb; have BK := sd_ hbox; have GE := gw_ HB e0_ hg; replace HB := hb_ HB e0_ hb; clear hb hbox hg; have z0 := zc_ BK 0 rfl; have z1 := zc_ BK 1 rfl; have z2 := zc_ BK 2 rfl; have z3 := zc_ BK 3 rfl; have f0 := kf_ BK.out 0; have f1 := kf_ BK.out 1; have f2 := kf_ BK.out 2; have f3 := kf_ BK.out 3) | (go_at_call 45; refine (glyph_rowOf.calls 40 13 2 0 _ (by decide +kernel)).mono ?_; rintro e w5 ⟨rfl, hd⟩; have hb := Drawn0.below hd; clear hd; replace BK := kb_ BK hb; replace HB := hb_ HB (e_ GE e0_) hb; clear hb; have z0 := zc_ BK 0 rfl; have z1 := zc_ BK 1 rfl; have z2 := zc_ BK 2 rfl; have z3 := zc_ BK 3 rfl; have f0 := kf_ BK.out 0; have f1 := kf_ BK.out 1; have f2 := kf_ BK.out 2; have f3 := kf_ BK.out 3) | (go_at_call 46; refine (glyph_from.calls _ _ _ _ _ _ _ _ rfl).mono ?_; rintro e w5 ⟨rfl, hb⟩; replace BK := kb_ BK hb; replace HB := hb_ HB (e_ GE e0_) hb; clear hb; have z0 := zc_ BK 0 rfl; have z1 := zc_ BK 1 rfl; have z2 := zc_ BK 2 rfl; have z3 := zc_ BK 3 rfl; have f0 := kf_ BK.out 0; have f1 := kf_ BK.out 1; have f2 := kf_ BK.out 2; have f3 := kf_ BK.out 3))
  refine bodyPost_ret (results_cell_row rfl _ _ gb 46 #[.int .i64 0, .int .i64 (-3000), .int .i64 1080, .int .i64 0] (0, 0) _ rfl (by refine blk_put (cs := #[.int .i64 0, .int .i64 (-3000), .int .i64 1080, .int .i64 0]) ?_ 3 _ rfl; refine blk_put (cs := #[.int .i64 0, .int .i64 (-3000), .int .i64 0, .int .i64 0]) ?_ 2 _ rfl; refine blk_put (cs := #[.int .i64 0, .int .i64 0, .int .i64 0, .int .i64 0]) ?_ 1 _ rfl; refine blk_put (cs := #[.int .i64 0, .int .i64 0, .int .i64 0, .int .i64 0]) ?_ 0 _ rfl; exact kk_ BK.out) Tryd.underlying46 rfl (by kernel_rfl)) rfl ?_
  exact ⟨rfl, bb_ HB.out (e_ GE e0_)⟩
 by_cases c14 : a0 = 14
 ·subst c14
  obtain ⟨rfl, rfl, rfl, rfl⟩ : 0 = r1 ∧ (-3512) = r2 ∧ 1080 = r3 ∧ 0 = r4 := by simpa [glyph_full.f, fullT] using h
  clear h hr
  go_enter Tryd.func35, Tryd.ntmps35
  go_wp2_with (first | ((with_reducible refine gate_dst (N := 2) rfl ?_); refine box_event ?hg (N := 2) ?hd (cs := #[.int .i64 0, .int .i64 0, .int .i64 0, .int .i64 0]) (t := 46) ?hr ?_; (case hd => rfl); (case hg => rfl); (case hr => first | (go_simp; done) | (go_simp; rfl)); intro gb hg w4 hbox hb; have BK := sd_ hbox; have GE := gw_ HB e0_ hg; replace HB := hb_ HB e0_ hb; clear hb hbox hg; have z0 := zc_ BK 0 rfl; have z1 := zc_ BK 1 rfl; have z2 := zc_ BK 2 rfl; have z3 := zc_ BK 3 rfl; have f0 := kf_ BK.out 0; have f1 := kf_ BK.out 1; have f2 := kf_ BK.out 2; have f3 := kf_ BK.out 3) | (go_at_call 45; refine (glyph_rowOf.calls 40 14 2 1 _ (by decide +kernel)).mono ?_; rintro e w5 ⟨rfl, hd⟩; have hb := Drawn0.below hd; clear hd; replace BK := kb_ BK hb; replace HB := hb_ HB (e_ GE e0_) hb; clear hb; have z0 := zc_ BK 0 rfl; have z1 := zc_ BK 1 rfl; have z2 := zc_ BK 2 rfl; have z3 := zc_ BK 3 rfl; have f0 := kf_ BK.out 0; have f1 := kf_ BK.out 1; have f2 := kf_ BK.out 2; have f3 := kf_ BK.out 3) | (go_at_call 46; refine (glyph_from.calls _ _ _ _ _ _ _ _ rfl).mono ?_; rintro e w5 ⟨rfl, hb⟩; replace BK := kb_ BK hb; replace HB := hb_ HB (e_ GE e0_) hb; clear hb; have z0 := zc_ BK 0 rfl; have z1 := zc_ BK 1 rfl; have z2 := zc_ BK 2 rfl; have z3 := zc_ BK 3 rfl; have f0 := kf_ BK.out 0; have f1 := kf_ BK.out 1; have f2 := kf_ BK.out 2; have f3 := kf_ BK.out 3))
  refine bodyPost_ret (results_cell_row rfl _ _ gb 46 #[.int .i64 0, .int .i64 (-3512), .int .i64 1080, .int .i64 0] (0, 0) _ rfl (by refine blk_put (cs := #[.int .i64 0, .int .i64 (-3512), .int .i64 1080, .int .i64 0]) ?_ 3 _ rfl; refine blk_put (cs := #[.int .i64 0, .int .i64 (-3512), .int .i64 0, .int .i64 0]) ?_ 2 _ rfl; refine blk_put (cs := #[.int .i64 0, .int .i64 0, .int .i64 0, .int .i64 0]) ?_ 1 _ rfl; refine blk_put (cs := #[.int .i64 0, .int .i64 0, .int .i64 0, .int .i64 0]) ?_ 0 _ rfl; exact kk_ BK.out) Tryd.underlying46 rfl (by kernel_rfl)) rfl ?_
  exact ⟨rfl, bb_ HB.out (e_ GE e0_)⟩
 by_cases c15 : a0 = 15
 ·subst c15
  obtain ⟨rfl, rfl, rfl, rfl⟩ : 0 = r1 ∧ (-4024) = r2 ∧ 1080 = r3 ∧ 0 = r4 := by simpa [glyph_full.f, fullT] using h
  clear h hr
  go_enter Tryd.func35, Tryd.ntmps35
  go_wp2_with (first | ((with_reducible refine gate_dst (N := 2) rfl ?_); refine box_event ?hg (N := 2) ?hd (cs := #[.int .i64 0, .int .i64 0, .int .i64 0, .int .i64 0]) (t := 46) ?hr ?_; (case hd => rfl); (case hg => rfl); (case hr => first | (go_simp; done) | (go_simp; rfl)); intro gb hg w4 hbox hb; have BK := sd_ hbox; have GE := gw_ HB e0_ hg; replace HB := hb_ HB e0_ hb; clear hb hbox hg; have z0 := zc_ BK 0 rfl; have z1 := zc_ BK 1 rfl; have z2 := zc_ BK 2 rfl; have z3 := zc_ BK 3 rfl; have f0 := kf_ BK.out 0; have f1 := kf_ BK.out 1; have f2 := kf_ BK.out 2; have f3 := kf_ BK.out 3) | (go_at_call 45; refine (glyph_rowOf.calls 40 15 2 2 _ (by decide +kernel)).mono ?_; rintro e w5 ⟨rfl, hd⟩; have hb := Drawn0.below hd; clear hd; replace BK := kb_ BK hb; replace HB := hb_ HB (e_ GE e0_) hb; clear hb; have z0 := zc_ BK 0 rfl; have z1 := zc_ BK 1 rfl; have z2 := zc_ BK 2 rfl; have z3 := zc_ BK 3 rfl; have f0 := kf_ BK.out 0; have f1 := kf_ BK.out 1; have f2 := kf_ BK.out 2; have f3 := kf_ BK.out 3) | (go_at_call 46; refine (glyph_from.calls _ _ _ _ _ _ _ _ rfl).mono ?_; rintro e w5 ⟨rfl, hb⟩; replace BK := kb_ BK hb; replace HB := hb_ HB (e_ GE e0_) hb; clear hb; have z0 := zc_ BK 0 rfl; have z1 := zc_ BK 1 rfl; have z2 := zc_ BK 2 rfl; have z3 := zc_ BK 3 rfl; have f0 := kf_ BK.out 0; have f1 := kf_ BK.out 1; have f2 := kf_ BK.out 2; have f3 := kf_ BK.out 3))
  refine bodyPost_ret (results_cell_row rfl _ _ gb 46 #[.int .i64 0, .int .i64 (-4024), .int .i64 1080, .int .i64 0] (0, 0) _ rfl (by refine blk_put (cs := #[.int .i64 0, .int .i64 (-4024), .int .i64 1080, .int .i64 0]) ?_ 3 _ rfl; refine blk_put (cs := #[.int .i64 0, .int .i64 (-4024), .int .i64 0, .int .i64 0]) ?_ 2 _ rfl; refine blk_put (cs := #[.int .i64 0, .int .i64 0, .int .i64 0, .int .i64 0]) ?_ 1 _ rfl; refine blk_put (cs := #[.int .i64 0, .int .i64 0, .int .i64 0, .int .i64 0]) ?_ 0 _ rfl; exact kk_ BK.out) Tryd.underlying46 rfl (by kernel_rfl)) rfl ?_
  exact ⟨rfl, bb_ HB.out (e_ GE e0_)⟩
 by_cases c16 : a0 = 16
 ·subst c16
  obtain ⟨rfl, rfl, rfl, rfl⟩ : 0 = r1 ∧ (-4536) = r2 ∧ 1080 = r3 ∧ 0 = r4 := by simpa [glyph_full.f, fullT] using h
  clear h hr
  go_enter Tryd.func35, Tryd.ntmps35
  go_wp2_with (first | ((with_reducible refine gate_dst (N := 2) rfl ?_); refine box_event ?hg (N := 2) ?hd (cs := #[.int .i64 0, .int .i64 0, .int .i64 0, .int .i64 0]) (t := 46) ?hr ?_; (case hd => rfl); (case hg => rfl); (case hr => first | (go_simp; done) | (go_simp; rfl)); intro gb hg w4 hbox hb; have BK := sd_ hbox; have GE := gw_ HB e0_ hg; replace HB := hb_ HB e0_ hb; clear hb hbox hg; have z0 := zc_ BK 0 rfl; have z1 := zc_ BK 1 rfl; have z2 := zc_ BK 2 rfl; have z3 := zc_ BK 3 rfl; have f0 := kf_ BK.out 0; have f1 := kf_ BK.out 1; have f2 := kf_ BK.out 2; have f3 := kf_ BK.out 3) | (go_at_call 45; refine (glyph_rowOf.calls 40 16 2 3 _ (by decide +kernel)).mono ?_; rintro e w5 ⟨rfl, hd⟩; have hb := Drawn0.below hd; clear hd; replace BK := kb_ BK hb; replace HB := hb_ HB (e_ GE e0_) hb; clear hb; have z0 := zc_ BK 0 rfl; have z1 := zc_ BK 1 rfl; have z2 := zc_ BK 2 rfl; have z3 := zc_ BK 3 rfl; have f0 := kf_ BK.out 0; have f1 := kf_ BK.out 1; have f2 := kf_ BK.out 2; have f3 := kf_ BK.out 3) | (go_at_call 46; refine (glyph_from.calls _ _ _ _ _ _ _ _ rfl).mono ?_; rintro e w5 ⟨rfl, hb⟩; replace BK := kb_ BK hb; replace HB := hb_ HB (e_ GE e0_) hb; clear hb; have z0 := zc_ BK 0 rfl; have z1 := zc_ BK 1 rfl; have z2 := zc_ BK 2 rfl; have z3 := zc_ BK 3 rfl; have f0 := kf_ BK.out 0; have f1 := kf_ BK.out 1; have f2 := kf_ BK.out 2; have f3 := kf_ BK.out 3))
  refine bodyPost_ret (results_cell_row rfl _ _ gb 46 #[.int .i64 0, .int .i64 (-4536), .int .i64 1080, .int .i64 0] (0, 0) _ rfl (by refine blk_put (cs := #[.int .i64 0, .int .i64 (-4536), .int .i64 1080, .int .i64 0]) ?_ 3 _ rfl; refine blk_put (cs := #[.int .i64 0, .int .i64 (-4536), .int .i64 0, .int .i64 0]) ?_ 2 _ rfl; refine blk_put (cs := #[.int .i64 0, .int .i64 0, .int .i64 0, .int .i64 0]) ?_ 1 _ rfl; refine blk_put (cs := #[.int .i64 0, .int .i64 0, .int .i64 0, .int .i64 0]) ?_ 0 _ rfl; exact kk_ BK.out) Tryd.underlying46 rfl (by kernel_rfl)) rfl ?_
  exact ⟨rfl, bb_ HB.out (e_ GE e0_)⟩
 exact absurd hr (by omega)
set_option maxHeartbeats 16000000 in
set_option maxRecDepth 100000 in
theorem glyph_full.row3 (a0 : Int) (r1 r2 r3 r4 : Int) (w : World) (hr : 17 ≤ a0 ∧ a0 ≤ 20) (h : glyph_full.f a0 = some (r1, r2, r3, r4)) :
  Calls Tryd.prog 35 #[.int .i64 a0] w fun e w' => e = .returned (.agg #[.int .i64 r1, .int .i64 r2, .int .i64 r3, .int .i64 r4]) ∧ Below w.heap.size w w' := by
 have hu := Tryd.underlying46
 have HB := sd_ (Below.refl w.heap.size w)
 by_cases c17 : a0 = 17
 ·subst c17
  obtain ⟨rfl, rfl, rfl, rfl⟩ : 0 = r1 ∧ 0 = r2 ∧ 1180 = r3 ∧ 3000 = r4 := by simpa [glyph_full.f, fullT] using h
  clear h hr
  go_enter Tryd.func35, Tryd.ntmps35
  go_wp2_with (first | ((with_reducible refine gate_dst (N := 2) rfl ?_); refine box_event ?hg (N := 2) ?hd (cs := #[.int .i64 0, .int .i64 0, .int .i64 0, .int .i64 0]) (t := 46) ?hr ?_; (case hd => rfl); (case hg => rfl); (case hr => first | (go_simp; done) | (go_simp; rfl)); intro gb hg w4 hbox hb; have BK := sd_ hbox; have GE := gw_ HB e0_ hg; replace HB := hb_ HB e0_ hb; clear hb hbox hg; have z0 := zc_ BK 0 rfl; have z1 := zc_ BK 1 rfl; have z2 := zc_ BK 2 rfl; have z3 := zc_ BK 3 rfl; have f0 := kf_ BK.out 0; have f1 := kf_ BK.out 1; have f2 := kf_ BK.out 2; have f3 := kf_ BK.out 3) | (go_at_call 45; refine (glyph_rowOf.calls 40 17 3 0 _ (by decide +kernel)).mono ?_; rintro e w5 ⟨rfl, hd⟩; have hb := Drawn0.below hd; clear hd; replace BK := kb_ BK hb; replace HB := hb_ HB (e_ GE e0_) hb; clear hb; have z0 := zc_ BK 0 rfl; have z1 := zc_ BK 1 rfl; have z2 := zc_ BK 2 rfl; have z3 := zc_ BK 3 rfl; have f0 := kf_ BK.out 0; have f1 := kf_ BK.out 1; have f2 := kf_ BK.out 2; have f3 := kf_ BK.out 3) | (go_at_call 46; refine (glyph_from.calls _ _ _ _ _ _ _ _ rfl).mono ?_; rintro e w5 ⟨rfl, hb⟩; replace BK := kb_ BK hb; replace HB := hb_ HB (e_ GE e0_) hb; clear hb; have z0 := zc_ BK 0 rfl; have z1 := zc_ BK 1 rfl; have z2 := zc_ BK 2 rfl; have z3 := zc_ BK 3 rfl; have f0 := kf_ BK.out 0; have f1 := kf_ BK.out 1; have f2 := kf_ BK.out 2; have f3 := kf_ BK.out 3))
  refine bodyPost_ret (results_cell_row rfl _ _ gb 46 #[.int .i64 0, .int .i64 0, .int .i64 1180, .int .i64 3000] (0, 0) _ rfl (by refine blk_put (cs := #[.int .i64 0, .int .i64 0, .int .i64 1180, .int .i64 0]) ?_ 3 _ rfl; refine blk_put (cs := #[.int .i64 0, .int .i64 0, .int .i64 0, .int .i64 0]) ?_ 2 _ rfl; refine blk_put (cs := #[.int .i64 0, .int .i64 0, .int .i64 0, .int .i64 0]) ?_ 1 _ rfl; refine blk_put (cs := #[.int .i64 0, .int .i64 0, .int .i64 0, .int .i64 0]) ?_ 0 _ rfl; exact kk_ BK.out) Tryd.underlying46 rfl (by kernel_rfl)) rfl ?_
  exact ⟨rfl, bb_ HB.out (e_ GE e0_)⟩
 by_cases c18 : a0 = 18
 ·subst c18
  obtain ⟨rfl, rfl, rfl, rfl⟩ : 0 = r1 ∧ 0 = r2 ∧ 1180 = r3 ∧ 3512 = r4 := by simpa [glyph_full.f, fullT] using h
  clear h hr
  go_enter Tryd.func35, Tryd.ntmps35
  go_wp2_with (first | ((with_reducible refine gate_dst (N := 2) rfl ?_); refine box_event ?hg (N := 2) ?hd (cs := #[.int .i64 0, .int .i64 0, .int .i64 0, .int .i64 0]) (t := 46) ?hr ?_; (case hd => rfl); (case hg => rfl); (case hr => first | (go_simp; done) | (go_simp; rfl)); intro gb hg w4 hbox hb; have BK := sd_ hbox; have GE := gw_ HB e0_ hg; replace HB := hb_ HB e0_ hb; clear hb hbox hg; have z0 := zc_ BK 0 rfl; have z1 := zc_ BK 1 rfl; have z2 := zc_ BK 2 rfl; have z3 := zc_ BK 3 rfl; have f0 := kf_ BK.out 0; have f1 := kf_ BK.out 1; have f2 := kf_ BK.out 2; have f3 := kf_ BK.out 3) | (go_at_call 45; refine (glyph_rowOf.calls 40 18 3 1 _ (by decide +kernel)).mono ?_; rintro e w5 ⟨rfl, hd⟩; have hb := Drawn0.below hd; clear hd; replace BK := kb_ BK hb; replace HB := hb_ HB (e_ GE e0_) hb; clear hb; have z0 := zc_ BK 0 rfl; have z1 := zc_ BK 1 rfl; have z2 := zc_ BK 2 rfl; have z3 := zc_ BK 3 rfl; have f0 := kf_ BK.out 0; have f1 := kf_ BK.out 1; have f2 := kf_ BK.out 2; have f3 := kf_ BK.out 3) | (go_at_call 46; refine (glyph_from.calls _ _ _ _ _ _ _ _ rfl).mono ?_; rintro e w5 ⟨rfl, hb⟩; replace BK := kb_ BK hb; replace HB := hb_ HB (e_ GE e0_) hb; clear hb; have z0 := zc_ BK 0 rfl; have z1 := zc_ BK 1 rfl; have z2 := zc_ BK 2 rfl; have z3 := zc_ BK 3 rfl; have f0 := kf_ BK.out 0; have f1 := kf_ BK.out 1; have f2 := kf_ BK.out 2; have f3 := kf_ BK.out 3))
  refine bodyPost_ret (results_cell_row rfl _ _ gb 46 #[.int .i64 0, .int .i64 0, .int .i64 1180, .int .i64 3512] (0, 0) _ rfl (by refine blk_put (cs := #[.int .i64 0, .int .i64 0, .int .i64 1180, .int .i64 0]) ?_ 3 _ rfl; refine blk_put (cs := #[.int .i64 0, .int .i64 0, .int .i64 0, .int .i64 0]) ?_ 2 _ rfl; refine blk_put (cs := #[.int .i64 0, .int .i64 0, .int .i64 0, .int .i64 0]) ?_ 1 _ rfl; refine blk_put (cs := #[.int .i64 0, .int .i64 0, .int .i64 0, .int .i64 0]) ?_ 0 _ rfl; exact kk_ BK.out) Tryd.underlying46 rfl (by kernel_rfl)) rfl ?_
  exact ⟨rfl, bb_ HB.out (e_ GE e0_)⟩
 by_cases c19 : a0 = 19
 ·subst c19
  obtain ⟨rfl, rfl, rfl, rfl⟩ : 0 = r1 ∧ 0 = r2 ∧ 1180 = r3 ∧ 4024 = r4 := by simpa [glyph_full.f, fullT] using h
  clear h hr
  go_enter Tryd.func35, Tryd.ntmps35
  go_wp2_with (first | ((with_reducible refine gate_dst (N := 2) rfl ?_); refine box_event ?hg (N := 2) ?hd (cs := #[.int .i64 0, .int .i64 0, .int .i64 0, .int .i64 0]) (t := 46) ?hr ?_; (case hd => rfl); (case hg => rfl); (case hr => first | (go_simp; done) | (go_simp; rfl)); intro gb hg w4 hbox hb; have BK := sd_ hbox; have GE := gw_ HB e0_ hg; replace HB := hb_ HB e0_ hb; clear hb hbox hg; have z0 := zc_ BK 0 rfl; have z1 := zc_ BK 1 rfl; have z2 := zc_ BK 2 rfl; have z3 := zc_ BK 3 rfl; have f0 := kf_ BK.out 0; have f1 := kf_ BK.out 1; have f2 := kf_ BK.out 2; have f3 := kf_ BK.out 3) | (go_at_call 45; refine (glyph_rowOf.calls 40 19 3 2 _ (by decide +kernel)).mono ?_; rintro e w5 ⟨rfl, hd⟩; have hb := Drawn0.below hd; clear hd; replace BK := kb_ BK hb; replace HB := hb_ HB (e_ GE e0_) hb; clear hb; have z0 := zc_ BK 0 rfl; have z1 := zc_ BK 1 rfl; have z2 := zc_ BK 2 rfl; have z3 := zc_ BK 3 rfl; have f0 := kf_ BK.out 0; have f1 := kf_ BK.out 1; have f2 := kf_ BK.out 2; have f3 := kf_ BK.out 3) | (go_at_call 46; refine (glyph_from.calls _ _ _ _ _ _ _ _ rfl).mono ?_; rintro e w5 ⟨rfl, hb⟩; replace BK := kb_ BK hb; replace HB := hb_ HB (e_ GE e0_) hb; clear hb; have z0 := zc_ BK 0 rfl; have z1 := zc_ BK 1 rfl; have z2 := zc_ BK 2 rfl; have z3 := zc_ BK 3 rfl; have f0 := kf_ BK.out 0; have f1 := kf_ BK.out 1; have f2 := kf_ BK.out 2; have f3 := kf_ BK.out 3))
  refine bodyPost_ret (results_cell_row rfl _ _ gb 46 #[.int .i64 0, .int .i64 0, .int .i64 1180, .int .i64 4024] (0, 0) _ rfl (by refine blk_put (cs := #[.int .i64 0, .int .i64 0, .int .i64 1180, .int .i64 0]) ?_ 3 _ rfl; refine blk_put (cs := #[.int .i64 0, .int .i64 0, .int .i64 0, .int .i64 0]) ?_ 2 _ rfl; refine blk_put (cs := #[.int .i64 0, .int .i64 0, .int .i64 0, .int .i64 0]) ?_ 1 _ rfl; refine blk_put (cs := #[.int .i64 0, .int .i64 0, .int .i64 0, .int .i64 0]) ?_ 0 _ rfl; exact kk_ BK.out) Tryd.underlying46 rfl (by kernel_rfl)) rfl ?_
  exact ⟨rfl, bb_ HB.out (e_ GE e0_)⟩
 by_cases c20 : a0 = 20
 ·subst c20
  obtain ⟨rfl, rfl, rfl, rfl⟩ : 0 = r1 ∧ 0 = r2 ∧ 1180 = r3 ∧ 4536 = r4 := by simpa [glyph_full.f, fullT] using h
  clear h hr
  go_enter Tryd.func35, Tryd.ntmps35
  go_wp2_with (first | ((with_reducible refine gate_dst (N := 2) rfl ?_); refine box_event ?hg (N := 2) ?hd (cs := #[.int .i64 0, .int .i64 0, .int .i64 0, .int .i64 0]) (t := 46) ?hr ?_; (case hd => rfl); (case hg => rfl); (case hr => first | (go_simp; done) | (go_simp; rfl)); intro gb hg w4 hbox hb; have BK := sd_ hbox; have GE := gw_ HB e0_ hg; replace HB := hb_ HB e0_ hb; clear hb hbox hg; have z0 := zc_ BK 0 rfl; have z1 := zc_ BK 1 rfl; have z2 := zc_ BK 2 rfl; have z3 := zc_ BK 3 rfl; have f0 := kf_ BK.out 0; have f1 := kf_ BK.out 1; have f2 := kf_ BK.out 2; have f3 := kf_ BK.out 3) | (go_at_call 45; refine (glyph_rowOf.calls 40 20 3 3 _ (by decide +kernel)).mono ?_; rintro e w5 ⟨rfl, hd⟩; have hb := Drawn0.below hd; clear hd; replace BK := kb_ BK hb; replace HB := hb_ HB (e_ GE e0_) hb; clear hb; have z0 := zc_ BK 0 rfl; have z1 := zc_ BK 1 rfl; have z2 := zc_ BK 2 rfl; have z3 := zc_ BK 3 rfl; have f0 := kf_ BK.out 0; have f1 := kf_ BK.out 1; have f2 := kf_ BK.out 2; have f3 := kf_ BK.out 3) | (go_at_call 46; refine (glyph_from.calls _ _ _ _ _ _ _ _ rfl).mono ?_; rintro e w5 ⟨rfl, hb⟩; replace BK := kb_ BK hb; replace HB := hb_ HB (e_ GE e0_) hb; clear hb; have z0 := zc_ BK 0 rfl; have z1 := zc_ BK 1 rfl; have z2 := zc_ BK 2 rfl; have z3 := zc_ BK 3 rfl; have f0 := kf_ BK.out 0; have f1 := kf_ BK.out 1; have f2 := kf_ BK.out 2; have f3 := kf_ BK.out 3))
  refine bodyPost_ret (results_cell_row rfl _ _ gb 46 #[.int .i64 0, .int .i64 0, .int .i64 1180, .int .i64 4536] (0, 0) _ rfl (by refine blk_put (cs := #[.int .i64 0, .int .i64 0, .int .i64 1180, .int .i64 0]) ?_ 3 _ rfl; refine blk_put (cs := #[.int .i64 0, .int .i64 0, .int .i64 0, .int .i64 0]) ?_ 2 _ rfl; refine blk_put (cs := #[.int .i64 0, .int .i64 0, .int .i64 0, .int .i64 0]) ?_ 1 _ rfl; refine blk_put (cs := #[.int .i64 0, .int .i64 0, .int .i64 0, .int .i64 0]) ?_ 0 _ rfl; exact kk_ BK.out) Tryd.underlying46 rfl (by kernel_rfl)) rfl ?_
  exact ⟨rfl, bb_ HB.out (e_ GE e0_)⟩
 exact absurd hr (by omega)
set_option maxHeartbeats 16000000 in
set_option maxRecDepth 100000 in
theorem glyph_full.row4 (a0 : Int) (r1 r2 r3 r4 : Int) (w : World) (hr : 21 ≤ a0 ∧ a0 ≤ 25) (h : glyph_full.f a0 = some (r1, r2, r3, r4)) :
  Calls Tryd.prog 35 #[.int .i64 a0] w fun e w' => e = .returned (.agg #[.int .i64 r1, .int .i64 r2, .int .i64 r3, .int .i64 r4]) ∧ Below w.heap.size w w' := by
 have hu := Tryd.underlying46
 have HB := sd_ (Below.refl w.heap.size w)
 by_cases c21 : a0 = 21
 ·subst c21
  obtain ⟨rfl, rfl, rfl, rfl⟩ : 0 = r1 ∧ (-1430) = r2 ∧ 1020 = r3 ∧ 1430 = r4 := by simpa [glyph_full.f, fullT] using h
  clear h hr
  have hix : ∀ W, (Instr.index 74 (.agg #[.int .i64 0, .int .i64 (-1430), .int .i64 1020, .int .i64 1430, .int .i64 0, .int .i64 (-720), .int .i64 920, .int .i64 1800, .int .i64 0, .int .i64 (-1400), .int .i64 700, .int .i64 1400, .int .i64 0, .int .i64 (-520), .int .i64 1030, .int .i64 520, .int .i64 0, .int .i64 (-720), .int .i64 1660, .int .i64 1800]) (.int .i64 0)).run Tryd.prog W = .ok (.agg #[.int .i64 0, .int .i64 (-1430), .int .i64 1020, .int .i64 1430]) W := fun W => by kernel_rfl
  go_enter Tryd.func35, Tryd.ntmps35
  go_wp2_with (first | ((with_reducible refine gate_dst (N := 2) rfl ?_); refine box_event ?hg (N := 2) ?hd (cs := #[.int .i64 0, .int .i64 0, .int .i64 0, .int .i64 0]) (t := 46) ?hr ?_; (case hd => rfl); (case hg => rfl); (case hr => first | (go_simp; done) | (go_simp; rfl)); intro gb hg w4 hbox hb; have BK := sd_ hbox; have GE := gw_ HB e0_ hg; replace HB := hb_ HB e0_ hb; clear hb hbox hg; have z0 := zc_ BK 0 rfl; have z1 := zc_ BK 1 rfl; have z2 := zc_ BK 2 rfl; have z3 := zc_ BK 3 rfl; have f0 := kf_ BK.out 0; have f1 := kf_ BK.out 1; have f2 := kf_ BK.out 2; have f3 := kf_ BK.out 3) | (go_at_call 45; refine (glyph_rowOf.calls 40 21 4 0 _ (by decide +kernel)).mono ?_; rintro e w5 ⟨rfl, hd⟩; have hb := Drawn0.below hd; clear hd; replace BK := kb_ BK hb; replace HB := hb_ HB (e_ GE e0_) hb; clear hb; have z0 := zc_ BK 0 rfl; have z1 := zc_ BK 1 rfl; have z2 := zc_ BK 2 rfl; have z3 := zc_ BK 3 rfl; have f0 := kf_ BK.out 0; have f1 := kf_ BK.out 1; have f2 := kf_ BK.out 2; have f3 := kf_ BK.out 3) | (go_at_call 46; refine (glyph_from.calls _ _ _ _ _ _ _ _ rfl).mono ?_; rintro e w5 ⟨rfl, hb⟩; replace BK := kb_ BK hb; replace HB := hb_ HB (e_ GE e0_) hb; clear hb; have z0 := zc_ BK 0 rfl; have z1 := zc_ BK 1 rfl; have z2 := zc_ BK 2 rfl; have z3 := zc_ BK 3 rfl; have f0 := kf_ BK.out 0; have f1 := kf_ BK.out 1; have f2 := kf_ BK.out 2; have f3 := kf_ BK.out 3))
  refine bodyPost_ret (results_cell_row rfl _ _ gb 46 #[.int .i64 0, .int .i64 (-1430), .int .i64 1020, .int .i64 1430] (0, 0) _ rfl (by refine blk_put (cs := #[.int .i64 0, .int .i64 (-1430), .int .i64 1020, .int .i64 0]) ?_ 3 _ rfl; refine blk_put (cs := #[.int .i64 0, .int .i64 (-1430), .int .i64 0, .int .i64 0]) ?_ 2 _ rfl; refine blk_put (cs := #[.int .i64 0, .int .i64 0, .int .i64 0, .int .i64 0]) ?_ 1 _ rfl; refine blk_put (cs := #[.int .i64 0, .int .i64 0, .int .i64 0, .int .i64 0]) ?_ 0 _ rfl; exact kk_ BK.out) Tryd.underlying46 rfl (by kernel_rfl)) rfl ?_
  exact ⟨rfl, bb_ HB.out (e_ GE e0_)⟩
 by_cases c22 : a0 = 22
 ·subst c22
  obtain ⟨rfl, rfl, rfl, rfl⟩ : 0 = r1 ∧ (-720) = r2 ∧ 920 = r3 ∧ 1800 = r4 := by simpa [glyph_full.f, fullT] using h
  clear h hr
  have hix : ∀ W, (Instr.index 74 (.agg #[.int .i64 0, .int .i64 (-1430), .int .i64 1020, .int .i64 1430, .int .i64 0, .int .i64 (-720), .int .i64 920, .int .i64 1800, .int .i64 0, .int .i64 (-1400), .int .i64 700, .int .i64 1400, .int .i64 0, .int .i64 (-520), .int .i64 1030, .int .i64 520, .int .i64 0, .int .i64 (-720), .int .i64 1660, .int .i64 1800]) (.int .i64 1)).run Tryd.prog W = .ok (.agg #[.int .i64 0, .int .i64 (-720), .int .i64 920, .int .i64 1800]) W := fun W => by kernel_rfl
  go_enter Tryd.func35, Tryd.ntmps35
  go_wp2_with (first | ((with_reducible refine gate_dst (N := 2) rfl ?_); refine box_event ?hg (N := 2) ?hd (cs := #[.int .i64 0, .int .i64 0, .int .i64 0, .int .i64 0]) (t := 46) ?hr ?_; (case hd => rfl); (case hg => rfl); (case hr => first | (go_simp; done) | (go_simp; rfl)); intro gb hg w4 hbox hb; have BK := sd_ hbox; have GE := gw_ HB e0_ hg; replace HB := hb_ HB e0_ hb; clear hb hbox hg; have z0 := zc_ BK 0 rfl; have z1 := zc_ BK 1 rfl; have z2 := zc_ BK 2 rfl; have z3 := zc_ BK 3 rfl; have f0 := kf_ BK.out 0; have f1 := kf_ BK.out 1; have f2 := kf_ BK.out 2; have f3 := kf_ BK.out 3) | (go_at_call 45; refine (glyph_rowOf.calls 40 22 4 1 _ (by decide +kernel)).mono ?_; rintro e w5 ⟨rfl, hd⟩; have hb := Drawn0.below hd; clear hd; replace BK := kb_ BK hb; replace HB := hb_ HB (e_ GE e0_) hb; clear hb; have z0 := zc_ BK 0 rfl; have z1 := zc_ BK 1 rfl; have z2 := zc_ BK 2 rfl; have z3 := zc_ BK 3 rfl; have f0 := kf_ BK.out 0; have f1 := kf_ BK.out 1; have f2 := kf_ BK.out 2; have f3 := kf_ BK.out 3) | (go_at_call 46; refine (glyph_from.calls _ _ _ _ _ _ _ _ rfl).mono ?_; rintro e w5 ⟨rfl, hb⟩; replace BK := kb_ BK hb; replace HB := hb_ HB (e_ GE e0_) hb; clear hb; have z0 := zc_ BK 0 rfl; have z1 := zc_ BK 1 rfl; have z2 := zc_ BK 2 rfl; have z3 := zc_ BK 3 rfl; have f0 := kf_ BK.out 0; have f1 := kf_ BK.out 1; have f2 := kf_ BK.out 2; have f3 := kf_ BK.out 3))
  refine bodyPost_ret (results_cell_row rfl _ _ gb 46 #[.int .i64 0, .int .i64 (-720), .int .i64 920, .int .i64 1800] (0, 0) _ rfl (by refine blk_put (cs := #[.int .i64 0, .int .i64 (-720), .int .i64 920, .int .i64 0]) ?_ 3 _ rfl; refine blk_put (cs := #[.int .i64 0, .int .i64 (-720), .int .i64 0, .int .i64 0]) ?_ 2 _ rfl; refine blk_put (cs := #[.int .i64 0, .int .i64 0, .int .i64 0, .int .i64 0]) ?_ 1 _ rfl; refine blk_put (cs := #[.int .i64 0, .int .i64 0, .int .i64 0, .int .i64 0]) ?_ 0 _ rfl; exact kk_ BK.out) Tryd.underlying46 rfl (by kernel_rfl)) rfl ?_
  exact ⟨rfl, bb_ HB.out (e_ GE e0_)⟩
 by_cases c23 : a0 = 23
 ·subst c23
  obtain ⟨rfl, rfl, rfl, rfl⟩ : 0 = r1 ∧ (-1400) = r2 ∧ 700 = r3 ∧ 1400 = r4 := by simpa [glyph_full.f, fullT] using h
  clear h hr
  have hix : ∀ W, (Instr.index 74 (.agg #[.int .i64 0, .int .i64 (-1430), .int .i64 1020, .int .i64 1430, .int .i64 0, .int .i64 (-720), .int .i64 920, .int .i64 1800, .int .i64 0, .int .i64 (-1400), .int .i64 700, .int .i64 1400, .int .i64 0, .int .i64 (-520), .int .i64 1030, .int .i64 520, .int .i64 0, .int .i64 (-720), .int .i64 1660, .int .i64 1800]) (.int .i64 2)).run Tryd.prog W = .ok (.agg #[.int .i64 0, .int .i64 (-1400), .int .i64 700, .int .i64 1400]) W := fun W => by kernel_rfl
  go_enter Tryd.func35, Tryd.ntmps35
  go_wp2_with (first | ((with_reducible refine gate_dst (N := 2) rfl ?_); refine box_event ?hg (N := 2) ?hd (cs := #[.int .i64 0, .int .i64 0, .int .i64 0, .int .i64 0]) (t := 46) ?hr ?_; (case hd => rfl); (case hg => rfl); (case hr => first | (go_simp; done) | (go_simp; rfl)); intro gb hg w4 hbox hb; have BK := sd_ hbox; have GE := gw_ HB e0_ hg; replace HB := hb_ HB e0_ hb; clear hb hbox hg; have z0 := zc_ BK 0 rfl; have z1 := zc_ BK 1 rfl; have z2 := zc_ BK 2 rfl; have z3 := zc_ BK 3 rfl; have f0 := kf_ BK.out 0; have f1 := kf_ BK.out 1; have f2 := kf_ BK.out 2; have f3 := kf_ BK.out 3) | (go_at_call 45; refine (glyph_rowOf.calls 40 23 4 2 _ (by decide +kernel)).mono ?_; rintro e w5 ⟨rfl, hd⟩; have hb := Drawn0.below hd; clear hd; replace BK := kb_ BK hb; replace HB := hb_ HB (e_ GE e0_) hb; clear hb; have z0 := zc_ BK 0 rfl; have z1 := zc_ BK 1 rfl; have z2 := zc_ BK 2 rfl; have z3 := zc_ BK 3 rfl; have f0 := kf_ BK.out 0; have f1 := kf_ BK.out 1; have f2 := kf_ BK.out 2; have f3 := kf_ BK.out 3) | (go_at_call 46; refine (glyph_from.calls _ _ _ _ _ _ _ _ rfl).mono ?_; rintro e w5 ⟨rfl, hb⟩; replace BK := kb_ BK hb; replace HB := hb_ HB (e_ GE e0_) hb; clear hb; have z0 := zc_ BK 0 rfl; have z1 := zc_ BK 1 rfl; have z2 := zc_ BK 2 rfl; have z3 := zc_ BK 3 rfl; have f0 := kf_ BK.out 0; have f1 := kf_ BK.out 1; have f2 := kf_ BK.out 2; have f3 := kf_ BK.out 3))
  refine bodyPost_ret (results_cell_row rfl _ _ gb 46 #[.int .i64 0, .int .i64 (-1400), .int .i64 700, .int .i64 1400] (0, 0) _ rfl (by refine blk_put (cs := #[.int .i64 0, .int .i64 (-1400), .int .i64 700, .int .i64 0]) ?_ 3 _ rfl; refine blk_put (cs := #[.int .i64 0, .int .i64 (-1400), .int .i64 0, .int .i64 0]) ?_ 2 _ rfl; refine blk_put (cs := #[.int .i64 0, .int .i64 0, .int .i64 0, .int .i64 0]) ?_ 1 _ rfl; refine blk_put (cs := #[.int .i64 0, .int .i64 0, .int .i64 0, .int .i64 0]) ?_ 0 _ rfl; exact kk_ BK.out) Tryd.underlying46 rfl (by kernel_rfl)) rfl ?_
  exact ⟨rfl, bb_ HB.out (e_ GE e0_)⟩
 by_cases c24 : a0 = 24
 ·subst c24
  obtain ⟨rfl, rfl, rfl, rfl⟩ : 0 = r1 ∧ (-520) = r2 ∧ 1030 = r3 ∧ 520 = r4 := by simpa [glyph_full.f, fullT] using h
  clear h hr
  have hix : ∀ W, (Instr.index 74 (.agg #[.int .i64 0, .int .i64 (-1430), .int .i64 1020, .int .i64 1430, .int .i64 0, .int .i64 (-720), .int .i64 920, .int .i64 1800, .int .i64 0, .int .i64 (-1400), .int .i64 700, .int .i64 1400, .int .i64 0, .int .i64 (-520), .int .i64 1030, .int .i64 520, .int .i64 0, .int .i64 (-720), .int .i64 1660, .int .i64 1800]) (.int .i64 3)).run Tryd.prog W = .ok (.agg #[.int .i64 0, .int .i64 (-520), .int .i64 1030, .int .i64 520]) W := fun W => by kernel_rfl
  go_enter Tryd.func35, Tryd.ntmps35
  go_wp2_with (first | ((with_reducible refine gate_dst (N := 2) rfl ?_); refine box_event ?hg (N := 2) ?hd (cs := #[.int .i64 0, .int .i64 0, .int .i64 0, .int .i64 0]) (t := 46) ?hr ?_; (case hd => rfl); (case hg => rfl); (case hr => first | (go_simp; done) | (go_simp; rfl)); intro gb hg w4 hbox hb; have BK := sd_ hbox; have GE := gw_ HB e0_ hg; replace HB := hb_ HB e0_ hb; clear hb hbox hg; have z0 := zc_ BK 0 rfl; have z1 := zc_ BK 1 rfl; have z2 := zc_ BK 2 rfl; have z3 := zc_ BK 3 rfl; have f0 := kf_ BK.out 0; have f1 := kf_ BK.out 1; have f2 := kf_ BK.out 2; have f3 := kf_ BK.out 3) | (go_at_call 45; refine (glyph_rowOf.calls 40 24 4 3 _ (by decide +kernel)).mono ?_; rintro e w5 ⟨rfl, hd⟩; have hb := Drawn0.below hd; clear hd; replace BK := kb_ BK hb; replace HB := hb_ HB (e_ GE e0_) hb; clear hb; have z0 := zc_ BK 0 rfl; have z1 := zc_ BK 1 rfl; have z2 := zc_ BK 2 rfl; have z3 := zc_ BK 3 rfl; have f0 := kf_ BK.out 0; have f1 := kf_ BK.out 1; have f2 := kf_ BK.out 2; have f3 := kf_ BK.out 3) | (go_at_call 46; refine (glyph_from.calls _ _ _ _ _ _ _ _ rfl).mono ?_; rintro e w5 ⟨rfl, hb⟩; replace BK := kb_ BK hb; replace HB := hb_ HB (e_ GE e0_) hb; clear hb; have z0 := zc_ BK 0 rfl; have z1 := zc_ BK 1 rfl; have z2 := zc_ BK 2 rfl; have z3 := zc_ BK 3 rfl; have f0 := kf_ BK.out 0; have f1 := kf_ BK.out 1; have f2 := kf_ BK.out 2; have f3 := kf_ BK.out 3))
  refine bodyPost_ret (results_cell_row rfl _ _ gb 46 #[.int .i64 0, .int .i64 (-520), .int .i64 1030, .int .i64 520] (0, 0) _ rfl (by refine blk_put (cs := #[.int .i64 0, .int .i64 (-520), .int .i64 1030, .int .i64 0]) ?_ 3 _ rfl; refine blk_put (cs := #[.int .i64 0, .int .i64 (-520), .int .i64 0, .int .i64 0]) ?_ 2 _ rfl; refine blk_put (cs := #[.int .i64 0, .int .i64 0, .int .i64 0, .int .i64 0]) ?_ 1 _ rfl; refine blk_put (cs := #[.int .i64 0, .int .i64 0, .int .i64 0, .int .i64 0]) ?_ 0 _ rfl; exact kk_ BK.out) Tryd.underlying46 rfl (by kernel_rfl)) rfl ?_
  exact ⟨rfl, bb_ HB.out (e_ GE e0_)⟩
 by_cases c25 : a0 = 25
 ·subst c25
  obtain ⟨rfl, rfl, rfl, rfl⟩ : 0 = r1 ∧ (-720) = r2 ∧ 1660 = r3 ∧ 1800 = r4 := by simpa [glyph_full.f, fullT] using h
  clear h hr
  have hix : ∀ W, (Instr.index 74 (.agg #[.int .i64 0, .int .i64 (-1430), .int .i64 1020, .int .i64 1430, .int .i64 0, .int .i64 (-720), .int .i64 920, .int .i64 1800, .int .i64 0, .int .i64 (-1400), .int .i64 700, .int .i64 1400, .int .i64 0, .int .i64 (-520), .int .i64 1030, .int .i64 520, .int .i64 0, .int .i64 (-720), .int .i64 1660, .int .i64 1800]) (.int .i64 4)).run Tryd.prog W = .ok (.agg #[.int .i64 0, .int .i64 (-720), .int .i64 1660, .int .i64 1800]) W := fun W => by kernel_rfl
  go_enter Tryd.func35, Tryd.ntmps35
  go_wp2_with (first | ((with_reducible refine gate_dst (N := 2) rfl ?_); refine box_event ?hg (N := 2) ?hd (cs := #[.int .i64 0, .int .i64 0, .int .i64 0, .int .i64 0]) (t := 46) ?hr ?_; (case hd => rfl); (case hg => rfl); (case hr => first | (go_simp; done) | (go_simp; rfl)); intro gb hg w4 hbox hb; have BK := sd_ hbox; have GE := gw_ HB e0_ hg; replace HB := hb_ HB e0_ hb; clear hb hbox hg; have z0 := zc_ BK 0 rfl; have z1 := zc_ BK 1 rfl; have z2 := zc_ BK 2 rfl; have z3 := zc_ BK 3 rfl; have f0 := kf_ BK.out 0; have f1 := kf_ BK.out 1; have f2 := kf_ BK.out 2; have f3 := kf_ BK.out 3) | (go_at_call 45; refine (glyph_rowOf.calls 40 25 4 4 _ (by decide +kernel)).mono ?_; rintro e w5 ⟨rfl, hd⟩; have hb := Drawn0.below hd; clear hd; replace BK := kb_ BK hb; replace HB := hb_ HB (e_ GE e0_) hb; clear hb; have z0 := zc_ BK 0 rfl; have z1 := zc_ BK 1 rfl; have z2 := zc_ BK 2 rfl; have z3 := zc_ BK 3 rfl; have f0 := kf_ BK.out 0; have f1 := kf_ BK.out 1; have f2 := kf_ BK.out 2; have f3 := kf_ BK.out 3) | (go_at_call 46; refine (glyph_from.calls _ _ _ _ _ _ _ _ rfl).mono ?_; rintro e w5 ⟨rfl, hb⟩; replace BK := kb_ BK hb; replace HB := hb_ HB (e_ GE e0_) hb; clear hb; have z0 := zc_ BK 0 rfl; have z1 := zc_ BK 1 rfl; have z2 := zc_ BK 2 rfl; have z3 := zc_ BK 3 rfl; have f0 := kf_ BK.out 0; have f1 := kf_ BK.out 1; have f2 := kf_ BK.out 2; have f3 := kf_ BK.out 3))
  refine bodyPost_ret (results_cell_row rfl _ _ gb 46 #[.int .i64 0, .int .i64 (-720), .int .i64 1660, .int .i64 1800] (0, 0) _ rfl (by refine blk_put (cs := #[.int .i64 0, .int .i64 (-720), .int .i64 1660, .int .i64 0]) ?_ 3 _ rfl; refine blk_put (cs := #[.int .i64 0, .int .i64 (-720), .int .i64 0, .int .i64 0]) ?_ 2 _ rfl; refine blk_put (cs := #[.int .i64 0, .int .i64 0, .int .i64 0, .int .i64 0]) ?_ 1 _ rfl; refine blk_put (cs := #[.int .i64 0, .int .i64 0, .int .i64 0, .int .i64 0]) ?_ 0 _ rfl; exact kk_ BK.out) Tryd.underlying46 rfl (by kernel_rfl)) rfl ?_
  exact ⟨rfl, bb_ HB.out (e_ GE e0_)⟩
 exact absurd hr (by omega)
set_option maxHeartbeats 16000000 in
set_option maxRecDepth 100000 in
theorem glyph_full.row5 (a0 : Int) (r1 r2 r3 r4 : Int) (w : World) (hr : 26 ≤ a0 ∧ a0 ≤ 29) (h : glyph_full.f a0 = some (r1, r2, r3, r4)) :
  Calls Tryd.prog 35 #[.int .i64 a0] w fun e w' => e = .returned (.agg #[.int .i64 r1, .int .i64 r2, .int .i64 r3, .int .i64 r4]) ∧ Below w.heap.size w w' := by
 have hu := Tryd.underlying46
 have HB := sd_ (Below.refl w.heap.size w)
 by_cases c26 : a0 = 26
 ·subst c26
  obtain ⟨rfl, rfl, rfl, rfl⟩ : 0 = r1 ∧ (-2700) = r2 ∧ 2750 = r3 ∧ 4500 = r4 := by simpa [glyph_full.f, fullT] using h
  clear h hr
  have hix : ∀ W, (Instr.index 75 (.agg #[.int .i64 0, .int .i64 (-2700), .int .i64 2750, .int .i64 4500, .int .i64 0, .int .i64 (-2600), .int .i64 2800, .int .i64 1100, .int .i64 0, .int .i64 (-2100), .int .i64 2860, .int .i64 2100, .int .i64 0, .int .i64 (-2100), .int .i64 2860, .int .i64 2100]) (.int .i64 0)).run Tryd.prog W = .ok (.agg #[.int .i64 0, .int .i64 (-2700), .int .i64 2750, .int .i64 4500]) W := fun W => by kernel_rfl
  go_enter Tryd.func35, Tryd.ntmps35
  go_wp2_with (first | ((with_reducible refine gate_dst (N := 2) rfl ?_); refine box_event ?hg (N := 2) ?hd (cs := #[.int .i64 0, .int .i64 0, .int .i64 0, .int .i64 0]) (t := 46) ?hr ?_; (case hd => rfl); (case hg => rfl); (case hr => first | (go_simp; done) | (go_simp; rfl)); intro gb hg w4 hbox hb; have BK := sd_ hbox; have GE := gw_ HB e0_ hg; replace HB := hb_ HB e0_ hb; clear hb hbox hg; have z0 := zc_ BK 0 rfl; have z1 := zc_ BK 1 rfl; have z2 := zc_ BK 2 rfl; have z3 := zc_ BK 3 rfl; have f0 := kf_ BK.out 0; have f1 := kf_ BK.out 1; have f2 := kf_ BK.out 2; have f3 := kf_ BK.out 3) | (go_at_call 45; refine (glyph_rowOf.calls 40 26 5 0 _ (by decide +kernel)).mono ?_; rintro e w5 ⟨rfl, hd⟩; have hb := Drawn0.below hd; clear hd; replace BK := kb_ BK hb; replace HB := hb_ HB (e_ GE e0_) hb; clear hb; have z0 := zc_ BK 0 rfl; have z1 := zc_ BK 1 rfl; have z2 := zc_ BK 2 rfl; have z3 := zc_ BK 3 rfl; have f0 := kf_ BK.out 0; have f1 := kf_ BK.out 1; have f2 := kf_ BK.out 2; have f3 := kf_ BK.out 3) | (go_at_call 46; refine (glyph_from.calls _ _ _ _ _ _ _ _ rfl).mono ?_; rintro e w5 ⟨rfl, hb⟩; replace BK := kb_ BK hb; replace HB := hb_ HB (e_ GE e0_) hb; clear hb; have z0 := zc_ BK 0 rfl; have z1 := zc_ BK 1 rfl; have z2 := zc_ BK 2 rfl; have z3 := zc_ BK 3 rfl; have f0 := kf_ BK.out 0; have f1 := kf_ BK.out 1; have f2 := kf_ BK.out 2; have f3 := kf_ BK.out 3))
  refine bodyPost_ret (results_cell_row rfl _ _ gb 46 #[.int .i64 0, .int .i64 (-2700), .int .i64 2750, .int .i64 4500] (0, 0) _ rfl (by refine blk_put (cs := #[.int .i64 0, .int .i64 (-2700), .int .i64 2750, .int .i64 0]) ?_ 3 _ rfl; refine blk_put (cs := #[.int .i64 0, .int .i64 (-2700), .int .i64 0, .int .i64 0]) ?_ 2 _ rfl; refine blk_put (cs := #[.int .i64 0, .int .i64 0, .int .i64 0, .int .i64 0]) ?_ 1 _ rfl; refine blk_put (cs := #[.int .i64 0, .int .i64 0, .int .i64 0, .int .i64 0]) ?_ 0 _ rfl; exact kk_ BK.out) Tryd.underlying46 rfl (by kernel_rfl)) rfl ?_
  exact ⟨rfl, bb_ HB.out (e_ GE e0_)⟩
 by_cases c27 : a0 = 27
 ·subst c27
  obtain ⟨rfl, rfl, rfl, rfl⟩ : 0 = r1 ∧ (-2600) = r2 ∧ 2800 = r3 ∧ 1100 = r4 := by simpa [glyph_full.f, fullT] using h
  clear h hr
  have hix : ∀ W, (Instr.index 75 (.agg #[.int .i64 0, .int .i64 (-2700), .int .i64 2750, .int .i64 4500, .int .i64 0, .int .i64 (-2600), .int .i64 2800, .int .i64 1100, .int .i64 0, .int .i64 (-2100), .int .i64 2860, .int .i64 2100, .int .i64 0, .int .i64 (-2100), .int .i64 2860, .int .i64 2100]) (.int .i64 1)).run Tryd.prog W = .ok (.agg #[.int .i64 0, .int .i64 (-2600), .int .i64 2800, .int .i64 1100]) W := fun W => by kernel_rfl
  go_enter Tryd.func35, Tryd.ntmps35
  go_wp2_with (first | ((with_reducible refine gate_dst (N := 2) rfl ?_); refine box_event ?hg (N := 2) ?hd (cs := #[.int .i64 0, .int .i64 0, .int .i64 0, .int .i64 0]) (t := 46) ?hr ?_; (case hd => rfl); (case hg => rfl); (case hr => first | (go_simp; done) | (go_simp; rfl)); intro gb hg w4 hbox hb; have BK := sd_ hbox; have GE := gw_ HB e0_ hg; replace HB := hb_ HB e0_ hb; clear hb hbox hg; have z0 := zc_ BK 0 rfl; have z1 := zc_ BK 1 rfl; have z2 := zc_ BK 2 rfl; have z3 := zc_ BK 3 rfl; have f0 := kf_ BK.out 0; have f1 := kf_ BK.out 1; have f2 := kf_ BK.out 2; have f3 := kf_ BK.out 3) | (go_at_call 45; refine (glyph_rowOf.calls 40 27 5 1 _ (by decide +kernel)).mono ?_; rintro e w5 ⟨rfl, hd⟩; have hb := Drawn0.below hd; clear hd; replace BK := kb_ BK hb; replace HB := hb_ HB (e_ GE e0_) hb; clear hb; have z0 := zc_ BK 0 rfl; have z1 := zc_ BK 1 rfl; have z2 := zc_ BK 2 rfl; have z3 := zc_ BK 3 rfl; have f0 := kf_ BK.out 0; have f1 := kf_ BK.out 1; have f2 := kf_ BK.out 2; have f3 := kf_ BK.out 3) | (go_at_call 46; refine (glyph_from.calls _ _ _ _ _ _ _ _ rfl).mono ?_; rintro e w5 ⟨rfl, hb⟩; replace BK := kb_ BK hb; replace HB := hb_ HB (e_ GE e0_) hb; clear hb; have z0 := zc_ BK 0 rfl; have z1 := zc_ BK 1 rfl; have z2 := zc_ BK 2 rfl; have z3 := zc_ BK 3 rfl; have f0 := kf_ BK.out 0; have f1 := kf_ BK.out 1; have f2 := kf_ BK.out 2; have f3 := kf_ BK.out 3))
  refine bodyPost_ret (results_cell_row rfl _ _ gb 46 #[.int .i64 0, .int .i64 (-2600), .int .i64 2800, .int .i64 1100] (0, 0) _ rfl (by refine blk_put (cs := #[.int .i64 0, .int .i64 (-2600), .int .i64 2800, .int .i64 0]) ?_ 3 _ rfl; refine blk_put (cs := #[.int .i64 0, .int .i64 (-2600), .int .i64 0, .int .i64 0]) ?_ 2 _ rfl; refine blk_put (cs := #[.int .i64 0, .int .i64 0, .int .i64 0, .int .i64 0]) ?_ 1 _ rfl; refine blk_put (cs := #[.int .i64 0, .int .i64 0, .int .i64 0, .int .i64 0]) ?_ 0 _ rfl; exact kk_ BK.out) Tryd.underlying46 rfl (by kernel_rfl)) rfl ?_
  exact ⟨rfl, bb_ HB.out (e_ GE e0_)⟩
 by_cases c28 : a0 = 28
 ·subst c28
  obtain ⟨rfl, rfl, rfl, rfl⟩ : 0 = r1 ∧ (-2100) = r2 ∧ 2860 = r3 ∧ 2100 = r4 := by simpa [glyph_full.f, fullT] using h
  clear h hr
  have hix : ∀ W, (Instr.index 75 (.agg #[.int .i64 0, .int .i64 (-2700), .int .i64 2750, .int .i64 4500, .int .i64 0, .int .i64 (-2600), .int .i64 2800, .int .i64 1100, .int .i64 0, .int .i64 (-2100), .int .i64 2860, .int .i64 2100, .int .i64 0, .int .i64 (-2100), .int .i64 2860, .int .i64 2100]) (.int .i64 2)).run Tryd.prog W = .ok (.agg #[.int .i64 0, .int .i64 (-2100), .int .i64 2860, .int .i64 2100]) W := fun W => by kernel_rfl
  go_enter Tryd.func35, Tryd.ntmps35
  go_wp2_with (first | ((with_reducible refine gate_dst (N := 2) rfl ?_); refine box_event ?hg (N := 2) ?hd (cs := #[.int .i64 0, .int .i64 0, .int .i64 0, .int .i64 0]) (t := 46) ?hr ?_; (case hd => rfl); (case hg => rfl); (case hr => first | (go_simp; done) | (go_simp; rfl)); intro gb hg w4 hbox hb; have BK := sd_ hbox; have GE := gw_ HB e0_ hg; replace HB := hb_ HB e0_ hb; clear hb hbox hg; have z0 := zc_ BK 0 rfl; have z1 := zc_ BK 1 rfl; have z2 := zc_ BK 2 rfl; have z3 := zc_ BK 3 rfl; have f0 := kf_ BK.out 0; have f1 := kf_ BK.out 1; have f2 := kf_ BK.out 2; have f3 := kf_ BK.out 3) | (go_at_call 45; refine (glyph_rowOf.calls 40 28 5 2 _ (by decide +kernel)).mono ?_; rintro e w5 ⟨rfl, hd⟩; have hb := Drawn0.below hd; clear hd; replace BK := kb_ BK hb; replace HB := hb_ HB (e_ GE e0_) hb; clear hb; have z0 := zc_ BK 0 rfl; have z1 := zc_ BK 1 rfl; have z2 := zc_ BK 2 rfl; have z3 := zc_ BK 3 rfl; have f0 := kf_ BK.out 0; have f1 := kf_ BK.out 1; have f2 := kf_ BK.out 2; have f3 := kf_ BK.out 3) | (go_at_call 46; refine (glyph_from.calls _ _ _ _ _ _ _ _ rfl).mono ?_; rintro e w5 ⟨rfl, hb⟩; replace BK := kb_ BK hb; replace HB := hb_ HB (e_ GE e0_) hb; clear hb; have z0 := zc_ BK 0 rfl; have z1 := zc_ BK 1 rfl; have z2 := zc_ BK 2 rfl; have z3 := zc_ BK 3 rfl; have f0 := kf_ BK.out 0; have f1 := kf_ BK.out 1; have f2 := kf_ BK.out 2; have f3 := kf_ BK.out 3))
  refine bodyPost_ret (results_cell_row rfl _ _ gb 46 #[.int .i64 0, .int .i64 (-2100), .int .i64 2860, .int .i64 2100] (0, 0) _ rfl (by refine blk_put (cs := #[.int .i64 0, .int .i64 (-2100), .int .i64 2860, .int .i64 0]) ?_ 3 _ rfl; refine blk_put (cs := #[.int .i64 0, .int .i64 (-2100), .int .i64 0, .int .i64 0]) ?_ 2 _ rfl; refine blk_put (cs := #[.int .i64 0, .int .i64 0, .int .i64 0, .int .i64 0]) ?_ 1 _ rfl; refine blk_put (cs := #[.int .i64 0, .int .i64 0, .int .i64 0, .int .i64 0]) ?_ 0 _ rfl; exact kk_ BK.out) Tryd.underlying46 rfl (by kernel_rfl)) rfl ?_
  exact ⟨rfl, bb_ HB.out (e_ GE e0_)⟩
 by_cases c29 : a0 = 29
 ·subst c29
  obtain ⟨rfl, rfl, rfl, rfl⟩ : 0 = r1 ∧ (-2100) = r2 ∧ 2860 = r3 ∧ 2100 = r4 := by simpa [glyph_full.f, fullT] using h
  clear h hr
  have hix : ∀ W, (Instr.index 75 (.agg #[.int .i64 0, .int .i64 (-2700), .int .i64 2750, .int .i64 4500, .int .i64 0, .int .i64 (-2600), .int .i64 2800, .int .i64 1100, .int .i64 0, .int .i64 (-2100), .int .i64 2860, .int .i64 2100, .int .i64 0, .int .i64 (-2100), .int .i64 2860, .int .i64 2100]) (.int .i64 3)).run Tryd.prog W = .ok (.agg #[.int .i64 0, .int .i64 (-2100), .int .i64 2860, .int .i64 2100]) W := fun W => by kernel_rfl
  go_enter Tryd.func35, Tryd.ntmps35
  go_wp2_with (first | ((with_reducible refine gate_dst (N := 2) rfl ?_); refine box_event ?hg (N := 2) ?hd (cs := #[.int .i64 0, .int .i64 0, .int .i64 0, .int .i64 0]) (t := 46) ?hr ?_; (case hd => rfl); (case hg => rfl); (case hr => first | (go_simp; done) | (go_simp; rfl)); intro gb hg w4 hbox hb; have BK := sd_ hbox; have GE := gw_ HB e0_ hg; replace HB := hb_ HB e0_ hb; clear hb hbox hg; have z0 := zc_ BK 0 rfl; have z1 := zc_ BK 1 rfl; have z2 := zc_ BK 2 rfl; have z3 := zc_ BK 3 rfl; have f0 := kf_ BK.out 0; have f1 := kf_ BK.out 1; have f2 := kf_ BK.out 2; have f3 := kf_ BK.out 3) | (go_at_call 45; refine (glyph_rowOf.calls 40 29 5 3 _ (by decide +kernel)).mono ?_; rintro e w5 ⟨rfl, hd⟩; have hb := Drawn0.below hd; clear hd; replace BK := kb_ BK hb; replace HB := hb_ HB (e_ GE e0_) hb; clear hb; have z0 := zc_ BK 0 rfl; have z1 := zc_ BK 1 rfl; have z2 := zc_ BK 2 rfl; have z3 := zc_ BK 3 rfl; have f0 := kf_ BK.out 0; have f1 := kf_ BK.out 1; have f2 := kf_ BK.out 2; have f3 := kf_ BK.out 3) | (go_at_call 46; refine (glyph_from.calls _ _ _ _ _ _ _ _ rfl).mono ?_; rintro e w5 ⟨rfl, hb⟩; replace BK := kb_ BK hb; replace HB := hb_ HB (e_ GE e0_) hb; clear hb; have z0 := zc_ BK 0 rfl; have z1 := zc_ BK 1 rfl; have z2 := zc_ BK 2 rfl; have z3 := zc_ BK 3 rfl; have f0 := kf_ BK.out 0; have f1 := kf_ BK.out 1; have f2 := kf_ BK.out 2; have f3 := kf_ BK.out 3))
  refine bodyPost_ret (results_cell_row rfl _ _ gb 46 #[.int .i64 0, .int .i64 (-2100), .int .i64 2860, .int .i64 2100] (0, 0) _ rfl (by refine blk_put (cs := #[.int .i64 0, .int .i64 (-2100), .int .i64 2860, .int .i64 0]) ?_ 3 _ rfl; refine blk_put (cs := #[.int .i64 0, .int .i64 (-2100), .int .i64 0, .int .i64 0]) ?_ 2 _ rfl; refine blk_put (cs := #[.int .i64 0, .int .i64 0, .int .i64 0, .int .i64 0]) ?_ 1 _ rfl; refine blk_put (cs := #[.int .i64 0, .int .i64 0, .int .i64 0, .int .i64 0]) ?_ 0 _ rfl; exact kk_ BK.out) Tryd.underlying46 rfl (by kernel_rfl)) rfl ?_
  exact ⟨rfl, bb_ HB.out (e_ GE e0_)⟩
 exact absurd hr (by omega)
set_option maxHeartbeats 16000000 in
set_option maxRecDepth 100000 in
theorem glyph_full.row6 (a0 : Int) (r1 r2 r3 r4 : Int) (w : World) (hr : 30 ≤ a0 ∧ a0 ≤ 39) (h : glyph_full.f a0 = some (r1, r2, r3, r4)) :
  Calls Tryd.prog 35 #[.int .i64 a0] w fun e w' => e = .returned (.agg #[.int .i64 r1, .int .i64 r2, .int .i64 r3, .int .i64 r4]) ∧ Below w.heap.size w w' := by
 have hu := Tryd.underlying46
 have HB := sd_ (Below.refl w.heap.size w)
 by_cases c30 : a0 = 30
 ·subst c30
  obtain ⟨rfl, rfl, rfl, rfl⟩ : 0 = r1 ∧ (-1024) = r2 ∧ 1740 = r3 ∧ 1024 = r4 := by simpa [glyph_full.f, fullT] using h
  clear h hr
  go_enter Tryd.func35, Tryd.ntmps35
  go_wp2_with (first | ((with_reducible refine gate_dst (N := 2) rfl ?_); refine box_event ?hg (N := 2) ?hd (cs := #[.int .i64 0, .int .i64 0, .int .i64 0, .int .i64 0]) (t := 46) ?hr ?_; (case hd => rfl); (case hg => rfl); (case hr => first | (go_simp; done) | (go_simp; rfl)); intro gb hg w4 hbox hb; have BK := sd_ hbox; have GE := gw_ HB e0_ hg; replace HB := hb_ HB e0_ hb; clear hb hbox hg; have z0 := zc_ BK 0 rfl; have z1 := zc_ BK 1 rfl; have z2 := zc_ BK 2 rfl; have z3 := zc_ BK 3 rfl; have f0 := kf_ BK.out 0; have f1 := kf_ BK.out 1; have f2 := kf_ BK.out 2; have f3 := kf_ BK.out 3) | (go_at_call 45; refine (glyph_rowOf.calls 40 30 6 0 _ (by decide +kernel)).mono ?_; rintro e w5 ⟨rfl, hd⟩; have hb := Drawn0.below hd; clear hd; replace BK := kb_ BK hb; replace HB := hb_ HB (e_ GE e0_) hb; clear hb; have z0 := zc_ BK 0 rfl; have z1 := zc_ BK 1 rfl; have z2 := zc_ BK 2 rfl; have z3 := zc_ BK 3 rfl; have f0 := kf_ BK.out 0; have f1 := kf_ BK.out 1; have f2 := kf_ BK.out 2; have f3 := kf_ BK.out 3) | (go_at_call 46; refine (glyph_from.calls _ _ _ _ _ _ _ _ rfl).mono ?_; rintro e w5 ⟨rfl, hb⟩; replace BK := kb_ BK hb; replace HB := hb_ HB (e_ GE e0_) hb; clear hb; have z0 := zc_ BK 0 rfl; have z1 := zc_ BK 1 rfl; have z2 := zc_ BK 2 rfl; have z3 := zc_ BK 3 rfl; have f0 := kf_ BK.out 0; have f1 := kf_ BK.out 1; have f2 := kf_ BK.out 2; have f3 := kf_ BK.out 3))
  refine bodyPost_ret (results_cell_row rfl _ _ gb 46 #[.int .i64 0, .int .i64 (-1024), .int .i64 1740, .int .i64 1024] (0, 0) _ rfl (by refine blk_put (cs := #[.int .i64 0, .int .i64 (-1024), .int .i64 1740, .int .i64 0]) ?_ 3 _ rfl; refine blk_put (cs := #[.int .i64 0, .int .i64 (-1024), .int .i64 0, .int .i64 0]) ?_ 2 _ rfl; refine blk_put (cs := #[.int .i64 0, .int .i64 0, .int .i64 0, .int .i64 0]) ?_ 1 _ rfl; refine blk_put (cs := #[.int .i64 0, .int .i64 0, .int .i64 0, .int .i64 0]) ?_ 0 _ rfl; exact kk_ BK.out) Tryd.underlying46 rfl (by kernel_rfl)) rfl ?_
  exact ⟨rfl, bb_ HB.out (e_ GE e0_)⟩
 by_cases c31 : a0 = 31
 ·subst c31
  obtain ⟨rfl, rfl, rfl, rfl⟩ : 0 = r1 ∧ (-1024) = r2 ∧ 1300 = r3 ∧ 1024 = r4 := by simpa [glyph_full.f, fullT] using h
  clear h hr
  go_enter Tryd.func35, Tryd.ntmps35
  go_wp2_with (first | ((with_reducible refine gate_dst (N := 2) rfl ?_); refine box_event ?hg (N := 2) ?hd (cs := #[.int .i64 0, .int .i64 0, .int .i64 0, .int .i64 0]) (t := 46) ?hr ?_; (case hd => rfl); (case hg => rfl); (case hr => first | (go_simp; done) | (go_simp; rfl)); intro gb hg w4 hbox hb; have BK := sd_ hbox; have GE := gw_ HB e0_ hg; replace HB := hb_ HB e0_ hb; clear hb hbox hg; have z0 := zc_ BK 0 rfl; have z1 := zc_ BK 1 rfl; have z2 := zc_ BK 2 rfl; have z3 := zc_ BK 3 rfl; have f0 := kf_ BK.out 0; have f1 := kf_ BK.out 1; have f2 := kf_ BK.out 2; have f3 := kf_ BK.out 3) | (go_at_call 45; refine (glyph_rowOf.calls 40 31 6 1 _ (by decide +kernel)).mono ?_; rintro e w5 ⟨rfl, hd⟩; have hb := Drawn0.below hd; clear hd; replace BK := kb_ BK hb; replace HB := hb_ HB (e_ GE e0_) hb; clear hb; have z0 := zc_ BK 0 rfl; have z1 := zc_ BK 1 rfl; have z2 := zc_ BK 2 rfl; have z3 := zc_ BK 3 rfl; have f0 := kf_ BK.out 0; have f1 := kf_ BK.out 1; have f2 := kf_ BK.out 2; have f3 := kf_ BK.out 3) | (go_at_call 46; refine (glyph_from.calls _ _ _ _ _ _ _ _ rfl).mono ?_; rintro e w5 ⟨rfl, hb⟩; replace BK := kb_ BK hb; replace HB := hb_ HB (e_ GE e0_) hb; clear hb; have z0 := zc_ BK 0 rfl; have z1 := zc_ BK 1 rfl; have z2 := zc_ BK 2 rfl; have z3 := zc_ BK 3 rfl; have f0 := kf_ BK.out 0; have f1 := kf_ BK.out 1; have f2 := kf_ BK.out 2; have f3 := kf_ BK.out 3))
  refine bodyPost_ret (results_cell_row rfl _ _ gb 46 #[.int .i64 0, .int .i64 (-1024), .int .i64 1300, .int .i64 1024] (0, 0) _ rfl (by refine blk_put (cs := #[.int .i64 0, .int .i64 (-1024), .int .i64 1300, .int .i64 0]) ?_ 3 _ rfl; refine blk_put (cs := #[.int .i64 0, .int .i64 (-1024), .int .i64 0, .int .i64 0]) ?_ 2 _ rfl; refine blk_put (cs := #[.int .i64 0, .int .i64 0, .int .i64 0, .int .i64 0]) ?_ 1 _ rfl; refine blk_put (cs := #[.int .i64 0, .int .i64 0, .int .i64 0, .int .i64 0]) ?_ 0 _ rfl; exact kk_ BK.out) Tryd.underlying46 rfl (by kernel_rfl)) rfl ?_
  exact ⟨rfl, bb_ HB.out (e_ GE e0_)⟩
 by_cases c32 : a0 = 32
 ·subst c32
  obtain ⟨rfl, rfl, rfl, rfl⟩ : 0 = r1 ∧ (-1024) = r2 ∧ 1740 = r3 ∧ 1024 = r4 := by simpa [glyph_full.f, fullT] using h
  clear h hr
  go_enter Tryd.func35, Tryd.ntmps35
  go_wp2_with (first | ((with_reducible refine gate_dst (N := 2) rfl ?_); refine box_event ?hg (N := 2) ?hd (cs := #[.int .i64 0, .int .i64 0, .int .i64 0, .int .i64 0]) (t := 46) ?hr ?_; (case hd => rfl); (case hg => rfl); (case hr => first | (go_simp; done) | (go_simp; rfl)); intro gb hg w4 hbox hb; have BK := sd_ hbox; have GE := gw_ HB e0_ hg; replace HB := hb_ HB e0_ hb; clear hb hbox hg; have z0 := zc_ BK 0 rfl; have z1 := zc_ BK 1 rfl; have z2 := zc_ BK 2 rfl; have z3 := zc_ BK 3 rfl; have f0 := kf_ BK.out 0; have f1 := kf_ BK.out 1; have f2 := kf_ BK.out 2; have f3 := kf_ BK.out 3) | (go_at_call 45; refine (glyph_rowOf.calls 40 32 6 2 _ (by decide +kernel)).mono ?_; rintro e w5 ⟨rfl, hd⟩; have hb := Drawn0.below hd; clear hd; replace BK := kb_ BK hb; replace HB := hb_ HB (e_ GE e0_) hb; clear hb; have z0 := zc_ BK 0 rfl; have z1 := zc_ BK 1 rfl; have z2 := zc_ BK 2 rfl; have z3 := zc_ BK 3 rfl; have f0 := kf_ BK.out 0; have f1 := kf_ BK.out 1; have f2 := kf_ BK.out 2; have f3 := kf_ BK.out 3) | (go_at_call 46; refine (glyph_from.calls _ _ _ _ _ _ _ _ rfl).mono ?_; rintro e w5 ⟨rfl, hb⟩; replace BK := kb_ BK hb; replace HB := hb_ HB (e_ GE e0_) hb; clear hb; have z0 := zc_ BK 0 rfl; have z1 := zc_ BK 1 rfl; have z2 := zc_ BK 2 rfl; have z3 := zc_ BK 3 rfl; have f0 := kf_ BK.out 0; have f1 := kf_ BK.out 1; have f2 := kf_ BK.out 2; have f3 := kf_ BK.out 3))
  refine bodyPost_ret (results_cell_row rfl _ _ gb 46 #[.int .i64 0, .int .i64 (-1024), .int .i64 1740, .int .i64 1024] (0, 0) _ rfl (by refine blk_put (cs := #[.int .i64 0, .int .i64 (-1024), .int .i64 1740, .int .i64 0]) ?_ 3 _ rfl; refine blk_put (cs := #[.int .i64 0, .int .i64 (-1024), .int .i64 0, .int .i64 0]) ?_ 2 _ rfl; refine blk_put (cs := #[.int .i64 0, .int .i64 0, .int .i64 0, .int .i64 0]) ?_ 1 _ rfl; refine blk_put (cs := #[.int .i64 0, .int .i64 0, .int .i64 0, .int .i64 0]) ?_ 0 _ rfl; exact kk_ BK.out) Tryd.underlying46 rfl (by kernel_rfl)) rfl ?_
  exact ⟨rfl, bb_ HB.out (e_ GE e0_)⟩
 by_cases c33 : a0 = 33
 ·subst c33
  obtain ⟨rfl, rfl, rfl, rfl⟩ : 0 = r1 ∧ (-1024) = r2 ∧ 1740 = r3 ∧ 1024 = r4 := by simpa [glyph_full.f, fullT] using h
  clear h hr
  go_enter Tryd.func35, Tryd.ntmps35
  go_wp2_with (first | ((with_reducible refine gate_dst (N := 2) rfl ?_); refine box_event ?hg (N := 2) ?hd (cs := #[.int .i64 0, .int .i64 0, .int .i64 0, .int .i64 0]) (t := 46) ?hr ?_; (case hd => rfl); (case hg => rfl); (case hr => first | (go_simp; done) | (go_simp; rfl)); intro gb hg w4 hbox hb; have BK := sd_ hbox; have GE := gw_ HB e0_ hg; replace HB := hb_ HB e0_ hb; clear hb hbox hg; have z0 := zc_ BK 0 rfl; have z1 := zc_ BK 1 rfl; have z2 := zc_ BK 2 rfl; have z3 := zc_ BK 3 rfl; have f0 := kf_ BK.out 0; have f1 := kf_ BK.out 1; have f2 := kf_ BK.out 2; have f3 := kf_ BK.out 3) | (go_at_call 45; refine (glyph_rowOf.calls 40 33 6 3 _ (by decide +kernel)).mono ?_; rintro e w5 ⟨rfl, hd⟩; have hb := Drawn0.below hd; clear hd; replace BK := kb_ BK hb; replace HB := hb_ HB (e_ GE e0_) hb; clear hb; have z0 := zc_ BK 0 rfl; have z1 := zc_ BK 1 rfl; have z2 := zc_ BK 2 rfl; have z3 := zc_ BK 3 rfl; have f0 := kf_ BK.out 0; have f1 := kf_ BK.out 1; have f2 := kf_ BK.out 2; have f3 := kf_ BK.out 3) | (go_at_call 46; refine (glyph_from.calls _ _ _ _ _ _ _ _ rfl).mono ?_; rintro e w5 ⟨rfl, hb⟩; replace BK := kb_ BK hb; replace HB := hb_ HB (e_ GE e0_) hb; clear hb; have z0 := zc_ BK 0 rfl; have z1 := zc_ BK 1 rfl; have z2 := zc_ BK 2 rfl; have z3 := zc_ BK 3 rfl; have f0 := kf_ BK.out 0; have f1 := kf_ BK.out 1; have f2 := kf_ BK.out 2; have f3 := kf_ BK.out 3))
  refine bodyPost_ret (results_cell_row rfl _ _ gb 46 #[.int .i64 0, .int .i64 (-1024), .int .i64 1740, .int .i64 1024] (0, 0) _ rfl (by refine blk_put (cs := #[.int .i64 0, .int .i64 (-1024), .int .i64 1740, .int .i64 0]) ?_ 3 _ rfl; refine blk_put (cs := #[.int .i64 0, .int .i64 (-1024), .int .i64 0, .int .i64 0]) ?_ 2 _ rfl; refine blk_put (cs := #[.int .i64 0, .int .i64 0, .int .i64 0, .int .i64 0]) ?_ 1 _ rfl; refine blk_put (cs := #[.int .i64 0, .int .i64 0, .int .i64 0, .int .i64 0]) ?_ 0 _ rfl; exact kk_ BK.out) Tryd.underlying46 rfl (by kernel_rfl)) rfl ?_
  exact ⟨rfl, bb_ HB.out (e_ GE e0_)⟩
 by_cases c34 : a0 = 34
 ·subst c34
  obtain ⟨rfl, rfl, rfl, rfl⟩ : 0 = r1 ∧ (-1024) = r2 ∧ 1740 = r3 ∧ 1024 = r4 := by simpa [glyph_full.f, fullT] using h
  clear h hr
  go_enter Tryd.func35, Tryd.ntmps35
  go_wp2_with (first | ((with_reducible refine gate_dst (N := 2) rfl ?_); refine box_event ?hg (N := 2) ?hd (cs := #[.int .i64 0, .int .i64 0, .int .i64 0, .int .i64 0]) (t := 46) ?hr ?_; (case hd => rfl); (case hg => rfl); (case hr => first | (go_simp; done) | (go_simp; rfl)); intro gb hg w4 hbox hb; have BK := sd_ hbox; have GE := gw_ HB e0_ hg; replace HB := hb_ HB e0_ hb; clear hb hbox hg; have z0 := zc_ BK 0 rfl; have z1 := zc_ BK 1 rfl; have z2 := zc_ BK 2 rfl; have z3 := zc_ BK 3 rfl; have f0 := kf_ BK.out 0; have f1 := kf_ BK.out 1; have f2 := kf_ BK.out 2; have f3 := kf_ BK.out 3) | (go_at_call 45; refine (glyph_rowOf.calls 40 34 6 4 _ (by decide +kernel)).mono ?_; rintro e w5 ⟨rfl, hd⟩; have hb := Drawn0.below hd; clear hd; replace BK := kb_ BK hb; replace HB := hb_ HB (e_ GE e0_) hb; clear hb; have z0 := zc_ BK 0 rfl; have z1 := zc_ BK 1 rfl; have z2 := zc_ BK 2 rfl; have z3 := zc_ BK 3 rfl; have f0 := kf_ BK.out 0; have f1 := kf_ BK.out 1; have f2 := kf_ BK.out 2; have f3 := kf_ BK.out 3) | (go_at_call 46; refine (glyph_from.calls _ _ _ _ _ _ _ _ rfl).mono ?_; rintro e w5 ⟨rfl, hb⟩; replace BK := kb_ BK hb; replace HB := hb_ HB (e_ GE e0_) hb; clear hb; have z0 := zc_ BK 0 rfl; have z1 := zc_ BK 1 rfl; have z2 := zc_ BK 2 rfl; have z3 := zc_ BK 3 rfl; have f0 := kf_ BK.out 0; have f1 := kf_ BK.out 1; have f2 := kf_ BK.out 2; have f3 := kf_ BK.out 3))
  refine bodyPost_ret (results_cell_row rfl _ _ gb 46 #[.int .i64 0, .int .i64 (-1024), .int .i64 1740, .int .i64 1024] (0, 0) _ rfl (by refine blk_put (cs := #[.int .i64 0, .int .i64 (-1024), .int .i64 1740, .int .i64 0]) ?_ 3 _ rfl; refine blk_put (cs := #[.int .i64 0, .int .i64 (-1024), .int .i64 0, .int .i64 0]) ?_ 2 _ rfl; refine blk_put (cs := #[.int .i64 0, .int .i64 0, .int .i64 0, .int .i64 0]) ?_ 1 _ rfl; refine blk_put (cs := #[.int .i64 0, .int .i64 0, .int .i64 0, .int .i64 0]) ?_ 0 _ rfl; exact kk_ BK.out) Tryd.underlying46 rfl (by kernel_rfl)) rfl ?_
  exact ⟨rfl, bb_ HB.out (e_ GE e0_)⟩
 by_cases c35 : a0 = 35
 ·subst c35
  obtain ⟨rfl, rfl, rfl, rfl⟩ : 0 = r1 ∧ (-1024) = r2 ∧ 1740 = r3 ∧ 1024 = r4 := by simpa [glyph_full.f, fullT] using h
  clear h hr
  go_enter Tryd.func35, Tryd.ntmps35
  go_wp2_with (first | ((with_reducible refine gate_dst (N := 2) rfl ?_); refine box_event ?hg (N := 2) ?hd (cs := #[.int .i64 0, .int .i64 0, .int .i64 0, .int .i64 0]) (t := 46) ?hr ?_; (case hd => rfl); (case hg => rfl); (case hr => first | (go_simp; done) | (go_simp; rfl)); intro gb hg w4 hbox hb; have BK := sd_ hbox; have GE := gw_ HB e0_ hg; replace HB := hb_ HB e0_ hb; clear hb hbox hg; have z0 := zc_ BK 0 rfl; have z1 := zc_ BK 1 rfl; have z2 := zc_ BK 2 rfl; have z3 := zc_ BK 3 rfl; have f0 := kf_ BK.out 0; have f1 := kf_ BK.out 1; have f2 := kf_ BK.out 2; have f3 := kf_ BK.out 3) | (go_at_call 45; refine (glyph_rowOf.calls 40 35 6 5 _ (by decide +kernel)).mono ?_; rintro e w5 ⟨rfl, hd⟩; have hb := Drawn0.below hd; clear hd; replace BK := kb_ BK hb; replace HB := hb_ HB (e_ GE e0_) hb; clear hb; have z0 := zc_ BK 0 rfl; have z1 := zc_ BK 1 rfl; have z2 := zc_ BK 2 rfl; have z3 := zc_ BK 3 rfl; have f0 := kf_ BK.out 0; have f1 := kf_ BK.out 1; have f2 := kf_ BK.out 2; have f3 := kf_ BK.out 3) | (go_at_call 46; refine (glyph_from.calls _ _ _ _ _ _ _ _ rfl).mono ?_; rintro e w5 ⟨rfl, hb⟩; replace BK := kb_ BK hb; replace HB := hb_ HB (e_ GE e0_) hb; clear hb; have z0 := zc_ BK 0 rfl; have z1 := zc_ BK 1 rfl; have z2 := zc_ BK 2 rfl; have z3 := zc_ BK 3 rfl; have f0 := kf_ BK.out 0; have f1 := kf_ BK.out 1; have f2 := kf_ BK.out 2; have f3 := kf_ BK.out 3))
  refine bodyPost_ret (results_cell_row rfl _ _ gb 46 #[.int .i64 0, .int .i64 (-1024), .int .i64 1740, .int .i64 1024] (0, 0) _ rfl (by refine blk_put (cs := #[.int .i64 0, .int .i64 (-1024), .int .i64 1740, .int .i64 0]) ?_ 3 _ rfl; refine blk_put (cs := #[.int .i64 0, .int .i64 (-1024), .int .i64 0, .int .i64 0]) ?_ 2 _ rfl; refine blk_put (cs := #[.int .i64 0, .int .i64 0, .int .i64 0, .int .i64 0]) ?_ 1 _ rfl; refine blk_put (cs := #[.int .i64 0, .int .i64 0, .int .i64 0, .int .i64 0]) ?_ 0 _ rfl; exact kk_ BK.out) Tryd.underlying46 rfl (by kernel_rfl)) rfl ?_
  exact ⟨rfl, bb_ HB.out (e_ GE e0_)⟩
 by_cases c36 : a0 = 36
 ·subst c36
  obtain ⟨rfl, rfl, rfl, rfl⟩ : 0 = r1 ∧ (-1024) = r2 ∧ 1740 = r3 ∧ 1024 = r4 := by simpa [glyph_full.f, fullT] using h
  clear h hr
  go_enter Tryd.func35, Tryd.ntmps35
  go_wp2_with (first | ((with_reducible refine gate_dst (N := 2) rfl ?_); refine box_event ?hg (N := 2) ?hd (cs := #[.int .i64 0, .int .i64 0, .int .i64 0, .int .i64 0]) (t := 46) ?hr ?_; (case hd => rfl); (case hg => rfl); (case hr => first | (go_simp; done) | (go_simp; rfl)); intro gb hg w4 hbox hb; have BK := sd_ hbox; have GE := gw_ HB e0_ hg; replace HB := hb_ HB e0_ hb; clear hb hbox hg; have z0 := zc_ BK 0 rfl; have z1 := zc_ BK 1 rfl; have z2 := zc_ BK 2 rfl; have z3 := zc_ BK 3 rfl; have f0 := kf_ BK.out 0; have f1 := kf_ BK.out 1; have f2 := kf_ BK.out 2; have f3 := kf_ BK.out 3) | (go_at_call 45; refine (glyph_rowOf.calls 40 36 6 6 _ (by decide +kernel)).mono ?_; rintro e w5 ⟨rfl, hd⟩; have hb := Drawn0.below hd; clear hd; replace BK := kb_ BK hb; replace HB := hb_ HB (e_ GE e0_) hb; clear hb; have z0 := zc_ BK 0 rfl; have z1 := zc_ BK 1 rfl; have z2 := zc_ BK 2 rfl; have z3 := zc_ BK 3 rfl; have f0 := kf_ BK.out 0; have f1 := kf_ BK.out 1; have f2 := kf_ BK.out 2; have f3 := kf_ BK.out 3) | (go_at_call 46; refine (glyph_from.calls _ _ _ _ _ _ _ _ rfl).mono ?_; rintro e w5 ⟨rfl, hb⟩; replace BK := kb_ BK hb; replace HB := hb_ HB (e_ GE e0_) hb; clear hb; have z0 := zc_ BK 0 rfl; have z1 := zc_ BK 1 rfl; have z2 := zc_ BK 2 rfl; have z3 := zc_ BK 3 rfl; have f0 := kf_ BK.out 0; have f1 := kf_ BK.out 1; have f2 := kf_ BK.out 2; have f3 := kf_ BK.out 3))
  refine bodyPost_ret (results_cell_row rfl _ _ gb 46 #[.int .i64 0, .int .i64 (-1024), .int .i64 1740, .int .i64 1024] (0, 0) _ rfl (by refine blk_put (cs := #[.int .i64 0, .int .i64 (-1024), .int .i64 1740, .int .i64 0]) ?_ 3 _ rfl; refine blk_put (cs := #[.int .i64 0, .int .i64 (-1024), .int .i64 0, .int .i64 0]) ?_ 2 _ rfl; refine blk_put (cs := #[.int .i64 0, .int .i64 0, .int .i64 0, .int .i64 0]) ?_ 1 _ rfl; refine blk_put (cs := #[.int .i64 0, .int .i64 0, .int .i64 0, .int .i64 0]) ?_ 0 _ rfl; exact kk_ BK.out) Tryd.underlying46 rfl (by kernel_rfl)) rfl ?_
  exact ⟨rfl, bb_ HB.out (e_ GE e0_)⟩
 by_cases c37 : a0 = 37
 ·subst c37
  obtain ⟨rfl, rfl, rfl, rfl⟩ : 0 = r1 ∧ (-1024) = r2 ∧ 1740 = r3 ∧ 1024 = r4 := by simpa [glyph_full.f, fullT] using h
  clear h hr
  go_enter Tryd.func35, Tryd.ntmps35
  go_wp2_with (first | ((with_reducible refine gate_dst (N := 2) rfl ?_); refine box_event ?hg (N := 2) ?hd (cs := #[.int .i64 0, .int .i64 0, .int .i64 0, .int .i64 0]) (t := 46) ?hr ?_; (case hd => rfl); (case hg => rfl); (case hr => first | (go_simp; done) | (go_simp; rfl)); intro gb hg w4 hbox hb; have BK := sd_ hbox; have GE := gw_ HB e0_ hg; replace HB := hb_ HB e0_ hb; clear hb hbox hg; have z0 := zc_ BK 0 rfl; have z1 := zc_ BK 1 rfl; have z2 := zc_ BK 2 rfl; have z3 := zc_ BK 3 rfl; have f0 := kf_ BK.out 0; have f1 := kf_ BK.out 1; have f2 := kf_ BK.out 2; have f3 := kf_ BK.out 3) | (go_at_call 45; refine (glyph_rowOf.calls 40 37 6 7 _ (by decide +kernel)).mono ?_; rintro e w5 ⟨rfl, hd⟩; have hb := Drawn0.below hd; clear hd; replace BK := kb_ BK hb; replace HB := hb_ HB (e_ GE e0_) hb; clear hb; have z0 := zc_ BK 0 rfl; have z1 := zc_ BK 1 rfl; have z2 := zc_ BK 2 rfl; have z3 := zc_ BK 3 rfl; have f0 := kf_ BK.out 0; have f1 := kf_ BK.out 1; have f2 := kf_ BK.out 2; have f3 := kf_ BK.out 3) | (go_at_call 46; refine (glyph_from.calls _ _ _ _ _ _ _ _ rfl).mono ?_; rintro e w5 ⟨rfl, hb⟩; replace BK := kb_ BK hb; replace HB := hb_ HB (e_ GE e0_) hb; clear hb; have z0 := zc_ BK 0 rfl; have z1 := zc_ BK 1 rfl; have z2 := zc_ BK 2 rfl; have z3 := zc_ BK 3 rfl; have f0 := kf_ BK.out 0; have f1 := kf_ BK.out 1; have f2 := kf_ BK.out 2; have f3 := kf_ BK.out 3))
  refine bodyPost_ret (results_cell_row rfl _ _ gb 46 #[.int .i64 0, .int .i64 (-1024), .int .i64 1740, .int .i64 1024] (0, 0) _ rfl (by refine blk_put (cs := #[.int .i64 0, .int .i64 (-1024), .int .i64 1740, .int .i64 0]) ?_ 3 _ rfl; refine blk_put (cs := #[.int .i64 0, .int .i64 (-1024), .int .i64 0, .int .i64 0]) ?_ 2 _ rfl; refine blk_put (cs := #[.int .i64 0, .int .i64 0, .int .i64 0, .int .i64 0]) ?_ 1 _ rfl; refine blk_put (cs := #[.int .i64 0, .int .i64 0, .int .i64 0, .int .i64 0]) ?_ 0 _ rfl; exact kk_ BK.out) Tryd.underlying46 rfl (by kernel_rfl)) rfl ?_
  exact ⟨rfl, bb_ HB.out (e_ GE e0_)⟩
 by_cases c38 : a0 = 38
 ·subst c38
  obtain ⟨rfl, rfl, rfl, rfl⟩ : 0 = r1 ∧ (-1024) = r2 ∧ 1740 = r3 ∧ 1024 = r4 := by simpa [glyph_full.f, fullT] using h
  clear h hr
  go_enter Tryd.func35, Tryd.ntmps35
  go_wp2_with (first | ((with_reducible refine gate_dst (N := 2) rfl ?_); refine box_event ?hg (N := 2) ?hd (cs := #[.int .i64 0, .int .i64 0, .int .i64 0, .int .i64 0]) (t := 46) ?hr ?_; (case hd => rfl); (case hg => rfl); (case hr => first | (go_simp; done) | (go_simp; rfl)); intro gb hg w4 hbox hb; have BK := sd_ hbox; have GE := gw_ HB e0_ hg; replace HB := hb_ HB e0_ hb; clear hb hbox hg; have z0 := zc_ BK 0 rfl; have z1 := zc_ BK 1 rfl; have z2 := zc_ BK 2 rfl; have z3 := zc_ BK 3 rfl; have f0 := kf_ BK.out 0; have f1 := kf_ BK.out 1; have f2 := kf_ BK.out 2; have f3 := kf_ BK.out 3) | (go_at_call 45; refine (glyph_rowOf.calls 40 38 6 8 _ (by decide +kernel)).mono ?_; rintro e w5 ⟨rfl, hd⟩; have hb := Drawn0.below hd; clear hd; replace BK := kb_ BK hb; replace HB := hb_ HB (e_ GE e0_) hb; clear hb; have z0 := zc_ BK 0 rfl; have z1 := zc_ BK 1 rfl; have z2 := zc_ BK 2 rfl; have z3 := zc_ BK 3 rfl; have f0 := kf_ BK.out 0; have f1 := kf_ BK.out 1; have f2 := kf_ BK.out 2; have f3 := kf_ BK.out 3) | (go_at_call 46; refine (glyph_from.calls _ _ _ _ _ _ _ _ rfl).mono ?_; rintro e w5 ⟨rfl, hb⟩; replace BK := kb_ BK hb; replace HB := hb_ HB (e_ GE e0_) hb; clear hb; have z0 := zc_ BK 0 rfl; have z1 := zc_ BK 1 rfl; have z2 := zc_ BK 2 rfl; have z3 := zc_ BK 3 rfl; have f0 := kf_ BK.out 0; have f1 := kf_ BK.out 1; have f2 := kf_ BK.out 2; have f3 := kf_ BK.out 3))
  refine bodyPost_ret (results_cell_row rfl _ _ gb 46 #[.int .i64 0, .int .i64 (-1024), .int .i64 1740, .int .i64 1024] (0, 0) _ rfl (by refine blk_put (cs := #[.int .i64 0, .int .i64 (-1024), .int .i64 1740, .int .i64 0]) ?_ 3 _ rfl; refine blk_put (cs := #[.int .i64 0, .int .i64 (-1024), .int .i64 0, .int .i64 0]) ?_ 2 _ rfl; refine blk_put (cs := #[.int .i64 0, .int .i64 0, .int .i64 0, .int .i64 0]) ?_ 1 _ rfl; refine blk_put (cs := #[.int .i64 0, .int .i64 0, .int .i64 0, .int .i64 0]) ?_ 0 _ rfl; exact kk_ BK.out) Tryd.underlying46 rfl (by kernel_rfl)) rfl ?_
  exact ⟨rfl, bb_ HB.out (e_ GE e0_)⟩
 by_cases c39 : a0 = 39
 ·subst c39
  obtain ⟨rfl, rfl, rfl, rfl⟩ : 0 = r1 ∧ (-1024) = r2 ∧ 1740 = r3 ∧ 1024 = r4 := by simpa [glyph_full.f, fullT] using h
  clear h hr
  go_enter Tryd.func35, Tryd.ntmps35
  go_wp2_with (first | ((with_reducible refine gate_dst (N := 2) rfl ?_); refine box_event ?hg (N := 2) ?hd (cs := #[.int .i64 0, .int .i64 0, .int .i64 0, .int .i64 0]) (t := 46) ?hr ?_; (case hd => rfl); (case hg => rfl); (case hr => first | (go_simp; done) | (go_simp; rfl)); intro gb hg w4 hbox hb; have BK := sd_ hbox; have GE := gw_ HB e0_ hg; replace HB := hb_ HB e0_ hb; clear hb hbox hg; have z0 := zc_ BK 0 rfl; have z1 := zc_ BK 1 rfl; have z2 := zc_ BK 2 rfl; have z3 := zc_ BK 3 rfl; have f0 := kf_ BK.out 0; have f1 := kf_ BK.out 1; have f2 := kf_ BK.out 2; have f3 := kf_ BK.out 3) | (go_at_call 45; refine (glyph_rowOf.calls 40 39 6 9 _ (by decide +kernel)).mono ?_; rintro e w5 ⟨rfl, hd⟩; have hb := Drawn0.below hd; clear hd; replace BK := kb_ BK hb; replace HB := hb_ HB (e_ GE e0_) hb; clear hb; have z0 := zc_ BK 0 rfl; have z1 := zc_ BK 1 rfl; have z2 := zc_ BK 2 rfl; have z3 := zc_ BK 3 rfl; have f0 := kf_ BK.out 0; have f1 := kf_ BK.out 1; have f2 := kf_ BK.out 2; have f3 := kf_ BK.out 3) | (go_at_call 46; refine (glyph_from.calls _ _ _ _ _ _ _ _ rfl).mono ?_; rintro e w5 ⟨rfl, hb⟩; replace BK := kb_ BK hb; replace HB := hb_ HB (e_ GE e0_) hb; clear hb; have z0 := zc_ BK 0 rfl; have z1 := zc_ BK 1 rfl; have z2 := zc_ BK 2 rfl; have z3 := zc_ BK 3 rfl; have f0 := kf_ BK.out 0; have f1 := kf_ BK.out 1; have f2 := kf_ BK.out 2; have f3 := kf_ BK.out 3))
  refine bodyPost_ret (results_cell_row rfl _ _ gb 46 #[.int .i64 0, .int .i64 (-1024), .int .i64 1740, .int .i64 1024] (0, 0) _ rfl (by refine blk_put (cs := #[.int .i64 0, .int .i64 (-1024), .int .i64 1740, .int .i64 0]) ?_ 3 _ rfl; refine blk_put (cs := #[.int .i64 0, .int .i64 (-1024), .int .i64 0, .int .i64 0]) ?_ 2 _ rfl; refine blk_put (cs := #[.int .i64 0, .int .i64 0, .int .i64 0, .int .i64 0]) ?_ 1 _ rfl; refine blk_put (cs := #[.int .i64 0, .int .i64 0, .int .i64 0, .int .i64 0]) ?_ 0 _ rfl; exact kk_ BK.out) Tryd.underlying46 rfl (by kernel_rfl)) rfl ?_
  exact ⟨rfl, bb_ HB.out (e_ GE e0_)⟩
 exact absurd hr (by omega)
set_option maxHeartbeats 16000000 in
set_option maxRecDepth 100000 in
theorem glyph_full.row7 (a0 : Int) (r1 r2 r3 r4 : Int) (w : World) (hr : 40 ≤ a0 ∧ a0 ≤ 47) (h : glyph_full.f a0 = some (r1, r2, r3, r4)) :
  Calls Tryd.prog 35 #[.int .i64 a0] w fun e w' => e = .returned (.agg #[.int .i64 r1, .int .i64 r2, .int .i64 r3, .int .i64 r4]) ∧ Below w.heap.size w w' := by
 have hu := Tryd.underlying46
 have HB := sd_ (Below.refl w.heap.size w)
 by_cases c40 : a0 = 40
 ·subst c40
  obtain ⟨rfl, rfl, rfl, rfl⟩ : 0 = r1 ∧ (-200) = r2 ∧ 400 = r3 ∧ 200 = r4 := by simpa [glyph_full.f, fullT] using h
  clear h hr
  go_enter Tryd.func35, Tryd.ntmps35
  go_wp2_with (first | ((with_reducible refine gate_dst (N := 2) rfl ?_); refine box_event ?hg (N := 2) ?hd (cs := #[.int .i64 0, .int .i64 0, .int .i64 0, .int .i64 0]) (t := 46) ?hr ?_; (case hd => rfl); (case hg => rfl); (case hr => first | (go_simp; done) | (go_simp; rfl)); intro gb hg w4 hbox hb; have BK := sd_ hbox; have GE := gw_ HB e0_ hg; replace HB := hb_ HB e0_ hb; clear hb hbox hg; have z0 := zc_ BK 0 rfl; have z1 := zc_ BK 1 rfl; have z2 := zc_ BK 2 rfl; have z3 := zc_ BK 3 rfl; have f0 := kf_ BK.out 0; have f1 := kf_ BK.out 1; have f2 := kf_ BK.out 2; have f3 := kf_ BK.out 3) | (go_at_call 45; refine (glyph_rowOf.calls 40 40 7 0 _ (by decide +kernel)).mono ?_; rintro e w5 ⟨rfl, hd⟩; have hb := Drawn0.below hd; clear hd; replace BK := kb_ BK hb; replace HB := hb_ HB (e_ GE e0_) hb; clear hb; have z0 := zc_ BK 0 rfl; have z1 := zc_ BK 1 rfl; have z2 := zc_ BK 2 rfl; have z3 := zc_ BK 3 rfl; have f0 := kf_ BK.out 0; have f1 := kf_ BK.out 1; have f2 := kf_ BK.out 2; have f3 := kf_ BK.out 3) | (go_at_call 46; refine (glyph_from.calls _ _ _ _ _ _ _ _ rfl).mono ?_; rintro e w5 ⟨rfl, hb⟩; replace BK := kb_ BK hb; replace HB := hb_ HB (e_ GE e0_) hb; clear hb; have z0 := zc_ BK 0 rfl; have z1 := zc_ BK 1 rfl; have z2 := zc_ BK 2 rfl; have z3 := zc_ BK 3 rfl; have f0 := kf_ BK.out 0; have f1 := kf_ BK.out 1; have f2 := kf_ BK.out 2; have f3 := kf_ BK.out 3) | (go_at_call 48; refine (glyph_other.calls 0 0 (-200) 400 200 _ (by decide +kernel)).mono ?_; rintro e w5 ⟨rfl, hb⟩; replace BK := kb_ BK hb; replace HB := hb_ HB (e_ GE e0_) hb; clear hb; have z0 := zc_ BK 0 rfl; have z1 := zc_ BK 1 rfl; have z2 := zc_ BK 2 rfl; have z3 := zc_ BK 3 rfl; have f0 := kf_ BK.out 0; have f1 := kf_ BK.out 1; have f2 := kf_ BK.out 2; have f3 := kf_ BK.out 3))
  refine bodyPost_ret (results_cell_row rfl _ _ gb 46 #[.int .i64 0, .int .i64 (-200), .int .i64 400, .int .i64 200] (0, 0) _ rfl (by refine blk_put (cs := #[.int .i64 0, .int .i64 (-200), .int .i64 400, .int .i64 0]) ?_ 3 _ rfl; refine blk_put (cs := #[.int .i64 0, .int .i64 (-200), .int .i64 0, .int .i64 0]) ?_ 2 _ rfl; refine blk_put (cs := #[.int .i64 0, .int .i64 0, .int .i64 0, .int .i64 0]) ?_ 1 _ rfl; refine blk_put (cs := #[.int .i64 0, .int .i64 0, .int .i64 0, .int .i64 0]) ?_ 0 _ rfl; exact kk_ BK.out) Tryd.underlying46 rfl (by kernel_rfl)) rfl ?_
  exact ⟨rfl, bb_ HB.out (e_ GE e0_)⟩
 by_cases c41 : a0 = 41
 ·subst c41
  obtain ⟨rfl, rfl, rfl, rfl⟩ : 0 = r1 ∧ (-2048) = r2 ∧ 160 = r3 ∧ 2048 = r4 := by simpa [glyph_full.f, fullT] using h
  clear h hr
  go_enter Tryd.func35, Tryd.ntmps35
  go_wp2_with (first | ((with_reducible refine gate_dst (N := 2) rfl ?_); refine box_event ?hg (N := 2) ?hd (cs := #[.int .i64 0, .int .i64 0, .int .i64 0, .int .i64 0]) (t := 46) ?hr ?_; (case hd => rfl); (case hg => rfl); (case hr => first | (go_simp; done) | (go_simp; rfl)); intro gb hg w4 hbox hb; have BK := sd_ hbox; have GE := gw_ HB e0_ hg; replace HB := hb_ HB e0_ hb; clear hb hbox hg; have z0 := zc_ BK 0 rfl; have z1 := zc_ BK 1 rfl; have z2 := zc_ BK 2 rfl; have z3 := zc_ BK 3 rfl; have f0 := kf_ BK.out 0; have f1 := kf_ BK.out 1; have f2 := kf_ BK.out 2; have f3 := kf_ BK.out 3) | (go_at_call 45; refine (glyph_rowOf.calls 40 41 7 1 _ (by decide +kernel)).mono ?_; rintro e w5 ⟨rfl, hd⟩; have hb := Drawn0.below hd; clear hd; replace BK := kb_ BK hb; replace HB := hb_ HB (e_ GE e0_) hb; clear hb; have z0 := zc_ BK 0 rfl; have z1 := zc_ BK 1 rfl; have z2 := zc_ BK 2 rfl; have z3 := zc_ BK 3 rfl; have f0 := kf_ BK.out 0; have f1 := kf_ BK.out 1; have f2 := kf_ BK.out 2; have f3 := kf_ BK.out 3) | (go_at_call 46; refine (glyph_from.calls _ _ _ _ _ _ _ _ rfl).mono ?_; rintro e w5 ⟨rfl, hb⟩; replace BK := kb_ BK hb; replace HB := hb_ HB (e_ GE e0_) hb; clear hb; have z0 := zc_ BK 0 rfl; have z1 := zc_ BK 1 rfl; have z2 := zc_ BK 2 rfl; have z3 := zc_ BK 3 rfl; have f0 := kf_ BK.out 0; have f1 := kf_ BK.out 1; have f2 := kf_ BK.out 2; have f3 := kf_ BK.out 3) | (go_at_call 48; refine (glyph_other.calls 1 0 (-2048) 160 2048 _ (by decide +kernel)).mono ?_; rintro e w5 ⟨rfl, hb⟩; replace BK := kb_ BK hb; replace HB := hb_ HB (e_ GE e0_) hb; clear hb; have z0 := zc_ BK 0 rfl; have z1 := zc_ BK 1 rfl; have z2 := zc_ BK 2 rfl; have z3 := zc_ BK 3 rfl; have f0 := kf_ BK.out 0; have f1 := kf_ BK.out 1; have f2 := kf_ BK.out 2; have f3 := kf_ BK.out 3))
  refine bodyPost_ret (results_cell_row rfl _ _ gb 46 #[.int .i64 0, .int .i64 (-2048), .int .i64 160, .int .i64 2048] (0, 0) _ rfl (by refine blk_put (cs := #[.int .i64 0, .int .i64 (-2048), .int .i64 160, .int .i64 0]) ?_ 3 _ rfl; refine blk_put (cs := #[.int .i64 0, .int .i64 (-2048), .int .i64 0, .int .i64 0]) ?_ 2 _ rfl; refine blk_put (cs := #[.int .i64 0, .int .i64 0, .int .i64 0, .int .i64 0]) ?_ 1 _ rfl; refine blk_put (cs := #[.int .i64 0, .int .i64 0, .int .i64 0, .int .i64 0]) ?_ 0 _ rfl; exact kk_ BK.out) Tryd.underlying46 rfl (by kernel_rfl)) rfl ?_
  exact ⟨rfl, bb_ HB.out (e_ GE e0_)⟩
 by_cases c42 : a0 = 42
 ·subst c42
  obtain ⟨rfl, rfl, rfl, rfl⟩ : 0 = r1 ∧ (-2048) = r2 ∧ 720 = r3 ∧ 2048 = r4 := by simpa [glyph_full.f, fullT] using h
  clear h hr
  go_enter Tryd.func35, Tryd.ntmps35
  go_wp2_with (first | ((with_reducible refine gate_dst (N := 2) rfl ?_); refine box_event ?hg (N := 2) ?hd (cs := #[.int .i64 0, .int .i64 0, .int .i64 0, .int .i64 0]) (t := 46) ?hr ?_; (case hd => rfl); (case hg => rfl); (case hr => first | (go_simp; done) | (go_simp; rfl)); intro gb hg w4 hbox hb; have BK := sd_ hbox; have GE := gw_ HB e0_ hg; replace HB := hb_ HB e0_ hb; clear hb hbox hg; have z0 := zc_ BK 0 rfl; have z1 := zc_ BK 1 rfl; have z2 := zc_ BK 2 rfl; have z3 := zc_ BK 3 rfl; have f0 := kf_ BK.out 0; have f1 := kf_ BK.out 1; have f2 := kf_ BK.out 2; have f3 := kf_ BK.out 3) | (go_at_call 45; refine (glyph_rowOf.calls 40 42 7 2 _ (by decide +kernel)).mono ?_; rintro e w5 ⟨rfl, hd⟩; have hb := Drawn0.below hd; clear hd; replace BK := kb_ BK hb; replace HB := hb_ HB (e_ GE e0_) hb; clear hb; have z0 := zc_ BK 0 rfl; have z1 := zc_ BK 1 rfl; have z2 := zc_ BK 2 rfl; have z3 := zc_ BK 3 rfl; have f0 := kf_ BK.out 0; have f1 := kf_ BK.out 1; have f2 := kf_ BK.out 2; have f3 := kf_ BK.out 3) | (go_at_call 46; refine (glyph_from.calls _ _ _ _ _ _ _ _ rfl).mono ?_; rintro e w5 ⟨rfl, hb⟩; replace BK := kb_ BK hb; replace HB := hb_ HB (e_ GE e0_) hb; clear hb; have z0 := zc_ BK 0 rfl; have z1 := zc_ BK 1 rfl; have z2 := zc_ BK 2 rfl; have z3 := zc_ BK 3 rfl; have f0 := kf_ BK.out 0; have f1 := kf_ BK.out 1; have f2 := kf_ BK.out 2; have f3 := kf_ BK.out 3) | (go_at_call 48; refine (glyph_other.calls 2 0 (-2048) 720 2048 _ (by decide +kernel)).mono ?_; rintro e w5 ⟨rfl, hb⟩; replace BK := kb_ BK hb; replace HB := hb_ HB (e_ GE e0_) hb; clear hb; have z0 := zc_ BK 0 rfl; have z1 := zc_ BK 1 rfl; have z2 := zc_ BK 2 rfl; have z3 := zc_ BK 3 rfl; have f0 := kf_ BK.out 0; have f1 := kf_ BK.out 1; have f2 := kf_ BK.out 2; have f3 := kf_ BK.out 3))
  refine bodyPost_ret (results_cell_row rfl _ _ gb 46 #[.int .i64 0, .int .i64 (-2048), .int .i64 720, .int .i64 2048] (0, 0) _ rfl (by refine blk_put (cs := #[.int .i64 0, .int .i64 (-2048), .int .i64 720, .int .i64 0]) ?_ 3 _ rfl; refine blk_put (cs := #[.int .i64 0, .int .i64 (-2048), .int .i64 0, .int .i64 0]) ?_ 2 _ rfl; refine blk_put (cs := #[.int .i64 0, .int .i64 0, .int .i64 0, .int .i64 0]) ?_ 1 _ rfl; refine blk_put (cs := #[.int .i64 0, .int .i64 0, .int .i64 0, .int .i64 0]) ?_ 0 _ rfl; exact kk_ BK.out) Tryd.underlying46 rfl (by kernel_rfl)) rfl ?_
  exact ⟨rfl, bb_ HB.out (e_ GE e0_)⟩
 by_cases c43 : a0 = 43
 ·subst c43
  obtain ⟨rfl, rfl, rfl, rfl⟩ : 0 = r1 ∧ (-2048) = r2 ∧ 1000 = r3 ∧ 2048 = r4 := by simpa [glyph_full.f, fullT] using h
  clear h hr
  go_enter Tryd.func35, Tryd.ntmps35
  go_wp2_with (first | ((with_reducible refine gate_dst (N := 2) rfl ?_); refine box_event ?hg (N := 2) ?hd (cs := #[.int .i64 0, .int .i64 0, .int .i64 0, .int .i64 0]) (t := 46) ?hr ?_; (case hd => rfl); (case hg => rfl); (case hr => first | (go_simp; done) | (go_simp; rfl)); intro gb hg w4 hbox hb; have BK := sd_ hbox; have GE := gw_ HB e0_ hg; replace HB := hb_ HB e0_ hb; clear hb hbox hg; have z0 := zc_ BK 0 rfl; have z1 := zc_ BK 1 rfl; have z2 := zc_ BK 2 rfl; have z3 := zc_ BK 3 rfl; have f0 := kf_ BK.out 0; have f1 := kf_ BK.out 1; have f2 := kf_ BK.out 2; have f3 := kf_ BK.out 3) | (go_at_call 45; refine (glyph_rowOf.calls 40 43 7 3 _ (by decide +kernel)).mono ?_; rintro e w5 ⟨rfl, hd⟩; have hb := Drawn0.below hd; clear hd; replace BK := kb_ BK hb; replace HB := hb_ HB (e_ GE e0_) hb; clear hb; have z0 := zc_ BK 0 rfl; have z1 := zc_ BK 1 rfl; have z2 := zc_ BK 2 rfl; have z3 := zc_ BK 3 rfl; have f0 := kf_ BK.out 0; have f1 := kf_ BK.out 1; have f2 := kf_ BK.out 2; have f3 := kf_ BK.out 3) | (go_at_call 46; refine (glyph_from.calls _ _ _ _ _ _ _ _ rfl).mono ?_; rintro e w5 ⟨rfl, hb⟩; replace BK := kb_ BK hb; replace HB := hb_ HB (e_ GE e0_) hb; clear hb; have z0 := zc_ BK 0 rfl; have z1 := zc_ BK 1 rfl; have z2 := zc_ BK 2 rfl; have z3 := zc_ BK 3 rfl; have f0 := kf_ BK.out 0; have f1 := kf_ BK.out 1; have f2 := kf_ BK.out 2; have f3 := kf_ BK.out 3) | (go_at_call 48; refine (glyph_other.calls 3 0 (-2048) 1000 2048 _ (by decide +kernel)).mono ?_; rintro e w5 ⟨rfl, hb⟩; replace BK := kb_ BK hb; replace HB := hb_ HB (e_ GE e0_) hb; clear hb; have z0 := zc_ BK 0 rfl; have z1 := zc_ BK 1 rfl; have z2 := zc_ BK 2 rfl; have z3 := zc_ BK 3 rfl; have f0 := kf_ BK.out 0; have f1 := kf_ BK.out 1; have f2 := kf_ BK.out 2; have f3 := kf_ BK.out 3))
  refine bodyPost_ret (results_cell_row rfl _ _ gb 46 #[.int .i64 0, .int .i64 (-2048), .int .i64 1000, .int .i64 2048] (0, 0) _ rfl (by refine blk_put (cs := #[.int .i64 0, .int .i64 (-2048), .int .i64 1000, .int .i64 0]) ?_ 3 _ rfl; refine blk_put (cs := #[.int .i64 0, .int .i64 (-2048), .int .i64 0, .int .i64 0]) ?_ 2 _ rfl; refine blk_put (cs := #[.int .i64 0, .int .i64 0, .int .i64 0, .int .i64 0]) ?_ 1 _ rfl; refine blk_put (cs := #[.int .i64 0, .int .i64 0, .int .i64 0, .int .i64 0]) ?_ 0 _ rfl; exact kk_ BK.out) Tryd.underlying46 rfl (by kernel_rfl)) rfl ?_
  exact ⟨rfl, bb_ HB.out (e_ GE e0_)⟩
 by_cases c44 : a0 = 44
 ·subst c44
  obtain ⟨rfl, rfl, rfl, rfl⟩ : 0 = r1 ∧ (-600) = r2 ∧ 1500 = r3 ∧ 1200 = r4 := by simpa [glyph_full.f, fullT] using h
  clear h hr
  go_enter Tryd.func35, Tryd.ntmps35
  go_wp2_with (first | ((with_reducible refine gate_dst (N := 2) rfl ?_); refine box_event ?hg (N := 2) ?hd (cs := #[.int .i64 0, .int .i64 0, .int .i64 0, .int .i64 0]) (t := 46) ?hr ?_; (case hd => rfl); (case hg => rfl); (case hr => first | (go_simp; done) | (go_simp; rfl)); intro gb hg w4 hbox hb; have BK := sd_ hbox; have GE := gw_ HB e0_ hg; replace HB := hb_ HB e0_ hb; clear hb hbox hg; have z0 := zc_ BK 0 rfl; have z1 := zc_ BK 1 rfl; have z2 := zc_ BK 2 rfl; have z3 := zc_ BK 3 rfl; have f0 := kf_ BK.out 0; have f1 := kf_ BK.out 1; have f2 := kf_ BK.out 2; have f3 := kf_ BK.out 3) | (go_at_call 45; refine (glyph_rowOf.calls 40 44 7 4 _ (by decide +kernel)).mono ?_; rintro e w5 ⟨rfl, hd⟩; have hb := Drawn0.below hd; clear hd; replace BK := kb_ BK hb; replace HB := hb_ HB (e_ GE e0_) hb; clear hb; have z0 := zc_ BK 0 rfl; have z1 := zc_ BK 1 rfl; have z2 := zc_ BK 2 rfl; have z3 := zc_ BK 3 rfl; have f0 := kf_ BK.out 0; have f1 := kf_ BK.out 1; have f2 := kf_ BK.out 2; have f3 := kf_ BK.out 3) | (go_at_call 46; refine (glyph_from.calls _ _ _ _ _ _ _ _ rfl).mono ?_; rintro e w5 ⟨rfl, hb⟩; replace BK := kb_ BK hb; replace HB := hb_ HB (e_ GE e0_) hb; clear hb; have z0 := zc_ BK 0 rfl; have z1 := zc_ BK 1 rfl; have z2 := zc_ BK 2 rfl; have z3 := zc_ BK 3 rfl; have f0 := kf_ BK.out 0; have f1 := kf_ BK.out 1; have f2 := kf_ BK.out 2; have f3 := kf_ BK.out 3) | (go_at_call 48; refine (glyph_other.calls 4 0 (-600) 1500 1200 _ (by decide +kernel)).mono ?_; rintro e w5 ⟨rfl, hb⟩; replace BK := kb_ BK hb; replace HB := hb_ HB (e_ GE e0_) hb; clear hb; have z0 := zc_ BK 0 rfl; have z1 := zc_ BK 1 rfl; have z2 := zc_ BK 2 rfl; have z3 := zc_ BK 3 rfl; have f0 := kf_ BK.out 0; have f1 := kf_ BK.out 1; have f2 := kf_ BK.out 2; have f3 := kf_ BK.out 3))
  refine bodyPost_ret (results_cell_row rfl _ _ gb 46 #[.int .i64 0, .int .i64 (-600), .int .i64 1500, .int .i64 1200] (0, 0) _ rfl (by refine blk_put (cs := #[.int .i64 0, .int .i64 (-600), .int .i64 1500, .int .i64 0]) ?_ 3 _ rfl; refine blk_put (cs := #[.int .i64 0, .int .i64 (-600), .int .i64 0, .int .i64 0]) ?_ 2 _ rfl; refine blk_put (cs := #[.int .i64 0, .int .i64 0, .int .i64 0, .int .i64 0]) ?_ 1 _ rfl; refine blk_put (cs := #[.int .i64 0, .int .i64 0, .int .i64 0, .int .i64 0]) ?_ 0 _ rfl; exact kk_ BK.out) Tryd.underlying46 rfl (by kernel_rfl)) rfl ?_
  exact ⟨rfl, bb_ HB.out (e_ GE e0_)⟩
 by_cases c45 : a0 = 45
 ·subst c45
  obtain ⟨rfl, rfl, rfl, rfl⟩ : 0 = r1 ∧ 0 = r2 ∧ 1900 = r3 ∧ 1100 = r4 := by simpa [glyph_full.f, fullT] using h
  clear h hr
  go_enter Tryd.func35, Tryd.ntmps35
  go_wp2_with (first | ((with_reducible refine gate_dst (N := 2) rfl ?_); refine box_event ?hg (N := 2) ?hd (cs := #[.int .i64 0, .int .i64 0, .int .i64 0, .int .i64 0]) (t := 46) ?hr ?_; (case hd => rfl); (case hg => rfl); (case hr => first | (go_simp; done) | (go_simp; rfl)); intro gb hg w4 hbox hb; have BK := sd_ hbox; have GE := gw_ HB e0_ hg; replace HB := hb_ HB e0_ hb; clear hb hbox hg; have z0 := zc_ BK 0 rfl; have z1 := zc_ BK 1 rfl; have z2 := zc_ BK 2 rfl; have z3 := zc_ BK 3 rfl; have f0 := kf_ BK.out 0; have f1 := kf_ BK.out 1; have f2 := kf_ BK.out 2; have f3 := kf_ BK.out 3) | (go_at_call 45; refine (glyph_rowOf.calls 40 45 7 5 _ (by decide +kernel)).mono ?_; rintro e w5 ⟨rfl, hd⟩; have hb := Drawn0.below hd; clear hd; replace BK := kb_ BK hb; replace HB := hb_ HB (e_ GE e0_) hb; clear hb; have z0 := zc_ BK 0 rfl; have z1 := zc_ BK 1 rfl; have z2 := zc_ BK 2 rfl; have z3 := zc_ BK 3 rfl; have f0 := kf_ BK.out 0; have f1 := kf_ BK.out 1; have f2 := kf_ BK.out 2; have f3 := kf_ BK.out 3) | (go_at_call 46; refine (glyph_from.calls _ _ _ _ _ _ _ _ rfl).mono ?_; rintro e w5 ⟨rfl, hb⟩; replace BK := kb_ BK hb; replace HB := hb_ HB (e_ GE e0_) hb; clear hb; have z0 := zc_ BK 0 rfl; have z1 := zc_ BK 1 rfl; have z2 := zc_ BK 2 rfl; have z3 := zc_ BK 3 rfl; have f0 := kf_ BK.out 0; have f1 := kf_ BK.out 1; have f2 := kf_ BK.out 2; have f3 := kf_ BK.out 3) | (go_at_call 48; refine (glyph_other.calls 5 0 0 1900 1100 _ (by decide +kernel)).mono ?_; rintro e w5 ⟨rfl, hb⟩; replace BK := kb_ BK hb; replace HB := hb_ HB (e_ GE e0_) hb; clear hb; have z0 := zc_ BK 0 rfl; have z1 := zc_ BK 1 rfl; have z2 := zc_ BK 2 rfl; have z3 := zc_ BK 3 rfl; have f0 := kf_ BK.out 0; have f1 := kf_ BK.out 1; have f2 := kf_ BK.out 2; have f3 := kf_ BK.out 3))
  refine bodyPost_ret (results_cell_row rfl _ _ gb 46 #[.int .i64 0, .int .i64 0, .int .i64 1900, .int .i64 1100] (0, 0) _ rfl (by refine blk_put (cs := #[.int .i64 0, .int .i64 0, .int .i64 1900, .int .i64 0]) ?_ 3 _ rfl; refine blk_put (cs := #[.int .i64 0, .int .i64 0, .int .i64 0, .int .i64 0]) ?_ 2 _ rfl; refine blk_put (cs := #[.int .i64 0, .int .i64 0, .int .i64 0, .int .i64 0]) ?_ 1 _ rfl; refine blk_put (cs := #[.int .i64 0, .int .i64 0, .int .i64 0, .int .i64 0]) ?_ 0 _ rfl; exact kk_ BK.out) Tryd.underlying46 rfl (by kernel_rfl)) rfl ?_
  exact ⟨rfl, bb_ HB.out (e_ GE e0_)⟩
 by_cases c46 : a0 = 46
 ·subst c46
  obtain ⟨rfl, rfl, rfl, rfl⟩ : 0 = r1 ∧ (-700) = r2 ∧ 1400 = r3 ∧ 1800 = r4 := by simpa [glyph_full.f, fullT] using h
  clear h hr
  go_enter Tryd.func35, Tryd.ntmps35
  go_wp2_with (first | ((with_reducible refine gate_dst (N := 2) rfl ?_); refine box_event ?hg (N := 2) ?hd (cs := #[.int .i64 0, .int .i64 0, .int .i64 0, .int .i64 0]) (t := 46) ?hr ?_; (case hd => rfl); (case hg => rfl); (case hr => first | (go_simp; done) | (go_simp; rfl)); intro gb hg w4 hbox hb; have BK := sd_ hbox; have GE := gw_ HB e0_ hg; replace HB := hb_ HB e0_ hb; clear hb hbox hg; have z0 := zc_ BK 0 rfl; have z1 := zc_ BK 1 rfl; have z2 := zc_ BK 2 rfl; have z3 := zc_ BK 3 rfl; have f0 := kf_ BK.out 0; have f1 := kf_ BK.out 1; have f2 := kf_ BK.out 2; have f3 := kf_ BK.out 3) | (go_at_call 45; refine (glyph_rowOf.calls 40 46 7 6 _ (by decide +kernel)).mono ?_; rintro e w5 ⟨rfl, hd⟩; have hb := Drawn0.below hd; clear hd; replace BK := kb_ BK hb; replace HB := hb_ HB (e_ GE e0_) hb; clear hb; have z0 := zc_ BK 0 rfl; have z1 := zc_ BK 1 rfl; have z2 := zc_ BK 2 rfl; have z3 := zc_ BK 3 rfl; have f0 := kf_ BK.out 0; have f1 := kf_ BK.out 1; have f2 := kf_ BK.out 2; have f3 := kf_ BK.out 3) | (go_at_call 46; refine (glyph_from.calls _ _ _ _ _ _ _ _ rfl).mono ?_; rintro e w5 ⟨rfl, hb⟩; replace BK := kb_ BK hb; replace HB := hb_ HB (e_ GE e0_) hb; clear hb; have z0 := zc_ BK 0 rfl; have z1 := zc_ BK 1 rfl; have z2 := zc_ BK 2 rfl; have z3 := zc_ BK 3 rfl; have f0 := kf_ BK.out 0; have f1 := kf_ BK.out 1; have f2 := kf_ BK.out 2; have f3 := kf_ BK.out 3) | (go_at_call 48; refine (glyph_other.calls 6 0 (-700) 1400 1800 _ (by decide +kernel)).mono ?_; rintro e w5 ⟨rfl, hb⟩; replace BK := kb_ BK hb; replace HB := hb_ HB (e_ GE e0_) hb; clear hb; have z0 := zc_ BK 0 rfl; have z1 := zc_ BK 1 rfl; have z2 := zc_ BK 2 rfl; have z3 := zc_ BK 3 rfl; have f0 := kf_ BK.out 0; have f1 := kf_ BK.out 1; have f2 := kf_ BK.out 2; have f3 := kf_ BK.out 3))
  refine bodyPost_ret (results_cell_row rfl _ _ gb 46 #[.int .i64 0, .int .i64 (-700), .int .i64 1400, .int .i64 1800] (0, 0) _ rfl (by refine blk_put (cs := #[.int .i64 0, .int .i64 (-700), .int .i64 1400, .int .i64 0]) ?_ 3 _ rfl; refine blk_put (cs := #[.int .i64 0, .int .i64 (-700), .int .i64 0, .int .i64 0]) ?_ 2 _ rfl; refine blk_put (cs := #[.int .i64 0, .int .i64 0, .int .i64 0, .int .i64 0]) ?_ 1 _ rfl; refine blk_put (cs := #[.int .i64 0, .int .i64 0, .int .i64 0, .int .i64 0]) ?_ 0 _ rfl; exact kk_ BK.out) Tryd.underlying46 rfl (by kernel_rfl)) rfl ?_
  exact ⟨rfl, bb_ HB.out (e_ GE e0_)⟩
 by_cases c47 : a0 = 47
 ·subst c47
  obtain ⟨rfl, rfl, rfl, rfl⟩ : (-1000) = r1 ∧ (-2048) = r2 ∧ 0 = r3 ∧ 2048 = r4 := by simpa [glyph_full.f, fullT] using h
  clear h hr
  go_enter Tryd.func35, Tryd.ntmps35
  go_wp2_with (first | ((with_reducible refine gate_dst (N := 2) rfl ?_); refine box_event ?hg (N := 2) ?hd (cs := #[.int .i64 0, .int .i64 0, .int .i64 0, .int .i64 0]) (t := 46) ?hr ?_; (case hd => rfl); (case hg => rfl); (case hr => first | (go_simp; done) | (go_simp; rfl)); intro gb hg w4 hbox hb; have BK := sd_ hbox; have GE := gw_ HB e0_ hg; replace HB := hb_ HB e0_ hb; clear hb hbox hg; have z0 := zc_ BK 0 rfl; have z1 := zc_ BK 1 rfl; have z2 := zc_ BK 2 rfl; have z3 := zc_ BK 3 rfl; have f0 := kf_ BK.out 0; have f1 := kf_ BK.out 1; have f2 := kf_ BK.out 2; have f3 := kf_ BK.out 3) | (go_at_call 45; refine (glyph_rowOf.calls 40 47 7 7 _ (by decide +kernel)).mono ?_; rintro e w5 ⟨rfl, hd⟩; have hb := Drawn0.below hd; clear hd; replace BK := kb_ BK hb; replace HB := hb_ HB (e_ GE e0_) hb; clear hb; have z0 := zc_ BK 0 rfl; have z1 := zc_ BK 1 rfl; have z2 := zc_ BK 2 rfl; have z3 := zc_ BK 3 rfl; have f0 := kf_ BK.out 0; have f1 := kf_ BK.out 1; have f2 := kf_ BK.out 2; have f3 := kf_ BK.out 3) | (go_at_call 46; refine (glyph_from.calls _ _ _ _ _ _ _ _ rfl).mono ?_; rintro e w5 ⟨rfl, hb⟩; replace BK := kb_ BK hb; replace HB := hb_ HB (e_ GE e0_) hb; clear hb; have z0 := zc_ BK 0 rfl; have z1 := zc_ BK 1 rfl; have z2 := zc_ BK 2 rfl; have z3 := zc_ BK 3 rfl; have f0 := kf_ BK.out 0; have f1 := kf_ BK.out 1; have f2 := kf_ BK.out 2; have f3 := kf_ BK.out 3) | (go_at_call 48; refine (glyph_other.calls 7 (-1000) (-2048) 0 2048 _ (by decide +kernel)).mono ?_; rintro e w5 ⟨rfl, hb⟩; replace BK := kb_ BK hb; replace HB := hb_ HB (e_ GE e0_) hb; clear hb; have z0 := zc_ BK 0 rfl; have z1 := zc_ BK 1 rfl; have z2 := zc_ BK 2 rfl; have z3 := zc_ BK 3 rfl; have f0 := kf_ BK.out 0; have f1 := kf_ BK.out 1; have f2 := kf_ BK.out 2; have f3 := kf_ BK.out 3))
  refine bodyPost_ret (results_cell_row rfl _ _ gb 46 #[.int .i64 (-1000), .int .i64 (-2048), .int .i64 0, .int .i64 2048] (0, 0) _ rfl (by refine blk_put (cs := #[.int .i64 (-1000), .int .i64 (-2048), .int .i64 0, .int .i64 0]) ?_ 3 _ rfl; refine blk_put (cs := #[.int .i64 (-1000), .int .i64 (-2048), .int .i64 0, .int .i64 0]) ?_ 2 _ rfl; refine blk_put (cs := #[.int .i64 (-1000), .int .i64 0, .int .i64 0, .int .i64 0]) ?_ 1 _ rfl; refine blk_put (cs := #[.int .i64 0, .int .i64 0, .int .i64 0, .int .i64 0]) ?_ 0 _ rfl; exact kk_ BK.out) Tryd.underlying46 rfl (by kernel_rfl)) rfl ?_
  exact ⟨rfl, bb_ HB.out (e_ GE e0_)⟩
 exact absurd hr (by omega)
theorem glyph_full.calls (a0 : Int) (r1 r2 r3 r4 : Int) (w : World) (h : glyph_full.f a0 = some (r1, r2, r3, r4)) :
  Calls Tryd.prog 35 #[.int .i64 a0] w fun e w' => e = .returned (.agg #[.int .i64 r1, .int .i64 r2, .int .i64 r3, .int .i64 r4]) ∧ Below w.heap.size w w' := by
 have hg : 1 ≤ a0 ∧ a0 ≤ 47 := by
  unfold glyph_full.f at h
  by_cases c : 1 ≤ a0 ∧ a0 ≤ 47
  ·exact c
  ·rw [if_neg c] at h; cases h
 by_cases d0 : a0 ≤ 4
 ·exact glyph_full.row0 a0 r1 r2 r3 r4 w (by omega) h
 by_cases d1 : a0 ≤ 12
 ·exact glyph_full.row1 a0 r1 r2 r3 r4 w (by omega) h
 by_cases d2 : a0 ≤ 16
 ·exact glyph_full.row2 a0 r1 r2 r3 r4 w (by omega) h
 by_cases d3 : a0 ≤ 20
 ·exact glyph_full.row3 a0 r1 r2 r3 r4 w (by omega) h
 by_cases d4 : a0 ≤ 25
 ·exact glyph_full.row4 a0 r1 r2 r3 r4 w (by omega) h
 by_cases d5 : a0 ≤ 29
 ·exact glyph_full.row5 a0 r1 r2 r3 r4 w (by omega) h
 by_cases d6 : a0 ≤ 39
 ·exact glyph_full.row6 a0 r1 r2 r3 r4 w (by omega) h
 by_cases d7 : a0 ≤ 47
 ·exact glyph_full.row7 a0 r1 r2 r3 r4 w (by omega) h
 exact absurd hg (by omega)

/-! ### fix_Ok: function 50 -/
def fix_Ok.f (a0 : Int) : Option (Bool) := if (-1099511627776) ≤ a0 then (some (decide (a0 ≤ 1099511627776))) else (some false)
set_option maxHeartbeats 8000000 in
set_option maxRecDepth 100000 in
theorem fix_Ok.calls (a0 : Int) (r : Bool) (w : World) (h : fix_Ok.f a0 = some r) :
  Calls Tryd.prog 50 #[.int .i64 a0] w fun e w' => e = .returned (.bool r) ∧ Drawn0 w w' := by
 have H : (if (-1099511627776) ≤ a0 then (some (decide (a0 ≤ 1099511627776))) else (some false)) = some r := h
 clear h
 by_cases c2 : (-1099511627776) ≤ a0
 ·rw [if_pos c2] at H
  have c2b0 : decide ((-1099511627776) ≤ a0) = true := dt_ c2
  clear c2
  obtain rfl := Option.some.inj H
  go_enter Tryd.func50, Tryd.ntmps50
  go_wp2
  go_ret
  exact ⟨by first | rfl | (simp; done) | (simp [*]; done), by repeat (first | exact Drawn0.refl _ | apply Drawn0.step)⟩
 ·rw [if_neg c2] at H
  have c2b0 : decide ((-1099511627776) ≤ a0) = false := df_ c2
  clear c2
  obtain rfl := Option.some.inj H
  go_enter Tryd.func50, Tryd.ntmps50
  go_wp2
  go_ret
  exact ⟨by first | rfl | (simp; done) | (simp [*]; done), by repeat (first | exact Drawn0.refl _ | apply Drawn0.step)⟩

end Go.Proofs.YtcokemaiploejaaDoor.P
