-- Written by a program of this session (wip/tools/xprint.py, over the kit's print): Lean checks it.
import Derived.Test.YtdiccfonlojlfaaGreatDoorPx0
namespace Go.Proofs.YtdiccfonlojlfaaGreatDoor.P
open Go.RowKit Go.Proofs.YtdiccfonlojlfaaGreatDoorW.PrintWords Go.Proofs.YtdiccfonlojlfaaGreatDoorW.PrintLast Go.Proofs.YtdiccfonlojlfaaGreatDoorW.PrintMore
attribute [local go_sem] max2_int min2_int max_two min_two max_three min_three max_four min_four   -- for this text's walks alone
set_option linter.unusedVariables false
set_option linter.unusedSimpArgs false

/-! ### dur_Check: function 15 -/
def dur_Check.f (a0_0 : Int) (a0_1 : Int) : Option (Bool) := if (-1) ≤ a0_0 then (if a0_0 ≤ 6 then (if 0 ≤ a0_1 then (some (decide (a0_1 ≤ 3))) else (some false)) else (some false)) else (some false)
set_option maxHeartbeats 8000000 in
set_option maxRecDepth 100000 in
theorem dur_Check.calls (a0_0 : Int) (a0_1 : Int) (r : Bool) (w : World) (h : dur_Check.f a0_0 a0_1 = some r) :
  Calls Tryz.prog 15 #[.agg #[.int .i64 a0_0, .int .i64 a0_1]] w fun e w' => e = .returned (.bool r) ∧ Below w.heap.size w w' := by
 have hu23 := Tryz.underlying23
 have HB := sd_ (Below.refl w.heap.size w)
 have H : (if (-1) ≤ a0_0 then (if a0_0 ≤ 6 then (if 0 ≤ a0_1 then (some (decide (a0_1 ≤ 3))) else (some false)) else (some false)) else (some false)) = some r := h
 clear h
 by_cases c2 : (-1) ≤ a0_0
 ·rw [if_pos c2] at H
  have c2b0 : decide ((-1) ≤ a0_0) = true := dt_ c2
  clear c2
  by_cases c3 : a0_0 ≤ 6
  ·rw [if_pos c3] at H
   have c3b0 : decide (a0_0 ≤ 6) = true := dt_ c3
   clear c3
   by_cases c4 : 0 ≤ a0_1
   ·rw [if_pos c4] at H
    have c4b0 : decide (0 ≤ a0_1) = true := dt_ c4
    clear c4
    obtain rfl := Option.some.inj H
    go_enter Tryz.func15, Tryz.ntmps15
    go_wp2_with (first | ((with_reducible refine gate_dst (N := 1) rfl ?_); refine box_event ?hg (N := 1) ?hd (cs := #[.int .i64 a0_0, .int .i64 a0_1]) (t := 23) ?hr ?_; (case hd => rfl); (case hg => rfl); (case hr => first | (go_simp; done) | (go_simp; rfl)); intro gb101 hg w5 hbox hb; have BK101 := sd_ hbox; have GW101 := gw_ HB e0_ hg; have GE101 := GW101; replace HB := hb_ HB e0_ hb; clear hb hbox hg; have hcz6_0 : w5.cell? ⟨gb101, 0, none⟩ = some (.int .i64 a0_0) := (kc_ BK101.out 0).trans rfl; have hcz6_1 : w5.cell? ⟨gb101, 1, none⟩ = some (.int .i64 a0_1) := (kc_ BK101.out 1).trans rfl; have hfz6_0 := kf_ BK101.out 0; have hfz6_1 := kf_ BK101.out 1))
    go_ret
    exact ⟨by first | rfl | (simp [errW_none, errW_some] <;> rfl) | (simp [*, errW_none, errW_some] <;> rfl), by repeat (first | (with_reducible first | exact HB.out | apply ba_ | apply pd_ | apply d1_ | refine bs_ ?_ GE101.out) | exact HB.out)⟩
   ·rw [if_neg c4] at H
    have c4b0 : decide (0 ≤ a0_1) = false := df_ c4
    clear c4
    obtain rfl := Option.some.inj H
    go_enter Tryz.func15, Tryz.ntmps15
    go_wp2_with (first | ((with_reducible refine gate_dst (N := 1) rfl ?_); refine box_event ?hg (N := 1) ?hd (cs := #[.int .i64 a0_0, .int .i64 a0_1]) (t := 23) ?hr ?_; (case hd => rfl); (case hg => rfl); (case hr => first | (go_simp; done) | (go_simp; rfl)); intro gb101 hg w7 hbox hb; have BK101 := sd_ hbox; have GW101 := gw_ HB e0_ hg; have GE101 := GW101; replace HB := hb_ HB e0_ hb; clear hb hbox hg; have hcz8_0 : w7.cell? ⟨gb101, 0, none⟩ = some (.int .i64 a0_0) := (kc_ BK101.out 0).trans rfl; have hcz8_1 : w7.cell? ⟨gb101, 1, none⟩ = some (.int .i64 a0_1) := (kc_ BK101.out 1).trans rfl; have hfz8_0 := kf_ BK101.out 0; have hfz8_1 := kf_ BK101.out 1))
    go_ret
    exact ⟨by first | rfl | (simp [errW_none, errW_some] <;> rfl) | (simp [*, errW_none, errW_some] <;> rfl), by repeat (first | (with_reducible first | exact HB.out | apply ba_ | apply pd_ | apply d1_ | refine bs_ ?_ GE101.out) | exact HB.out)⟩
  ·rw [if_neg c3] at H
   have c3b0 : decide (a0_0 ≤ 6) = false := df_ c3
   clear c3
   obtain rfl := Option.some.inj H
   go_enter Tryz.func15, Tryz.ntmps15
   go_wp2_with (first | ((with_reducible refine gate_dst (N := 1) rfl ?_); refine box_event ?hg (N := 1) ?hd (cs := #[.int .i64 a0_0, .int .i64 a0_1]) (t := 23) ?hr ?_; (case hd => rfl); (case hg => rfl); (case hr => first | (go_simp; done) | (go_simp; rfl)); intro gb101 hg w9 hbox hb; have BK101 := sd_ hbox; have GW101 := gw_ HB e0_ hg; have GE101 := GW101; replace HB := hb_ HB e0_ hb; clear hb hbox hg; have hcz10_0 : w9.cell? ⟨gb101, 0, none⟩ = some (.int .i64 a0_0) := (kc_ BK101.out 0).trans rfl; have hcz10_1 : w9.cell? ⟨gb101, 1, none⟩ = some (.int .i64 a0_1) := (kc_ BK101.out 1).trans rfl; have hfz10_0 := kf_ BK101.out 0; have hfz10_1 := kf_ BK101.out 1))
   go_ret
   exact ⟨by first | rfl | (simp [errW_none, errW_some] <;> rfl) | (simp [*, errW_none, errW_some] <;> rfl), by repeat (first | (with_reducible first | exact HB.out | apply ba_ | apply pd_ | apply d1_ | refine bs_ ?_ GE101.out) | exact HB.out)⟩
 ·rw [if_neg c2] at H
  have c2b0 : decide ((-1) ≤ a0_0) = false := df_ c2
  clear c2
  obtain rfl := Option.some.inj H
  go_enter Tryz.func15, Tryz.ntmps15
  go_wp2_with (first | ((with_reducible refine gate_dst (N := 1) rfl ?_); refine box_event ?hg (N := 1) ?hd (cs := #[.int .i64 a0_0, .int .i64 a0_1]) (t := 23) ?hr ?_; (case hd => rfl); (case hg => rfl); (case hr => first | (go_simp; done) | (go_simp; rfl)); intro gb101 hg w11 hbox hb; have BK101 := sd_ hbox; have GW101 := gw_ HB e0_ hg; have GE101 := GW101; replace HB := hb_ HB e0_ hb; clear hb hbox hg; have hcz12_0 : w11.cell? ⟨gb101, 0, none⟩ = some (.int .i64 a0_0) := (kc_ BK101.out 0).trans rfl; have hcz12_1 : w11.cell? ⟨gb101, 1, none⟩ = some (.int .i64 a0_1) := (kc_ BK101.out 1).trans rfl; have hfz12_0 := kf_ BK101.out 0; have hfz12_1 := kf_ BK101.out 1))
  go_ret
  exact ⟨by first | rfl | (simp [errW_none, errW_some] <;> rfl) | (simp [*, errW_none, errW_some] <;> rfl), by repeat (first | (with_reducible first | exact HB.out | apply ba_ | apply pd_ | apply d1_ | refine bs_ ?_ GE101.out) | exact HB.out)⟩

/-! ### dur_may: function 34 -/
/-- Of the listed variables nothing is read here. -/
def LaidE (_ : World) : Prop := True
theorem LaidE.below {w w1 : World} (_ : LaidE w) (_ : Below w.heap.size w w1) : LaidE w1 := trivial
def dur_may.f (a0 : Bool) : Option (Option Int) := some (if a0 = true then none else some 2)
theorem dur_may.calls (a0 : Bool) (r : Option Int) (w : World) (_hE : Aside0 (LaidE w)) (h : dur_may.f a0 = some r) :
  Calls Tryz.prog 34 #[.bool a0] w fun e w' => e = .returned (errW r) ∧ Drawn0 w w' := by
 obtain rfl := Option.some.inj h
 cases a0 with
 | true =>
  go_enter Tryz.func34, Tryz.ntmps34
  go_wp2
  go_ret
  exact ⟨rfl, Drawn0.refl _⟩
 | false =>
  go_enter Tryz.func34, Tryz.ntmps34
  go_wp2
  go_ret
  exact ⟨rfl, Drawn0.refl _⟩

/-! ### dur_errno: function 35 -/
open Go.Extern.Stop Go.Stop Go.Extern in
theorem ei_typeOf (v : Value) (w : World) : (ReflectliteType.typeOf #[.iface 82 v]).run Tryz.prog w = .ok (.iface 128 (.agg #[.pointer (some ⟨3, 82, none⟩)])) w := by kernel_rfl
open Go.Extern.Stop Go.Stop Go.Extern in
theorem ei_comparable (w : World) : ((ReflectliteType.method fun t => do Rtype.noPackHeld "Comparable" t; (fun a => Value.bool a.comparable) <$> typeInfo t) #[.agg #[.pointer (some ⟨3, 82, none⟩)]]).run Tryz.prog w = .ok (.bool true) w := by kernel_rfl
open Go.Extern.Stop Go.Stop Go.Extern in
theorem ei_methodComparable (v : Value) (w : World) : (Go.method 278 128 v "Comparable").run Tryz.prog w = .ok (125, v) w := by kernel_rfl
open Go.Extern.Stop Go.Stop Go.Extern in
theorem ei_noIs (v : Value) (xT : TypeId) (w : World) : (Instr.typeAssert (.iface 84 v) xT 130 true).run Tryz.prog w = .ok (.tuple #[.nilIface, .bool false]) w := run_typeAssert_lacksB Tryz.underlying130 (by kernel_rfl) (by kernel_rfl) v xT w
open Go.Extern.Stop Go.Stop Go.Extern in
theorem ei_hasUnwrap (v : Value) (xT : TypeId) (w : World) : (Instr.typeAssert (.iface 84 v) xT 133 true).run Tryz.prog w = .ok (.tuple #[.iface 84 v, .bool true]) w := run_typeAssert_hasB Tryz.underlying133 (by kernel_rfl) v xT w
open Go.Extern.Stop Go.Stop Go.Extern in
theorem ei_methodUnwrap (v : Value) (w : World) : (Go.method 278 84 v "Unwrap").run Tryz.prog w = .ok (120, v) w := by kernel_rfl
theorem ei_other (v v' : Value) (W : World) : (Go.binOp .eql 61 (.iface 84 v) (.iface 82 v')).run Tryz.prog W = .ok (.bool false) W := by kernel_rfl
theorem ei_same (W : World) : (Go.binOp .eql 61 (.iface 82 (.int .i64 2)) (.iface 82 (.int .i64 2))).run Tryz.prog W = .ok (.bool true) W := by kernel_rfl
theorem about_unwrap (w : World) : Calls Tryz.prog 120 #[.agg #[.int .i64 2]] w fun e w' => e = .returned (.iface 82 (.int .i64 2)) ∧ Below w.heap.size w w' := by
 go_enter Tryz.func120, Tryz.ntmps120
 go_wp2
 go_ret
 exact ⟨rfl, by repeat (first | exact Below.refl _ _ | apply ba_ | apply pd_ | apply d1_)⟩
set_option maxRecDepth 1000000 in
set_option maxHeartbeats 4000000 in
theorem errors_is (w : World) : Calls Tryz.prog 81 #[.iface 84 (.agg #[.int .i64 2]), .iface 82 (.int .i64 2), .bool true] w fun e w' => e = .returned (.bool true) ∧ Below w.heap.size w w' := by
 have nE := ei_noIs
 have uE := ei_hasUnwrap
 have mU := ei_methodUnwrap
 have eO := ei_other
 have eS := ei_same
 go_enter Tryz.func81, Tryz.ntmps81
 go_wp2
 refine wp_loop_rounds 2 ?_
 rw [rounds_succ]
 go_wp2_with (go_at_call 120; refine (about_unwrap _).mono ?_; rintro e w1 ⟨rfl, hb⟩; have HB := sd_ hb; clear hb)
 rw [rounds_succ]
 go_wp2
 go_ret
 exact ⟨rfl, HB.out⟩
open Go.Extern.Stop Go.Stop Go.Extern in
set_option maxRecDepth 1000000 in
set_option maxHeartbeats 4000000 in
theorem errors_Is (w : World) : Calls Tryz.prog 56 #[.iface 84 (.agg #[.int .i64 2]), .iface 82 (.int .i64 2)] w fun e w' => e = .returned (.bool true) ∧ Below w.heap.size w w' := by
 have h6 := @run_callFunc_extern Tryz.prog 80 _ ReflectliteType.typeOf Tryz.func80 (by kernel_rfl) (by kernel_rfl) (by kernel_rfl) (by kernel_rfl)
 have h7 := @run_callFunc_extern Tryz.prog 125 _ (ReflectliteType.method fun t => do Rtype.noPackHeld "Comparable" t; pure (.bool (← typeInfo t).comparable)) Tryz.func125 (by kernel_rfl) (by kernel_rfl) (by kernel_rfl) (by kernel_rfl)
 have f6 := ei_typeOf
 have f7 := ei_comparable
 have mC := ei_methodComparable
 go_enter Tryz.func56, Tryz.ntmps56
 go_wp2_with (go_at_call 81; refine (errors_is _).mono ?_; rintro e w1 ⟨rfl, hb⟩; have HB := sd_ hb; clear hb)
 go_ret
 exact ⟨rfl, HB.out⟩
def dur_errno.f (a0 : Option Int) : Option Int := if a0 = some 2 then some 2 else none
theorem dur_errno.calls (a0 : Option Int) (r : Int) (w : World) (h : dur_errno.f a0 = some r) :
  Calls Tryz.prog 35 #[errW a0] w fun e w' => e = .returned (.int .i64 r) ∧ Below w.heap.size w w' := by
 unfold dur_errno.f at h
 split at h
 ·rename_i q
  subst q
  obtain rfl := Option.some.inj h
  show Calls Tryz.prog 35 #[.iface 84 (.agg #[.int .i64 2])] w _
  go_enter Tryz.func35, Tryz.ntmps35
  go_wp2_with (go_at_call 56; refine (errors_Is _).mono ?_; rintro e w1 ⟨rfl, hb⟩; have HB := sd_ hb; clear hb)
  go_ret
  exact ⟨rfl, HB.out⟩
 ·cases h

/-! ### rat_zero: function 57 -/
def rat_zero.f  : Option (Int × Int) := some (0, 0)
set_option maxHeartbeats 8000000 in
set_option maxRecDepth 100000 in
theorem rat_zero.calls  (r1 : Int) (r2 : Int) (w : World) (h : rat_zero.f  = some (r1, r2)) :
  Calls Tryz.prog 57 #[] w fun e w' => e = .returned (.agg #[.int .i64 r1, .int .i64 r2]) ∧ Below w.heap.size w w' := by
 have hu25 := Tryz.underlying25
 have HB := sd_ (Below.refl w.heap.size w)
 have H : (some (0, 0)) = some (r1, r2) := h
 clear h
 simp only [Option.some.injEq, Prod.mk.injEq] at H
 obtain ⟨rfl, rfl⟩ := H
 go_enter Tryz.func57, Tryz.ntmps57
 go_wp2_with (first | ((with_reducible refine gate_dst (N := 0) rfl ?_); refine box_event ?hg (N := 0) ?hd (cs := #[.int .i64 0, .int .i64 0]) (t := 25) ?hr ?_; (case hd => rfl); (case hg => rfl); (case hr => first | (go_simp; done) | (go_simp; rfl)); intro gb102 hg w1 hbox hb; have BK102 := sd_ hbox; have GW102 := gw_ HB e0_ hg; have GE102 := GW102; replace HB := hb_ HB e0_ hb; clear hb hbox hg; have hcz2_0 : w1.cell? ⟨gb102, 0, none⟩ = some (.int .i64 0) := (kc_ BK102.out 0).trans rfl; have hcz2_1 : w1.cell? ⟨gb102, 1, none⟩ = some (.int .i64 0) := (kc_ BK102.out 1).trans rfl; have hfz2_0 := kf_ BK102.out 0; have hfz2_1 := kf_ BK102.out 1))
 refine bodyPost_ret (results_cell_row rfl _ _ gb102 25 #[.int .i64 0, .int .i64 0] (0, 0) _ rfl (by (with_reducible repeat first | apply kn_ | apply kd_ | apply ka_); refine blk_put (cs := #[.int .i64 0, .int .i64 0]) ?_ 1 _ rfl; (with_reducible repeat first | apply kn_ | apply kd_ | apply ka_); refine blk_put (cs := #[.int .i64 0, .int .i64 0]) ?_ 0 _ rfl; (with_reducible repeat first | apply kn_ | apply kd_ | apply ka_); exact BK102.out) Tryz.underlying25 rfl (by kernel_rfl)) rfl ?_
 exact ⟨by first | rfl | (simp [errW_none, errW_some] <;> rfl) | (simp [*, errW_none, errW_some] <;> rfl), by repeat (first | (with_reducible first | exact HB.out | apply ba_ | apply pd_ | apply d1_ | refine bs_ ?_ GE102.out) | exact HB.out)⟩

/-! ### rat_common: function 64 -/
def rat_common.f : Nat → Int → Int → Option (Int)
 | 0, _, _ => none
 | k + 1, a0, a1 => if a1 = 0 then (some a0) else ((rat_common.f k a1 (Int.tmod a0 a1)).bind fun t103 => (some t103))
theorem rat_common.mono_l : ∀ k, (∀ y0 y1, LeO (rat_common.f k y0 y1) (rat_common.f (k + 1) y0 y1))
 | 0 => fun _ _ r h => by simp [rat_common.f] at h
 | k + 1 => by
  have ih0 := rat_common.mono_l k
  ·intro y0 y1
   unfold rat_common.f
   repeat' first
   | (with_reducible exact ih0 _ _)
   | (with_reducible exact LeO.refl _)
   | (with_reducible exact LeO.none _)
   | (with_reducible refine LeO.ite ?_ ?_)
   | (with_reducible refine LeO.bind ?_ (fun _ => ?_))
   | exact ih0 _ _
   | exact LeO.none _
   | refine LeO.ite ?_ ?_
   | refine LeO.bind ?_ (fun _ => ?_)
theorem rat_common.mono : ∀ a0 a1 k, LeO (rat_common.f k a0 a1) (rat_common.f (k + 1) a0 a1) := by
 intro a0 a1 k
 have ih0 := rat_common.mono_l k
 exact ih0 a0 a1
set_option maxHeartbeats 8000000 in
set_option maxRecDepth 100000 in
theorem rat_common.calls (k : Nat) : ∀ (a0 : Int) (a1 : Int) (r : Int) (w : World) (h : rat_common.f k a0 a1 = some r),
  Calls Tryz.prog 64 #[.int .i64 a0, .int .i64 a1] w fun e w' => e = .returned (.int .i64 r) ∧ Drawn0 w w' := by
 induction k using Nat.strongRecOn with
 | _ k ih =>
 intro a0 a1 r w h
 cases k with
 | zero => exact absurd h (by simp [rat_common.f])
 | succ k =>
 simp only [rat_common.f] at h
 have H : (if a1 = 0 then (some a0) else ((rat_common.f k a1 (Int.tmod a0 a1)).bind fun t103 => (some t103))) = some r := h
 clear h
 by_cases c3 : a1 = 0
 ·rw [if_pos c3] at H
  have c3b0 : (a1 == 0) = true := beq_iff_eq.mpr c3
  have c3b1 : (a1 != 0) = false := bne_eq_false_iff_eq.mpr c3
  clear c3
  obtain rfl := Option.some.inj H
  go_enter Tryz.func64, Tryz.ntmps64
  go_wp2
  go_ret
  exact ⟨by first | rfl | (simp; done) | (simp [*]; done), by repeat (first | exact Drawn0.refl _ | apply Drawn0.step)⟩
 ·rw [if_neg c3] at H
  have c3b0 : (a1 == 0) = false := beq_eq_false_iff_ne.mpr c3
  have c3b1 : (a1 != 0) = true := bne_iff_ne.mpr c3
  replace H := ob_ H
  obtain ⟨t103, A40, H⟩ := H
  replace H : (some t103) = some r := H
  have A4 := sd_ A40
  clear A40
  obtain rfl := Option.some.inj H
  go_enter Tryz.func64, Tryz.ntmps64
  go_wp2_with (first | ((with_reducible refine gate_callee (f := 64) rfl ?_); refine goesL_ (some 12) rfl rfl Tryz.func64 (by kernel_rfl) rfl #[.int .i64 a1, .int .i64 (Int.tmod a0 a1)] rfl (by (try simp only [lm_, lq_, lx_]); first | done | rfl | (simp only [ld_, lt_]; rfl)) ?_; (with_reducible refine (ih k (by omega) a1 (Int.tmod a0 a1) t103 _ A4.out).mono ?_); rintro e w' ⟨rfl, ⟨nd, rfl⟩⟩; refine ⟨_, rfl, ?_⟩))
  go_ret
  exact ⟨by first | rfl | (simp; done) | (simp [*]; done), by repeat (first | exact Drawn0.refl _ | apply Drawn0.step)⟩

/-! ### rat_abs: function 65 -/
def rat_abs.f (a0 : Int) : Option (Int) := if a0 < 0 then (some (wrap64 (-a0))) else (some a0)
set_option maxHeartbeats 8000000 in
set_option maxRecDepth 100000 in
theorem rat_abs.calls (a0 : Int) (r : Int) (w : World) (h : rat_abs.f a0 = some r) :
  Calls Tryz.prog 65 #[.int .i64 a0] w fun e w' => e = .returned (.int .i64 r) ∧ Drawn0 w w' := by
 have H : (if a0 < 0 then (some (wrap64 (-a0))) else (some a0)) = some r := h
 clear h
 by_cases c2 : a0 < 0
 ·rw [if_pos c2] at H
  have c2b0 : decide (a0 < 0) = true := dt_ c2
  clear c2
  obtain rfl := Option.some.inj H
  go_enter Tryz.func65, Tryz.ntmps65
  go_wp2
  go_ret
  exact ⟨by first | rfl | (simp; done) | (simp [*]; done), by repeat (first | exact Drawn0.refl _ | apply Drawn0.step)⟩
 ·rw [if_neg c2] at H
  have c2b0 : decide (a0 < 0) = false := df_ c2
  clear c2
  obtain rfl := Option.some.inj H
  go_enter Tryz.func65, Tryz.ntmps65
  go_wp2
  go_ret
  exact ⟨by first | rfl | (simp; done) | (simp [*]; done), by repeat (first | exact Drawn0.refl _ | apply Drawn0.step)⟩

/-! ### rat_sized: function 82 -/
def rat_sized.f (a0 : Int) (a1 : Int) : Option (Int × Int × Int) := (rat_abs.f a0).bind fun t106 => (if t106 > 1099511627776 then ((rat_zero.f).bind fun bt107 => (some (bt107.1, bt107.2, 3))) else (if a1 > 1048576 then ((rat_zero.f).bind fun bt109 => (some (bt109.1, bt109.2, 3))) else (some (a0, a1, 0))))
set_option maxHeartbeats 8000000 in
set_option maxRecDepth 100000 in
theorem rat_sized.calls (a0 : Int) (a1 : Int) (r1 : Int) (r2 : Int) (r3 : Int) (w : World) (h : rat_sized.f a0 a1 = some (r1, r2, r3)) :
  Calls Tryz.prog 82 #[.int .i64 a0, .int .i64 a1] w fun e w' => e = .returned (.tuple #[.agg #[.int .i64 r1, .int .i64 r2], .int .i64 r3]) ∧ Below w.heap.size w w' := by
 have hu25 := Tryz.underlying25
 have HB := sd_ (Below.refl w.heap.size w)
 have H : ((rat_abs.f a0).bind fun t106 => (if t106 > 1099511627776 then ((rat_zero.f).bind fun bt107 => (some (bt107.1, bt107.2, 3))) else (if a1 > 1048576 then ((rat_zero.f).bind fun bt109 => (some (bt109.1, bt109.2, 3))) else (some (a0, a1, 0))))) = some (r1, r2, r3) := h
 clear h
 replace H := ob_ H
 obtain ⟨t106, A30, H⟩ := H
 replace H : (if t106 > 1099511627776 then ((rat_zero.f).bind fun bt107 => (some (bt107.1, bt107.2, 3))) else (if a1 > 1048576 then ((rat_zero.f).bind fun bt109 => (some (bt109.1, bt109.2, 3))) else (some (a0, a1, 0)))) = some (r1, r2, r3) := H
 have A3 := sd_ A30
 clear A30
 by_cases c4 : t106 > 1099511627776
 ·rw [if_pos c4] at H
  have c4b0 : decide (1099511627776 < t106) = true := dt_ c4
  clear c4
  replace H := ob_ H
  obtain ⟨⟨t107, t108⟩, A50, H⟩ := H
  replace H : (some (t107, t108, 3)) = some (r1, r2, r3) := H
  have A5 := sd_ A50
  clear A50
  simp only [Option.some.injEq, Prod.mk.injEq] at H
  obtain ⟨rfl, rfl, rfl⟩ := H
  go_enter Tryz.func82, Tryz.ntmps82
  go_wp2_with (first | ((with_reducible refine gate_dst (N := 4) rfl ?_); refine box_event ?hg (N := 4) ?hd (cs := #[.int .i64 0, .int .i64 0]) (t := 25) ?hr ?_; (case hd => rfl); (case hg => rfl); (case hr => first | (go_simp; done) | (go_simp; rfl)); intro gb104 hg w6 hbox hb; have BK104 := sd_ hbox; have GW104 := gw_ HB e0_ hg; have GE104 := GW104; replace HB := hb_ HB e0_ hb; clear hb hbox hg) | ((with_reducible refine gate_dst (N := 6) rfl ?_); refine box_event ?hg (N := 6) ?hd (cs := #[.int .i64 0, .int .i64 0]) (t := 25) ?hr ?_; (case hd => rfl); (case hg => rfl); (case hr => first | (go_simp; done) | (go_simp; rfl)); intro gb105 hg w7 hbox hb; have BK105 := sd_ hbox; have GW105 := gw_ HB (e_ GE104 e0_) hg; have GE105 := GW105; have NB104_105 := nb_ BK104 hg; have NB105_104 := sy_ NB104_105; replace BK104 := kb_ BK104 hb; replace HB := hb_ HB (e_ GE104 e0_) hb; clear hb hbox hg; have hnb8 := NB105_104.out; have hnc8 := NB104_105.out; have hcz9_0 : w7.cell? ⟨gb105, 0, none⟩ = some (.int .i64 0) := (kc_ BK105.out 0).trans rfl; have hcz9_1 : w7.cell? ⟨gb105, 1, none⟩ = some (.int .i64 0) := (kc_ BK105.out 1).trans rfl; have hfz9_0 := kf_ BK105.out 0; have hfz9_1 := kf_ BK105.out 1) | ((with_reducible refine gate_callee (f := 65) rfl ?_); refine goesL_ (some 11) rfl rfl Tryz.func65 (by kernel_rfl) rfl #[.int .i64 a0] rfl (by (try simp only [lm_, lq_, lx_]); first | done | rfl | (simp only [ld_, lt_]; rfl)) ?_; (with_reducible refine (rat_abs.calls a0 t106 _ A3.out).mono ?_); rintro e w' ⟨rfl, ⟨nd, rfl⟩⟩; refine ⟨_, rfl, ?_⟩) | ((with_reducible refine gate_callee (f := 57) rfl ?_); refine goesL_ (some 17) rfl rfl Tryz.func57 (by kernel_rfl) rfl #[] rfl (by (try simp only [lm_, lq_, lx_]); first | done | rfl | (simp only [ld_, lt_]; rfl)) ?_; (with_reducible refine (rat_zero.calls  t107 t108 _ A5.out).mono ?_); rintro e w10 ⟨rfl, hb⟩; refine ⟨_, rfl, ?_⟩; replace BK104 := sd_ (blk_below (g := gb104) (o := .cells #[.int .i64 0, .int .i64 0] 25 (0, 0)) (by (with_reducible repeat first | apply kn_ | apply kd_ | apply ka_); refine blk_far ?_ NB104_105.out _; (with_reducible repeat first | apply kn_ | apply kd_ | apply ka_); refine blk_far ?_ NB104_105.out _; (with_reducible repeat first | apply kn_ | apply kd_ | apply ka_); exact BK104.out) hb); replace BK105 := sd_ (blk_below (g := gb105) (o := .cells #[.int .i64 a0, .int .i64 a1] 25 (0, 0)) (by (with_reducible repeat first | apply kn_ | apply kd_ | apply ka_); refine blk_put (cs := #[.int .i64 a0, .int .i64 0]) ?_ 1 _ rfl; (with_reducible repeat first | apply kn_ | apply kd_ | apply ka_); refine blk_put (cs := #[.int .i64 0, .int .i64 0]) ?_ 0 _ rfl; (with_reducible repeat first | apply kn_ | apply kd_ | apply ka_); exact BK105.out) hb); replace HB := hb_ HB (e_ GE104 (e_ GE105 e0_)) hb; (try clear hb); (try clear hb2); (try clear hk); (try clear hi); have hcz11_0 : w10.cell? ⟨gb104, 0, none⟩ = some (.int .i64 0) := (kc_ BK104.out 0).trans rfl; have hcz11_1 : w10.cell? ⟨gb104, 1, none⟩ = some (.int .i64 0) := (kc_ BK104.out 1).trans rfl; have hfz11_0 := kf_ BK104.out 0; have hfz11_1 := kf_ BK104.out 1))
  refine bodyPost_ret (results_ct rfl _ _ gb104 25 #[.int .i64 t107, .int .i64 t108] (0, 0) _ rfl (by (with_reducible repeat first | apply kn_ | apply kd_ | apply ka_); refine blk_put (cs := #[.int .i64 t107, .int .i64 0]) ?_ 1 _ rfl; (with_reducible repeat first | apply kn_ | apply kd_ | apply ka_); refine blk_put (cs := #[.int .i64 0, .int .i64 0]) ?_ 0 _ rfl; (with_reducible repeat first | apply kn_ | apply kd_ | apply ka_); exact BK104.out) Tryz.underlying25 rfl (by kernel_rfl)) rfl ?_
  exact ⟨by first | rfl | (simp [errW_none, errW_some] <;> rfl) | (simp [*, errW_none, errW_some] <;> rfl), by repeat (first | (with_reducible first | exact HB.out | apply ba_ | apply pd_ | apply d1_ | refine bs_ ?_ GE104.out | refine bs_ ?_ GE105.out) | exact HB.out)⟩
 ·rw [if_neg c4] at H
  have c4b0 : decide (1099511627776 < t106) = false := df_ c4
  clear c4
  by_cases c12 : a1 > 1048576
  ·rw [if_pos c12] at H
   have c12b0 : decide (1048576 < a1) = true := dt_ c12
   clear c12
   replace H := ob_ H
   obtain ⟨⟨t109, t110⟩, A130, H⟩ := H
   replace H : (some (t109, t110, 3)) = some (r1, r2, r3) := H
   have A13 := sd_ A130
   clear A130
   simp only [Option.some.injEq, Prod.mk.injEq] at H
   obtain ⟨rfl, rfl, rfl⟩ := H
   go_enter Tryz.func82, Tryz.ntmps82
   go_wp2_with (first | ((with_reducible refine gate_dst (N := 4) rfl ?_); refine box_event ?hg (N := 4) ?hd (cs := #[.int .i64 0, .int .i64 0]) (t := 25) ?hr ?_; (case hd => rfl); (case hg => rfl); (case hr => first | (go_simp; done) | (go_simp; rfl)); intro gb104 hg w14 hbox hb; have BK104 := sd_ hbox; have GW104 := gw_ HB e0_ hg; have GE104 := GW104; replace HB := hb_ HB e0_ hb; clear hb hbox hg) | ((with_reducible refine gate_dst (N := 6) rfl ?_); refine box_event ?hg (N := 6) ?hd (cs := #[.int .i64 0, .int .i64 0]) (t := 25) ?hr ?_; (case hd => rfl); (case hg => rfl); (case hr => first | (go_simp; done) | (go_simp; rfl)); intro gb105 hg w15 hbox hb; have BK105 := sd_ hbox; have GW105 := gw_ HB (e_ GE104 e0_) hg; have GE105 := GW105; have NB104_105 := nb_ BK104 hg; have NB105_104 := sy_ NB104_105; replace BK104 := kb_ BK104 hb; replace HB := hb_ HB (e_ GE104 e0_) hb; clear hb hbox hg; have hnb16 := NB105_104.out; have hnc16 := NB104_105.out; have hcz17_0 : w15.cell? ⟨gb105, 0, none⟩ = some (.int .i64 0) := (kc_ BK105.out 0).trans rfl; have hcz17_1 : w15.cell? ⟨gb105, 1, none⟩ = some (.int .i64 0) := (kc_ BK105.out 1).trans rfl; have hfz17_0 := kf_ BK105.out 0; have hfz17_1 := kf_ BK105.out 1) | ((with_reducible refine gate_callee (f := 65) rfl ?_); refine goesL_ (some 11) rfl rfl Tryz.func65 (by kernel_rfl) rfl #[.int .i64 a0] rfl (by (try simp only [lm_, lq_, lx_]); first | done | rfl | (simp only [ld_, lt_]; rfl)) ?_; (with_reducible refine (rat_abs.calls a0 t106 _ A3.out).mono ?_); rintro e w' ⟨rfl, ⟨nd, rfl⟩⟩; refine ⟨_, rfl, ?_⟩) | ((with_reducible refine gate_callee (f := 57) rfl ?_); refine goesL_ (some 17) rfl rfl Tryz.func57 (by kernel_rfl) rfl #[] rfl (by (try simp only [lm_, lq_, lx_]); first | done | rfl | (simp only [ld_, lt_]; rfl)) ?_; (with_reducible refine (rat_zero.calls  t109 t110 _ A13.out).mono ?_); rintro e w18 ⟨rfl, hb⟩; refine ⟨_, rfl, ?_⟩; replace BK104 := sd_ (blk_below (g := gb104) (o := .cells #[.int .i64 0, .int .i64 0] 25 (0, 0)) (by (with_reducible repeat first | apply kn_ | apply kd_ | apply ka_); refine blk_far ?_ NB104_105.out _; (with_reducible repeat first | apply kn_ | apply kd_ | apply ka_); refine blk_far ?_ NB104_105.out _; (with_reducible repeat first | apply kn_ | apply kd_ | apply ka_); exact BK104.out) hb); replace BK105 := sd_ (blk_below (g := gb105) (o := .cells #[.int .i64 a0, .int .i64 a1] 25 (0, 0)) (by (with_reducible repeat first | apply kn_ | apply kd_ | apply ka_); refine blk_put (cs := #[.int .i64 a0, .int .i64 0]) ?_ 1 _ rfl; (with_reducible repeat first | apply kn_ | apply kd_ | apply ka_); refine blk_put (cs := #[.int .i64 0, .int .i64 0]) ?_ 0 _ rfl; (with_reducible repeat first | apply kn_ | apply kd_ | apply ka_); exact BK105.out) hb); replace HB := hb_ HB (e_ GE104 (e_ GE105 e0_)) hb; (try clear hb); (try clear hb2); (try clear hk); (try clear hi); have hcz19_0 : w18.cell? ⟨gb104, 0, none⟩ = some (.int .i64 0) := (kc_ BK104.out 0).trans rfl; have hcz19_1 : w18.cell? ⟨gb104, 1, none⟩ = some (.int .i64 0) := (kc_ BK104.out 1).trans rfl; have hfz19_0 := kf_ BK104.out 0; have hfz19_1 := kf_ BK104.out 1))
   refine bodyPost_ret (results_ct rfl _ _ gb104 25 #[.int .i64 t109, .int .i64 t110] (0, 0) _ rfl (by (with_reducible repeat first | apply kn_ | apply kd_ | apply ka_); refine blk_put (cs := #[.int .i64 t109, .int .i64 0]) ?_ 1 _ rfl; (with_reducible repeat first | apply kn_ | apply kd_ | apply ka_); refine blk_put (cs := #[.int .i64 0, .int .i64 0]) ?_ 0 _ rfl; (with_reducible repeat first | apply kn_ | apply kd_ | apply ka_); exact BK104.out) Tryz.underlying25 rfl (by kernel_rfl)) rfl ?_
   exact ⟨by first | rfl | (simp [errW_none, errW_some] <;> rfl) | (simp [*, errW_none, errW_some] <;> rfl), by repeat (first | (with_reducible first | exact HB.out | apply ba_ | apply pd_ | apply d1_ | refine bs_ ?_ GE104.out | refine bs_ ?_ GE105.out) | exact HB.out)⟩
  ·rw [if_neg c12] at H
   have c12b0 : decide (1048576 < a1) = false := df_ c12
   clear c12
   simp only [Option.some.injEq, Prod.mk.injEq] at H
   obtain ⟨rfl, rfl, rfl⟩ := H
   go_enter Tryz.func82, Tryz.ntmps82
   go_wp2_with (first | ((with_reducible refine gate_dst (N := 4) rfl ?_); refine box_event ?hg (N := 4) ?hd (cs := #[.int .i64 0, .int .i64 0]) (t := 25) ?hr ?_; (case hd => rfl); (case hg => rfl); (case hr => first | (go_simp; done) | (go_simp; rfl)); intro gb104 hg w20 hbox hb; have BK104 := sd_ hbox; have GW104 := gw_ HB e0_ hg; have GE104 := GW104; replace HB := hb_ HB e0_ hb; clear hb hbox hg) | ((with_reducible refine gate_dst (N := 6) rfl ?_); refine box_event ?hg (N := 6) ?hd (cs := #[.int .i64 0, .int .i64 0]) (t := 25) ?hr ?_; (case hd => rfl); (case hg => rfl); (case hr => first | (go_simp; done) | (go_simp; rfl)); intro gb105 hg w21 hbox hb; have BK105 := sd_ hbox; have GW105 := gw_ HB (e_ GE104 e0_) hg; have GE105 := GW105; have NB104_105 := nb_ BK104 hg; have NB105_104 := sy_ NB104_105; replace BK104 := kb_ BK104 hb; replace HB := hb_ HB (e_ GE104 e0_) hb; clear hb hbox hg; have hnb22 := NB105_104.out; have hnc22 := NB104_105.out; have hcz23_0 : w21.cell? ⟨gb105, 0, none⟩ = some (.int .i64 0) := (kc_ BK105.out 0).trans rfl; have hcz23_1 : w21.cell? ⟨gb105, 1, none⟩ = some (.int .i64 0) := (kc_ BK105.out 1).trans rfl; have hfz23_0 := kf_ BK105.out 0; have hfz23_1 := kf_ BK105.out 1) | ((with_reducible refine gate_callee (f := 65) rfl ?_); refine goesL_ (some 11) rfl rfl Tryz.func65 (by kernel_rfl) rfl #[.int .i64 a0] rfl (by (try simp only [lm_, lq_, lx_]); first | done | rfl | (simp only [ld_, lt_]; rfl)) ?_; (with_reducible refine (rat_abs.calls a0 t106 _ A3.out).mono ?_); rintro e w' ⟨rfl, ⟨nd, rfl⟩⟩; refine ⟨_, rfl, ?_⟩; have hcz24_0 : w21.cell? ⟨gb104, 0, none⟩ = some (.int .i64 0) := (kc_ BK104.out 0).trans rfl; have hcz24_1 : w21.cell? ⟨gb104, 1, none⟩ = some (.int .i64 0) := (kc_ BK104.out 1).trans rfl; have hfz24_0 := kf_ BK104.out 0; have hfz24_1 := kf_ BK104.out 1))
   refine bodyPost_ret (results_ct rfl _ _ gb104 25 #[.int .i64 a0, .int .i64 a1] (0, 0) _ rfl (by (with_reducible repeat first | apply kn_ | apply kd_ | apply ka_); refine blk_put (cs := #[.int .i64 a0, .int .i64 0]) ?_ 1 _ rfl; (with_reducible repeat first | apply kn_ | apply kd_ | apply ka_); refine blk_put (cs := #[.int .i64 0, .int .i64 0]) ?_ 0 _ rfl; (with_reducible repeat first | apply kn_ | apply kd_ | apply ka_); refine blk_far ?_ NB104_105.out _; (with_reducible repeat first | apply kn_ | apply kd_ | apply ka_); refine blk_far ?_ NB104_105.out _; (with_reducible repeat first | apply kn_ | apply kd_ | apply ka_); exact BK104.out) Tryz.underlying25 rfl (by kernel_rfl)) rfl ?_
   exact ⟨by first | rfl | (simp [errW_none, errW_some] <;> rfl) | (simp [*, errW_none, errW_some] <;> rfl), by repeat (first | (with_reducible first | exact HB.out | apply ba_ | apply pd_ | apply d1_ | refine bs_ ?_ GE104.out | refine bs_ ?_ GE105.out) | exact HB.out)⟩

/-! ### rat_lowest: function 58 -/
def rat_lowest.f (k : Nat) (a0 : Int) (a1 : Int) : Option (Int × Int × Int) := (rat_abs.f a0).bind fun t112 => ((rat_abs.f a1).bind fun t113 => ((rat_common.f k t112 t113).bind fun t114 => (if a1 < 0 then (if (wrap64 (-t114)) = 0 then (none) else ((rat_sized.f (wrap64 (Int.tdiv a0 (wrap64 (-t114)))) (wrap64 (Int.tdiv a1 (wrap64 (-t114))))).bind fun bt115 => (some (bt115.1, bt115.2.1, bt115.2.2)))) else (if t114 = 0 then (none) else ((rat_sized.f (wrap64 (Int.tdiv a0 t114)) (wrap64 (Int.tdiv a1 t114))).bind fun bt118 => (some (bt118.1, bt118.2.1, bt118.2.2)))))))
theorem rat_lowest.mono : ∀ a0 a1 k, LeO (rat_lowest.f k a0 a1) (rat_lowest.f (k + 1) a0 a1) := by
 intro a0 a1 k
 unfold rat_lowest.f
 repeat' first
   | (with_reducible exact rat_common.mono _ _ _)
   | (with_reducible exact LeO.refl _)
   | (with_reducible exact LeO.none _)
   | (with_reducible refine LeO.ite ?_ ?_)
   | (with_reducible refine LeO.bind ?_ (fun _ => ?_))
   | exact rat_common.mono _ _ _
   | exact LeO.none _
   | refine LeO.ite ?_ ?_
   | refine LeO.bind ?_ (fun _ => ?_)
def rat_lowest.T4 : Bool × List (List Nat × List Nat) := (true, [([], []), ([], []), ([0, 1], [0, 1]), ([], []), ([], []), ([3, 4], [3, 4]), ([2, 5], [2, 5]), ([6], [6]), ([6], [6]), ([7, 6, 0, 1, 2, 3, 4, 5, 6, 7, 8], [7]), ([8, 9, 0, 1, 2, 3, 4, 5, 6, 7, 8, 9], [8])])
def rat_lowest.B4 : List Nat := [0, 0, 3, 0, 0, 24, 63, 127, 127, 511, 1023]
theorem rat_lowest.tab4 : rtab .any (opsOf Tryz.f58 4) = rat_lowest.T4 := by kernel_rfl
theorem rat_lowest.bits4 : waitsOk rat_lowest.T4.2 rat_lowest.B4 = true := by kernel_rfl
set_option maxHeartbeats 8000000 in
set_option maxRecDepth 100000 in
theorem rat_lowest.calls (k : Nat) (a0 : Int) (a1 : Int) (r1 : Int) (r2 : Int) (r3 : Int) (w : World) (h : rat_lowest.f k a0 a1 = some (r1, r2, r3)) :
  Calls Tryz.prog 58 #[.int .i64 a0, .int .i64 a1] w fun e w' => e = .returned (.tuple #[.agg #[.int .i64 r1, .int .i64 r2], .int .i64 r3]) ∧ Below w.heap.size w w' := by
 have hu25 := Tryz.underlying25
 have HB := sd_ (Below.refl w.heap.size w)
 have H : ((rat_abs.f a0).bind fun t112 => ((rat_abs.f a1).bind fun t113 => ((rat_common.f k t112 t113).bind fun t114 => (if a1 < 0 then (if (wrap64 (-t114)) = 0 then (none) else ((rat_sized.f (wrap64 (Int.tdiv a0 (wrap64 (-t114)))) (wrap64 (Int.tdiv a1 (wrap64 (-t114))))).bind fun bt115 => (some (bt115.1, bt115.2.1, bt115.2.2)))) else (if t114 = 0 then (none) else ((rat_sized.f (wrap64 (Int.tdiv a0 t114)) (wrap64 (Int.tdiv a1 t114))).bind fun bt118 => (some (bt118.1, bt118.2.1, bt118.2.2)))))))) = some (r1, r2, r3) := h
 clear h
 replace H := ob_ H
 obtain ⟨t112, A30, H⟩ := H
 replace H : ((rat_abs.f a1).bind fun t113 => ((rat_common.f k t112 t113).bind fun t114 => (if a1 < 0 then (if (wrap64 (-t114)) = 0 then (none) else ((rat_sized.f (wrap64 (Int.tdiv a0 (wrap64 (-t114)))) (wrap64 (Int.tdiv a1 (wrap64 (-t114))))).bind fun bt115 => (some (bt115.1, bt115.2.1, bt115.2.2)))) else (if t114 = 0 then (none) else ((rat_sized.f (wrap64 (Int.tdiv a0 t114)) (wrap64 (Int.tdiv a1 t114))).bind fun bt118 => (some (bt118.1, bt118.2.1, bt118.2.2))))))) = some (r1, r2, r3) := H
 have A3 := sd_ A30
 clear A30
 replace H := ob_ H
 obtain ⟨t113, A40, H⟩ := H
 replace H : ((rat_common.f k t112 t113).bind fun t114 => (if a1 < 0 then (if (wrap64 (-t114)) = 0 then (none) else ((rat_sized.f (wrap64 (Int.tdiv a0 (wrap64 (-t114)))) (wrap64 (Int.tdiv a1 (wrap64 (-t114))))).bind fun bt115 => (some (bt115.1, bt115.2.1, bt115.2.2)))) else (if t114 = 0 then (none) else ((rat_sized.f (wrap64 (Int.tdiv a0 t114)) (wrap64 (Int.tdiv a1 t114))).bind fun bt118 => (some (bt118.1, bt118.2.1, bt118.2.2)))))) = some (r1, r2, r3) := H
 have A4 := sd_ A40
 clear A40
 replace H := ob_ H
 obtain ⟨t114, A50, H⟩ := H
 replace H : (if a1 < 0 then (if (wrap64 (-t114)) = 0 then (none) else ((rat_sized.f (wrap64 (Int.tdiv a0 (wrap64 (-t114)))) (wrap64 (Int.tdiv a1 (wrap64 (-t114))))).bind fun bt115 => (some (bt115.1, bt115.2.1, bt115.2.2)))) else (if t114 = 0 then (none) else ((rat_sized.f (wrap64 (Int.tdiv a0 t114)) (wrap64 (Int.tdiv a1 t114))).bind fun bt118 => (some (bt118.1, bt118.2.1, bt118.2.2))))) = some (r1, r2, r3) := H
 have A5 := sd_ A50
 clear A50
 by_cases c6 : a1 < 0
 ·rw [if_pos c6] at H
  have c6b0 : decide (a1 < 0) = true := dt_ c6
  clear c6
  by_cases c7 : (wrap64 (-t114)) = 0
  ·rw [if_pos c7] at H
   exact absurd H (by simp)
  ·rw [if_neg c7] at H
   have c7b0 : ((wrap64 (-t114)) == 0) = false := beq_eq_false_iff_ne.mpr c7
   have c7b1 : ((wrap64 (-t114)) != 0) = true := bne_iff_ne.mpr c7
   replace H := ob_ H
   obtain ⟨⟨t115, t116, t117⟩, A80, H⟩ := H
   replace H : (some (t115, t116, t117)) = some (r1, r2, r3) := H
   have A8 := sd_ A80
   clear A80
   simp only [Option.some.injEq, Prod.mk.injEq] at H
   obtain ⟨rfl, rfl, rfl⟩ := H
   go_enter Tryz.func58, Tryz.ntmps58
   try go_wp2_with (first | ((with_reducible refine gate_dst (N := 4) rfl ?_); refine box_event ?hg (N := 4) ?hd (cs := #[.int .i64 0, .int .i64 0]) (t := 25) ?hr ?_; (case hd => rfl); (case hg => rfl); (case hr => first | (go_simp; done) | (go_simp; rfl)); intro gb111 hg w9 hbox hb; have BK111 := sd_ hbox; have GW111 := gw_ HB e0_ hg; have GE111 := GW111; replace HB := hb_ HB e0_ hb; clear hb hbox hg) | ((with_reducible refine gate_callee (f := 65) rfl ?_); refine goesL_ (some 8) rfl rfl Tryz.func65 (by kernel_rfl) rfl #[.int .i64 a0] rfl (by (try simp only [lm_, lq_, lx_]); first | done | rfl | (simp only [ld_, lt_]; rfl)) ?_; (with_reducible refine (rat_abs.calls a0 t112 _ A3.out).mono ?_); rintro e w' ⟨rfl, ⟨nd, rfl⟩⟩; refine ⟨_, rfl, ?_⟩; (repeat (rw [drewN_self w9]; generalize hq_ : World.drewN w9 _ = w9; have n0_ : Aside0 (w9.heap[gb111]? = some (.cells #[.int .i64 0, .int .i64 0] 25 (0, 0))) := ⟨by rw [← hq_]; exact (kk_ BK111.out)⟩; have n1_ : Aside0 (Below w.heap.size w w9) := ⟨by rw [← hq_]; exact (bb_ HB.out (e_ GE111 e0_))⟩; clear BK111 HB hq_; have BK111 := n0_; have HB := n1_; clear n0_ n1_))) | ((with_reducible refine gate_callee (f := 65) rfl ?_); refine goesL_ (some 10) rfl rfl Tryz.func65 (by kernel_rfl) rfl #[.int .i64 a1] rfl (by (try simp only [lm_, lq_, lx_]); first | done | rfl | (simp only [ld_, lt_]; rfl)) ?_; (with_reducible refine (rat_abs.calls a1 t113 _ A4.out).mono ?_); rintro e w' ⟨rfl, ⟨nd, rfl⟩⟩; refine ⟨_, rfl, ?_⟩; (repeat (rw [drewN_self w9]; generalize hq_ : World.drewN w9 _ = w9; have n0_ : Aside0 (w9.heap[gb111]? = some (.cells #[.int .i64 0, .int .i64 0] 25 (0, 0))) := ⟨by rw [← hq_]; exact (kk_ BK111.out)⟩; have n1_ : Aside0 (Below w.heap.size w w9) := ⟨by rw [← hq_]; exact (bb_ HB.out (e_ GE111 e0_))⟩; clear BK111 HB hq_; have BK111 := n0_; have HB := n1_; clear n0_ n1_))) | ((with_reducible refine gate_callee (f := 64) rfl ?_); refine goesL_ (some 11) rfl rfl Tryz.func64 (by kernel_rfl) rfl #[.int .i64 t112, .int .i64 t113] rfl (by (try simp only [lm_, lq_, lx_]); first | done | rfl | (simp only [ld_, lt_]; rfl)) ?_; (with_reducible refine (rat_common.calls k t112 t113 t114 _ A5.out).mono ?_); rintro e w' ⟨rfl, ⟨nd, rfl⟩⟩; refine ⟨_, rfl, ?_⟩; (repeat (rw [drewN_self w9]; generalize hq_ : World.drewN w9 _ = w9; have n0_ : Aside0 (w9.heap[gb111]? = some (.cells #[.int .i64 0, .int .i64 0] 25 (0, 0))) := ⟨by rw [← hq_]; exact (kk_ BK111.out)⟩; have n1_ : Aside0 (Below w.heap.size w w9) := ⟨by rw [← hq_]; exact (bb_ HB.out (e_ GE111 e0_))⟩; clear BK111 HB hq_; have BK111 := n0_; have HB := n1_; clear n0_ n1_))))
   replace BK111 := sd_ (kd_ BK111.out)
   replace HB := sd_ (d1_ HB.out)
   refine start_ (n := 11) (S := fun w' => True) (ds := []) (Array.replicate 11 false) (by kernel_rfl) rfl rfl trivial (fun hHeld => ?_); refine with_tabW rat_lowest.tab4 rat_lowest.bits4 (fun HT_ HW_ => ?_)
   generalize w9.drew = w10 at BK111 HB hHeld ⊢
   refine pu_ (v := ?_) (a' := ?_) 0 16 (bz 11 1) rfl rfl HT_ (by kernel_rfl) (fun _ _ _ h => h) (by rfl) ?_ ?_ ?_
   rotate_left; (intro w'; go_simp; with_reducible rfl); rotate_left; (simp only [Act.put, ls_, lz_, lc_, i64_w, i32_w]; rfl)
   refine pu_ (v := ?_) (a' := ?_) 1 17 (bz 11 3) rfl rfl HT_ (by kernel_rfl) (fun _ _ _ h => h) (by rfl) ?_ ?_ ?_
   rotate_left; (intro w'; go_simp; with_reducible rfl); rotate_left; (simp only [Act.put, ls_, lz_, lc_, i64_w, i32_w]; rfl)
   refine pu_ (v := ?_) (a' := ?_) 2 18 (bz 11 7) rfl rfl HT_ (by kernel_rfl) (fun _ _ _ h => h) (by rfl) ?_ ?_ ?_
   rotate_left; (intro w'; go_simp; with_reducible rfl); rotate_left; (simp only [Act.put, ls_, lz_, lc_, i64_w, i32_w]; rfl)
   refine pu_ (v := ?_) (a' := ?_) 3 19 (bz 11 15) rfl rfl HT_ (by kernel_rfl) (fun _ _ _ h => h) (by rfl) ?_ ?_ ?_
   rotate_left; (intro w'; go_simp; with_reducible rfl); rotate_left; (simp only [Act.put, ls_, lz_, lc_, i64_w, i32_w]; rfl)
   refine pu_ (v := ?_) (a' := ?_) 4 20 (bz 11 31) rfl rfl HT_ (by kernel_rfl) (fun _ _ _ h => h) (by rfl) ?_ ?_ ?_
   rotate_left; (intro w'; go_simp; with_reducible rfl); rotate_left; (simp only [Act.put, ls_, lz_, lc_, i64_w, i32_w]; rfl)
   refine pu_ (v := ?_) (a' := ?_) 5 21 (bz 11 63) rfl rfl HT_ (by kernel_rfl) (fun _ _ _ h => h) (by rfl) ?_ ?_ ?_
   rotate_left; (intro w'; go_simp; with_reducible rfl); rotate_left; (simp only [Act.put, ls_, lz_, lc_, i64_w, i32_w]; rfl)
   refine on_ (N := some 22) 6 (bz 11 127) rfl rfl HT_ (by kernel_rfl) (by decide) (fun K hK => ?_)
   refine goes_ Tryz.func82 (by kernel_rfl) rfl #[.int .i64 (wrap64 (Int.tdiv a0 (wrap64 (-t114)))), .int .i64 (wrap64 (Int.tdiv a1 (wrap64 (-t114))))] (by rfl) rfl rfl (by (try simp only [lm_, lq_, lx_]); first | done | rfl | (simp only [ld_, lt_]; rfl)) ?_
   with_reducible refine (rat_sized.calls (wrap64 (Int.tdiv a0 (wrap64 (-t114)))) (wrap64 (Int.tdiv a1 (wrap64 (-t114)))) t115 t116 t117 _ A8.out).mono ?_
   rintro e w11 ⟨rfl, hb⟩
   refine ⟨_, rfl, ?_⟩
   replace BK111 := kb_ BK111 hb
   replace HB := hb_ HB (e_ GE111 e0_) hb
   (try clear hb)
   (try clear hb2)
   (try clear hk)
   (try clear hi)
   refine hK.out _ _ trivial (fun hHeld => ?_)
   clear hK K
   refine norm_ (a' := ?_) ?_ ?_
   rotate_left
   ·show Act.put _ (some 22) _ = _
    simp only [Act.put, ls_, lz_, lc_, i64_w, i32_w]
    rfl
   refine pu_ (v := ?_) (a' := ?_) 7 23 (bz 11 255) rfl rfl HT_ (by kernel_rfl) (fun _ _ _ h => h) (by rfl) ?_ ?_ ?_
   rotate_left; (intro w'; go_simp; with_reducible rfl); rotate_left; (simp only [Act.put, ls_, lz_, lc_, i64_w, i32_w]; rfl)
   refine pu_ (v := ?_) (a' := ?_) 8 24 (bz 11 511) rfl rfl HT_ (by kernel_rfl) (fun _ _ _ h => h) (by rfl) ?_ ?_ ?_
   rotate_left; (intro w'; go_simp; with_reducible rfl); rotate_left; (simp only [Act.put, ls_, lz_, lc_, i64_w, i32_w]; rfl)
   refine on_ (N := none) 9 (bz 11 1023) rfl rfl HT_ (by kernel_rfl) (by decide) (fun K hK => ?_)
   have hs12 : w11.cell? ⟨gb111, 0, none⟩ = some (.int .i64 0) := (kc_ BK111.out 0).trans rfl
   have hfs12 := kf_ BK111.out 0
   have hs13 : w11.cell? ⟨gb111, 1, none⟩ = some (.int .i64 0) := (kc_ BK111.out 1).trans rfl
   have hfs13 := kf_ BK111.out 1
   refine skip_ (w1 := ?_) (by rfl) rfl ?_ ?_
   rotate_left
   ·go_simp
    rfl
   refine hK.out _ _ trivial (fun hHeld => ?_)
   clear hK K
   refine pu_ (v := ?_) (a' := ?_) 10 5 (bz 11 2047) rfl rfl HT_ (by kernel_rfl) (fun _ _ _ h => h) (by rfl) ?_ ?_ ?_
   rotate_left; (intro w'; go_simp; with_reducible rfl); rotate_left; (simp only [Act.put, ls_, lz_, lc_, i64_w, i32_w]; rfl)
   refine done_ (done_of HT_.out (by kernel_rfl)) ?_
   try go_wp2
   refine bodyPost_ret (results_ct rfl _ _ gb111 25 #[.int .i64 t115, .int .i64 t116] (0, 0) _ rfl (by (with_reducible repeat first | apply kn_ | apply kd_ | apply ka_); refine blk_put (cs := #[.int .i64 t115, .int .i64 0]) ?_ 1 _ rfl; (with_reducible repeat first | apply kn_ | apply kd_ | apply ka_); refine blk_put (cs := #[.int .i64 0, .int .i64 0]) ?_ 0 _ rfl; (with_reducible repeat first | apply kn_ | apply kd_ | apply ka_); exact BK111.out) Tryz.underlying25 rfl (by kernel_rfl)) rfl ?_
   exact ⟨by first | rfl | (simp [errW_none, errW_some] <;> rfl) | (simp [*, errW_none, errW_some] <;> rfl), by repeat (first | (with_reducible first | exact HB.out | apply ba_ | apply pd_ | apply d1_ | refine bs_ ?_ GE111.out) | exact HB.out)⟩
 ·rw [if_neg c6] at H
  have c6b0 : decide (a1 < 0) = false := df_ c6
  clear c6
  by_cases c14 : t114 = 0
  ·rw [if_pos c14] at H
   exact absurd H (by simp)
  ·rw [if_neg c14] at H
   have c14b0 : (t114 == 0) = false := beq_eq_false_iff_ne.mpr c14
   have c14b1 : (t114 != 0) = true := bne_iff_ne.mpr c14
   replace H := ob_ H
   obtain ⟨⟨t118, t119, t120⟩, A150, H⟩ := H
   replace H : (some (t118, t119, t120)) = some (r1, r2, r3) := H
   have A15 := sd_ A150
   clear A150
   simp only [Option.some.injEq, Prod.mk.injEq] at H
   obtain ⟨rfl, rfl, rfl⟩ := H
   go_enter Tryz.func58, Tryz.ntmps58
   try go_wp2_with (first | ((with_reducible refine gate_dst (N := 4) rfl ?_); refine box_event ?hg (N := 4) ?hd (cs := #[.int .i64 0, .int .i64 0]) (t := 25) ?hr ?_; (case hd => rfl); (case hg => rfl); (case hr => first | (go_simp; done) | (go_simp; rfl)); intro gb111 hg w16 hbox hb; have BK111 := sd_ hbox; have GW111 := gw_ HB e0_ hg; have GE111 := GW111; replace HB := hb_ HB e0_ hb; clear hb hbox hg) | ((with_reducible refine gate_callee (f := 65) rfl ?_); refine goesL_ (some 8) rfl rfl Tryz.func65 (by kernel_rfl) rfl #[.int .i64 a0] rfl (by (try simp only [lm_, lq_, lx_]); first | done | rfl | (simp only [ld_, lt_]; rfl)) ?_; (with_reducible refine (rat_abs.calls a0 t112 _ A3.out).mono ?_); rintro e w' ⟨rfl, ⟨nd, rfl⟩⟩; refine ⟨_, rfl, ?_⟩; (repeat (rw [drewN_self w16]; generalize hq_ : World.drewN w16 _ = w16; have n0_ : Aside0 (w16.heap[gb111]? = some (.cells #[.int .i64 0, .int .i64 0] 25 (0, 0))) := ⟨by rw [← hq_]; exact (kk_ BK111.out)⟩; have n1_ : Aside0 (Below w.heap.size w w16) := ⟨by rw [← hq_]; exact (bb_ HB.out (e_ GE111 e0_))⟩; clear BK111 HB hq_; have BK111 := n0_; have HB := n1_; clear n0_ n1_))) | ((with_reducible refine gate_callee (f := 65) rfl ?_); refine goesL_ (some 10) rfl rfl Tryz.func65 (by kernel_rfl) rfl #[.int .i64 a1] rfl (by (try simp only [lm_, lq_, lx_]); first | done | rfl | (simp only [ld_, lt_]; rfl)) ?_; (with_reducible refine (rat_abs.calls a1 t113 _ A4.out).mono ?_); rintro e w' ⟨rfl, ⟨nd, rfl⟩⟩; refine ⟨_, rfl, ?_⟩; (repeat (rw [drewN_self w16]; generalize hq_ : World.drewN w16 _ = w16; have n0_ : Aside0 (w16.heap[gb111]? = some (.cells #[.int .i64 0, .int .i64 0] 25 (0, 0))) := ⟨by rw [← hq_]; exact (kk_ BK111.out)⟩; have n1_ : Aside0 (Below w.heap.size w w16) := ⟨by rw [← hq_]; exact (bb_ HB.out (e_ GE111 e0_))⟩; clear BK111 HB hq_; have BK111 := n0_; have HB := n1_; clear n0_ n1_))) | ((with_reducible refine gate_callee (f := 64) rfl ?_); refine goesL_ (some 11) rfl rfl Tryz.func64 (by kernel_rfl) rfl #[.int .i64 t112, .int .i64 t113] rfl (by (try simp only [lm_, lq_, lx_]); first | done | rfl | (simp only [ld_, lt_]; rfl)) ?_; (with_reducible refine (rat_common.calls k t112 t113 t114 _ A5.out).mono ?_); rintro e w' ⟨rfl, ⟨nd, rfl⟩⟩; refine ⟨_, rfl, ?_⟩; (repeat (rw [drewN_self w16]; generalize hq_ : World.drewN w16 _ = w16; have n0_ : Aside0 (w16.heap[gb111]? = some (.cells #[.int .i64 0, .int .i64 0] 25 (0, 0))) := ⟨by rw [← hq_]; exact (kk_ BK111.out)⟩; have n1_ : Aside0 (Below w.heap.size w w16) := ⟨by rw [← hq_]; exact (bb_ HB.out (e_ GE111 e0_))⟩; clear BK111 HB hq_; have BK111 := n0_; have HB := n1_; clear n0_ n1_))))
   replace BK111 := sd_ (kd_ BK111.out)
   replace HB := sd_ (d1_ HB.out)
   refine start_ (n := 11) (S := fun w' => True) (ds := []) (Array.replicate 11 false) (by kernel_rfl) rfl rfl trivial (fun hHeld => ?_); refine with_tabW rat_lowest.tab4 rat_lowest.bits4 (fun HT_ HW_ => ?_)
   generalize w16.drew = w17 at BK111 HB hHeld ⊢
   refine pu_ (v := ?_) (a' := ?_) 0 16 (bz 11 1) rfl rfl HT_ (by kernel_rfl) (fun _ _ _ h => h) (by rfl) ?_ ?_ ?_
   rotate_left; (intro w'; go_simp; with_reducible rfl); rotate_left; (simp only [Act.put, ls_, lz_, lc_, i64_w, i32_w]; rfl)
   refine pu_ (v := ?_) (a' := ?_) 1 17 (bz 11 3) rfl rfl HT_ (by kernel_rfl) (fun _ _ _ h => h) (by rfl) ?_ ?_ ?_
   rotate_left; (intro w'; go_simp; with_reducible rfl); rotate_left; (simp only [Act.put, ls_, lz_, lc_, i64_w, i32_w]; rfl)
   refine pu_ (v := ?_) (a' := ?_) 2 18 (bz 11 7) rfl rfl HT_ (by kernel_rfl) (fun _ _ _ h => h) (by rfl) ?_ ?_ ?_
   rotate_left; (intro w'; go_simp; with_reducible rfl); rotate_left; (simp only [Act.put, ls_, lz_, lc_, i64_w, i32_w]; rfl)
   refine pu_ (v := ?_) (a' := ?_) 3 19 (bz 11 15) rfl rfl HT_ (by kernel_rfl) (fun _ _ _ h => h) (by rfl) ?_ ?_ ?_
   rotate_left; (intro w'; go_simp; with_reducible rfl); rotate_left; (simp only [Act.put, ls_, lz_, lc_, i64_w, i32_w]; rfl)
   refine pu_ (v := ?_) (a' := ?_) 4 20 (bz 11 31) rfl rfl HT_ (by kernel_rfl) (fun _ _ _ h => h) (by rfl) ?_ ?_ ?_
   rotate_left; (intro w'; go_simp; with_reducible rfl); rotate_left; (simp only [Act.put, ls_, lz_, lc_, i64_w, i32_w]; rfl)
   refine pu_ (v := ?_) (a' := ?_) 5 21 (bz 11 63) rfl rfl HT_ (by kernel_rfl) (fun _ _ _ h => h) (by rfl) ?_ ?_ ?_
   rotate_left; (intro w'; go_simp; with_reducible rfl); rotate_left; (simp only [Act.put, ls_, lz_, lc_, i64_w, i32_w]; rfl)
   refine on_ (N := some 22) 6 (bz 11 127) rfl rfl HT_ (by kernel_rfl) (by decide) (fun K hK => ?_)
   refine goes_ Tryz.func82 (by kernel_rfl) rfl #[.int .i64 (wrap64 (Int.tdiv a0 t114)), .int .i64 (wrap64 (Int.tdiv a1 t114))] (by rfl) rfl rfl (by (try simp only [lm_, lq_, lx_]); first | done | rfl | (simp only [ld_, lt_]; rfl)) ?_
   with_reducible refine (rat_sized.calls (wrap64 (Int.tdiv a0 t114)) (wrap64 (Int.tdiv a1 t114)) t118 t119 t120 _ A15.out).mono ?_
   rintro e w18 ⟨rfl, hb⟩
   refine ⟨_, rfl, ?_⟩
   replace BK111 := kb_ BK111 hb
   replace HB := hb_ HB (e_ GE111 e0_) hb
   (try clear hb)
   (try clear hb2)
   (try clear hk)
   (try clear hi)
   refine hK.out _ _ trivial (fun hHeld => ?_)
   clear hK K
   refine norm_ (a' := ?_) ?_ ?_
   rotate_left
   ·show Act.put _ (some 22) _ = _
    simp only [Act.put, ls_, lz_, lc_, i64_w, i32_w]
    rfl
   refine pu_ (v := ?_) (a' := ?_) 7 23 (bz 11 255) rfl rfl HT_ (by kernel_rfl) (fun _ _ _ h => h) (by rfl) ?_ ?_ ?_
   rotate_left; (intro w'; go_simp; with_reducible rfl); rotate_left; (simp only [Act.put, ls_, lz_, lc_, i64_w, i32_w]; rfl)
   refine pu_ (v := ?_) (a' := ?_) 8 24 (bz 11 511) rfl rfl HT_ (by kernel_rfl) (fun _ _ _ h => h) (by rfl) ?_ ?_ ?_
   rotate_left; (intro w'; go_simp; with_reducible rfl); rotate_left; (simp only [Act.put, ls_, lz_, lc_, i64_w, i32_w]; rfl)
   refine on_ (N := none) 9 (bz 11 1023) rfl rfl HT_ (by kernel_rfl) (by decide) (fun K hK => ?_)
   have hs19 : w18.cell? ⟨gb111, 0, none⟩ = some (.int .i64 0) := (kc_ BK111.out 0).trans rfl
   have hfs19 := kf_ BK111.out 0
   have hs20 : w18.cell? ⟨gb111, 1, none⟩ = some (.int .i64 0) := (kc_ BK111.out 1).trans rfl
   have hfs20 := kf_ BK111.out 1
   refine skip_ (w1 := ?_) (by rfl) rfl ?_ ?_
   rotate_left
   ·go_simp
    rfl
   refine hK.out _ _ trivial (fun hHeld => ?_)
   clear hK K
   refine pu_ (v := ?_) (a' := ?_) 10 5 (bz 11 2047) rfl rfl HT_ (by kernel_rfl) (fun _ _ _ h => h) (by rfl) ?_ ?_ ?_
   rotate_left; (intro w'; go_simp; with_reducible rfl); rotate_left; (simp only [Act.put, ls_, lz_, lc_, i64_w, i32_w]; rfl)
   refine done_ (done_of HT_.out (by kernel_rfl)) ?_
   try go_wp2
   refine bodyPost_ret (results_ct rfl _ _ gb111 25 #[.int .i64 t118, .int .i64 t119] (0, 0) _ rfl (by (with_reducible repeat first | apply kn_ | apply kd_ | apply ka_); refine blk_put (cs := #[.int .i64 t118, .int .i64 0]) ?_ 1 _ rfl; (with_reducible repeat first | apply kn_ | apply kd_ | apply ka_); refine blk_put (cs := #[.int .i64 0, .int .i64 0]) ?_ 0 _ rfl; (with_reducible repeat first | apply kn_ | apply kd_ | apply ka_); exact BK111.out) Tryz.underlying25 rfl (by kernel_rfl)) rfl ?_
   exact ⟨by first | rfl | (simp [errW_none, errW_some] <;> rfl) | (simp [*, errW_none, errW_some] <;> rfl), by repeat (first | (with_reducible first | exact HB.out | apply ba_ | apply pd_ | apply d1_ | refine bs_ ?_ GE111.out) | exact HB.out)⟩

/-! ### rat_Of: function 36 -/
def rat_Of.j0 : Nat → Int → Int → Bool → Option (Int × Int × Int)
 | 0, _, _, _ => none
 | k + 1, x0, x1, x23 => if x23 = true then ((rat_zero.f).bind fun bt122 => (some (bt122.1, bt122.2, 2))) else ((rat_lowest.f k x0 x1).bind fun bt124 => (some (bt124.1, bt124.2.1, bt124.2.2)))
def rat_Of.f (k : Nat) (a0 : Int) (a1 : Int) : Option (Int × Int × Int) := if a1 = 0 then (rat_Of.j0 k a0 a1 true) else (if a0 < (-1152921504606846976) then (rat_Of.j0 k a0 a1 true) else (if a0 > 1152921504606846976 then (rat_Of.j0 k a0 a1 true) else (if a1 < (-1152921504606846976) then (rat_Of.j0 k a0 a1 true) else (rat_Of.j0 k a0 a1 (decide (a1 > 1152921504606846976))))))
theorem rat_Of.mono_l : ∀ k, (∀ y0 y1 y2, LeO (rat_Of.j0 k y0 y1 y2) (rat_Of.j0 (k + 1) y0 y1 y2))
 | 0 => fun _ _ _ r h => by simp [rat_Of.j0] at h
 | k + 1 => by
  have ih0 := rat_Of.mono_l k
  ·intro y0 y1 y2
   unfold rat_Of.j0
   repeat' first
   | (with_reducible exact ih0 _ _ _)
   | (with_reducible exact rat_lowest.mono _ _ _)
   | (with_reducible exact LeO.refl _)
   | (with_reducible exact LeO.none _)
   | (with_reducible refine LeO.ite ?_ ?_)
   | (with_reducible refine LeO.bind ?_ (fun _ => ?_))
   | exact ih0 _ _ _
   | exact rat_lowest.mono _ _ _
   | exact LeO.none _
   | refine LeO.ite ?_ ?_
   | refine LeO.bind ?_ (fun _ => ?_)
theorem rat_Of.mono : ∀ a0 a1 k, LeO (rat_Of.f k a0 a1) (rat_Of.f (k + 1) a0 a1) := by
 intro a0 a1 k
 have ih0 := rat_Of.mono_l k
 unfold rat_Of.f
 repeat' first
   | (with_reducible exact ih0 _ _ _)
   | (with_reducible exact rat_lowest.mono _ _ _)
   | (with_reducible exact LeO.refl _)
   | (with_reducible exact LeO.none _)
   | (with_reducible refine LeO.ite ?_ ?_)
   | (with_reducible refine LeO.bind ?_ (fun _ => ?_))
   | exact ih0 _ _ _
   | exact rat_lowest.mono _ _ _
   | exact LeO.none _
   | refine LeO.ite ?_ ?_
   | refine LeO.bind ?_ (fun _ => ?_)
set_option maxHeartbeats 8000000 in
set_option maxRecDepth 100000 in
theorem rat_Of.calls (k : Nat) (a0 : Int) (a1 : Int) (r1 : Int) (r2 : Int) (r3 : Int) (w : World) (h : rat_Of.f k a0 a1 = some (r1, r2, r3)) :
  Calls Tryz.prog 36 #[.int .i64 a0, .int .i64 a1] w fun e w' => e = .returned (.tuple #[.agg #[.int .i64 r1, .int .i64 r2], .int .i64 r3]) ∧ Below w.heap.size w w' := by
 have hu25 := Tryz.underlying25
 have HB := sd_ (Below.refl w.heap.size w)
 have H : (if a1 = 0 then (rat_Of.j0 k a0 a1 true) else (if a0 < (-1152921504606846976) then (rat_Of.j0 k a0 a1 true) else (if a0 > 1152921504606846976 then (rat_Of.j0 k a0 a1 true) else (if a1 < (-1152921504606846976) then (rat_Of.j0 k a0 a1 true) else (rat_Of.j0 k a0 a1 (decide (a1 > 1152921504606846976))))))) = some (r1, r2, r3) := h
 clear h
 have HC3 := sd_ H
 clear H
 go_enter Tryz.func36, Tryz.ntmps36
 go_upto_region 1 with (first | ((with_reducible refine gate_dst (N := 4) rfl ?_); refine box_event ?hg (N := 4) ?hd (cs := #[.int .i64 0, .int .i64 0]) (t := 25) ?hr ?_; (case hd => rfl); (case hg => rfl); (case hr => first | (go_simp; done) | (go_simp; rfl)); intro gb121 hg w4 hbox hb; have BK121 := sd_ hbox; have GW121 := gw_ HB e0_ hg; have GE121 := GW121; replace HB := hb_ HB e0_ hb; clear hb hbox hg))
 (try simp only [Act.put, ls_, lz_, lc_])
 go_cut [23] (fun v23 wc => ∃ (kq : Nat) (x23_2 : Bool), v23 = .bool x23_2 ∧ Aside0 (rat_Of.j0 kq a0 a1 x23_2 = some (r1, r2, r3)) ∧ Aside0 (kq ≤ k) ∧ Aside0 (wc.heap[gb121]? = some (.cells #[.int .i64 0, .int .i64 0] 25 (0, 0))) ∧ Aside0 (Below w.heap.size w wc))
 case first =>
  have H := HC3.out
  clear HC3
  by_cases c5 : a1 = 0
  ·rw [if_pos c5] at H
   have c5b0 : (a1 == 0) = true := beq_iff_eq.mpr c5
   have c5b1 : (a1 != 0) = false := bne_eq_false_iff_eq.mpr c5
   clear c5
   (first | rw [c5b0] | (simp only [i64_w, i32_w]; rw [c5b0]) | skip)
   have H' := sd_ H
   clear H
   go_wp2
   go_meet
   case rel => exact ⟨_, (true), (by first | rfl | (simp; done) | (simp [*]; done) | (simp [bne]; done)), H', ⟨by first | omega | exact Nat.le_refl _⟩, ⟨by (with_reducible repeat first | apply kn_ | apply kd_ | apply ka_); exact BK121.out⟩, ⟨by repeat (first | (with_reducible first | exact HB.out | apply ba_ | apply pd_ | apply d1_ | refine bs_ ?_ GE121.out) | exact HB.out)⟩⟩
  ·rw [if_neg c5] at H
   have c5b0 : (a1 == 0) = false := beq_eq_false_iff_ne.mpr c5
   have c5b1 : (a1 != 0) = true := bne_iff_ne.mpr c5
   (first | rw [c5b0] | (simp only [i64_w, i32_w]; rw [c5b0]) | skip)
   by_cases c6 : a0 < (-1152921504606846976)
   ·rw [if_pos c6] at H
    have c6b0 : decide (a0 < (-1152921504606846976)) = true := dt_ c6
    clear c6
    have H' := sd_ H
    clear H
    go_wp2
    go_meet
    case rel => exact ⟨_, (true), (by first | rfl | (simp; done) | (simp [*]; done) | (simp [bne]; done)), H', ⟨by first | omega | exact Nat.le_refl _⟩, ⟨by (with_reducible repeat first | apply kn_ | apply kd_ | apply ka_); exact BK121.out⟩, ⟨by repeat (first | (with_reducible first | exact HB.out | apply ba_ | apply pd_ | apply d1_ | refine bs_ ?_ GE121.out) | exact HB.out)⟩⟩
   ·rw [if_neg c6] at H
    have c6b0 : decide (a0 < (-1152921504606846976)) = false := df_ c6
    clear c6
    by_cases c7 : a0 > 1152921504606846976
    ·rw [if_pos c7] at H
     have c7b0 : decide (1152921504606846976 < a0) = true := dt_ c7
     clear c7
     have H' := sd_ H
     clear H
     go_wp2
     go_meet
     case rel => exact ⟨_, (true), (by first | rfl | (simp; done) | (simp [*]; done) | (simp [bne]; done)), H', ⟨by first | omega | exact Nat.le_refl _⟩, ⟨by (with_reducible repeat first | apply kn_ | apply kd_ | apply ka_); exact BK121.out⟩, ⟨by repeat (first | (with_reducible first | exact HB.out | apply ba_ | apply pd_ | apply d1_ | refine bs_ ?_ GE121.out) | exact HB.out)⟩⟩
    ·rw [if_neg c7] at H
     have c7b0 : decide (1152921504606846976 < a0) = false := df_ c7
     clear c7
     by_cases c8 : a1 < (-1152921504606846976)
     ·rw [if_pos c8] at H
      have c8b0 : decide (a1 < (-1152921504606846976)) = true := dt_ c8
      clear c8
      have H' := sd_ H
      clear H
      go_wp2
      go_meet
      case rel => exact ⟨_, (true), (by first | rfl | (simp; done) | (simp [*]; done) | (simp [bne]; done)), H', ⟨by first | omega | exact Nat.le_refl _⟩, ⟨by (with_reducible repeat first | apply kn_ | apply kd_ | apply ka_); exact BK121.out⟩, ⟨by repeat (first | (with_reducible first | exact HB.out | apply ba_ | apply pd_ | apply d1_ | refine bs_ ?_ GE121.out) | exact HB.out)⟩⟩
     ·rw [if_neg c8] at H
      have c8b0 : decide (a1 < (-1152921504606846976)) = false := df_ c8
      clear c8
      have H' := sd_ H
      clear H
      go_wp2
      go_meet
      case rel => exact ⟨_, (decide (a1 > 1152921504606846976)), (by first | rfl | (simp; done) | (simp [*]; done) | (simp [bne]; done)), H', ⟨by first | omega | exact Nat.le_refl _⟩, ⟨by (with_reducible repeat first | apply kn_ | apply kd_ | apply ka_); exact BK121.out⟩, ⟨by repeat (first | (with_reducible first | exact HB.out | apply ba_ | apply pd_ | apply d1_ | refine bs_ ?_ GE121.out) | exact HB.out)⟩⟩
 case rest =>
  clear HC3
  try clear p2; try clear c3; try clear c5; try clear c5b0; try clear c5b1; try clear c6; try clear c6b0; try clear c7; try clear c7b0; try clear c8; try clear c8b0
  obtain ⟨kq, x23_2, rfl, HA, HJ2, BK121, HB⟩ := hcut
  cases kq with
  | zero => exact absurd HA.out (by simp [rat_Of.j0])
  | succ kj2 =>
   have H := HA.out
   clear HA
   simp only [rat_Of.j0] at H
   by_cases c9 : x23_2 = true
   ·subst c9
    have H1 : ((rat_zero.f).bind fun bt122 => (some (bt122.1, bt122.2, 2))) = some (r1, r2, r3) := by rw [if_pos rfl] at H; exact H
    clear H; have H := H1; clear H1
    replace H := ob_ H
    obtain ⟨⟨t122, t123⟩, A100, H⟩ := H
    replace H : (some (t122, t123, 2)) = some (r1, r2, r3) := H
    have A10 := sd_ A100
    clear A100
    simp only [Option.some.injEq, Prod.mk.injEq] at H
    obtain ⟨rfl, rfl, rfl⟩ := H
    go_wp2_with (first | ((with_reducible refine gate_callee (f := 57) rfl ?_); refine goesL_ (some 24) rfl rfl Tryz.func57 (by kernel_rfl) rfl #[] rfl (by (try simp only [lm_, lq_, lx_]); first | done | rfl | (simp only [ld_, lt_]; rfl)) ?_; (with_reducible refine (rat_zero.calls  t122 t123 _ A10.out).mono ?_); rintro e w11 ⟨rfl, hb⟩; refine ⟨_, rfl, ?_⟩; replace BK121 := kb_ BK121 hb; replace HB := hb_ HB (e_ GE121 e0_) hb; (try clear hb); (try clear hb2); (try clear hk); (try clear hi); have hcz12_0 : w11.cell? ⟨gb121, 0, none⟩ = some (.int .i64 0) := (kc_ BK121.out 0).trans rfl; have hcz12_1 : w11.cell? ⟨gb121, 1, none⟩ = some (.int .i64 0) := (kc_ BK121.out 1).trans rfl; have hfz12_0 := kf_ BK121.out 0; have hfz12_1 := kf_ BK121.out 1))
    refine bodyPost_ret (results_ct rfl _ _ gb121 25 #[.int .i64 t122, .int .i64 t123] (0, 0) _ rfl (by (with_reducible repeat first | apply kn_ | apply kd_ | apply ka_); refine blk_put (cs := #[.int .i64 t122, .int .i64 0]) ?_ 1 _ rfl; (with_reducible repeat first | apply kn_ | apply kd_ | apply ka_); refine blk_put (cs := #[.int .i64 0, .int .i64 0]) ?_ 0 _ rfl; (with_reducible repeat first | apply kn_ | apply kd_ | apply ka_); exact BK121.out) Tryz.underlying25 rfl (by kernel_rfl)) rfl ?_
    exact ⟨by first | rfl | (simp [errW_none, errW_some] <;> rfl) | (simp [*, errW_none, errW_some] <;> rfl), by repeat (first | (with_reducible first | exact HB.out | apply ba_ | apply pd_ | apply d1_ | refine bs_ ?_ GE121.out) | exact HB.out)⟩
   ·replace c9 := bf_ c9
    subst c9
    have H1 : ((rat_lowest.f kj2 a0 a1).bind fun bt124 => (some (bt124.1, bt124.2.1, bt124.2.2))) = some (r1, r2, r3) := by rw [if_neg (show ¬ (false = true) by decide)] at H; exact H
    clear H; have H := H1; clear H1
    replace H := ob_ H
    obtain ⟨⟨t124, t125, t126⟩, A130, H⟩ := H
    replace H : (some (t124, t125, t126)) = some (r1, r2, r3) := H
    have A13 := sd_ A130
    clear A130
    simp only [Option.some.injEq, Prod.mk.injEq] at H
    obtain ⟨rfl, rfl, rfl⟩ := H
    go_wp2_with (first | ((with_reducible refine gate_callee (f := 58) rfl ?_); refine goesL_ (some 27) rfl rfl Tryz.func58 (by kernel_rfl) rfl #[.int .i64 a0, .int .i64 a1] rfl (by (try simp only [lm_, lq_, lx_]); first | done | rfl | (simp only [ld_, lt_]; rfl)) ?_; (with_reducible refine (rat_lowest.calls kj2 a0 a1 t124 t125 t126 _ A13.out).mono ?_); rintro e w14 ⟨rfl, hb⟩; refine ⟨_, rfl, ?_⟩; replace BK121 := kb_ BK121 hb; replace HB := hb_ HB (e_ GE121 e0_) hb; (try clear hb); (try clear hb2); (try clear hk); (try clear hi); have hcz15_0 : w14.cell? ⟨gb121, 0, none⟩ = some (.int .i64 0) := (kc_ BK121.out 0).trans rfl; have hcz15_1 : w14.cell? ⟨gb121, 1, none⟩ = some (.int .i64 0) := (kc_ BK121.out 1).trans rfl; have hfz15_0 := kf_ BK121.out 0; have hfz15_1 := kf_ BK121.out 1))
    refine bodyPost_ret (results_ct rfl _ _ gb121 25 #[.int .i64 t124, .int .i64 t125] (0, 0) _ rfl (by (with_reducible repeat first | apply kn_ | apply kd_ | apply ka_); refine blk_put (cs := #[.int .i64 t124, .int .i64 0]) ?_ 1 _ rfl; (with_reducible repeat first | apply kn_ | apply kd_ | apply ka_); refine blk_put (cs := #[.int .i64 0, .int .i64 0]) ?_ 0 _ rfl; (with_reducible repeat first | apply kn_ | apply kd_ | apply ka_); exact BK121.out) Tryz.underlying25 rfl (by kernel_rfl)) rfl ?_
    exact ⟨by first | rfl | (simp [errW_none, errW_some] <;> rfl) | (simp [*, errW_none, errW_some] <;> rfl), by repeat (first | (with_reducible first | exact HB.out | apply ba_ | apply pd_ | apply d1_ | refine bs_ ?_ GE121.out) | exact HB.out)⟩

/-! ### dur_length: function 37 -/
def dur_length.l0 : Nat → Int → Int → Int → Int → Option (Int)
 | 0, _, _, _, _ => none
 | k + 1, x3, x4, x11, x12 => if x12 < x11 then (dur_length.l0 k (wrap64 (Int.tdiv x3 2)) (wrap64 (x4 + (wrap64 (Int.tdiv x3 2)))) x11 (wrap64 (x12 + 1))) else (some x4)
def dur_length.f (k : Nat) (a0_0 : Int) (a0_1 : Int) : Option (Int) := if 0 ≤ (wrap64 (a0_0 - (-1))) then (dur_length.l0 k (shr .i64 2048 (wrap64 (a0_0 - (-1)))) (shr .i64 2048 (wrap64 (a0_0 - (-1)))) a0_1 0) else (none)
theorem dur_length.mono_l : ∀ k, (∀ y0 y1 y2 y3, LeO (dur_length.l0 k y0 y1 y2 y3) (dur_length.l0 (k + 1) y0 y1 y2 y3))
 | 0 => fun _ _ _ _ r h => by simp [dur_length.l0] at h
 | k + 1 => by
  have ih0 := dur_length.mono_l k
  ·intro y0 y1 y2 y3
   unfold dur_length.l0
   repeat' first
   | (with_reducible exact ih0 _ _ _ _)
   | (with_reducible exact LeO.refl _)
   | (with_reducible exact LeO.none _)
   | (with_reducible refine LeO.ite ?_ ?_)
   | (with_reducible refine LeO.bind ?_ (fun _ => ?_))
   | exact ih0 _ _ _ _
   | exact LeO.none _
   | refine LeO.ite ?_ ?_
   | refine LeO.bind ?_ (fun _ => ?_)
theorem dur_length.mono : ∀ a0 a1 k, LeO (dur_length.f k a0 a1) (dur_length.f (k + 1) a0 a1) := by
 intro a0 a1 k
 have ih0 := dur_length.mono_l k
 unfold dur_length.f
 repeat' first
   | (with_reducible exact ih0 _ _ _ _)
   | (with_reducible exact LeO.refl _)
   | (with_reducible exact LeO.none _)
   | (with_reducible refine LeO.ite ?_ ?_)
   | (with_reducible refine LeO.bind ?_ (fun _ => ?_))
   | exact ih0 _ _ _ _
   | exact LeO.none _
   | refine LeO.ite ?_ ?_
   | refine LeO.bind ?_ (fun _ => ?_)
set_option maxHeartbeats 8000000 in
set_option maxRecDepth 100000 in
theorem dur_length.calls (k : Nat) (a0_0 : Int) (a0_1 : Int) (r : Int) (w : World) (h : dur_length.f k a0_0 a0_1 = some r) :
  Calls Tryz.prog 37 #[.agg #[.int .i64 a0_0, .int .i64 a0_1]] w fun e w' => e = .returned (.int .i64 r) ∧ Below w.heap.size w w' := by
 have hu23 := Tryz.underlying23
 have HB := sd_ (Below.refl w.heap.size w)
 have H : (if 0 ≤ (wrap64 (a0_0 - (-1))) then (dur_length.l0 k (shr .i64 2048 (wrap64 (a0_0 - (-1)))) (shr .i64 2048 (wrap64 (a0_0 - (-1)))) a0_1 0) else (none)) = some r := h
 clear h
 obtain ⟨ji2, hji2⟩ : ∃ j_ : Int, (wrap64 (a0_0 - (-1))) = j_ := ⟨_, rfl⟩
 replace H : (if 0 ≤ (ji2) then (dur_length.l0 k (shr .i64 2048 (ji2)) (shr .i64 2048 (ji2)) a0_1 0) else (none)) = some r := by first | (rw [hji2] at H; exact H) | (simp only [hji2] at H ⊢; exact H)
 have hji2w : (IntKind.i64.wrap (a0_0 - (-1))) = ji2 := (i64_w _).trans hji2
 have hji2v : (IntKind.i64.wrap (a0_0 + 1)) = ji2 := hji2w
 by_cases c3 : 0 ≤ (ji2)
 ·rw [if_pos c3] at H
  have c3b0 := eq_true c3
  have c3b1 : decide (0 ≤ (ji2)) = true := dt_ c3
  clear c3
  obtain ⟨ji4, hji4⟩ : ∃ j_ : Int, (shr .i64 2048 (ji2)) = j_ := ⟨_, rfl⟩
  replace H : (dur_length.l0 k ji4 ji4 a0_1 0) = some r := by first | (rw [hji4] at H; exact H) | (simp only [hji4] at H ⊢; exact H)
  have hji4_ : (2048 / 2 ^ min (ji2).toNat 64) = ji4 := hji4
  have hji4z : (ji2) ≤ 64 → (2048 / 2 ^ (ji2).toNat) = ji4 := shr_small hji4
  have H' := sd_ H
  clear H
  go_enter Tryz.func37, Tryz.ntmps37
  go_wp2_with (first | ((with_reducible refine gate_dst (N := 1) rfl ?_); refine box_event ?hg (N := 1) ?hd (cs := #[.int .i64 a0_0, .int .i64 a0_1]) (t := 23) ?hr ?_; (case hd => rfl); (case hg => rfl); (case hr => first | (go_simp; done) | (go_simp; rfl)); intro gb127 hg w5 hbox hb; have BK127 := sd_ hbox; have GW127 := gw_ HB e0_ hg; have GE127 := GW127; replace HB := hb_ HB e0_ hb; clear hb hbox hg; have hcz6_0 : w5.cell? ⟨gb127, 0, none⟩ = some (.int .i64 a0_0) := (kc_ BK127.out 0).trans rfl; have hcz6_1 : w5.cell? ⟨gb127, 1, none⟩ = some (.int .i64 a0_1) := (kc_ BK127.out 1).trans rfl; have hfz6_0 := kf_ BK127.out 0; have hfz6_1 := kf_ BK127.out 1))
  go_loopg [3, 4, 12] k (fun kq v3 v4 v12 w' => ∃ (x3_1 : Int) (x4_1 : Int) (x12_1 : Int), v3 = .int .i64 x3_1 ∧ v4 = .int .i64 x4_1 ∧ v12 = .int .i64 x12_1 ∧ Aside0 (dur_length.l0 kq x3_1 x4_1 a0_1 x12_1 = some r) ∧ Aside0 (kq ≤ k) ∧ Aside0 (w'.heap[gb127]? = some (.cells #[.int .i64 a0_0, .int .i64 a0_1] 23 (0, 0))) ∧ Aside0 (Below w.heap.size w w'))
  case atStart => exact ⟨(ji4), (ji4), (0), (by first | rfl | (simp; done) | (simp only [← hji4] <;> (first | rfl | simp)) | (simp [*]; done)), (by first | rfl | (simp; done) | (simp only [← hji4] <;> (first | rfl | simp)) | (simp [*]; done)), (by first | rfl | (simp; done) | (simp [*]; done) | (simp [bne]; done)), H', ⟨Nat.le_refl _⟩, ⟨by (with_reducible repeat first | apply kn_ | apply kd_ | apply ka_); exact BK127.out⟩, ⟨by repeat (first | (with_reducible first | exact HB.out | apply ba_ | apply pd_ | apply d1_ | refine bs_ ?_ GE127.out) | exact HB.out)⟩⟩
  case round =>
   clear H'
   try clear p2; try clear c3; try clear c3b0; try clear c3b1; try clear p6; try clear hcz6_0; try clear hcz6_1; try clear hfz6_0; try clear hfz6_1
   obtain ⟨x3_1, x4_1, x12_1, rfl, rfl, rfl, HA, HK1, BK127, HB⟩ := hrel
   cases gk with
   | zero => exact absurd HA.out (by simp [dur_length.l0])
   | succ k1 =>
    have H := HA.out
    clear HA
    simp only [dur_length.l0] at H
    by_cases c7 : x12_1 < a0_1
    ·rw [if_pos c7] at H
     have c7b0 : decide (x12_1 < a0_1) = true := dt_ c7
     clear c7
     have H' := sd_ H
     clear H
     go_wp2
     go_roundg k1
     case measure => have := HK1.out; omega
     case rel => exact ⟨(wrap64 (Int.tdiv x3_1 2)), (wrap64 (x4_1 + (wrap64 (Int.tdiv x3_1 2)))), (wrap64 (x12_1 + 1)), (by first | rfl | (simp; done) | (simp [*]; done) | (simp [bne]; done)), (by first | rfl | (simp; done) | (simp [*]; done) | (simp [bne]; done)), (by first | rfl | (simp; done) | (simp [*]; done) | (simp [bne]; done)), H', ⟨by have := HK1.out; omega⟩, ⟨by (with_reducible repeat first | apply kn_ | apply kd_ | apply ka_); exact BK127.out⟩, ⟨by repeat (first | (with_reducible first | exact HB.out | apply ba_ | apply pd_ | apply d1_ | refine bs_ ?_ GE127.out) | exact HB.out)⟩⟩
    ·rw [if_neg c7] at H
     have c7b0 : decide (x12_1 < a0_1) = false := df_ c7
     clear c7
     obtain rfl := Option.some.inj H
     go_wp2
     go_ret
     exact ⟨by first | rfl | (simp [errW_none, errW_some] <;> rfl) | (simp only [← hji2, ← hji4]; first | rfl | (simp [errW_none, errW_some] <;> rfl)) | (simp [*, errW_none, errW_some] <;> rfl), by repeat (first | (with_reducible first | exact HB.out | apply ba_ | apply pd_ | apply d1_ | refine bs_ ?_ GE127.out) | exact HB.out)⟩
 ·rw [if_neg c3] at H
  exact absurd H (by simp)

end Go.Proofs.YtdiccfonlojlfaaGreatDoor.P
