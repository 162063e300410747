-- Written by a program of this session (wip/tools/xprint.py, over the kit's print): Lean checks it.
import Derived.Test.YtmffjjncnbeldaaDoorPx0
namespace Go.Proofs.YtmffjjncnbeldaaDoor.P
open Go.RowKit Go.Proofs.YtmffjjncnbeldaaDoorW.PrintWords Go.Proofs.YtmffjjncnbeldaaDoorW.PrintLast Go.Proofs.YtmffjjncnbeldaaDoorW.PrintMore
attribute [local go_sem] max2_int min2_int max_two min_two max_three min_three max_four min_four   -- for this text's walks alone
set_option linter.unusedVariables false
set_option linter.unusedSimpArgs false

/-! ### token_fault: function 18 -/
def token_fault.f (a0 : Int) (a1 : Int) : Option (Int × Int) := some (a0, a1)
set_option maxHeartbeats 8000000 in
set_option maxRecDepth 100000 in
theorem token_fault.calls (a0 : Int) (a1 : Int) (r1 : Int) (r2 : Int) (w : World) (h : token_fault.f a0 a1 = some (r1, r2)) :
  Calls Tryd.prog 18 #[.int .i64 a0, .int .i64 a1] w fun e w' => e = .returned (.agg #[.int .i64 r1, .int .i64 r2]) ∧ Below w.heap.size w w' := by
 have hu26 := Tryd.underlying26
 have HB := sd_ (Below.refl w.heap.size w)
 have H : (some (a0, a1)) = some (r1, r2) := h
 clear h
 simp only [Option.some.injEq, Prod.mk.injEq] at H
 obtain ⟨rfl, rfl⟩ := H
 go_enter Tryd.func18, Tryd.ntmps18
 go_wp2_with (first | ((with_reducible refine gate_dst (N := 4) rfl ?_); refine box_event ?hg (N := 4) ?hd (cs := #[.int .i64 0, .int .i64 0]) (t := 26) ?hr ?_; (case hd => rfl); (case hg => rfl); (case hr => first | (go_simp; done) | (go_simp; rfl)); intro gb101 hg w3 hbox hb; have BK101 := sd_ hbox; have GW101 := gw_ HB e0_ hg; have GE101 := GW101; replace HB := hb_ HB e0_ hb; clear hb hbox hg; have hcz4_0 : w3.cell? ⟨gb101, 0, none⟩ = some (.int .i64 0) := (kc_ BK101.out 0).trans rfl; have hcz4_1 : w3.cell? ⟨gb101, 1, none⟩ = some (.int .i64 0) := (kc_ BK101.out 1).trans rfl; have hfz4_0 := kf_ BK101.out 0; have hfz4_1 := kf_ BK101.out 1))
 refine bodyPost_ret (results_cell_row rfl _ _ gb101 26 #[.int .i64 a0, .int .i64 a1] (0, 0) _ rfl (by (with_reducible repeat first | apply kn_ | apply kd_ | apply ka_); refine blk_put (cs := #[.int .i64 a0, .int .i64 0]) ?_ 1 _ rfl; (with_reducible repeat first | apply kn_ | apply kd_ | apply ka_); refine blk_put (cs := #[.int .i64 0, .int .i64 0]) ?_ 0 _ rfl; (with_reducible repeat first | apply kn_ | apply kd_ | apply ka_); exact BK101.out) Tryd.underlying26 rfl (by kernel_rfl)) rfl ?_
 exact ⟨by first | rfl | (simp [errW_none, errW_some] <;> rfl) | (simp [*, errW_none, errW_some] <;> rfl), by repeat (first | (with_reducible first | exact HB.out | apply ba_ | apply pd_ | apply d1_ | refine bs_ ?_ GE101.out) | exact HB.out)⟩

/-! ### strings_IndexByte: function 31 -/
def strings_IndexByte.f (a0 : ByteArray) (a1 : Int) : Option Int := some (Lib.indexByte a0.data.toList a1.toNat.toUInt8)
theorem strings_IndexByte.calls (a0 : ByteArray) (a1 : Int) (r : Int) (w : World) (h : strings_IndexByte.f a0 a1 = some r) :
  Calls Tryd.prog 31 #[.string a0, .int .u8 a1] w fun e w' => e = .returned (.int .i64 r) ∧ Drawn0 w w' := by
 obtain rfl := Option.some.inj h
 refine (Tryd.strings_IndexByte a0 a1 w).mono ?_
 rintro e w' ⟨rfl, rfl⟩
 exact ⟨rfl, Drawn0.refl _⟩

/-! ### token_gap: function 19 -/
def token_gap.l0 : Nat → ByteArray → Int → Option (Int)
 | 0, _, _ => none
 | k + 1, x0, x3 => if x3 < (x0.size : Int) then (if 0 ≤ x3 then ((strings_IndexByte.f (⟨#[32, 9, 10, 13]⟩ : ByteArray) (bt x0 x3)).bind fun t102 => (if t102 ≥ 0 then (token_gap.l0 k x0 (wrap64 (x3 + 1))) else (if (bt x0 x3) = 37 then (if x3 ≤ (x0.size : Int) then ((strings_IndexByte.f (x0.extract (x3 : Int).toNat x0.size) 10).bind fun t103 => (if t103 < 0 then (some (x0.size : Int)) else (token_gap.l0 k x0 (wrap64 (x3 + t103))))) else (none)) else (some x3)))) else (none)) else (some x3)
def token_gap.f (k : Nat) (a0 : ByteArray) : Option (Int) := token_gap.l0 k a0 0
theorem token_gap.mono_l : ∀ k, (∀ y0 y1, LeO (token_gap.l0 k y0 y1) (token_gap.l0 (k + 1) y0 y1))
 | 0 => fun _ _ r h => by simp [token_gap.l0] at h
 | k + 1 => by
  have ih0 := token_gap.mono_l k
  ·intro y0 y1
   unfold token_gap.l0
   repeat' first
   | (with_reducible exact ih0 _ _)
   | (with_reducible exact LeO.refl _)
   | (with_reducible exact LeO.none _)
   | (with_reducible refine LeO.ite ?_ ?_)
   | (with_reducible refine LeO.bind ?_ (fun _ => ?_))
   | exact ih0 _ _
   | exact LeO.none _
   | refine LeO.ite ?_ ?_
   | refine LeO.bind ?_ (fun _ => ?_)
theorem token_gap.mono : ∀ a0 k, LeO (token_gap.f k a0) (token_gap.f (k + 1) a0) := by
 intro a0 k
 have ih0 := token_gap.mono_l k
 unfold token_gap.f
 repeat' first
   | (with_reducible exact ih0 _ _)
   | (with_reducible exact LeO.refl _)
   | (with_reducible exact LeO.none _)
   | (with_reducible refine LeO.ite ?_ ?_)
   | (with_reducible refine LeO.bind ?_ (fun _ => ?_))
   | exact ih0 _ _
   | exact LeO.none _
   | refine LeO.ite ?_ ?_
   | refine LeO.bind ?_ (fun _ => ?_)
set_option maxHeartbeats 8000000 in
set_option maxRecDepth 100000 in
theorem token_gap.calls (k : Nat) (a0 : ByteArray) (r : Int) (w : World) (h : token_gap.f k a0 = some r) :
  Calls Tryd.prog 19 #[.string a0] w fun e w' => e = .returned (.int .i64 r) ∧ Drawn0 w w' := by
 have H : (token_gap.l0 k a0 0) = some r := h
 clear h
 have H' := sd_ H
 clear H
 go_enter Tryd.func19, Tryd.ntmps19
 try go_step3
 try go_wp2
 repeat (go_step3; try go_wp2)
 go_loopg [3] k (fun kq v3 w' => ∃ (x3_1 : Int), v3 = .int .i64 x3_1 ∧ Aside0 (token_gap.l0 kq a0 x3_1 = some r) ∧ Aside0 (kq ≤ k) ∧ Drawn0 w w')
 case atStart => exact ⟨(0), (by first | rfl | (simp; done) | (simp [*]; done) | (simp [bne]; done)), H', ⟨Nat.le_refl _⟩, by repeat (first | exact Drawn0.refl _ | apply Drawn0.step)⟩
 case round =>
  clear H'
  try clear c1
  obtain ⟨x3_1, rfl, HA, HK1, ⟨m1, rfl⟩⟩ := hrel
  cases gk with
  | zero => exact absurd HA.out (by simp [token_gap.l0])
  | succ k1 =>
   have H := HA.out
   clear HA
   simp only [token_gap.l0] at H
   by_cases c2 : x3_1 < (a0.size : Int)
   ·rw [if_pos c2] at H
    have c2b0 : decide (x3_1 < (a0.size : Int)) = true := dt_ c2
    clear c2
    by_cases c3 : 0 ≤ x3_1
    ·rw [if_pos c3] at H
     have c3b0 : decide (0 ≤ x3_1) = true := dt_ c3
     clear c3
     replace H := ob_ H
     obtain ⟨t102, A50, H⟩ := H
     replace H : (if t102 ≥ 0 then (token_gap.l0 k1 a0 (wrap64 (x3_1 + 1))) else (if (bt a0 x3_1) = 37 then (if x3_1 ≤ (a0.size : Int) then ((strings_IndexByte.f (a0.extract (x3_1 : Int).toNat a0.size) 10).bind fun t103 => (if t103 < 0 then (some (a0.size : Int)) else (token_gap.l0 k1 a0 (wrap64 (x3_1 + t103))))) else (none)) else (some x3_1))) = some r := H
     have A5 := sd_ A50
     clear A50
     by_cases c6 : t102 ≥ 0
     ·rw [if_pos c6] at H
      have c6b0 : decide (0 ≤ t102) = true := dt_ c6
      clear c6
      have H' := sd_ H
      clear H
      have p4 : 0 ≤ (x3_1 : Int) := od_ (by first | (with_reducible assumption) | assumption)
      have q4 : x3_1 < (a0.size : Int) := od_ (by first | (with_reducible assumption) | assumption)
      have hx4 := bt_at a0 x3_1
      replace p4 := eq_true p4
      replace q4 := eq_true q4
      try go_wp2_with (first | ((with_reducible refine gate_callee (f := 31) rfl ?_); refine goesL_ (some 13) rfl rfl Tryd.func31 (by kernel_rfl) rfl #[.string (⟨#[32, 9, 10, 13]⟩ : ByteArray), .int .u8 (bt a0 x3_1)] rfl (by (try simp only [lm_, lq_, lx_]); first | done | rfl | (simp only [ld_, lt_]; rfl)) ?_; (with_reducible refine (strings_IndexByte.calls (⟨#[32, 9, 10, 13]⟩ : ByteArray) (bt a0 x3_1) t102 _ A5.out).mono ?_); rintro e w' ⟨rfl, ⟨nd, rfl⟩⟩; refine ⟨_, rfl, ?_⟩))
      repeat (go_step3; try go_wp2_with (first | ((with_reducible refine gate_callee (f := 31) rfl ?_); refine goesL_ (some 13) rfl rfl Tryd.func31 (by kernel_rfl) rfl #[.string (⟨#[32, 9, 10, 13]⟩ : ByteArray), .int .u8 (bt a0 x3_1)] rfl (by (try simp only [lm_, lq_, lx_]); first | done | rfl | (simp only [ld_, lt_]; rfl)) ?_; (with_reducible refine (strings_IndexByte.calls (⟨#[32, 9, 10, 13]⟩ : ByteArray) (bt a0 x3_1) t102 _ A5.out).mono ?_); rintro e w' ⟨rfl, ⟨nd, rfl⟩⟩; refine ⟨_, rfl, ?_⟩)))
      go_roundg k1
      case measure => have := HK1.out; omega
      case rel => exact ⟨(wrap64 (x3_1 + 1)), (by first | rfl | (simp; done) | (simp [*]; done) | (simp [bne]; done)), H', ⟨by have := HK1.out; omega⟩, by repeat (first | exact Drawn0.refl _ | apply Drawn0.step)⟩
     ·rw [if_neg c6] at H
      have c6b0 : decide (0 ≤ t102) = false := df_ c6
      clear c6
      by_cases c8 : (bt a0 x3_1) = 37
      ·rw [if_pos c8] at H
       have c8b0 : ((bt a0 x3_1) == 37) = true := beq_iff_eq.mpr c8
       have c8b1 : ((bt a0 x3_1) != 37) = false := bne_eq_false_iff_eq.mpr c8
       clear c8
       have c9b0 := eq_true (od_ (by first | (with_reducible assumption) | assumption) : 0 ≤ x3_1)
       by_cases c10 : x3_1 ≤ (a0.size : Int)
       ·rw [if_pos c10] at H
        have c10b0 := eq_true c10
        have c10b1 : decide (x3_1 ≤ (a0.size : Int)) = true := dt_ c10
        clear c10
        replace H := ob_ H
        obtain ⟨t103, A110, H⟩ := H
        replace H : (if t103 < 0 then (some (a0.size : Int)) else (token_gap.l0 k1 a0 (wrap64 (x3_1 + t103)))) = some r := H
        have A11 := sd_ A110
        clear A110
        by_cases c12 : t103 < 0
        ·rw [if_pos c12] at H
         have c12b0 : decide (t103 < 0) = true := dt_ c12
         clear c12
         obtain rfl := Option.some.inj H
         have p4 : 0 ≤ (x3_1 : Int) := od_ (by first | (with_reducible assumption) | assumption)
         have q4 : x3_1 < (a0.size : Int) := od_ (by first | (with_reducible assumption) | assumption)
         have hx4 := bt_at a0 x3_1
         replace p4 := eq_true p4
         replace q4 := eq_true q4
         try go_wp2_with (first | ((with_reducible refine gate_callee (f := 31) rfl ?_); refine goesL_ (some 13) rfl rfl Tryd.func31 (by kernel_rfl) rfl #[.string (⟨#[32, 9, 10, 13]⟩ : ByteArray), .int .u8 (bt a0 x3_1)] rfl (by (try simp only [lm_, lq_, lx_]); first | done | rfl | (simp only [ld_, lt_]; rfl) | ((conv => rhs; simp); rfl)) ?_; (with_reducible refine (strings_IndexByte.calls (⟨#[32, 9, 10, 13]⟩ : ByteArray) (bt a0 x3_1) t102 _ A5.out).mono ?_); rintro e w' ⟨rfl, ⟨nd, rfl⟩⟩; refine ⟨_, rfl, ?_⟩; have p7 : 0 ≤ (x3_1 : Int) := od_ (by first | (with_reducible assumption) | assumption); have q7 : x3_1 < (a0.size : Int) := od_ (by first | (with_reducible assumption) | assumption); have hx7 := bt_at a0 x3_1; replace p7 := eq_true p7; replace q7 := eq_true q7) | ((with_reducible refine gate_callee (f := 31) rfl ?_); refine goesL_ (some 25) rfl rfl Tryd.func31 (by kernel_rfl) rfl #[.string (a0.extract (x3_1 : Int).toNat a0.size), .int .u8 10] rfl (by (try simp only [lm_, lq_, lx_]); first | done | rfl | (simp only [ld_, lt_]; rfl) | ((conv => rhs; simp); rfl)) ?_; (with_reducible refine (strings_IndexByte.calls (a0.extract (x3_1 : Int).toNat a0.size) 10 t103 _ A11.out).mono ?_); rintro e w' ⟨rfl, ⟨nd, rfl⟩⟩; refine ⟨_, rfl, ?_⟩))
         repeat (go_step3; try go_wp2_with (first | ((with_reducible refine gate_callee (f := 31) rfl ?_); refine goesL_ (some 13) rfl rfl Tryd.func31 (by kernel_rfl) rfl #[.string (⟨#[32, 9, 10, 13]⟩ : ByteArray), .int .u8 (bt a0 x3_1)] rfl (by (try simp only [lm_, lq_, lx_]); first | done | rfl | (simp only [ld_, lt_]; rfl) | ((conv => rhs; simp); rfl)) ?_; (with_reducible refine (strings_IndexByte.calls (⟨#[32, 9, 10, 13]⟩ : ByteArray) (bt a0 x3_1) t102 _ A5.out).mono ?_); rintro e w' ⟨rfl, ⟨nd, rfl⟩⟩; refine ⟨_, rfl, ?_⟩; have p7 : 0 ≤ (x3_1 : Int) := od_ (by first | (with_reducible assumption) | assumption); have q7 : x3_1 < (a0.size : Int) := od_ (by first | (with_reducible assumption) | assumption); have hx7 := bt_at a0 x3_1; replace p7 := eq_true p7; replace q7 := eq_true q7) | ((with_reducible refine gate_callee (f := 31) rfl ?_); refine goesL_ (some 25) rfl rfl Tryd.func31 (by kernel_rfl) rfl #[.string (a0.extract (x3_1 : Int).toNat a0.size), .int .u8 10] rfl (by (try simp only [lm_, lq_, lx_]); first | done | rfl | (simp only [ld_, lt_]; rfl) | ((conv => rhs; simp); rfl)) ?_; (with_reducible refine (strings_IndexByte.calls (a0.extract (x3_1 : Int).toNat a0.size) 10 t103 _ A11.out).mono ?_); rintro e w' ⟨rfl, ⟨nd, rfl⟩⟩; refine ⟨_, rfl, ?_⟩)))
         try rw [Exit.noGoto_ret]
         go_ret
         exact ⟨by first | rfl | (simp; done) | (simp [*]; done), by repeat (first | exact Drawn0.refl _ | apply Drawn0.step)⟩
        ·rw [if_neg c12] at H
         have c12b0 : decide (t103 < 0) = false := df_ c12
         clear c12
         have H' := sd_ H
         clear H
         have p4 : 0 ≤ (x3_1 : Int) := od_ (by first | (with_reducible assumption) | assumption)
         have q4 : x3_1 < (a0.size : Int) := od_ (by first | (with_reducible assumption) | assumption)
         have hx4 := bt_at a0 x3_1
         replace p4 := eq_true p4
         replace q4 := eq_true q4
         try go_wp2_with (first | ((with_reducible refine gate_callee (f := 31) rfl ?_); refine goesL_ (some 13) rfl rfl Tryd.func31 (by kernel_rfl) rfl #[.string (⟨#[32, 9, 10, 13]⟩ : ByteArray), .int .u8 (bt a0 x3_1)] rfl (by (try simp only [lm_, lq_, lx_]); first | done | rfl | (simp only [ld_, lt_]; rfl) | ((conv => rhs; simp); rfl)) ?_; (with_reducible refine (strings_IndexByte.calls (⟨#[32, 9, 10, 13]⟩ : ByteArray) (bt a0 x3_1) t102 _ A5.out).mono ?_); rintro e w' ⟨rfl, ⟨nd, rfl⟩⟩; refine ⟨_, rfl, ?_⟩; have p7 : 0 ≤ (x3_1 : Int) := od_ (by first | (with_reducible assumption) | assumption); have q7 : x3_1 < (a0.size : Int) := od_ (by first | (with_reducible assumption) | assumption); have hx7 := bt_at a0 x3_1; replace p7 := eq_true p7; replace q7 := eq_true q7) | ((with_reducible refine gate_callee (f := 31) rfl ?_); refine goesL_ (some 25) rfl rfl Tryd.func31 (by kernel_rfl) rfl #[.string (a0.extract (x3_1 : Int).toNat a0.size), .int .u8 10] rfl (by (try simp only [lm_, lq_, lx_]); first | done | rfl | (simp only [ld_, lt_]; rfl) | ((conv => rhs; simp); rfl)) ?_; (with_reducible refine (strings_IndexByte.calls (a0.extract (x3_1 : Int).toNat a0.size) 10 t103 _ A11.out).mono ?_); rintro e w' ⟨rfl, ⟨nd, rfl⟩⟩; refine ⟨_, rfl, ?_⟩))
         repeat (go_step3; try go_wp2_with (first | ((with_reducible refine gate_callee (f := 31) rfl ?_); refine goesL_ (some 13) rfl rfl Tryd.func31 (by kernel_rfl) rfl #[.string (⟨#[32, 9, 10, 13]⟩ : ByteArray), .int .u8 (bt a0 x3_1)] rfl (by (try simp only [lm_, lq_, lx_]); first | done | rfl | (simp only [ld_, lt_]; rfl) | ((conv => rhs; simp); rfl)) ?_; (with_reducible refine (strings_IndexByte.calls (⟨#[32, 9, 10, 13]⟩ : ByteArray) (bt a0 x3_1) t102 _ A5.out).mono ?_); rintro e w' ⟨rfl, ⟨nd, rfl⟩⟩; refine ⟨_, rfl, ?_⟩; have p7 : 0 ≤ (x3_1 : Int) := od_ (by first | (with_reducible assumption) | assumption); have q7 : x3_1 < (a0.size : Int) := od_ (by first | (with_reducible assumption) | assumption); have hx7 := bt_at a0 x3_1; replace p7 := eq_true p7; replace q7 := eq_true q7) | ((with_reducible refine gate_callee (f := 31) rfl ?_); refine goesL_ (some 25) rfl rfl Tryd.func31 (by kernel_rfl) rfl #[.string (a0.extract (x3_1 : Int).toNat a0.size), .int .u8 10] rfl (by (try simp only [lm_, lq_, lx_]); first | done | rfl | (simp only [ld_, lt_]; rfl) | ((conv => rhs; simp); rfl)) ?_; (with_reducible refine (strings_IndexByte.calls (a0.extract (x3_1 : Int).toNat a0.size) 10 t103 _ A11.out).mono ?_); rintro e w' ⟨rfl, ⟨nd, rfl⟩⟩; refine ⟨_, rfl, ?_⟩)))
         go_roundg k1
         case measure => have := HK1.out; omega
         case rel => exact ⟨(wrap64 (x3_1 + t103)), (by first | rfl | (simp; done) | (simp [*]; done) | (simp [bne]; done)), H', ⟨by have := HK1.out; omega⟩, by repeat (first | exact Drawn0.refl _ | apply Drawn0.step)⟩
       ·rw [if_neg c10] at H
        exact absurd H (by simp)
      ·rw [if_neg c8] at H
       have c8b0 : ((bt a0 x3_1) == 37) = false := beq_eq_false_iff_ne.mpr c8
       have c8b1 : ((bt a0 x3_1) != 37) = true := bne_iff_ne.mpr c8
       obtain rfl := Option.some.inj H
       have p4 : 0 ≤ (x3_1 : Int) := od_ (by first | (with_reducible assumption) | assumption)
       have q4 : x3_1 < (a0.size : Int) := od_ (by first | (with_reducible assumption) | assumption)
       have hx4 := bt_at a0 x3_1
       replace p4 := eq_true p4
       replace q4 := eq_true q4
       try go_wp2_with (first | ((with_reducible refine gate_callee (f := 31) rfl ?_); refine goesL_ (some 13) rfl rfl Tryd.func31 (by kernel_rfl) rfl #[.string (⟨#[32, 9, 10, 13]⟩ : ByteArray), .int .u8 (bt a0 x3_1)] rfl (by (try simp only [lm_, lq_, lx_]); first | done | rfl | (simp only [ld_, lt_]; rfl)) ?_; (with_reducible refine (strings_IndexByte.calls (⟨#[32, 9, 10, 13]⟩ : ByteArray) (bt a0 x3_1) t102 _ A5.out).mono ?_); rintro e w' ⟨rfl, ⟨nd, rfl⟩⟩; refine ⟨_, rfl, ?_⟩; have p7 : 0 ≤ (x3_1 : Int) := od_ (by first | (with_reducible assumption) | assumption); have q7 : x3_1 < (a0.size : Int) := od_ (by first | (with_reducible assumption) | assumption); have hx7 := bt_at a0 x3_1; replace p7 := eq_true p7; replace q7 := eq_true q7))
       repeat (go_step3; try go_wp2_with (first | ((with_reducible refine gate_callee (f := 31) rfl ?_); refine goesL_ (some 13) rfl rfl Tryd.func31 (by kernel_rfl) rfl #[.string (⟨#[32, 9, 10, 13]⟩ : ByteArray), .int .u8 (bt a0 x3_1)] rfl (by (try simp only [lm_, lq_, lx_]); first | done | rfl | (simp only [ld_, lt_]; rfl)) ?_; (with_reducible refine (strings_IndexByte.calls (⟨#[32, 9, 10, 13]⟩ : ByteArray) (bt a0 x3_1) t102 _ A5.out).mono ?_); rintro e w' ⟨rfl, ⟨nd, rfl⟩⟩; refine ⟨_, rfl, ?_⟩; have p7 : 0 ≤ (x3_1 : Int) := od_ (by first | (with_reducible assumption) | assumption); have q7 : x3_1 < (a0.size : Int) := od_ (by first | (with_reducible assumption) | assumption); have hx7 := bt_at a0 x3_1; replace p7 := eq_true p7; replace q7 := eq_true q7)))
       try rw [Exit.noGoto_ret]
       go_ret
       exact ⟨by first | rfl | (simp; done) | (simp [*]; done), by repeat (first | exact Drawn0.refl _ | apply Drawn0.step)⟩
    ·rw [if_neg c3] at H
     exact absurd H (by simp)
   ·rw [if_neg c2] at H
    have c2b0 : decide (x3_1 < (a0.size : Int)) = false := df_ c2
    clear c2
    obtain rfl := Option.some.inj H
    try go_wp2
    repeat (go_step3; try go_wp2)
    try rw [Exit.noGoto_ret]
    go_ret
    exact ⟨by first | rfl | (simp; done) | (simp [*]; done), by repeat (first | exact Drawn0.refl _ | apply Drawn0.step)⟩

/-! ### token_digit: function 32 -/
def token_digit.f (a0 : Int) : Option (Bool) := if a0 ≥ 48 then (some (decide (a0 ≤ 57))) else (some false)
set_option maxHeartbeats 8000000 in
set_option maxRecDepth 100000 in
theorem token_digit.calls (a0 : Int) (r : Bool) (w : World) (h : token_digit.f a0 = some r) :
  Calls Tryd.prog 32 #[.int .u8 a0] w fun e w' => e = .returned (.bool r) ∧ Drawn0 w w' := by
 have H : (if a0 ≥ 48 then (some (decide (a0 ≤ 57))) else (some false)) = some r := h
 clear h
 by_cases c2 : a0 ≥ 48
 ·rw [if_pos c2] at H
  have c2b0 : decide (48 ≤ a0) = true := dt_ c2
  clear c2
  obtain rfl := Option.some.inj H
  go_enter Tryd.func32, Tryd.ntmps32
  go_wp2
  go_ret
  exact ⟨by first | rfl | (simp; done) | (simp [*]; done), by repeat (first | exact Drawn0.refl _ | apply Drawn0.step)⟩
 ·rw [if_neg c2] at H
  have c2b0 : decide (48 ≤ a0) = false := df_ c2
  clear c2
  obtain rfl := Option.some.inj H
  go_enter Tryd.func32, Tryd.ntmps32
  go_wp2
  go_ret
  exact ⟨by first | rfl | (simp; done) | (simp [*]; done), by repeat (first | exact Drawn0.refl _ | apply Drawn0.step)⟩

/-! ### token_number: function 33 -/
def token_number.l0 : Nat → ByteArray → Int → Option (Int)
 | 0, _, _ => none
 | k + 1, x0, x3 => if x3 < (x0.size : Int) then (if 0 ≤ x3 then ((token_digit.f (bt x0 x3)).bind fun t104 => (if t104 = true then (token_number.l0 k x0 (wrap64 (x3 + 1))) else (some x3))) else (none)) else (some x3)
def token_number.f (k : Nat) (a0 : ByteArray) : Option (Int) := token_number.l0 k a0 0
theorem token_number.mono_l : ∀ k, (∀ y0 y1, LeO (token_number.l0 k y0 y1) (token_number.l0 (k + 1) y0 y1))
 | 0 => fun _ _ r h => by simp [token_number.l0] at h
 | k + 1 => by
  have ih0 := token_number.mono_l k
  ·intro y0 y1
   unfold token_number.l0
   repeat' first
   | (with_reducible exact ih0 _ _)
   | (with_reducible exact LeO.refl _)
   | (with_reducible exact LeO.none _)
   | (with_reducible refine LeO.ite ?_ ?_)
   | (with_reducible refine LeO.bind ?_ (fun _ => ?_))
   | exact ih0 _ _
   | exact LeO.none _
   | refine LeO.ite ?_ ?_
   | refine LeO.bind ?_ (fun _ => ?_)
theorem token_number.mono : ∀ a0 k, LeO (token_number.f k a0) (token_number.f (k + 1) a0) := by
 intro a0 k
 have ih0 := token_number.mono_l k
 unfold token_number.f
 repeat' first
   | (with_reducible exact ih0 _ _)
   | (with_reducible exact LeO.refl _)
   | (with_reducible exact LeO.none _)
   | (with_reducible refine LeO.ite ?_ ?_)
   | (with_reducible refine LeO.bind ?_ (fun _ => ?_))
   | exact ih0 _ _
   | exact LeO.none _
   | refine LeO.ite ?_ ?_
   | refine LeO.bind ?_ (fun _ => ?_)
set_option maxHeartbeats 8000000 in
set_option maxRecDepth 100000 in
theorem token_number.calls (k : Nat) (a0 : ByteArray) (r : Int) (w : World) (h : token_number.f k a0 = some r) :
  Calls Tryd.prog 33 #[.string a0] w fun e w' => e = .returned (.int .i64 r) ∧ Drawn0 w w' := by
 have H : (token_number.l0 k a0 0) = some r := h
 clear h
 have H' := sd_ H
 clear H
 go_enter Tryd.func33, Tryd.ntmps33
 go_wp2
 go_loopg [3] k (fun kq v3 w' => ∃ (x3_1 : Int), v3 = .int .i64 x3_1 ∧ Aside0 (token_number.l0 kq a0 x3_1 = some r) ∧ Aside0 (kq ≤ k) ∧ Drawn0 w w')
 case atStart => exact ⟨(0), (by first | rfl | (simp; done) | (simp [*]; done) | (simp [bne]; done)), H', ⟨Nat.le_refl _⟩, by repeat (first | exact Drawn0.refl _ | apply Drawn0.step)⟩
 case round =>
  clear H'
  obtain ⟨x3_1, rfl, HA, HK1, ⟨m1, rfl⟩⟩ := hrel
  cases gk with
  | zero => exact absurd HA.out (by simp [token_number.l0])
  | succ k1 =>
   have H := HA.out
   clear HA
   simp only [token_number.l0] at H
   by_cases c2 : x3_1 < (a0.size : Int)
   ·rw [if_pos c2] at H
    have c2b0 : decide (x3_1 < (a0.size : Int)) = true := dt_ c2
    clear c2
    by_cases c3 : 0 ≤ x3_1
    ·rw [if_pos c3] at H
     have c3b0 : decide (0 ≤ x3_1) = true := dt_ c3
     clear c3
     replace H := ob_ H
     obtain ⟨t104, A50, H⟩ := H
     replace H : (if t104 = true then (token_number.l0 k1 a0 (wrap64 (x3_1 + 1))) else (some x3_1)) = some r := H
     have A5 := sd_ A50
     clear A50
     by_cases c6 : t104 = true
     ·subst c6
      have H1 : (token_number.l0 k1 a0 (wrap64 (x3_1 + 1))) = some r := by rw [if_pos rfl] at H; exact H
      clear H; have H := H1; clear H1
      have H' := sd_ H
      clear H
      have p4 : 0 ≤ (x3_1 : Int) := od_ (by first | (with_reducible assumption) | assumption)
      have q4 : x3_1 < (a0.size : Int) := od_ (by first | (with_reducible assumption) | assumption)
      have hx4 := bt_at a0 x3_1
      replace p4 := eq_true p4
      replace q4 := eq_true q4
      go_wp2_with (first | (go_at_call 32; (with_reducible refine (token_digit.calls (bt a0 x3_1) true _ A5.out).mono ?_); rintro e w' ⟨rfl, ⟨nd, rfl⟩⟩))
      go_roundg k1
      case measure => have := HK1.out; omega
      case rel => exact ⟨(wrap64 (x3_1 + 1)), (by first | rfl | (simp; done) | (simp [*]; done) | (simp [bne]; done)), H', ⟨by have := HK1.out; omega⟩, by repeat (first | exact Drawn0.refl _ | apply Drawn0.step)⟩
     ·replace c6 := bf_ c6
      subst c6
      have H1 : (some x3_1) = some r := by rw [if_neg (show ¬ (false = true) by decide)] at H; exact H
      clear H; have H := H1; clear H1
      obtain rfl := Option.some.inj H
      have p4 : 0 ≤ (x3_1 : Int) := od_ (by first | (with_reducible assumption) | assumption)
      have q4 : x3_1 < (a0.size : Int) := od_ (by first | (with_reducible assumption) | assumption)
      have hx4 := bt_at a0 x3_1
      replace p4 := eq_true p4
      replace q4 := eq_true q4
      go_wp2_with (first | (go_at_call 32; (with_reducible refine (token_digit.calls (bt a0 x3_1) false _ A5.out).mono ?_); rintro e w' ⟨rfl, ⟨nd, rfl⟩⟩))
      go_ret
      exact ⟨by first | rfl | (simp; done) | (simp [*]; done), by repeat (first | exact Drawn0.refl _ | apply Drawn0.step)⟩
    ·rw [if_neg c3] at H
     exact absurd H (by simp)
   ·rw [if_neg c2] at H
    have c2b0 : decide (x3_1 < (a0.size : Int)) = false := df_ c2
    clear c2
    obtain rfl := Option.some.inj H
    go_wp2
    go_ret
    exact ⟨by first | rfl | (simp; done) | (simp [*]; done), by repeat (first | exact Drawn0.refl _ | apply Drawn0.step)⟩

/-! ### utf8_DecodeRuneInString: function 44 -/
/-- What the listed variables hold: the two tables of unicode/utf8. -/
def LaidE (w : World) : Prop := Go.Lib.Utf8Tabs 1 2 w
theorem LaidE.below {w w1 : World} (h : LaidE w) (hb : Below w.heap.size w w1) : LaidE w1 := Go.Proofs.Utf8Tabs_below h hb
def utf8_DecodeRuneInString.f (a0 : ByteArray) : Option (Int × Int) := some (((Go.Lib.decodeGo a0).1 : Int), ((Go.Lib.decodeGo a0).2 : Int))
theorem utf8_DecodeRuneInString.calls (a0 : ByteArray) (r1 r2 : Int) (w : World) (hE : Aside0 (LaidE w)) (h : utf8_DecodeRuneInString.f a0 = some (r1, r2)) :
  Calls Tryd.prog 44 #[.string a0] w fun e w' => e = .returned (.tuple #[.int .i32 r1, .int .i64 r2]) ∧ Below w.heap.size w w' := by
 have h' := Option.some.inj h
 simp only [Prod.mk.injEq] at h'
 obtain ⟨rfl, rfl⟩ := h'
 exact Tryd.utf8_DecodeRuneInString a0 w hE.out
theorem decodeGo_ex (s : ByteArray) (pos : Nat) (h : pos < s.size) : Go.Lib.decodeGo (s.extract pos s.size) = Utf8.decode s pos := by
 have h1 : (s.extract pos s.size).size = s.size - pos := by rw [ByteArray.size_extract]; omega
 have hg : ∀ k, pos + k < s.size → (s.extract pos s.size).get! (0 + k) = s.get! (pos + k) := by
  intro k hk
  have q1 : 0 + k < (s.extract pos s.size).size := by omega
  have e1 : (s.extract pos s.size).get! (0 + k) = (s.extract pos s.size)[0 + k]'q1 := Go.Proofs.Utf8W.get!_of_lt _ _ q1
  have e2 : s.get! (pos + k) = s[pos + k]'hk := Go.Proofs.Utf8W.get!_of_lt _ _ hk
  rw [e1, e2]
  rw [ByteArray.getElem_extract]
  simp
 unfold Go.Lib.decodeGo
 rw [if_neg (by omega)]
 unfold Utf8.decode
 have hc : ∀ k, (decide (0 + k < (s.extract pos s.size).size)) = decide (pos + k < s.size) := fun k => by
  rw [h1]; congr 1; apply propext; omega
 have hcont : ∀ k, (decide (0 + k < (s.extract pos s.size).size) && ((s.extract pos s.size).get! (0 + k)).toNat / 64 == 2) = (decide (pos + k < s.size) && (s.get! (pos + k)).toNat / 64 == 2) := fun k => by
  rw [hc]
  by_cases q : pos + k < s.size
  ·rw [hg k q]
  ·simp [q]
 have h0 := hg 0 (by omega)
 simp only [hcont, h0]
 split
 ·rfl
 ·split
  ·rename_i q
   simp only [Bool.and_eq_true, decide_eq_true_eq] at q
   rw [hg 1 q.2.1]
  ·split
   ·rename_i q
    simp only [Bool.and_eq_true, decide_eq_true_eq] at q
    rw [hg 1 q.1.2.1, hg 2 q.2.1]
   ·split
    ·rename_i q
     simp only [Bool.and_eq_true, decide_eq_true_eq] at q
     rw [hg 1 q.1.1.2.1, hg 2 q.1.2.1, hg 3 q.2.1]
    ·rfl
theorem iterPos_at {w : World} {k : Nat} {s : ByteArray} {p : Nat} (h : w.heap[k]? = some (.stringIter s p)) : w.iterPos k = p := by simp [World.iterPos, h]
theorem dec_pos (s : ByteArray) (pos : Nat) (h : pos < s.size) : 1 ≤ (Utf8.decode s pos).2 := by
 by_cases ha : (s[pos]'h).toNat < 128
 ·rw [decode_ascii s pos h ha]
  exact Nat.le_refl _
 ·exact (decode_high s pos h (by omega)).2

/-! ### token_quoted: function 34 -/
/-- How long a string is, from a byte on; or where it fails. -/
def quotedV (s : ByteArray) : Nat → Nat → Int × Int × Int
 | 0, _ => (0, 14, s.size)
 | b + 1, pos => if pos < s.size then (if pos = 0 then quotedV s b (pos + (Utf8.decode s pos).2)
   else if ((Utf8.decode s pos).1 : Int) = 34 then ((pos : Int) + 1, 0, 0)
   else if ((Utf8.decode s pos).1 : Int) < 32 ∨ ((Utf8.decode s pos).1 : Int) = 127 ∨ (((Utf8.decode s pos).1 : Int) = 65533 ∧ (Utf8.decode s pos).2 = 1) then (0, 10, pos)
   else quotedV s b (pos + (Utf8.decode s pos).2)) else (0, 14, s.size)
def token_quoted.f (a0 : ByteArray) : Option (Int × Int × Int) := if a0.size < 4611686018427387904 then some (quotedV a0 a0.size 0) else none
theorem quotedV_end (s : ByteArray) (b pos : Nat) (h : ¬ pos < s.size) : quotedV s b pos = (0, 14, (s.size : Int)) := by
 cases b with
 | zero => rfl
 | succ b => simp [quotedV, h]
set_option maxHeartbeats 4000000 in
set_option maxRecDepth 100000 in
theorem token_quoted.calls (a0 : ByteArray) (r1 r2 r3 : Int) (w : World) (hE : Aside0 (LaidE w)) (h : token_quoted.f a0 = some (r1, r2, r3)) :
  Calls Tryd.prog 34 #[.string a0] w fun e w' => e = .returned (.tuple #[.int .i64 r1, .agg #[.int .i64 r2, .int .i64 r3]]) ∧ Below w.heap.size w w' := by
 unfold token_quoted.f at h
 split at h
 rotate_left
 ·exact absurd h (by simp)
 rename_i hsz
 have hV := Option.some.inj h
 clear h
 go_enter Tryd.func34, Tryd.ntmps34
 go_wp2
 go_loopw [4] (fun _ w' => ∃ (pos b : Nat), w'.heap[w.heap.size]? = some (.cells #[.int .i64 0, .int .i64 0] 26 (0, 0)) ∧ w'.heap[w.heap.size + 1]? = some (.stringIter a0 pos) ∧ Below w.heap.size w w' ∧ quotedV a0 b pos = (r1, r2, r3) ∧ a0.size ≤ pos + b) (fun _ w' => a0.size - w'.iterPos (w.heap.size + 1))
 case atStart => exact ⟨0, a0.size, ka_ (blk_new w _) _, by rw [show w.heap.size + 1 = (w.alloc (.cells #[.int .i64 0, .int .i64 0] 26)).heap.size from (Array.size_push ..).symm]; exact blk_new _ _, ba_ (ba_ (Below.refl w.heap.size w) _) _, hV, by omega⟩
 case round =>
  obtain ⟨pos, b, hres, hk, hbel, hc, hb⟩ := hrel
  by_cases hp : pos < a0.size
  ·have hnx : ∀ ty, (Instr.next (.pointer (some ⟨w.heap.size + 1, 0, none⟩)) true ty).run Tryd.prog wr = _ := fun ty => Lib.run_next_any_at wr (w.heap.size + 1) a0 pos ty hk hp
   have hwd := dec_pos a0 pos hp
   have hk2 := Lib.iterAt_heap wr (w.heap.size + 1) a0 pos (pos + (Utf8.decode a0 pos).2) hk
   have hb2 := Lib.below_iterAt hbel (Nat.le_succ w.heap.size) a0 (pos + (Utf8.decode a0 pos).2)
   have hr2 := (Lib.iterAt_other wr (w.heap.size + 1) w.heap.size a0 (pos + (Utf8.decode a0 pos).2) (by omega)).trans hres
   have HD := sd_ (fun W hE => utf8_DecodeRuneInString.calls (a0.extract pos a0.size) _ _ W hE (by unfold utf8_DecodeRuneInString.f; rw [decodeGo_ex a0 pos hp]))
   cases b with
   | zero => omega
   | succ b =>
   simp only [quotedV, hp, if_true] at hc
   have hpi := iterPos_at hk
   have hpw : wrap64 ((pos : Int) + 1) = (pos : Int) + 1 := by unfold wrap64; omega
   generalize ((Utf8.decode a0 pos).1 : Int) = rn at *
   generalize (Utf8.decode a0 pos).2 = dn at *
   clear hres hk hbel
   by_cases c0 : pos = 0
   ·have q0 : ((pos : Int) == 0) = true := beq_iff_eq.mpr (by omega)
    rw [if_pos c0] at hc
    subst c0
    clear q0
    have hnx2 : ∀ ty, (Instr.next (.pointer (some ⟨w.heap.size + 1, 0, none⟩)) true ty).run Tryd.prog wr = .ok (.tuple #[.bool true, .int .i64 0, .int .i32 rn]) (wr.iterAt (w.heap.size + 1) a0 dn) := by intro ty; rw [hnx ty, Nat.zero_add]; rfl
    clear hnx
    rw [Nat.zero_add] at hk2 hb2 hr2 hc
    rw [show a0.extract 0 a0.size = a0 by simp] at HD
    have HC := sd_ hc
    clear hc
    go_wp2_with (first | (go_at_call 44; refine (HD.out _ (sd_ (LaidE.below hE.out hb2))).mono ?_; rintro e w1 ⟨rfl, hd⟩; have hk3 := blk_below hk2 hd; have hb3 := bt_ hb2 hd; have hr3 := blk_below hr2 hd; have hc0 := (kc_ hr3 0).trans rfl; have hc1 := (kc_ hr3 1).trans rfl; have hf0 := kf_ hr3 0; have hf1 := kf_ hr3 1))
    refine ⟨⟨dn, b, hr3, hk3, hb3, HC.out, by omega⟩, ?_⟩
    rw [iterPos_at hk3, hpi]
    omega
   ·have q0 : ((pos : Int) == 0) = false := beq_eq_false_iff_ne.mpr (by omega)
    rw [if_neg c0] at hc
    by_cases c1 : rn = 34
    ·have q1 : ((rn : Int) == 34) = true := beq_iff_eq.mpr (by omega)
     rw [if_pos c1] at hc
     subst c1
     clear q1
     simp only [Prod.mk.injEq] at hc
     obtain ⟨rfl, rfl, rfl⟩ := hc
     go_wp2_with (first | (go_at_call 44; refine (HD.out _ (sd_ (LaidE.below hE.out hb2))).mono ?_; rintro e w1 ⟨rfl, hd⟩; have hk3 := blk_below hk2 hd; have hb3 := bt_ hb2 hd; have hr3 := blk_below hr2 hd; have hc0 := (kc_ hr3 0).trans rfl; have hc1 := (kc_ hr3 1).trans rfl; have hf0 := kf_ hr3 0; have hf1 := kf_ hr3 1))
     refine bodyPost_ret (results_tc rfl _ _ w.heap.size 26 #[.int .i64 0, .int .i64 0] (0, 0) _ rfl (by refine blk_put (cs := #[.int .i64 0, .int .i64 0]) ?_ 1 _ rfl; refine blk_put (cs := #[.int .i64 0, .int .i64 0]) ?_ 0 _ rfl; exact hr3) Tryd.underlying26 rfl (by kernel_rfl)) rfl ?_
     exact ⟨rfl, bs_ (bs_ hb3 (Nat.le_refl _)) (Nat.le_refl _)⟩
    ·have q1 : ((rn : Int) == 34) = false := beq_eq_false_iff_ne.mpr (by omega)
     rw [if_neg c1] at hc
     by_cases c2 : rn < 32
     ·have q2 : decide ((rn : Int) < 32) = true := dt_ (by omega)
      rw [if_pos (Or.inl c2)] at hc
      simp only [Prod.mk.injEq] at hc
      obtain ⟨rfl, rfl, rfl⟩ := hc
      go_wp2_with (first | (go_at_call 44; refine (HD.out _ (sd_ (LaidE.below hE.out hb2))).mono ?_; rintro e w1 ⟨rfl, hd⟩; have hk3 := blk_below hk2 hd; have hb3 := bt_ hb2 hd; have hr3 := blk_below hr2 hd; have hc0 := (kc_ hr3 0).trans rfl; have hc1 := (kc_ hr3 1).trans rfl; have hf0 := kf_ hr3 0; have hf1 := kf_ hr3 1) | (go_at_call 18; refine (token_fault.calls 10 (pos : Int) _ _ _ rfl).mono ?_; rintro e w2 ⟨rfl, hd4⟩; have hb4 := bt_ hb3 hd4; have hr4 := blk_below hr3 hd4; clear hc0 hc1 hf0 hf1; have hc0 := (kc_ hr4 0).trans rfl; have hc1 := (kc_ hr4 1).trans rfl; have hf0 := kf_ hr4 0; have hf1 := kf_ hr4 1))
      refine bodyPost_ret (results_tc rfl _ _ w.heap.size 26 #[.int .i64 10, .int .i64 pos] (0, 0) _ rfl (by refine blk_put (cs := #[.int .i64 10, .int .i64 0]) ?_ 1 _ rfl; refine blk_put (cs := #[.int .i64 0, .int .i64 0]) ?_ 0 _ rfl; exact hr4) Tryd.underlying26 rfl (by kernel_rfl)) rfl ?_
      exact ⟨rfl, bs_ (bs_ hb4 (Nat.le_refl _)) (Nat.le_refl _)⟩
     ·have q2 : decide ((rn : Int) < 32) = false := df_ (by omega)
      by_cases c3 : rn = 127
      ·have q3 : ((rn : Int) == 127) = true := beq_iff_eq.mpr (by omega)
       rw [if_pos (Or.inr (Or.inl c3))] at hc
       subst c3
       clear q1 q2 q3
       simp only [Prod.mk.injEq] at hc
       obtain ⟨rfl, rfl, rfl⟩ := hc
       go_wp2_with (first | (go_at_call 44; refine (HD.out _ (sd_ (LaidE.below hE.out hb2))).mono ?_; rintro e w1 ⟨rfl, hd⟩; have hk3 := blk_below hk2 hd; have hb3 := bt_ hb2 hd; have hr3 := blk_below hr2 hd; have hc0 := (kc_ hr3 0).trans rfl; have hc1 := (kc_ hr3 1).trans rfl; have hf0 := kf_ hr3 0; have hf1 := kf_ hr3 1) | (go_at_call 18; refine (token_fault.calls 10 (pos : Int) _ _ _ rfl).mono ?_; rintro e w2 ⟨rfl, hd4⟩; have hb4 := bt_ hb3 hd4; have hr4 := blk_below hr3 hd4; clear hc0 hc1 hf0 hf1; have hc0 := (kc_ hr4 0).trans rfl; have hc1 := (kc_ hr4 1).trans rfl; have hf0 := kf_ hr4 0; have hf1 := kf_ hr4 1))
       refine bodyPost_ret (results_tc rfl _ _ w.heap.size 26 #[.int .i64 10, .int .i64 pos] (0, 0) _ rfl (by refine blk_put (cs := #[.int .i64 10, .int .i64 0]) ?_ 1 _ rfl; refine blk_put (cs := #[.int .i64 0, .int .i64 0]) ?_ 0 _ rfl; exact hr4) Tryd.underlying26 rfl (by kernel_rfl)) rfl ?_
       exact ⟨rfl, bs_ (bs_ hb4 (Nat.le_refl _)) (Nat.le_refl _)⟩
      ·have q3 : ((rn : Int) == 127) = false := beq_eq_false_iff_ne.mpr (by omega)
       by_cases c4 : rn = 65533
       ·have q4 : ((rn : Int) == 65533) = true := beq_iff_eq.mpr (by omega)
        by_cases c5 : dn = 1
        ·have q5 : ((dn : Int) == 1) = true := beq_iff_eq.mpr (by omega)
         have c6 : rn < 32 ∨ rn = 127 ∨ (rn = 65533 ∧ dn = 1) := Or.inr (Or.inr ⟨c4, c5⟩)
         rw [if_pos c6] at hc
         clear c6
         subst c4
         subst c5
         clear q1 q2 q3 q4 q5
         simp only [Prod.mk.injEq] at hc
         obtain ⟨rfl, rfl, rfl⟩ := hc
         go_wp2_with (first | (go_at_call 44; refine (HD.out _ (sd_ (LaidE.below hE.out hb2))).mono ?_; rintro e w1 ⟨rfl, hd⟩; have hk3 := blk_below hk2 hd; have hb3 := bt_ hb2 hd; have hr3 := blk_below hr2 hd; have hc0 := (kc_ hr3 0).trans rfl; have hc1 := (kc_ hr3 1).trans rfl; have hf0 := kf_ hr3 0; have hf1 := kf_ hr3 1) | (go_at_call 18; refine (token_fault.calls 10 (pos : Int) _ _ _ rfl).mono ?_; rintro e w2 ⟨rfl, hd4⟩; have hb4 := bt_ hb3 hd4; have hr4 := blk_below hr3 hd4; clear hc0 hc1 hf0 hf1; have hc0 := (kc_ hr4 0).trans rfl; have hc1 := (kc_ hr4 1).trans rfl; have hf0 := kf_ hr4 0; have hf1 := kf_ hr4 1))
         refine bodyPost_ret (results_tc rfl _ _ w.heap.size 26 #[.int .i64 10, .int .i64 pos] (0, 0) _ rfl (by refine blk_put (cs := #[.int .i64 10, .int .i64 0]) ?_ 1 _ rfl; refine blk_put (cs := #[.int .i64 0, .int .i64 0]) ?_ 0 _ rfl; exact hr4) Tryd.underlying26 rfl (by kernel_rfl)) rfl ?_
         exact ⟨rfl, bs_ (bs_ hb4 (Nat.le_refl _)) (Nat.le_refl _)⟩
        ·have q5 : ((dn : Int) == 1) = false := beq_eq_false_iff_ne.mpr (by omega)
         have c6 : ¬ (rn < 32 ∨ rn = 127 ∨ (rn = 65533 ∧ dn = 1)) := by omega
         rw [if_neg c6] at hc
         clear c6
         subst c4
         clear q1 q2 q3 q4
         have HC := sd_ hc
         clear hc
         go_wp2_with (first | (go_at_call 44; refine (HD.out _ (sd_ (LaidE.below hE.out hb2))).mono ?_; rintro e w1 ⟨rfl, hd⟩; have hk3 := blk_below hk2 hd; have hb3 := bt_ hb2 hd; have hr3 := blk_below hr2 hd; have hc0 := (kc_ hr3 0).trans rfl; have hc1 := (kc_ hr3 1).trans rfl; have hf0 := kf_ hr3 0; have hf1 := kf_ hr3 1))
         refine ⟨⟨pos + dn, b, hr3, hk3, hb3, HC.out, by omega⟩, ?_⟩
         rw [iterPos_at hk3, hpi]
         omega
       ·have q4 : ((rn : Int) == 65533) = false := beq_eq_false_iff_ne.mpr (by omega)
        have c6 : ¬ (rn < 32 ∨ rn = 127 ∨ (rn = 65533 ∧ dn = 1)) := by omega
        rw [if_neg c6] at hc
        have HC := sd_ hc
        clear hc
        go_wp2_with (first | (go_at_call 44; refine (HD.out _ (sd_ (LaidE.below hE.out hb2))).mono ?_; rintro e w1 ⟨rfl, hd⟩; have hk3 := blk_below hk2 hd; have hb3 := bt_ hb2 hd; have hr3 := blk_below hr2 hd; have hc0 := (kc_ hr3 0).trans rfl; have hc1 := (kc_ hr3 1).trans rfl; have hf0 := kf_ hr3 0; have hf1 := kf_ hr3 1))
        refine ⟨⟨pos + dn, b, hr3, hk3, hb3, HC.out, by omega⟩, ?_⟩
        rw [iterPos_at hk3, hpi]
        omega
  ·have hnx : ∀ ty, (Instr.next (.pointer (some ⟨w.heap.size + 1, 0, none⟩)) true ty).run Tryd.prog wr = _ := fun ty => Lib.run_next_end_at wr (w.heap.size + 1) a0 pos ty hk hp
   rw [quotedV_end a0 b pos hp] at hc
   simp only [Prod.mk.injEq] at hc
   obtain ⟨rfl, rfl, rfl⟩ := hc
   go_wp2_with (first | (go_at_call 18; refine (token_fault.calls 14 (a0.size : Int) _ _ _ rfl).mono ?_; rintro e w2 ⟨rfl, hd4⟩; have hb4 := bt_ hbel hd4; have hr4 := blk_below hres hd4; have hc0 := (kc_ hr4 0).trans rfl; have hc1 := (kc_ hr4 1).trans rfl; have hf0 := kf_ hr4 0; have hf1 := kf_ hr4 1))
   refine bodyPost_ret (results_tc rfl _ _ w.heap.size 26 #[.int .i64 14, .int .i64 a0.size] (0, 0) _ rfl (by refine blk_put (cs := #[.int .i64 14, .int .i64 0]) ?_ 1 _ rfl; refine blk_put (cs := #[.int .i64 0, .int .i64 0]) ?_ 0 _ rfl; exact hr4) Tryd.underlying26 rfl (by kernel_rfl)) rfl ?_
   exact ⟨rfl, bs_ (bs_ hb4 (Nat.le_refl _)) (Nat.le_refl _)⟩

/-! ### token_twice: function 35 -/
def token_twice.f (a0 : ByteArray) : Option (Int × Int × Int) := if (a0.size : Int) < 2 then ((token_fault.f 14 (a0.size : Int)).bind fun bt106 => (some (0, bt106.1, bt106.2))) else (if 1 < (a0.size : Int) then (if 0 < (a0.size : Int) then (if (bt a0 1) = (bt a0 0) then (some (2, 0, 0)) else ((token_fault.f 10 1).bind fun bt108 => (some (0, bt108.1, bt108.2)))) else (none)) else (none))
set_option maxHeartbeats 8000000 in
set_option maxRecDepth 100000 in
theorem token_twice.calls (a0 : ByteArray) (r1 : Int) (r2 : Int) (r3 : Int) (w : World) (h : token_twice.f a0 = some (r1, r2, r3)) :
  Calls Tryd.prog 35 #[.string a0] w fun e w' => e = .returned (.tuple #[.int .i64 r1, .agg #[.int .i64 r2, .int .i64 r3]]) ∧ Below w.heap.size w w' := by
 have hu26 := Tryd.underlying26
 have HB := sd_ (Below.refl w.heap.size w)
 have H : (if (a0.size : Int) < 2 then ((token_fault.f 14 (a0.size : Int)).bind fun bt106 => (some (0, bt106.1, bt106.2))) else (if 1 < (a0.size : Int) then (if 0 < (a0.size : Int) then (if (bt a0 1) = (bt a0 0) then (some (2, 0, 0)) else ((token_fault.f 10 1).bind fun bt108 => (some (0, bt108.1, bt108.2)))) else (none)) else (none))) = some (r1, r2, r3) := h
 clear h
 by_cases c2 : (a0.size : Int) < 2
 ·rw [if_pos c2] at H
  have c2b0 : decide ((a0.size : Int) < 2) = true := dt_ c2
  have c2b1 : decide (a0.size < 2) = true := dt_ (by omega)
  clear c2
  replace H := ob_ H
  obtain ⟨⟨t106, t107⟩, A30, H⟩ := H
  replace H : (some (0, t106, t107)) = some (r1, r2, r3) := H
  have A3 := sd_ A30
  clear A30
  simp only [Option.some.injEq, Prod.mk.injEq] at H
  obtain ⟨rfl, rfl, rfl⟩ := H
  go_enter Tryd.func35, Tryd.ntmps35
  go_wp2_with (first | ((with_reducible refine gate_dst (N := 3) rfl ?_); refine box_event ?hg (N := 3) ?hd (cs := #[.int .i64 0, .int .i64 0]) (t := 26) ?hr ?_; (case hd => rfl); (case hg => rfl); (case hr => first | (go_simp; done) | (go_simp; rfl)); intro gb105 hg w4 hbox hb; have BK105 := sd_ hbox; have GW105 := gw_ HB e0_ hg; have GE105 := GW105; replace HB := hb_ HB e0_ hb; clear hb hbox hg) | (go_at_call 18; (with_reducible refine (token_fault.calls 14 (a0.size : Int) t106 t107 _ A3.out).mono ?_); rintro e w5 ⟨rfl, hb⟩; replace BK105 := kb_ BK105 hb; replace HB := hb_ HB (e_ GE105 e0_) hb; (try clear hb); (try clear hb2); (try clear hk); (try clear hi); have hcz6_0 : w5.cell? ⟨gb105, 0, none⟩ = some (.int .i64 0) := (kc_ BK105.out 0).trans rfl; have hcz6_1 : w5.cell? ⟨gb105, 1, none⟩ = some (.int .i64 0) := (kc_ BK105.out 1).trans rfl; have hfz6_0 := kf_ BK105.out 0; have hfz6_1 := kf_ BK105.out 1))
  repeat (go_quiet (first | ((with_reducible refine gate_dst (N := 3) rfl ?_); refine box_event ?hg (N := 3) ?hd (cs := #[.int .i64 0, .int .i64 0]) (t := 26) ?hr ?_; (case hd => rfl); (case hg => rfl); (case hr => first | (go_simp; done) | (go_simp; rfl)); intro gb105 hg w4 hbox hb; have BK105 := sd_ hbox; have GW105 := gw_ HB e0_ hg; have GE105 := GW105; replace HB := hb_ HB e0_ hb; clear hb hbox hg) | (go_at_call 18; (with_reducible refine (token_fault.calls 14 (a0.size : Int) t106 t107 _ A3.out).mono ?_); rintro e w5 ⟨rfl, hb⟩; replace BK105 := kb_ BK105 hb; replace HB := hb_ HB (e_ GE105 e0_) hb; (try clear hb); (try clear hb2); (try clear hk); (try clear hi); have hcz6_0 : w5.cell? ⟨gb105, 0, none⟩ = some (.int .i64 0) := (kc_ BK105.out 0).trans rfl; have hcz6_1 : w5.cell? ⟨gb105, 1, none⟩ = some (.int .i64 0) := (kc_ BK105.out 1).trans rfl; have hfz6_0 := kf_ BK105.out 0; have hfz6_1 := kf_ BK105.out 1)); try go_wp2_with (first | ((with_reducible refine gate_dst (N := 3) rfl ?_); refine box_event ?hg (N := 3) ?hd (cs := #[.int .i64 0, .int .i64 0]) (t := 26) ?hr ?_; (case hd => rfl); (case hg => rfl); (case hr => first | (go_simp; done) | (go_simp; rfl)); intro gb105 hg w4 hbox hb; have BK105 := sd_ hbox; have GW105 := gw_ HB e0_ hg; have GE105 := GW105; replace HB := hb_ HB e0_ hb; clear hb hbox hg) | (go_at_call 18; (with_reducible refine (token_fault.calls 14 (a0.size : Int) t106 t107 _ A3.out).mono ?_); rintro e w5 ⟨rfl, hb⟩; replace BK105 := kb_ BK105 hb; replace HB := hb_ HB (e_ GE105 e0_) hb; (try clear hb); (try clear hb2); (try clear hk); (try clear hi); have hcz6_0 : w5.cell? ⟨gb105, 0, none⟩ = some (.int .i64 0) := (kc_ BK105.out 0).trans rfl; have hcz6_1 : w5.cell? ⟨gb105, 1, none⟩ = some (.int .i64 0) := (kc_ BK105.out 1).trans rfl; have hfz6_0 := kf_ BK105.out 0; have hfz6_1 := kf_ BK105.out 1)))
  refine bodyPost_ret (results_tc rfl _ _ gb105 26 #[.int .i64 t106, .int .i64 t107] (0, 0) _ rfl (by (with_reducible repeat first | apply kn_ | apply kd_ | apply ka_); refine blk_put (cs := #[.int .i64 t106, .int .i64 0]) ?_ 1 _ rfl; (with_reducible repeat first | apply kn_ | apply kd_ | apply ka_); refine blk_put (cs := #[.int .i64 0, .int .i64 0]) ?_ 0 _ rfl; (with_reducible repeat first | apply kn_ | apply kd_ | apply ka_); exact BK105.out) Tryd.underlying26 rfl (by kernel_rfl)) rfl ?_
  exact ⟨by first | rfl | (simp [errW_none, errW_some] <;> rfl) | (simp [*, errW_none, errW_some] <;> rfl), by repeat (first | (with_reducible first | exact HB.out | apply ba_ | apply pd_ | apply d1_ | refine bs_ ?_ GE105.out) | exact HB.out)⟩
 ·rw [if_neg c2] at H
  have c2b0 : decide ((a0.size : Int) < 2) = false := df_ c2
  have c2b1 : decide (a0.size < 2) = false := df_ (by omega)
  clear c2
  by_cases c7 : 1 < (a0.size : Int)
  ·rw [if_pos c7] at H
   have c7b0 : decide (1 < (a0.size : Int)) = true := dt_ c7
   have c7b1 : decide (1 < a0.size) = true := dt_ (by omega)
   clear c7
   by_cases c9 : 0 < (a0.size : Int)
   ·rw [if_pos c9] at H
    have c9b0 : decide (0 < (a0.size : Int)) = true := dt_ c9
    have c9b1 : decide (0 < a0.size) = true := dt_ (by omega)
    clear c9
    by_cases c11 : (bt a0 1) = (bt a0 0)
    ·rw [if_pos c11] at H
     have c11b0 : ((bt a0 1) == (bt a0 0)) = true := beq_iff_eq.mpr c11
     have c11b1 : ((bt a0 1) != (bt a0 0)) = false := bne_eq_false_iff_eq.mpr c11
     clear c11
     simp only [Option.some.injEq, Prod.mk.injEq] at H
     obtain ⟨rfl, rfl, rfl⟩ := H
     go_enter Tryd.func35, Tryd.ntmps35
     go_wp2_with (first | ((with_reducible refine gate_dst (N := 3) rfl ?_); refine box_event ?hg (N := 3) ?hd (cs := #[.int .i64 0, .int .i64 0]) (t := 26) ?hr ?_; (case hd => rfl); (case hg => rfl); (case hr => first | (go_simp; done) | (go_simp; rfl)); intro gb105 hg w12 hbox hb; have BK105 := sd_ hbox; have GW105 := gw_ HB e0_ hg; have GE105 := GW105; replace HB := hb_ HB e0_ hb; clear hb hbox hg; have p8 : 0 ≤ (1 : Int) := (by omega); have q8 : 1 < a0.size := (by have : (1 : Int) < (a0.size : Int) := od_ (by first | (with_reducible assumption) | assumption); omega); have hx8 : ∀ h : 1 < a0.size, ((a0[1]'h).toNat : Int) = bt a0 1 := bt_at a0 1; clear p8; have qi8 : (1 < (a0.size : Int)) = True := eq_true (od_ (by first | (with_reducible assumption) | assumption)); replace q8 := eq_true q8; have p10 : 0 ≤ (0 : Int) := (by omega); have q10 : 0 < a0.size := (by have : (0 : Int) < (a0.size : Int) := od_ (by first | (with_reducible assumption) | assumption); omega); have hx10 : ∀ h : 0 < a0.size, ((a0[0]'h).toNat : Int) = bt a0 0 := bt_at a0 0; clear p10; have qi10 : (0 < (a0.size : Int)) = True := eq_true (od_ (by first | (with_reducible assumption) | assumption)); replace q10 := eq_true q10; have hcz13_0 : w12.cell? ⟨gb105, 0, none⟩ = some (.int .i64 0) := (kc_ BK105.out 0).trans rfl; have hcz13_1 : w12.cell? ⟨gb105, 1, none⟩ = some (.int .i64 0) := (kc_ BK105.out 1).trans rfl; have hfz13_0 := kf_ BK105.out 0; have hfz13_1 := kf_ BK105.out 1))
     repeat (go_quiet (first | ((with_reducible refine gate_dst (N := 3) rfl ?_); refine box_event ?hg (N := 3) ?hd (cs := #[.int .i64 0, .int .i64 0]) (t := 26) ?hr ?_; (case hd => rfl); (case hg => rfl); (case hr => first | (go_simp; done) | (go_simp; rfl)); intro gb105 hg w12 hbox hb; have BK105 := sd_ hbox; have GW105 := gw_ HB e0_ hg; have GE105 := GW105; replace HB := hb_ HB e0_ hb; clear hb hbox hg; have p8 : 0 ≤ (1 : Int) := (by omega); have q8 : 1 < a0.size := (by have : (1 : Int) < (a0.size : Int) := od_ (by first | (with_reducible assumption) | assumption); omega); have hx8 : ∀ h : 1 < a0.size, ((a0[1]'h).toNat : Int) = bt a0 1 := bt_at a0 1; clear p8; have qi8 : (1 < (a0.size : Int)) = True := eq_true (od_ (by first | (with_reducible assumption) | assumption)); replace q8 := eq_true q8; have p10 : 0 ≤ (0 : Int) := (by omega); have q10 : 0 < a0.size := (by have : (0 : Int) < (a0.size : Int) := od_ (by first | (with_reducible assumption) | assumption); omega); have hx10 : ∀ h : 0 < a0.size, ((a0[0]'h).toNat : Int) = bt a0 0 := bt_at a0 0; clear p10; have qi10 : (0 < (a0.size : Int)) = True := eq_true (od_ (by first | (with_reducible assumption) | assumption)); replace q10 := eq_true q10; have hcz13_0 : w12.cell? ⟨gb105, 0, none⟩ = some (.int .i64 0) := (kc_ BK105.out 0).trans rfl; have hcz13_1 : w12.cell? ⟨gb105, 1, none⟩ = some (.int .i64 0) := (kc_ BK105.out 1).trans rfl; have hfz13_0 := kf_ BK105.out 0; have hfz13_1 := kf_ BK105.out 1)); try go_wp2_with (first | ((with_reducible refine gate_dst (N := 3) rfl ?_); refine box_event ?hg (N := 3) ?hd (cs := #[.int .i64 0, .int .i64 0]) (t := 26) ?hr ?_; (case hd => rfl); (case hg => rfl); (case hr => first | (go_simp; done) | (go_simp; rfl)); intro gb105 hg w12 hbox hb; have BK105 := sd_ hbox; have GW105 := gw_ HB e0_ hg; have GE105 := GW105; replace HB := hb_ HB e0_ hb; clear hb hbox hg; have p8 : 0 ≤ (1 : Int) := (by omega); have q8 : 1 < a0.size := (by have : (1 : Int) < (a0.size : Int) := od_ (by first | (with_reducible assumption) | assumption); omega); have hx8 : ∀ h : 1 < a0.size, ((a0[1]'h).toNat : Int) = bt a0 1 := bt_at a0 1; clear p8; have qi8 : (1 < (a0.size : Int)) = True := eq_true (od_ (by first | (with_reducible assumption) | assumption)); replace q8 := eq_true q8; have p10 : 0 ≤ (0 : Int) := (by omega); have q10 : 0 < a0.size := (by have : (0 : Int) < (a0.size : Int) := od_ (by first | (with_reducible assumption) | assumption); omega); have hx10 : ∀ h : 0 < a0.size, ((a0[0]'h).toNat : Int) = bt a0 0 := bt_at a0 0; clear p10; have qi10 : (0 < (a0.size : Int)) = True := eq_true (od_ (by first | (with_reducible assumption) | assumption)); replace q10 := eq_true q10; have hcz13_0 : w12.cell? ⟨gb105, 0, none⟩ = some (.int .i64 0) := (kc_ BK105.out 0).trans rfl; have hcz13_1 : w12.cell? ⟨gb105, 1, none⟩ = some (.int .i64 0) := (kc_ BK105.out 1).trans rfl; have hfz13_0 := kf_ BK105.out 0; have hfz13_1 := kf_ BK105.out 1)))
     refine bodyPost_ret (results_tc rfl _ _ gb105 26 #[.int .i64 0, .int .i64 0] (0, 0) _ rfl (by (with_reducible repeat first | apply kn_ | apply kd_ | apply ka_); refine blk_put (cs := #[.int .i64 0, .int .i64 0]) ?_ 1 _ rfl; (with_reducible repeat first | apply kn_ | apply kd_ | apply ka_); refine blk_put (cs := #[.int .i64 0, .int .i64 0]) ?_ 0 _ rfl; (with_reducible repeat first | apply kn_ | apply kd_ | apply ka_); exact BK105.out) Tryd.underlying26 rfl (by kernel_rfl)) rfl ?_
     exact ⟨by first | rfl | (simp [errW_none, errW_some] <;> rfl) | (simp [*, errW_none, errW_some] <;> rfl), by repeat (first | (with_reducible first | exact HB.out | apply ba_ | apply pd_ | apply d1_ | refine bs_ ?_ GE105.out) | exact HB.out)⟩
    ·rw [if_neg c11] at H
     have c11b0 : ((bt a0 1) == (bt a0 0)) = false := beq_eq_false_iff_ne.mpr c11
     have c11b1 : ((bt a0 1) != (bt a0 0)) = true := bne_iff_ne.mpr c11
     replace H := ob_ H
     obtain ⟨⟨t108, t109⟩, A140, H⟩ := H
     replace H : (some (0, t108, t109)) = some (r1, r2, r3) := H
     have A14 := sd_ A140
     clear A140
     simp only [Option.some.injEq, Prod.mk.injEq] at H
     obtain ⟨rfl, rfl, rfl⟩ := H
     go_enter Tryd.func35, Tryd.ntmps35
     go_wp2_with (first | ((with_reducible refine gate_dst (N := 3) rfl ?_); refine box_event ?hg (N := 3) ?hd (cs := #[.int .i64 0, .int .i64 0]) (t := 26) ?hr ?_; (case hd => rfl); (case hg => rfl); (case hr => first | (go_simp; done) | (go_simp; rfl)); intro gb105 hg w15 hbox hb; have BK105 := sd_ hbox; have GW105 := gw_ HB e0_ hg; have GE105 := GW105; replace HB := hb_ HB e0_ hb; clear hb hbox hg; have p8 : 0 ≤ (1 : Int) := (by omega); have q8 : 1 < a0.size := (by have : (1 : Int) < (a0.size : Int) := od_ (by first | (with_reducible assumption) | assumption); omega); have hx8 : ∀ h : 1 < a0.size, ((a0[1]'h).toNat : Int) = bt a0 1 := bt_at a0 1; clear p8; have qi8 : (1 < (a0.size : Int)) = True := eq_true (od_ (by first | (with_reducible assumption) | assumption)); replace q8 := eq_true q8; have p10 : 0 ≤ (0 : Int) := (by omega); have q10 : 0 < a0.size := (by have : (0 : Int) < (a0.size : Int) := od_ (by first | (with_reducible assumption) | assumption); omega); have hx10 : ∀ h : 0 < a0.size, ((a0[0]'h).toNat : Int) = bt a0 0 := bt_at a0 0; clear p10; have qi10 : (0 < (a0.size : Int)) = True := eq_true (od_ (by first | (with_reducible assumption) | assumption)); replace q10 := eq_true q10) | (go_at_call 18; (with_reducible refine (token_fault.calls 10 1 t108 t109 _ A14.out).mono ?_); rintro e w16 ⟨rfl, hb⟩; replace BK105 := kb_ BK105 hb; replace HB := hb_ HB (e_ GE105 e0_) hb; (try clear hb); (try clear hb2); (try clear hk); (try clear hi); have hcz17_0 : w16.cell? ⟨gb105, 0, none⟩ = some (.int .i64 0) := (kc_ BK105.out 0).trans rfl; have hcz17_1 : w16.cell? ⟨gb105, 1, none⟩ = some (.int .i64 0) := (kc_ BK105.out 1).trans rfl; have hfz17_0 := kf_ BK105.out 0; have hfz17_1 := kf_ BK105.out 1))
     repeat (go_quiet (first | ((with_reducible refine gate_dst (N := 3) rfl ?_); refine box_event ?hg (N := 3) ?hd (cs := #[.int .i64 0, .int .i64 0]) (t := 26) ?hr ?_; (case hd => rfl); (case hg => rfl); (case hr => first | (go_simp; done) | (go_simp; rfl)); intro gb105 hg w15 hbox hb; have BK105 := sd_ hbox; have GW105 := gw_ HB e0_ hg; have GE105 := GW105; replace HB := hb_ HB e0_ hb; clear hb hbox hg; have p8 : 0 ≤ (1 : Int) := (by omega); have q8 : 1 < a0.size := (by have : (1 : Int) < (a0.size : Int) := od_ (by first | (with_reducible assumption) | assumption); omega); have hx8 : ∀ h : 1 < a0.size, ((a0[1]'h).toNat : Int) = bt a0 1 := bt_at a0 1; clear p8; have qi8 : (1 < (a0.size : Int)) = True := eq_true (od_ (by first | (with_reducible assumption) | assumption)); replace q8 := eq_true q8; have p10 : 0 ≤ (0 : Int) := (by omega); have q10 : 0 < a0.size := (by have : (0 : Int) < (a0.size : Int) := od_ (by first | (with_reducible assumption) | assumption); omega); have hx10 : ∀ h : 0 < a0.size, ((a0[0]'h).toNat : Int) = bt a0 0 := bt_at a0 0; clear p10; have qi10 : (0 < (a0.size : Int)) = True := eq_true (od_ (by first | (with_reducible assumption) | assumption)); replace q10 := eq_true q10) | (go_at_call 18; (with_reducible refine (token_fault.calls 10 1 t108 t109 _ A14.out).mono ?_); rintro e w16 ⟨rfl, hb⟩; replace BK105 := kb_ BK105 hb; replace HB := hb_ HB (e_ GE105 e0_) hb; (try clear hb); (try clear hb2); (try clear hk); (try clear hi); have hcz17_0 : w16.cell? ⟨gb105, 0, none⟩ = some (.int .i64 0) := (kc_ BK105.out 0).trans rfl; have hcz17_1 : w16.cell? ⟨gb105, 1, none⟩ = some (.int .i64 0) := (kc_ BK105.out 1).trans rfl; have hfz17_0 := kf_ BK105.out 0; have hfz17_1 := kf_ BK105.out 1)); try go_wp2_with (first | ((with_reducible refine gate_dst (N := 3) rfl ?_); refine box_event ?hg (N := 3) ?hd (cs := #[.int .i64 0, .int .i64 0]) (t := 26) ?hr ?_; (case hd => rfl); (case hg => rfl); (case hr => first | (go_simp; done) | (go_simp; rfl)); intro gb105 hg w15 hbox hb; have BK105 := sd_ hbox; have GW105 := gw_ HB e0_ hg; have GE105 := GW105; replace HB := hb_ HB e0_ hb; clear hb hbox hg; have p8 : 0 ≤ (1 : Int) := (by omega); have q8 : 1 < a0.size := (by have : (1 : Int) < (a0.size : Int) := od_ (by first | (with_reducible assumption) | assumption); omega); have hx8 : ∀ h : 1 < a0.size, ((a0[1]'h).toNat : Int) = bt a0 1 := bt_at a0 1; clear p8; have qi8 : (1 < (a0.size : Int)) = True := eq_true (od_ (by first | (with_reducible assumption) | assumption)); replace q8 := eq_true q8; have p10 : 0 ≤ (0 : Int) := (by omega); have q10 : 0 < a0.size := (by have : (0 : Int) < (a0.size : Int) := od_ (by first | (with_reducible assumption) | assumption); omega); have hx10 : ∀ h : 0 < a0.size, ((a0[0]'h).toNat : Int) = bt a0 0 := bt_at a0 0; clear p10; have qi10 : (0 < (a0.size : Int)) = True := eq_true (od_ (by first | (with_reducible assumption) | assumption)); replace q10 := eq_true q10) | (go_at_call 18; (with_reducible refine (token_fault.calls 10 1 t108 t109 _ A14.out).mono ?_); rintro e w16 ⟨rfl, hb⟩; replace BK105 := kb_ BK105 hb; replace HB := hb_ HB (e_ GE105 e0_) hb; (try clear hb); (try clear hb2); (try clear hk); (try clear hi); have hcz17_0 : w16.cell? ⟨gb105, 0, none⟩ = some (.int .i64 0) := (kc_ BK105.out 0).trans rfl; have hcz17_1 : w16.cell? ⟨gb105, 1, none⟩ = some (.int .i64 0) := (kc_ BK105.out 1).trans rfl; have hfz17_0 := kf_ BK105.out 0; have hfz17_1 := kf_ BK105.out 1)))
     refine bodyPost_ret (results_tc rfl _ _ gb105 26 #[.int .i64 t108, .int .i64 t109] (0, 0) _ rfl (by (with_reducible repeat first | apply kn_ | apply kd_ | apply ka_); refine blk_put (cs := #[.int .i64 t108, .int .i64 0]) ?_ 1 _ rfl; (with_reducible repeat first | apply kn_ | apply kd_ | apply ka_); refine blk_put (cs := #[.int .i64 0, .int .i64 0]) ?_ 0 _ rfl; (with_reducible repeat first | apply kn_ | apply kd_ | apply ka_); exact BK105.out) Tryd.underlying26 rfl (by kernel_rfl)) rfl ?_
     exact ⟨by first | rfl | (simp [errW_none, errW_some] <;> rfl) | (simp [*, errW_none, errW_some] <;> rfl), by repeat (first | (with_reducible first | exact HB.out | apply ba_ | apply pd_ | apply d1_ | refine bs_ ?_ GE105.out) | exact HB.out)⟩
   ·rw [if_neg c9] at H
    exact absurd H (by simp)
  ·rw [if_neg c7] at H
   exact absurd H (by simp)

/-! ### token_letter: function 45 -/
mutual
def token_letter.j0 : Nat → Int → Int → Bool → Option (Bool)
 | 0, _, _, _ => none
 | k + 1, x0, x1, x5 => if x5 = true then (token_letter.j1 k x0 x1 x5) else (if x0 ≥ 65 then (token_letter.j1 k x0 x1 (decide (x0 ≤ 90))) else (token_letter.j1 k x0 x1 false))
def token_letter.j1 : Nat → Int → Int → Bool → Option (Bool)
 | 0, _, _, _ => none
 | k + 1, x0, x1, x5 => if x5 = true then (some true) else (if x0 < 128 then (some false) else (if x0 = 65533 then (some (decide (x1 > 1))) else (some true)))
end
def token_letter.f (k : Nat) (a0 : Int) (a1 : Int) : Option (Bool) := if a0 ≥ 97 then (token_letter.j0 k a0 a1 (decide (a0 ≤ 122))) else (token_letter.j0 k a0 a1 false)
theorem token_letter.mono_l : ∀ k, (∀ y0 y1 y2, LeO (token_letter.j0 k y0 y1 y2) (token_letter.j0 (k + 1) y0 y1 y2)) ∧ (∀ y0 y1 y2, LeO (token_letter.j1 k y0 y1 y2) (token_letter.j1 (k + 1) y0 y1 y2))
 | 0 => ⟨fun _ _ _ r h => by simp [token_letter.j0] at h, fun _ _ _ r h => by simp [token_letter.j1] at h⟩
 | k + 1 => by
  obtain ⟨ih0, ih1⟩ := token_letter.mono_l k
  refine ⟨?_, ?_⟩
  ·intro y0 y1 y2
   unfold token_letter.j0
   repeat' first
   | (with_reducible exact ih0 _ _ _)
   | (with_reducible exact ih1 _ _ _)
   | (with_reducible exact LeO.refl _)
   | (with_reducible exact LeO.none _)
   | (with_reducible refine LeO.ite ?_ ?_)
   | (with_reducible refine LeO.bind ?_ (fun _ => ?_))
   | exact ih0 _ _ _
   | exact ih1 _ _ _
   | exact LeO.none _
   | refine LeO.ite ?_ ?_
   | refine LeO.bind ?_ (fun _ => ?_)
  ·intro y0 y1 y2
   unfold token_letter.j1
   repeat' first
   | (with_reducible exact ih0 _ _ _)
   | (with_reducible exact ih1 _ _ _)
   | (with_reducible exact LeO.refl _)
   | (with_reducible exact LeO.none _)
   | (with_reducible refine LeO.ite ?_ ?_)
   | (with_reducible refine LeO.bind ?_ (fun _ => ?_))
   | exact ih0 _ _ _
   | exact ih1 _ _ _
   | exact LeO.none _
   | refine LeO.ite ?_ ?_
   | refine LeO.bind ?_ (fun _ => ?_)
theorem token_letter.mono : ∀ a0 a1 k, LeO (token_letter.f k a0 a1) (token_letter.f (k + 1) a0 a1) := by
 intro a0 a1 k
 obtain ⟨ih0, ih1⟩ := token_letter.mono_l k
 unfold token_letter.f
 repeat' first
   | (with_reducible exact ih0 _ _ _)
   | (with_reducible exact ih1 _ _ _)
   | (with_reducible exact LeO.refl _)
   | (with_reducible exact LeO.none _)
   | (with_reducible refine LeO.ite ?_ ?_)
   | (with_reducible refine LeO.bind ?_ (fun _ => ?_))
   | exact ih0 _ _ _
   | exact ih1 _ _ _
   | exact LeO.none _
   | refine LeO.ite ?_ ?_
   | refine LeO.bind ?_ (fun _ => ?_)
set_option maxHeartbeats 8000000 in
set_option maxRecDepth 100000 in
theorem token_letter.calls (k : Nat) (a0 : Int) (a1 : Int) (r : Bool) (w : World) (h : token_letter.f k a0 a1 = some r) :
  Calls Tryd.prog 45 #[.int .i32 a0, .int .i64 a1] w fun e w' => e = .returned (.bool r) ∧ Drawn0 w w' := by
 have H : (if a0 ≥ 97 then (token_letter.j0 k a0 a1 (decide (a0 ≤ 122))) else (token_letter.j0 k a0 a1 false)) = some r := h
 clear h
 have HC3 := sd_ H
 clear H
 go_enter Tryd.func45, Tryd.ntmps45
 go_upto_region 1 with (fail)
 go_cut [5] (fun v5 wc => ∃ (kq : Nat) (x5_2 : Bool), v5 = .bool x5_2 ∧ Aside0 (token_letter.j0 kq a0 a1 x5_2 = some r) ∧ Aside0 (kq ≤ k) ∧ Drawn0 w wc)
 case first =>
  have H := HC3.out
  clear HC3
  by_cases c4 : a0 ≥ 97
  ·rw [if_pos c4] at H
   have c4b0 : decide (97 ≤ a0) = true := dt_ c4
   clear c4
   (first | rw [c4b0] | (simp only [i64_w, i32_w]; rw [c4b0]) | skip)
   have H' := sd_ H
   clear H
   go_wp2
   go_meet
   case rel => exact ⟨_, (decide (a0 ≤ 122)), (by first | rfl | (simp; done) | (simp [*]; done) | (simp [bne]; done)), H', ⟨by first | omega | exact Nat.le_refl _⟩, by repeat (first | exact Drawn0.refl _ | apply Drawn0.step)⟩
  ·rw [if_neg c4] at H
   have c4b0 : decide (97 ≤ a0) = false := df_ c4
   clear c4
   (first | rw [c4b0] | (simp only [i64_w, i32_w]; rw [c4b0]) | skip)
   have H' := sd_ H
   clear H
   go_wp2
   go_meet
   case rel => exact ⟨_, (false), (by first | rfl | (simp; done) | (simp [*]; done) | (simp [bne]; done)), H', ⟨by first | omega | exact Nat.le_refl _⟩, by repeat (first | exact Drawn0.refl _ | apply Drawn0.step)⟩
 case rest =>
  clear HC3
  try clear p2; try clear c4; try clear c4b0
  obtain ⟨kq, x5_2, rfl, HA, HJ2, ⟨mc2, rfl⟩⟩ := hcut
  cases kq with
  | zero => exact absurd HA.out (by simp [token_letter.j0])
  | succ kj2 =>
   have H := HA.out
   clear HA
   simp only [token_letter.j0] at H
   have HC5 := sd_ H
   clear H
   go_upto_if 5 with (fail)
   go_cut [5] (fun v5 wc => ∃ (kq : Nat) (x5_4 : Bool), v5 = .bool x5_4 ∧ Aside0 (token_letter.j1 kq a0 a1 x5_4 = some r) ∧ Aside0 (kq ≤ kj2) ∧ Drawn0 w wc)
   case first =>
    have H := HC5.out
    clear HC5
    by_cases c6 : x5_2 = true
    ·subst c6
     have H1 : (token_letter.j1 kj2 a0 a1 true) = some r := by rw [if_pos rfl] at H; exact H
     clear H; have H := H1; clear H1
     have H' := sd_ H
     clear H
     go_wp2
     go_meet
     case rel => exact ⟨_, (true), (by first | rfl | (simp; done) | (simp [*]; done) | (simp [bne]; done)), H', ⟨by have := HJ2.out; first | omega | exact Nat.le_refl _⟩, by repeat (first | exact Drawn0.refl _ | apply Drawn0.step)⟩
    ·replace c6 := bf_ c6
     subst c6
     have H1 : (if a0 ≥ 65 then (token_letter.j1 kj2 a0 a1 (decide (a0 ≤ 90))) else (token_letter.j1 kj2 a0 a1 false)) = some r := by rw [if_neg (show ¬ (false = true) by decide)] at H; exact H
     clear H; have H := H1; clear H1
     by_cases c7 : a0 ≥ 65
     ·rw [if_pos c7] at H
      have c7b0 : decide (65 ≤ a0) = true := dt_ c7
      clear c7
      (first | rw [c7b0] | (simp only [i64_w, i32_w]; rw [c7b0]) | skip)
      have H' := sd_ H
      clear H
      go_wp2
      go_meet
      case rel => exact ⟨_, (decide (a0 ≤ 90)), (by first | rfl | (simp; done) | (simp [*]; done) | (simp [bne]; done)), H', ⟨by have := HJ2.out; first | omega | exact Nat.le_refl _⟩, by repeat (first | exact Drawn0.refl _ | apply Drawn0.step)⟩
     ·rw [if_neg c7] at H
      have c7b0 : decide (65 ≤ a0) = false := df_ c7
      clear c7
      (first | rw [c7b0] | (simp only [i64_w, i32_w]; rw [c7b0]) | skip)
      have H' := sd_ H
      clear H
      go_wp2
      go_meet
      case rel => exact ⟨_, (false), (by first | rfl | (simp; done) | (simp [*]; done) | (simp [bne]; done)), H', ⟨by have := HJ2.out; first | omega | exact Nat.le_refl _⟩, by repeat (first | exact Drawn0.refl _ | apply Drawn0.step)⟩
   case rest =>
    clear HC5
    try clear c2; try clear p2; try clear c4; try clear c4b0; try clear c6; try clear c7; try clear c7b0; try clear p2
    obtain ⟨kq, x5_4, rfl, HA, HJ4, ⟨mc4, rfl⟩⟩ := hcut
    cases kq with
    | zero => exact absurd HA.out (by simp [token_letter.j1])
    | succ kj4 =>
     have H := HA.out
     clear HA
     simp only [token_letter.j1] at H
     by_cases c8 : x5_4 = true
     ·subst c8
      have H1 : (some true) = some r := by rw [if_pos rfl] at H; exact H
      clear H; have H := H1; clear H1
      obtain rfl := Option.some.inj H
      go_wp2
      go_ret
      exact ⟨by first | rfl | (simp; done) | (simp [*]; done), by repeat (first | exact Drawn0.refl _ | apply Drawn0.step)⟩
     ·replace c8 := bf_ c8
      subst c8
      have H1 : (if a0 < 128 then (some false) else (if a0 = 65533 then (some (decide (a1 > 1))) else (some true))) = some r := by rw [if_neg (show ¬ (false = true) by decide)] at H; exact H
      clear H; have H := H1; clear H1
      by_cases c9 : a0 < 128
      ·rw [if_pos c9] at H
       have c9b0 : decide (a0 < 128) = true := dt_ c9
       clear c9
       obtain rfl := Option.some.inj H
       go_wp2
       go_ret
       exact ⟨by first | rfl | (simp; done) | (simp [*]; done), by repeat (first | exact Drawn0.refl _ | apply Drawn0.step)⟩
      ·rw [if_neg c9] at H
       have c9b0 : decide (a0 < 128) = false := df_ c9
       clear c9
       by_cases c10 : a0 = 65533
       ·rw [if_pos c10] at H
        have c10b0 : (a0 == 65533) = true := beq_iff_eq.mpr c10
        have c10b1 : (a0 != 65533) = false := bne_eq_false_iff_eq.mpr c10
        clear c10
        obtain rfl := Option.some.inj H
        go_wp2
        go_ret
        exact ⟨by first | rfl | (simp; done) | (simp [*]; done), by repeat (first | exact Drawn0.refl _ | apply Drawn0.step)⟩
       ·rw [if_neg c10] at H
        have c10b0 : (a0 == 65533) = false := beq_eq_false_iff_ne.mpr c10
        have c10b1 : (a0 != 65533) = true := bne_iff_ne.mpr c10
        obtain rfl := Option.some.inj H
        go_wp2
        go_ret
        exact ⟨by first | rfl | (simp; done) | (simp [*]; done), by repeat (first | exact Drawn0.refl _ | apply Drawn0.step)⟩

/-! ### token_word: function 36 -/
def letB (r n : Int) : Bool := (token_letter.f 4 r n).getD false
def BoolOk (o : Option Bool) : Prop := ∃ v, o = some v
theorem BoolOk.ite {c : Prop} [Decidable c] {a b : Option Bool} (h1 : BoolOk a) (h2 : BoolOk b) : BoolOk (if c then a else b) := by split <;> assumption
theorem letB_ok (r n : Int) : token_letter.f 4 r n = some (letB r n) := by
 have this : BoolOk (token_letter.f 4 r n) := by
  unfold token_letter.f
  simp only [token_letter.j0, token_letter.j1]
  repeat' (first | refine BoolOk.ite ?_ ?_ | exact ⟨_, rfl⟩)
 obtain ⟨v, h⟩ := this
 unfold letB
 rw [h]
 rfl
/-- How long a word is, from a byte on. -/
def wordV (s : ByteArray) : Nat → Nat → Nat
 | 0, _ => s.size
 | b + 1, pos => if pos < s.size then (if letB (Utf8.decode s pos).1 (Utf8.decode s pos).2 then wordV s b (pos + (Utf8.decode s pos).2) else pos) else s.size
def token_word.f (a0 : ByteArray) : Option Int := if a0.size < 4611686018427387904 then some (wordV a0 a0.size 0) else none
theorem wordV_end (s : ByteArray) (b pos : Nat) (h : ¬ pos < s.size) : wordV s b pos = s.size := by
 cases b with
 | zero => rfl
 | succ b => simp [wordV, h]
set_option maxHeartbeats 4000000 in
set_option maxRecDepth 100000 in
theorem token_word.calls (a0 : ByteArray) (r : Int) (w : World) (hE : Aside0 (LaidE w)) (h : token_word.f a0 = some r) :
  Calls Tryd.prog 36 #[.string a0] w fun e w' => e = .returned (.int .i64 r) ∧ Below w.heap.size w w' := by
 unfold token_word.f at h
 split at h
 rotate_left
 ·exact absurd h (by simp)
 rename_i hsz
 obtain rfl := Option.some.inj h
 clear h
 go_enter Tryd.func36, Tryd.ntmps36
 go_wp2
 go_loopw [3] (fun _ w' => ∃ (pos b : Nat), w'.heap[w.heap.size]? = some (.stringIter a0 pos) ∧ Below w.heap.size w w' ∧ wordV a0 b pos = wordV a0 a0.size 0 ∧ a0.size ≤ pos + b) (fun _ w' => a0.size - w'.iterPos w.heap.size)
 case atStart => exact ⟨0, a0.size, blk_new w (.stringIter a0 0), ba_ (Below.refl w.heap.size w) _, rfl, by omega⟩
 case round =>
  obtain ⟨pos, b, hk, hbel, hc, hb⟩ := hrel
  by_cases hp : pos < a0.size
  ·have hnx : ∀ ty, (Instr.next (.pointer (some ⟨w.heap.size, 0, none⟩)) true ty).run Tryd.prog wr = _ := fun ty => Lib.run_next_any_at wr w.heap.size a0 pos ty hk hp
   have hwd := dec_pos a0 pos hp
   have hk2 := Lib.iterAt_heap wr w.heap.size a0 pos (pos + (Utf8.decode a0 pos).2) hk
   have hb2 := Lib.below_iterAt hbel (Nat.le_refl _) a0 (pos + (Utf8.decode a0 pos).2)
   have HD := sd_ (fun W hE => utf8_DecodeRuneInString.calls (a0.extract pos a0.size) _ _ W hE (by unfold utf8_DecodeRuneInString.f; rw [decodeGo_ex a0 pos hp]))
   have HL := sd_ (fun W => token_letter.calls 4 _ _ _ W (letB_ok (Utf8.decode a0 pos).1 (Utf8.decode a0 pos).2))
   cases b with
   | zero => omega
   | succ b =>
   have HC := sd_ hc
   simp only [wordV, hp, if_true] at hc
   have hpi := iterPos_at hk
   cases hl : letB (Utf8.decode a0 pos).1 (Utf8.decode a0 pos).2 with
   | true =>
    rw [hl] at HL
    rw [hl, if_pos rfl] at hc
    have HC := sd_ hc
    clear hc hl
    generalize (Utf8.decode a0 pos).1 = rn at *
    generalize (Utf8.decode a0 pos).2 = dn at *
    go_wp2_with (first | (go_at_call 44; refine (HD.out _ (sd_ (LaidE.below hE.out hb2))).mono ?_; rintro e w1 ⟨rfl, hd⟩; have hk3 := blk_below hk2 hd; have hb3 := bt_ hb2 hd) | (go_at_call 45; refine (HL.out _).mono ?_; rintro e w2 ⟨rfl, hd2⟩; obtain ⟨n1, rfl⟩ := hd2.out; clear hd2))
    refine ⟨⟨pos + dn, b, kn_ hk3 n1, pd_ hb3 _, HC.out, by omega⟩, ?_⟩
    rw [iterPos_at (kn_ hk3 n1), hpi]
    omega
   | false =>
    rw [hl] at HL
    rw [hl, if_neg (by simp)] at hc
    have HC := sd_ hc
    clear hc hl
    generalize (Utf8.decode a0 pos).1 = rn at *
    generalize (Utf8.decode a0 pos).2 = dn at *
    go_wp2_with (first | (go_at_call 44; refine (HD.out _ (sd_ (LaidE.below hE.out hb2))).mono ?_; rintro e w1 ⟨rfl, hd⟩; have hk3 := blk_below hk2 hd; have hb3 := bt_ hb2 hd) | (go_at_call 45; refine (HL.out _).mono ?_; rintro e w2 ⟨rfl, hd2⟩; obtain ⟨n1, rfl⟩ := hd2.out; clear hd2))
    go_ret
    rw [← HC.out]
    exact ⟨rfl, pd_ hb3 _⟩
  ·have hnx : ∀ ty, (Instr.next (.pointer (some ⟨w.heap.size, 0, none⟩)) true ty).run Tryd.prog wr = _ := fun ty => Lib.run_next_end_at wr w.heap.size a0 pos ty hk hp
   go_wp2
   go_ret
   rw [wordV_end a0 b pos hp] at hc
   rw [← hc]
   exact ⟨rfl, hbel⟩

end Go.Proofs.YtmffjjncnbeldaaDoor.P
