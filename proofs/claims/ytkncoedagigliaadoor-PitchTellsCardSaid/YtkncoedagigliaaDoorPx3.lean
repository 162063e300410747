-- Written by a program of this session (wip/tools/xprint.py, over the kit's print): Lean checks it.
import Derived.Test.YtkncoedagigliaaDoorPx0
import Derived.Test.YtkncoedagigliaaDoorPx2
namespace Go.Proofs.YtkncoedagigliaaDoor.P
open Go.RowKit Go.Proofs.YtkncoedagigliaaDoorW.PrintWords Go.Proofs.YtkncoedagigliaaDoorW.PrintLast Go.Proofs.YtkncoedagigliaaDoorW.PrintMore
attribute [local go_sem] max2_int min2_int max_two min_two max_three min_three max_four min_four   -- for this text's walks alone
set_option linter.unusedVariables false
set_option linter.unusedSimpArgs false

/-! ### pitch_Parse: function 12 -/
def pitch_Parse.f (a0 : ByteArray) : Option (Int × Int × Int × Bool) := (strings_TrimRight.f a0 (⟨#[39, 44]⟩ : ByteArray)).bind fun t131 => (if 0 ≤ (t131.size : Int) then (if (t131.size : Int) ≤ (a0.size : Int) then ((strings_Count.f (a0.extract ((t131.size : Int) : Int).toNat a0.size) (⟨#[39]⟩ : ByteArray)).bind fun t132 => ((strings_Count.f (a0.extract ((t131.size : Int) : Int).toNat a0.size) (⟨#[44]⟩ : ByteArray)).bind fun t133 => (if t131.toList = ([] : List UInt8) then (if a0.toList = ([] : List UInt8) then (some (0, 0, 0, false)) else ((pitch_Name.f 0 0 (wrap64 ((wrap64 (3 + t132)) - t133))).bind fun t135 => (if t135.toList = a0.toList then (some (0, 0, wrap64 ((wrap64 (3 + t132)) - t133), true)) else (some (0, 0, 0, false))))) else (if 0 < (t131.size : Int) then ((strings_IndexByte.f (⟨#[99, 100, 101, 102, 103, 97, 98]⟩ : ByteArray) (bt t131 0)).bind fun t136 => (if 1 ≤ (t131.size : Int) then ((strings_Count.f (t131.extract 1 t131.size) (⟨#[105, 115]⟩ : ByteArray)).bind fun t137 => ((strings_Count.f (t131.extract 1 t131.size) (⟨#[101, 115]⟩ : ByteArray)).bind fun t138 => (if a0.toList = ([] : List UInt8) then (some (0, 0, 0, false)) else ((pitch_Name.f t136 (wrap64 (t137 - t138)) (wrap64 ((wrap64 (3 + t132)) - t133))).bind fun t139 => (if t139.toList = a0.toList then (some (t136, wrap64 (t137 - t138), wrap64 ((wrap64 (3 + t132)) - t133), true)) else (some (0, 0, 0, false))))))) else (none))) else (none))))) else (none)) else (none))
def pitch_Parse.T6 : Bool × List (List Nat × List Nat) := (true, [([], []), ([0], [0]), ([1], [1]), ([], []), ([3], [3]), ([4, 2], [4]), ([2, 5], [2, 5]), ([0, 1, 2, 3, 4, 5, 6], []), ([7, 6, 5, 0, 1, 2, 3, 4, 5, 6], [6, 7])])
def pitch_Parse.B6 : List Nat := [0, 1, 3, 0, 8, 31, 63, 127, 255]
theorem pitch_Parse.tab6 : rtab .any (opsOf Tryd.f12 6) = pitch_Parse.T6 := by kernel_rfl
theorem pitch_Parse.bits6 : waitsOk pitch_Parse.T6.2 pitch_Parse.B6 = true := by kernel_rfl
set_option maxHeartbeats 8000000 in
set_option maxRecDepth 100000 in
theorem pitch_Parse.calls (a0 : ByteArray) (r1 : Int) (r2 : Int) (r3 : Int) (r4 : Bool) (w : World) (hE : Aside0 (LaidE w)) (h : pitch_Parse.f a0 = some (r1, r2, r3, r4)) :
  Calls Tryd.prog 12 #[.string a0] w fun e w' => e = .returned (.tuple #[.agg #[.int .i64 r1, .int .i64 r2, .int .i64 r3], .bool r4]) ∧ Below w.heap.size w w' := by
 have hu23 := Tryd.underlying23
 have HB := sd_ (Below.refl w.heap.size w)
 have H : ((strings_TrimRight.f a0 (⟨#[39, 44]⟩ : ByteArray)).bind fun t131 => (if 0 ≤ (t131.size : Int) then (if (t131.size : Int) ≤ (a0.size : Int) then ((strings_Count.f (a0.extract ((t131.size : Int) : Int).toNat a0.size) (⟨#[39]⟩ : ByteArray)).bind fun t132 => ((strings_Count.f (a0.extract ((t131.size : Int) : Int).toNat a0.size) (⟨#[44]⟩ : ByteArray)).bind fun t133 => (if t131.toList = ([] : List UInt8) then (if a0.toList = ([] : List UInt8) then (some (0, 0, 0, false)) else ((pitch_Name.f 0 0 (wrap64 ((wrap64 (3 + t132)) - t133))).bind fun t135 => (if t135.toList = a0.toList then (some (0, 0, wrap64 ((wrap64 (3 + t132)) - t133), true)) else (some (0, 0, 0, false))))) else (if 0 < (t131.size : Int) then ((strings_IndexByte.f (⟨#[99, 100, 101, 102, 103, 97, 98]⟩ : ByteArray) (bt t131 0)).bind fun t136 => (if 1 ≤ (t131.size : Int) then ((strings_Count.f (t131.extract 1 t131.size) (⟨#[105, 115]⟩ : ByteArray)).bind fun t137 => ((strings_Count.f (t131.extract 1 t131.size) (⟨#[101, 115]⟩ : ByteArray)).bind fun t138 => (if a0.toList = ([] : List UInt8) then (some (0, 0, 0, false)) else ((pitch_Name.f t136 (wrap64 (t137 - t138)) (wrap64 ((wrap64 (3 + t132)) - t133))).bind fun t139 => (if t139.toList = a0.toList then (some (t136, wrap64 (t137 - t138), wrap64 ((wrap64 (3 + t132)) - t133), true)) else (some (0, 0, 0, false))))))) else (none))) else (none))))) else (none)) else (none))) = some (r1, r2, r3, r4) := h
 clear h
 replace H := ob_ H
 obtain ⟨t131, A20, H⟩ := H
 replace H : (if 0 ≤ (t131.size : Int) then (if (t131.size : Int) ≤ (a0.size : Int) then ((strings_Count.f (a0.extract ((t131.size : Int) : Int).toNat a0.size) (⟨#[39]⟩ : ByteArray)).bind fun t132 => ((strings_Count.f (a0.extract ((t131.size : Int) : Int).toNat a0.size) (⟨#[44]⟩ : ByteArray)).bind fun t133 => (if t131.toList = ([] : List UInt8) then (if a0.toList = ([] : List UInt8) then (some (0, 0, 0, false)) else ((pitch_Name.f 0 0 (wrap64 ((wrap64 (3 + t132)) - t133))).bind fun t135 => (if t135.toList = a0.toList then (some (0, 0, wrap64 ((wrap64 (3 + t132)) - t133), true)) else (some (0, 0, 0, false))))) else (if 0 < (t131.size : Int) then ((strings_IndexByte.f (⟨#[99, 100, 101, 102, 103, 97, 98]⟩ : ByteArray) (bt t131 0)).bind fun t136 => (if 1 ≤ (t131.size : Int) then ((strings_Count.f (t131.extract 1 t131.size) (⟨#[105, 115]⟩ : ByteArray)).bind fun t137 => ((strings_Count.f (t131.extract 1 t131.size) (⟨#[101, 115]⟩ : ByteArray)).bind fun t138 => (if a0.toList = ([] : List UInt8) then (some (0, 0, 0, false)) else ((pitch_Name.f t136 (wrap64 (t137 - t138)) (wrap64 ((wrap64 (3 + t132)) - t133))).bind fun t139 => (if t139.toList = a0.toList then (some (t136, wrap64 (t137 - t138), wrap64 ((wrap64 (3 + t132)) - t133), true)) else (some (0, 0, 0, false))))))) else (none))) else (none))))) else (none)) else (none)) = some (r1, r2, r3, r4) := H
 have A2 := sd_ A20
 clear A20
 by_cases c3 : 0 ≤ (t131.size : Int)
 ·rw [if_pos c3] at H
  have c3b0 := eq_true c3
  have c3b1 : decide (0 ≤ (t131.size : Int)) = true := dt_ c3
  clear c3
  by_cases c4 : (t131.size : Int) ≤ (a0.size : Int)
  ·rw [if_pos c4] at H
   have c4b0 := eq_true c4
   have c4b1 : decide ((t131.size : Int) ≤ (a0.size : Int)) = true := dt_ c4
   clear c4
   replace H := ob_ H
   obtain ⟨t132, A50, H⟩ := H
   replace H : ((strings_Count.f (a0.extract ((t131.size : Int) : Int).toNat a0.size) (⟨#[44]⟩ : ByteArray)).bind fun t133 => (if t131.toList = ([] : List UInt8) then (if a0.toList = ([] : List UInt8) then (some (0, 0, 0, false)) else ((pitch_Name.f 0 0 (wrap64 ((wrap64 (3 + t132)) - t133))).bind fun t135 => (if t135.toList = a0.toList then (some (0, 0, wrap64 ((wrap64 (3 + t132)) - t133), true)) else (some (0, 0, 0, false))))) else (if 0 < (t131.size : Int) then ((strings_IndexByte.f (⟨#[99, 100, 101, 102, 103, 97, 98]⟩ : ByteArray) (bt t131 0)).bind fun t136 => (if 1 ≤ (t131.size : Int) then ((strings_Count.f (t131.extract 1 t131.size) (⟨#[105, 115]⟩ : ByteArray)).bind fun t137 => ((strings_Count.f (t131.extract 1 t131.size) (⟨#[101, 115]⟩ : ByteArray)).bind fun t138 => (if a0.toList = ([] : List UInt8) then (some (0, 0, 0, false)) else ((pitch_Name.f t136 (wrap64 (t137 - t138)) (wrap64 ((wrap64 (3 + t132)) - t133))).bind fun t139 => (if t139.toList = a0.toList then (some (t136, wrap64 (t137 - t138), wrap64 ((wrap64 (3 + t132)) - t133), true)) else (some (0, 0, 0, false))))))) else (none))) else (none)))) = some (r1, r2, r3, r4) := H
   have A5 := sd_ A50
   clear A50
   replace H := ob_ H
   obtain ⟨t133, A60, H⟩ := H
   replace H : (if t131.toList = ([] : List UInt8) then (if a0.toList = ([] : List UInt8) then (some (0, 0, 0, false)) else ((pitch_Name.f 0 0 (wrap64 ((wrap64 (3 + t132)) - t133))).bind fun t135 => (if t135.toList = a0.toList then (some (0, 0, wrap64 ((wrap64 (3 + t132)) - t133), true)) else (some (0, 0, 0, false))))) else (if 0 < (t131.size : Int) then ((strings_IndexByte.f (⟨#[99, 100, 101, 102, 103, 97, 98]⟩ : ByteArray) (bt t131 0)).bind fun t136 => (if 1 ≤ (t131.size : Int) then ((strings_Count.f (t131.extract 1 t131.size) (⟨#[105, 115]⟩ : ByteArray)).bind fun t137 => ((strings_Count.f (t131.extract 1 t131.size) (⟨#[101, 115]⟩ : ByteArray)).bind fun t138 => (if a0.toList = ([] : List UInt8) then (some (0, 0, 0, false)) else ((pitch_Name.f t136 (wrap64 (t137 - t138)) (wrap64 ((wrap64 (3 + t132)) - t133))).bind fun t139 => (if t139.toList = a0.toList then (some (t136, wrap64 (t137 - t138), wrap64 ((wrap64 (3 + t132)) - t133), true)) else (some (0, 0, 0, false))))))) else (none))) else (none))) = some (r1, r2, r3, r4) := H
   have A6 := sd_ A60
   clear A60
   by_cases c7 : t131.toList = ([] : List UInt8)
   ·rw [if_pos c7] at H
    have c7b0 : (t131.toList == ([] : List UInt8)) = true := beq_iff_eq.mpr c7
    have c7b1 : (t131.toList != ([] : List UInt8)) = false := bne_eq_false_iff_eq.mpr c7
    clear c7
    by_cases c8 : a0.toList = ([] : List UInt8)
    ·rw [if_pos c8] at H
     have c8b0 : (a0.toList == ([] : List UInt8)) = true := beq_iff_eq.mpr c8
     have c8b1 : (a0.toList != ([] : List UInt8)) = false := bne_eq_false_iff_eq.mpr c8
     clear c8
     simp only [Option.some.injEq, Prod.mk.injEq] at H
     obtain ⟨rfl, rfl, rfl, rfl⟩ := H
     go_enter Tryd.func12, Tryd.ntmps12
     go_wp2_with (first | ((with_reducible refine gate_dst (N := 2) rfl ?_); refine box_event ?hg (N := 2) ?hd (cs := #[.int .i64 0, .int .i64 0, .int .i64 0]) (t := 23) ?hr ?_; (case hd => rfl); (case hg => rfl); (case hr => first | (go_simp; done) | (go_simp; rfl)); intro gb130 hg w9 hbox hb; have BK130 := sd_ hbox; have GW130 := gw_ HB e0_ hg; have GE130 := GW130; replace HB := hb_ HB e0_ hb; clear hb hbox hg) | ((with_reducible refine gate_callee (f := 31) rfl ?_); refine goesL_ (some 8) rfl rfl Tryd.func31 (by kernel_rfl) rfl #[.string a0, .string (⟨#[39, 44]⟩ : ByteArray)] rfl (by (try simp only [lm_, lq_, lx_]); first | done | rfl | (simp only [ld_, lt_]; rfl) | ((conv => rhs; simp); rfl)) ?_; (with_reducible refine (strings_TrimRight.calls a0 (⟨#[39, 44]⟩ : ByteArray) t131 _ A2.out).mono ?_); rintro e w10 ⟨rfl, hb⟩; refine ⟨_, rfl, ?_⟩; replace BK130 := kb_ BK130 hb; replace HB := hb_ HB (e_ GE130 e0_) hb; (try clear hb); (try clear hb2); (try clear hk); (try clear hi)) | ((with_reducible refine gate_callee (f := 32) rfl ?_); refine goesL_ (some 14) rfl rfl Tryd.func32 (by kernel_rfl) rfl #[.string (a0.extract ((t131.size : Int) : Int).toNat a0.size), .string (⟨#[39]⟩ : ByteArray)] rfl (by (try simp only [lm_, lq_, lx_]); first | done | rfl | (simp only [ld_, lt_]; rfl) | ((conv => rhs; simp); rfl)) ?_; (with_reducible refine (strings_Count.calls (a0.extract ((t131.size : Int) : Int).toNat a0.size) (⟨#[39]⟩ : ByteArray) t132 _ ?side1 A5.out).mono ?_); (case side1 => first | (with_reducible exact hE) | exact sd_ (LaidE.below hE.out (bb_ HB.out (e_ GE130 e0_)))); rintro e w' ⟨rfl, ⟨nd, rfl⟩⟩; refine ⟨_, rfl, ?_⟩; (repeat (rw [drewN_self w10]; generalize hq_ : World.drewN w10 _ = w10; have n0_ : Aside0 (w10.heap[gb130]? = some (.cells #[.int .i64 0, .int .i64 0, .int .i64 0] 23 (0, 0))) := ⟨by rw [← hq_]; exact (kk_ BK130.out)⟩; have n1_ : Aside0 (Below w.heap.size w w10) := ⟨by rw [← hq_]; exact (bb_ HB.out (e_ GE130 e0_))⟩; clear BK130 HB hq_; have BK130 := n0_; have HB := n1_; clear n0_ n1_))) | ((with_reducible refine gate_callee (f := 32) rfl ?_); refine goesL_ (some 17) rfl rfl Tryd.func32 (by kernel_rfl) rfl #[.string (a0.extract ((t131.size : Int) : Int).toNat a0.size), .string (⟨#[44]⟩ : ByteArray)] rfl (by (try simp only [lm_, lq_, lx_]); first | done | rfl | (simp only [ld_, lt_]; rfl) | ((conv => rhs; simp); rfl)) ?_; (with_reducible refine (strings_Count.calls (a0.extract ((t131.size : Int) : Int).toNat a0.size) (⟨#[44]⟩ : ByteArray) t133 _ ?side1 A6.out).mono ?_); (case side1 => first | (with_reducible exact hE) | exact sd_ (LaidE.below hE.out (bb_ HB.out (e_ GE130 e0_)))); rintro e w' ⟨rfl, ⟨nd, rfl⟩⟩; refine ⟨_, rfl, ?_⟩; (repeat (rw [drewN_self w10]; generalize hq_ : World.drewN w10 _ = w10; have n0_ : Aside0 (w10.heap[gb130]? = some (.cells #[.int .i64 0, .int .i64 0, .int .i64 0] 23 (0, 0))) := ⟨by rw [← hq_]; exact (kk_ BK130.out)⟩; have n1_ : Aside0 (Below w.heap.size w w10) := ⟨by rw [← hq_]; exact (bb_ HB.out (e_ GE130 e0_))⟩; clear BK130 HB hq_; have BK130 := n0_; have HB := n1_; clear n0_ n1_))) | ((with_reducible refine gate_dst (N := 6) rfl ?_); refine box_event ?hg (N := 6) ?hd (cs := #[.int .i64 0, .int .i64 0, .int .i64 0]) (t := 23) ?hr ?_; (case hd => rfl); (case hg => rfl); (case hr => first | (go_simp; done) | (go_simp; rfl)); intro gb134 hg w11 hbox hb; have BK134 := sd_ hbox; have GW134 := gw_ HB (e_ GE130 e0_) hg; have GE134 := GW134; have NB130_134 := nb_ BK130 hg; have NB134_130 := sy_ NB130_134; replace BK130 := kb_ BK130 hb; replace HB := hb_ HB (e_ GE130 e0_) hb; clear hb hbox hg; have hnb12 := NB134_130.out; have hnc12 := NB130_134.out; have hcz13_0 : w11.cell? ⟨gb134, 0, none⟩ = some (.int .i64 0) := (kc_ BK134.out 0).trans rfl; have hcz13_1 : w11.cell? ⟨gb134, 1, none⟩ = some (.int .i64 0) := (kc_ BK134.out 1).trans rfl; have hcz13_2 : w11.cell? ⟨gb134, 2, none⟩ = some (.int .i64 0) := (kc_ BK134.out 2).trans rfl; have hfz13_0 := kf_ BK134.out 0; have hfz13_1 := kf_ BK134.out 1; have hfz13_2 := kf_ BK134.out 2; have hcz14_0 : w11.cell? ⟨gb130, 0, none⟩ = some (.int .i64 0) := (kc_ BK130.out 0).trans rfl; have hcz14_1 : w11.cell? ⟨gb130, 1, none⟩ = some (.int .i64 0) := (kc_ BK130.out 1).trans rfl; have hcz14_2 : w11.cell? ⟨gb130, 2, none⟩ = some (.int .i64 0) := (kc_ BK130.out 2).trans rfl; have hfz14_0 := kf_ BK130.out 0; have hfz14_1 := kf_ BK130.out 1; have hfz14_2 := kf_ BK130.out 2))
     refine bodyPost_ret (results_ct rfl _ _ gb130 23 #[.int .i64 0, .int .i64 0, .int .i64 0] (0, 0) _ rfl (by (with_reducible repeat first | apply kn_ | apply kd_ | apply ka_); refine blk_put (cs := #[.int .i64 0, .int .i64 0, .int .i64 0]) ?_ 2 _ rfl; (with_reducible repeat first | apply kn_ | apply kd_ | apply ka_); refine blk_put (cs := #[.int .i64 0, .int .i64 0, .int .i64 0]) ?_ 1 _ rfl; (with_reducible repeat first | apply kn_ | apply kd_ | apply ka_); refine blk_put (cs := #[.int .i64 0, .int .i64 0, .int .i64 0]) ?_ 0 _ rfl; (with_reducible repeat first | apply kn_ | apply kd_ | apply ka_); refine blk_far ?_ NB130_134.out _; (with_reducible repeat first | apply kn_ | apply kd_ | apply ka_); refine blk_far ?_ NB130_134.out _; (with_reducible repeat first | apply kn_ | apply kd_ | apply ka_); refine blk_far ?_ NB130_134.out _; (with_reducible repeat first | apply kn_ | apply kd_ | apply ka_); exact BK130.out) Tryd.underlying23 rfl (by kernel_rfl)) rfl ?_
     exact ⟨by first | rfl | (simp [errW_none, errW_some] <;> rfl) | (simp [*, errW_none, errW_some] <;> rfl), by repeat (first | (with_reducible first | exact HB.out | apply ba_ | apply pd_ | apply d1_ | refine bs_ ?_ GE130.out | refine bs_ ?_ GE134.out) | exact HB.out)⟩
    ·rw [if_neg c8] at H
     have c8b0 : (a0.toList == ([] : List UInt8)) = false := beq_eq_false_iff_ne.mpr c8
     have c8b1 : (a0.toList != ([] : List UInt8)) = true := bne_iff_ne.mpr c8
     replace H := ob_ H
     obtain ⟨t135, A150, H⟩ := H
     replace H : (if t135.toList = a0.toList then (some (0, 0, wrap64 ((wrap64 (3 + t132)) - t133), true)) else (some (0, 0, 0, false))) = some (r1, r2, r3, r4) := H
     have A15 := sd_ A150
     clear A150
     by_cases c16 : t135.toList = a0.toList
     ·rw [if_pos c16] at H
      have c16b0 : (t135.toList == a0.toList) = true := beq_iff_eq.mpr c16
      have c16b1 : (t135.toList != a0.toList) = false := bne_eq_false_iff_eq.mpr c16
      clear c16
      simp only [Option.some.injEq, Prod.mk.injEq] at H
      obtain ⟨rfl, rfl, rfl, rfl⟩ := H
      go_enter Tryd.func12, Tryd.ntmps12
      go_wp2_with (first | ((with_reducible refine gate_dst (N := 2) rfl ?_); refine box_event ?hg (N := 2) ?hd (cs := #[.int .i64 0, .int .i64 0, .int .i64 0]) (t := 23) ?hr ?_; (case hd => rfl); (case hg => rfl); (case hr => first | (go_simp; done) | (go_simp; rfl)); intro gb130 hg w17 hbox hb; have BK130 := sd_ hbox; have GW130 := gw_ HB e0_ hg; have GE130 := GW130; replace HB := hb_ HB e0_ hb; clear hb hbox hg) | ((with_reducible refine gate_callee (f := 31) rfl ?_); refine goesL_ (some 8) rfl rfl Tryd.func31 (by kernel_rfl) rfl #[.string a0, .string (⟨#[39, 44]⟩ : ByteArray)] rfl (by (try simp only [lm_, lq_, lx_]); first | done | rfl | (simp only [ld_, lt_]; rfl) | ((conv => rhs; simp); rfl)) ?_; (with_reducible refine (strings_TrimRight.calls a0 (⟨#[39, 44]⟩ : ByteArray) t131 _ A2.out).mono ?_); rintro e w18 ⟨rfl, hb⟩; refine ⟨_, rfl, ?_⟩; replace BK130 := kb_ BK130 hb; replace HB := hb_ HB (e_ GE130 e0_) hb; (try clear hb); (try clear hb2); (try clear hk); (try clear hi)) | ((with_reducible refine gate_callee (f := 32) rfl ?_); refine goesL_ (some 14) rfl rfl Tryd.func32 (by kernel_rfl) rfl #[.string (a0.extract ((t131.size : Int) : Int).toNat a0.size), .string (⟨#[39]⟩ : ByteArray)] rfl (by (try simp only [lm_, lq_, lx_]); first | done | rfl | (simp only [ld_, lt_]; rfl) | ((conv => rhs; simp); rfl)) ?_; (with_reducible refine (strings_Count.calls (a0.extract ((t131.size : Int) : Int).toNat a0.size) (⟨#[39]⟩ : ByteArray) t132 _ ?side1 A5.out).mono ?_); (case side1 => first | (with_reducible exact hE) | exact sd_ (LaidE.below hE.out (bb_ HB.out (e_ GE130 e0_)))); rintro e w' ⟨rfl, ⟨nd, rfl⟩⟩; refine ⟨_, rfl, ?_⟩; (repeat (rw [drewN_self w18]; generalize hq_ : World.drewN w18 _ = w18; have n0_ : Aside0 (w18.heap[gb130]? = some (.cells #[.int .i64 0, .int .i64 0, .int .i64 0] 23 (0, 0))) := ⟨by rw [← hq_]; exact (kk_ BK130.out)⟩; have n1_ : Aside0 (Below w.heap.size w w18) := ⟨by rw [← hq_]; exact (bb_ HB.out (e_ GE130 e0_))⟩; clear BK130 HB hq_; have BK130 := n0_; have HB := n1_; clear n0_ n1_))) | ((with_reducible refine gate_callee (f := 32) rfl ?_); refine goesL_ (some 17) rfl rfl Tryd.func32 (by kernel_rfl) rfl #[.string (a0.extract ((t131.size : Int) : Int).toNat a0.size), .string (⟨#[44]⟩ : ByteArray)] rfl (by (try simp only [lm_, lq_, lx_]); first | done | rfl | (simp only [ld_, lt_]; rfl) | ((conv => rhs; simp); rfl)) ?_; (with_reducible refine (strings_Count.calls (a0.extract ((t131.size : Int) : Int).toNat a0.size) (⟨#[44]⟩ : ByteArray) t133 _ ?side1 A6.out).mono ?_); (case side1 => first | (with_reducible exact hE) | exact sd_ (LaidE.below hE.out (bb_ HB.out (e_ GE130 e0_)))); rintro e w' ⟨rfl, ⟨nd, rfl⟩⟩; refine ⟨_, rfl, ?_⟩; (repeat (rw [drewN_self w18]; generalize hq_ : World.drewN w18 _ = w18; have n0_ : Aside0 (w18.heap[gb130]? = some (.cells #[.int .i64 0, .int .i64 0, .int .i64 0] 23 (0, 0))) := ⟨by rw [← hq_]; exact (kk_ BK130.out)⟩; have n1_ : Aside0 (Below w.heap.size w w18) := ⟨by rw [← hq_]; exact (bb_ HB.out (e_ GE130 e0_))⟩; clear BK130 HB hq_; have BK130 := n0_; have HB := n1_; clear n0_ n1_))) | ((with_reducible refine gate_dst (N := 6) rfl ?_); refine box_event ?hg (N := 6) ?hd (cs := #[.int .i64 0, .int .i64 0, .int .i64 0]) (t := 23) ?hr ?_; (case hd => rfl); (case hg => rfl); (case hr => first | (go_simp; done) | (go_simp; rfl)); intro gb134 hg w19 hbox hb; have BK134 := sd_ hbox; have GW134 := gw_ HB (e_ GE130 e0_) hg; have GE134 := GW134; have NB130_134 := nb_ BK130 hg; have NB134_130 := sy_ NB130_134; replace BK130 := kb_ BK130 hb; replace HB := hb_ HB (e_ GE130 e0_) hb; clear hb hbox hg; have hnb20 := NB134_130.out; have hnc20 := NB130_134.out; have hcz21_0 : w19.cell? ⟨gb134, 0, none⟩ = some (.int .i64 0) := (kc_ BK134.out 0).trans rfl; have hcz21_1 : w19.cell? ⟨gb134, 1, none⟩ = some (.int .i64 0) := (kc_ BK134.out 1).trans rfl; have hcz21_2 : w19.cell? ⟨gb134, 2, none⟩ = some (.int .i64 0) := (kc_ BK134.out 2).trans rfl; have hfz21_0 := kf_ BK134.out 0; have hfz21_1 := kf_ BK134.out 1; have hfz21_2 := kf_ BK134.out 2) | (go_at_call 20; (with_reducible refine (pitch_Name.calls 0 0 (wrap64 ((wrap64 (3 + t132)) - t133)) t135 _ A15.out).mono ?_); rintro e w22 ⟨rfl, hb⟩; replace BK130 := sd_ (blk_below (g := gb130) (o := .cells #[.int .i64 0, .int .i64 0, .int .i64 0] 23 (0, 0)) (by (with_reducible repeat first | apply kn_ | apply kd_ | apply ka_); refine blk_far ?_ NB130_134.out _; (with_reducible repeat first | apply kn_ | apply kd_ | apply ka_); refine blk_far ?_ NB130_134.out _; (with_reducible repeat first | apply kn_ | apply kd_ | apply ka_); refine blk_far ?_ NB130_134.out _; (with_reducible repeat first | apply kn_ | apply kd_ | apply ka_); exact BK130.out) hb); replace BK134 := sd_ (blk_below (g := gb134) (o := .cells #[.int .i64 0, .int .i64 0, .int .i64 (wrap64 ((wrap64 (3 + t132)) - t133))] 23 (0, 0)) (by (with_reducible repeat first | apply kn_ | apply kd_ | apply ka_); refine blk_put (cs := #[.int .i64 0, .int .i64 0, .int .i64 0]) ?_ 2 _ rfl; (with_reducible repeat first | apply kn_ | apply kd_ | apply ka_); refine blk_put (cs := #[.int .i64 0, .int .i64 0, .int .i64 0]) ?_ 1 _ rfl; (with_reducible repeat first | apply kn_ | apply kd_ | apply ka_); refine blk_put (cs := #[.int .i64 0, .int .i64 0, .int .i64 0]) ?_ 0 _ rfl; (with_reducible repeat first | apply kn_ | apply kd_ | apply ka_); exact BK134.out) hb); replace HB := hb_ HB (e_ GE130 (e_ GE134 e0_)) hb; (try clear hb); (try clear hb2); (try clear hk); (try clear hi); have hcz23_0 : w22.cell? ⟨gb134, 0, none⟩ = some (.int .i64 0) := (kc_ BK134.out 0).trans rfl; have hcz23_1 : w22.cell? ⟨gb134, 1, none⟩ = some (.int .i64 0) := (kc_ BK134.out 1).trans rfl; have hcz23_2 : w22.cell? ⟨gb134, 2, none⟩ = some (.int .i64 (wrap64 ((wrap64 (3 + t132)) - t133))) := (kc_ BK134.out 2).trans rfl; have hfz23_0 := kf_ BK134.out 0; have hfz23_1 := kf_ BK134.out 1; have hfz23_2 := kf_ BK134.out 2; have hcz24_0 : w22.cell? ⟨gb130, 0, none⟩ = some (.int .i64 0) := (kc_ BK130.out 0).trans rfl; have hcz24_1 : w22.cell? ⟨gb130, 1, none⟩ = some (.int .i64 0) := (kc_ BK130.out 1).trans rfl; have hcz24_2 : w22.cell? ⟨gb130, 2, none⟩ = some (.int .i64 0) := (kc_ BK130.out 2).trans rfl; have hfz24_0 := kf_ BK130.out 0; have hfz24_1 := kf_ BK130.out 1; have hfz24_2 := kf_ BK130.out 2))
      refine bodyPost_ret (results_ct rfl _ _ gb130 23 #[.int .i64 0, .int .i64 0, .int .i64 (wrap64 ((wrap64 (3 + t132)) - t133))] (0, 0) _ rfl (by (with_reducible repeat first | apply kn_ | apply kd_ | apply ka_); refine blk_put (cs := #[.int .i64 0, .int .i64 0, .int .i64 0]) ?_ 2 _ rfl; (with_reducible repeat first | apply kn_ | apply kd_ | apply ka_); refine blk_put (cs := #[.int .i64 0, .int .i64 0, .int .i64 0]) ?_ 1 _ rfl; (with_reducible repeat first | apply kn_ | apply kd_ | apply ka_); refine blk_put (cs := #[.int .i64 0, .int .i64 0, .int .i64 0]) ?_ 0 _ rfl; (with_reducible repeat first | apply kn_ | apply kd_ | apply ka_); exact BK130.out) Tryd.underlying23 rfl (by kernel_rfl)) rfl ?_
      exact ⟨by first | rfl | (simp [errW_none, errW_some] <;> rfl) | (simp [*, errW_none, errW_some] <;> rfl), by repeat (first | (with_reducible first | exact HB.out | apply ba_ | apply pd_ | apply d1_ | refine bs_ ?_ GE130.out | refine bs_ ?_ GE134.out) | exact HB.out)⟩
     ·rw [if_neg c16] at H
      have c16b0 : (t135.toList == a0.toList) = false := beq_eq_false_iff_ne.mpr c16
      have c16b1 : (t135.toList != a0.toList) = true := bne_iff_ne.mpr c16
      simp only [Option.some.injEq, Prod.mk.injEq] at H
      obtain ⟨rfl, rfl, rfl, rfl⟩ := H
      go_enter Tryd.func12, Tryd.ntmps12
      go_wp2_with (first | ((with_reducible refine gate_dst (N := 2) rfl ?_); refine box_event ?hg (N := 2) ?hd (cs := #[.int .i64 0, .int .i64 0, .int .i64 0]) (t := 23) ?hr ?_; (case hd => rfl); (case hg => rfl); (case hr => first | (go_simp; done) | (go_simp; rfl)); intro gb130 hg w25 hbox hb; have BK130 := sd_ hbox; have GW130 := gw_ HB e0_ hg; have GE130 := GW130; replace HB := hb_ HB e0_ hb; clear hb hbox hg) | ((with_reducible refine gate_callee (f := 31) rfl ?_); refine goesL_ (some 8) rfl rfl Tryd.func31 (by kernel_rfl) rfl #[.string a0, .string (⟨#[39, 44]⟩ : ByteArray)] rfl (by (try simp only [lm_, lq_, lx_]); first | done | rfl | (simp only [ld_, lt_]; rfl) | ((conv => rhs; simp); rfl)) ?_; (with_reducible refine (strings_TrimRight.calls a0 (⟨#[39, 44]⟩ : ByteArray) t131 _ A2.out).mono ?_); rintro e w26 ⟨rfl, hb⟩; refine ⟨_, rfl, ?_⟩; replace BK130 := kb_ BK130 hb; replace HB := hb_ HB (e_ GE130 e0_) hb; (try clear hb); (try clear hb2); (try clear hk); (try clear hi)) | ((with_reducible refine gate_callee (f := 32) rfl ?_); refine goesL_ (some 14) rfl rfl Tryd.func32 (by kernel_rfl) rfl #[.string (a0.extract ((t131.size : Int) : Int).toNat a0.size), .string (⟨#[39]⟩ : ByteArray)] rfl (by (try simp only [lm_, lq_, lx_]); first | done | rfl | (simp only [ld_, lt_]; rfl) | ((conv => rhs; simp); rfl)) ?_; (with_reducible refine (strings_Count.calls (a0.extract ((t131.size : Int) : Int).toNat a0.size) (⟨#[39]⟩ : ByteArray) t132 _ ?side1 A5.out).mono ?_); (case side1 => first | (with_reducible exact hE) | exact sd_ (LaidE.below hE.out (bb_ HB.out (e_ GE130 e0_)))); rintro e w' ⟨rfl, ⟨nd, rfl⟩⟩; refine ⟨_, rfl, ?_⟩; (repeat (rw [drewN_self w26]; generalize hq_ : World.drewN w26 _ = w26; have n0_ : Aside0 (w26.heap[gb130]? = some (.cells #[.int .i64 0, .int .i64 0, .int .i64 0] 23 (0, 0))) := ⟨by rw [← hq_]; exact (kk_ BK130.out)⟩; have n1_ : Aside0 (Below w.heap.size w w26) := ⟨by rw [← hq_]; exact (bb_ HB.out (e_ GE130 e0_))⟩; clear BK130 HB hq_; have BK130 := n0_; have HB := n1_; clear n0_ n1_))) | ((with_reducible refine gate_callee (f := 32) rfl ?_); refine goesL_ (some 17) rfl rfl Tryd.func32 (by kernel_rfl) rfl #[.string (a0.extract ((t131.size : Int) : Int).toNat a0.size), .string (⟨#[44]⟩ : ByteArray)] rfl (by (try simp only [lm_, lq_, lx_]); first | done | rfl | (simp only [ld_, lt_]; rfl) | ((conv => rhs; simp); rfl)) ?_; (with_reducible refine (strings_Count.calls (a0.extract ((t131.size : Int) : Int).toNat a0.size) (⟨#[44]⟩ : ByteArray) t133 _ ?side1 A6.out).mono ?_); (case side1 => first | (with_reducible exact hE) | exact sd_ (LaidE.below hE.out (bb_ HB.out (e_ GE130 e0_)))); rintro e w' ⟨rfl, ⟨nd, rfl⟩⟩; refine ⟨_, rfl, ?_⟩; (repeat (rw [drewN_self w26]; generalize hq_ : World.drewN w26 _ = w26; have n0_ : Aside0 (w26.heap[gb130]? = some (.cells #[.int .i64 0, .int .i64 0, .int .i64 0] 23 (0, 0))) := ⟨by rw [← hq_]; exact (kk_ BK130.out)⟩; have n1_ : Aside0 (Below w.heap.size w w26) := ⟨by rw [← hq_]; exact (bb_ HB.out (e_ GE130 e0_))⟩; clear BK130 HB hq_; have BK130 := n0_; have HB := n1_; clear n0_ n1_))) | ((with_reducible refine gate_dst (N := 6) rfl ?_); refine box_event ?hg (N := 6) ?hd (cs := #[.int .i64 0, .int .i64 0, .int .i64 0]) (t := 23) ?hr ?_; (case hd => rfl); (case hg => rfl); (case hr => first | (go_simp; done) | (go_simp; rfl)); intro gb134 hg w27 hbox hb; have BK134 := sd_ hbox; have GW134 := gw_ HB (e_ GE130 e0_) hg; have GE134 := GW134; have NB130_134 := nb_ BK130 hg; have NB134_130 := sy_ NB130_134; replace BK130 := kb_ BK130 hb; replace HB := hb_ HB (e_ GE130 e0_) hb; clear hb hbox hg; have hnb28 := NB134_130.out; have hnc28 := NB130_134.out; have hcz29_0 : w27.cell? ⟨gb134, 0, none⟩ = some (.int .i64 0) := (kc_ BK134.out 0).trans rfl; have hcz29_1 : w27.cell? ⟨gb134, 1, none⟩ = some (.int .i64 0) := (kc_ BK134.out 1).trans rfl; have hcz29_2 : w27.cell? ⟨gb134, 2, none⟩ = some (.int .i64 0) := (kc_ BK134.out 2).trans rfl; have hfz29_0 := kf_ BK134.out 0; have hfz29_1 := kf_ BK134.out 1; have hfz29_2 := kf_ BK134.out 2) | (go_at_call 20; (with_reducible refine (pitch_Name.calls 0 0 (wrap64 ((wrap64 (3 + t132)) - t133)) t135 _ A15.out).mono ?_); rintro e w30 ⟨rfl, hb⟩; replace BK130 := sd_ (blk_below (g := gb130) (o := .cells #[.int .i64 0, .int .i64 0, .int .i64 0] 23 (0, 0)) (by (with_reducible repeat first | apply kn_ | apply kd_ | apply ka_); refine blk_far ?_ NB130_134.out _; (with_reducible repeat first | apply kn_ | apply kd_ | apply ka_); refine blk_far ?_ NB130_134.out _; (with_reducible repeat first | apply kn_ | apply kd_ | apply ka_); refine blk_far ?_ NB130_134.out _; (with_reducible repeat first | apply kn_ | apply kd_ | apply ka_); exact BK130.out) hb); replace BK134 := sd_ (blk_below (g := gb134) (o := .cells #[.int .i64 0, .int .i64 0, .int .i64 (wrap64 ((wrap64 (3 + t132)) - t133))] 23 (0, 0)) (by (with_reducible repeat first | apply kn_ | apply kd_ | apply ka_); refine blk_put (cs := #[.int .i64 0, .int .i64 0, .int .i64 0]) ?_ 2 _ rfl; (with_reducible repeat first | apply kn_ | apply kd_ | apply ka_); refine blk_put (cs := #[.int .i64 0, .int .i64 0, .int .i64 0]) ?_ 1 _ rfl; (with_reducible repeat first | apply kn_ | apply kd_ | apply ka_); refine blk_put (cs := #[.int .i64 0, .int .i64 0, .int .i64 0]) ?_ 0 _ rfl; (with_reducible repeat first | apply kn_ | apply kd_ | apply ka_); exact BK134.out) hb); replace HB := hb_ HB (e_ GE130 (e_ GE134 e0_)) hb; (try clear hb); (try clear hb2); (try clear hk); (try clear hi); have hcz31_0 : w30.cell? ⟨gb130, 0, none⟩ = some (.int .i64 0) := (kc_ BK130.out 0).trans rfl; have hcz31_1 : w30.cell? ⟨gb130, 1, none⟩ = some (.int .i64 0) := (kc_ BK130.out 1).trans rfl; have hcz31_2 : w30.cell? ⟨gb130, 2, none⟩ = some (.int .i64 0) := (kc_ BK130.out 2).trans rfl; have hfz31_0 := kf_ BK130.out 0; have hfz31_1 := kf_ BK130.out 1; have hfz31_2 := kf_ BK130.out 2))
      refine bodyPost_ret (results_ct rfl _ _ gb130 23 #[.int .i64 0, .int .i64 0, .int .i64 0] (0, 0) _ rfl (by (with_reducible repeat first | apply kn_ | apply kd_ | apply ka_); refine blk_put (cs := #[.int .i64 0, .int .i64 0, .int .i64 0]) ?_ 2 _ rfl; (with_reducible repeat first | apply kn_ | apply kd_ | apply ka_); refine blk_put (cs := #[.int .i64 0, .int .i64 0, .int .i64 0]) ?_ 1 _ rfl; (with_reducible repeat first | apply kn_ | apply kd_ | apply ka_); refine blk_put (cs := #[.int .i64 0, .int .i64 0, .int .i64 0]) ?_ 0 _ rfl; (with_reducible repeat first | apply kn_ | apply kd_ | apply ka_); exact BK130.out) Tryd.underlying23 rfl (by kernel_rfl)) rfl ?_
      exact ⟨by first | rfl | (simp [errW_none, errW_some] <;> rfl) | (simp [*, errW_none, errW_some] <;> rfl), by repeat (first | (with_reducible first | exact HB.out | apply ba_ | apply pd_ | apply d1_ | refine bs_ ?_ GE130.out | refine bs_ ?_ GE134.out) | exact HB.out)⟩
   ·rw [if_neg c7] at H
    have c7b0 : (t131.toList == ([] : List UInt8)) = false := beq_eq_false_iff_ne.mpr c7
    have c7b1 : (t131.toList != ([] : List UInt8)) = true := bne_iff_ne.mpr c7
    by_cases c32 : 0 < (t131.size : Int)
    ·rw [if_pos c32] at H
     have c32b0 : decide (0 < (t131.size : Int)) = true := dt_ c32
     have c32b1 : decide (0 < t131.size) = true := dt_ (by omega)
     clear c32
     replace H := ob_ H
     obtain ⟨t136, A340, H⟩ := H
     replace H : (if 1 ≤ (t131.size : Int) then ((strings_Count.f (t131.extract 1 t131.size) (⟨#[105, 115]⟩ : ByteArray)).bind fun t137 => ((strings_Count.f (t131.extract 1 t131.size) (⟨#[101, 115]⟩ : ByteArray)).bind fun t138 => (if a0.toList = ([] : List UInt8) then (some (0, 0, 0, false)) else ((pitch_Name.f t136 (wrap64 (t137 - t138)) (wrap64 ((wrap64 (3 + t132)) - t133))).bind fun t139 => (if t139.toList = a0.toList then (some (t136, wrap64 (t137 - t138), wrap64 ((wrap64 (3 + t132)) - t133), true)) else (some (0, 0, 0, false))))))) else (none)) = some (r1, r2, r3, r4) := H
     have A34 := sd_ A340
     clear A340
     by_cases c35 : 1 ≤ (t131.size : Int)
     ·rw [if_pos c35] at H
      have c35b0 := eq_true c35
      have c35b1 : decide (1 ≤ (t131.size : Int)) = true := dt_ c35
      clear c35
      replace H := ob_ H
      obtain ⟨t137, A360, H⟩ := H
      replace H : ((strings_Count.f (t131.extract 1 t131.size) (⟨#[101, 115]⟩ : ByteArray)).bind fun t138 => (if a0.toList = ([] : List UInt8) then (some (0, 0, 0, false)) else ((pitch_Name.f t136 (wrap64 (t137 - t138)) (wrap64 ((wrap64 (3 + t132)) - t133))).bind fun t139 => (if t139.toList = a0.toList then (some (t136, wrap64 (t137 - t138), wrap64 ((wrap64 (3 + t132)) - t133), true)) else (some (0, 0, 0, false)))))) = some (r1, r2, r3, r4) := H
      have A36 := sd_ A360
      clear A360
      have c37b0 := eq_true (od_ (by first | (with_reducible assumption) | assumption) : 1 ≤ (t131.size : Int))
      replace H := ob_ H
      obtain ⟨t138, A380, H⟩ := H
      replace H : (if a0.toList = ([] : List UInt8) then (some (0, 0, 0, false)) else ((pitch_Name.f t136 (wrap64 (t137 - t138)) (wrap64 ((wrap64 (3 + t132)) - t133))).bind fun t139 => (if t139.toList = a0.toList then (some (t136, wrap64 (t137 - t138), wrap64 ((wrap64 (3 + t132)) - t133), true)) else (some (0, 0, 0, false))))) = some (r1, r2, r3, r4) := H
      have A38 := sd_ A380
      clear A380
      by_cases c39 : a0.toList = ([] : List UInt8)
      ·rw [if_pos c39] at H
       have c39b0 : (a0.toList == ([] : List UInt8)) = true := beq_iff_eq.mpr c39
       have c39b1 : (a0.toList != ([] : List UInt8)) = false := bne_eq_false_iff_eq.mpr c39
       clear c39
       simp only [Option.some.injEq, Prod.mk.injEq] at H
       obtain ⟨rfl, rfl, rfl, rfl⟩ := H
       go_enter Tryd.func12, Tryd.ntmps12
       try go_wp2_with (first | ((with_reducible refine gate_dst (N := 2) rfl ?_); refine box_event ?hg (N := 2) ?hd (cs := #[.int .i64 0, .int .i64 0, .int .i64 0]) (t := 23) ?hr ?_; (case hd => rfl); (case hg => rfl); (case hr => first | (go_simp; done) | (go_simp; rfl)); intro gb130 hg w40 hbox hb; have BK130 := sd_ hbox; have GW130 := gw_ HB e0_ hg; have GE130 := GW130; replace HB := hb_ HB e0_ hb; clear hb hbox hg) | ((with_reducible refine gate_callee (f := 31) rfl ?_); refine goesL_ (some 8) rfl rfl Tryd.func31 (by kernel_rfl) rfl #[.string a0, .string (⟨#[39, 44]⟩ : ByteArray)] rfl (by (try simp only [lm_, lq_, lx_]); first | done | rfl | (simp only [ld_, lt_]; rfl) | ((conv => rhs; simp); rfl)) ?_; (with_reducible refine (strings_TrimRight.calls a0 (⟨#[39, 44]⟩ : ByteArray) t131 _ A2.out).mono ?_); rintro e w41 ⟨rfl, hb⟩; refine ⟨_, rfl, ?_⟩; replace BK130 := kb_ BK130 hb; replace HB := hb_ HB (e_ GE130 e0_) hb; (try clear hb); (try clear hb2); (try clear hk); (try clear hi)) | ((with_reducible refine gate_callee (f := 32) rfl ?_); refine goesL_ (some 14) rfl rfl Tryd.func32 (by kernel_rfl) rfl #[.string (a0.extract ((t131.size : Int) : Int).toNat a0.size), .string (⟨#[39]⟩ : ByteArray)] rfl (by (try simp only [lm_, lq_, lx_]); first | done | rfl | (simp only [ld_, lt_]; rfl) | ((conv => rhs; simp); rfl)) ?_; (with_reducible refine (strings_Count.calls (a0.extract ((t131.size : Int) : Int).toNat a0.size) (⟨#[39]⟩ : ByteArray) t132 _ ?side1 A5.out).mono ?_); (case side1 => first | (with_reducible exact hE) | exact sd_ (LaidE.below hE.out (bb_ HB.out (e_ GE130 e0_)))); rintro e w' ⟨rfl, ⟨nd, rfl⟩⟩; refine ⟨_, rfl, ?_⟩; (repeat (rw [drewN_self w41]; generalize hq_ : World.drewN w41 _ = w41; have n0_ : Aside0 (w41.heap[gb130]? = some (.cells #[.int .i64 0, .int .i64 0, .int .i64 0] 23 (0, 0))) := ⟨by rw [← hq_]; exact (kk_ BK130.out)⟩; have n1_ : Aside0 (Below w.heap.size w w41) := ⟨by rw [← hq_]; exact (bb_ HB.out (e_ GE130 e0_))⟩; clear BK130 HB hq_; have BK130 := n0_; have HB := n1_; clear n0_ n1_))) | ((with_reducible refine gate_callee (f := 32) rfl ?_); refine goesL_ (some 17) rfl rfl Tryd.func32 (by kernel_rfl) rfl #[.string (a0.extract ((t131.size : Int) : Int).toNat a0.size), .string (⟨#[44]⟩ : ByteArray)] rfl (by (try simp only [lm_, lq_, lx_]); first | done | rfl | (simp only [ld_, lt_]; rfl) | ((conv => rhs; simp); rfl)) ?_; (with_reducible refine (strings_Count.calls (a0.extract ((t131.size : Int) : Int).toNat a0.size) (⟨#[44]⟩ : ByteArray) t133 _ ?side1 A6.out).mono ?_); (case side1 => first | (with_reducible exact hE) | exact sd_ (LaidE.below hE.out (bb_ HB.out (e_ GE130 e0_)))); rintro e w' ⟨rfl, ⟨nd, rfl⟩⟩; refine ⟨_, rfl, ?_⟩; (repeat (rw [drewN_self w41]; generalize hq_ : World.drewN w41 _ = w41; have n0_ : Aside0 (w41.heap[gb130]? = some (.cells #[.int .i64 0, .int .i64 0, .int .i64 0] 23 (0, 0))) := ⟨by rw [← hq_]; exact (kk_ BK130.out)⟩; have n1_ : Aside0 (Below w.heap.size w w41) := ⟨by rw [← hq_]; exact (bb_ HB.out (e_ GE130 e0_))⟩; clear BK130 HB hq_; have BK130 := n0_; have HB := n1_; clear n0_ n1_))) | ((with_reducible refine gate_dst (N := 6) rfl ?_); refine box_event ?hg (N := 6) ?hd (cs := #[.int .i64 0, .int .i64 0, .int .i64 0]) (t := 23) ?hr ?_; (case hd => rfl); (case hg => rfl); (case hr => first | (go_simp; done) | (go_simp; rfl)); intro gb134 hg w42 hbox hb; have BK134 := sd_ hbox; have GW134 := gw_ HB (e_ GE130 e0_) hg; have GE134 := GW134; have NB130_134 := nb_ BK130 hg; have NB134_130 := sy_ NB130_134; replace BK130 := kb_ BK130 hb; replace HB := hb_ HB (e_ GE130 e0_) hb; clear hb hbox hg; have hnb43 := NB134_130.out; have hnc43 := NB130_134.out; have hcz44_0 : w42.cell? ⟨gb134, 0, none⟩ = some (.int .i64 0) := (kc_ BK134.out 0).trans rfl; have hcz44_1 : w42.cell? ⟨gb134, 1, none⟩ = some (.int .i64 0) := (kc_ BK134.out 1).trans rfl; have hcz44_2 : w42.cell? ⟨gb134, 2, none⟩ = some (.int .i64 0) := (kc_ BK134.out 2).trans rfl; have hfz44_0 := kf_ BK134.out 0; have hfz44_1 := kf_ BK134.out 1; have hfz44_2 := kf_ BK134.out 2; have p33 : 0 ≤ (0 : Int) := (by omega); have q33 : 0 < t131.size := (by have : (0 : Int) < (t131.size : Int) := od_ (by first | (with_reducible assumption) | assumption); omega); have hx33 : ∀ h : 0 < t131.size, ((t131[0]'h).toNat : Int) = bt t131 0 := bt_at t131 0; clear p33; have qi33 : (0 < (t131.size : Int)) = True := eq_true (od_ (by first | (with_reducible assumption) | assumption)); replace q33 := eq_true q33) | ((with_reducible refine gate_callee (f := 33) rfl ?_); refine goesL_ (some 24) rfl rfl Tryd.func33 (by kernel_rfl) rfl #[.string (⟨#[99, 100, 101, 102, 103, 97, 98]⟩ : ByteArray), .int .u8 (bt t131 0)] rfl (by (try simp only [lm_, lq_, lx_]); first | done | rfl | (simp only [ld_, lt_]; rfl) | ((conv => rhs; simp); rfl)) ?_; (with_reducible refine (strings_IndexByte.calls (⟨#[99, 100, 101, 102, 103, 97, 98]⟩ : ByteArray) (bt t131 0) t136 _ A34.out).mono ?_); rintro e w45 ⟨rfl, hb⟩; refine ⟨_, rfl, ?_⟩; replace BK130 := sd_ (blk_below (g := gb130) (o := .cells #[.int .i64 0, .int .i64 0, .int .i64 0] 23 (0, 0)) (by (with_reducible repeat first | apply kn_ | apply kd_ | apply ka_); refine blk_far ?_ NB130_134.out _; (with_reducible repeat first | apply kn_ | apply kd_ | apply ka_); refine blk_far ?_ NB130_134.out _; (with_reducible repeat first | apply kn_ | apply kd_ | apply ka_); refine blk_far ?_ NB130_134.out _; (with_reducible repeat first | apply kn_ | apply kd_ | apply ka_); exact BK130.out) hb); replace BK134 := sd_ (blk_below (g := gb134) (o := .cells #[.int .i64 0, .int .i64 0, .int .i64 (wrap64 ((wrap64 (3 + t132)) - t133))] 23 (0, 0)) (by (with_reducible repeat first | apply kn_ | apply kd_ | apply ka_); refine blk_put (cs := #[.int .i64 0, .int .i64 0, .int .i64 0]) ?_ 2 _ rfl; (with_reducible repeat first | apply kn_ | apply kd_ | apply ka_); refine blk_put (cs := #[.int .i64 0, .int .i64 0, .int .i64 0]) ?_ 1 _ rfl; (with_reducible repeat first | apply kn_ | apply kd_ | apply ka_); refine blk_put (cs := #[.int .i64 0, .int .i64 0, .int .i64 0]) ?_ 0 _ rfl; (with_reducible repeat first | apply kn_ | apply kd_ | apply ka_); exact BK134.out) hb); replace HB := hb_ HB (e_ GE130 (e_ GE134 e0_)) hb; (try clear hb); (try clear hb2); (try clear hk); (try clear hi); have hcz46_0 : w45.cell? ⟨gb134, 0, none⟩ = some (.int .i64 0) := (kc_ BK134.out 0).trans rfl; have hcz46_1 : w45.cell? ⟨gb134, 1, none⟩ = some (.int .i64 0) := (kc_ BK134.out 1).trans rfl; have hcz46_2 : w45.cell? ⟨gb134, 2, none⟩ = some (.int .i64 (wrap64 ((wrap64 (3 + t132)) - t133))) := (kc_ BK134.out 2).trans rfl; have hfz46_0 := kf_ BK134.out 0; have hfz46_1 := kf_ BK134.out 1; have hfz46_2 := kf_ BK134.out 2))
       have n0_ : Aside0 ((w45.setCell ⟨gb134, 0, none⟩ (.int .i64 t136)).heap[gb130]? = some (.cells #[.int .i64 0, .int .i64 0, .int .i64 0] 23 (0, 0))) := ⟨by (with_reducible repeat first | apply kn_ | apply kd_ | apply ka_); refine blk_far ?_ NB130_134.out _; (with_reducible repeat first | apply kn_ | apply kd_ | apply ka_); exact BK130.out⟩
       have n1_ : Aside0 ((w45.setCell ⟨gb134, 0, none⟩ (.int .i64 t136)).heap[gb134]? = some (.cells #[.int .i64 t136, .int .i64 0, .int .i64 (wrap64 ((wrap64 (3 + t132)) - t133))] 23 (0, 0))) := ⟨by (with_reducible repeat first | apply kn_ | apply kd_ | apply ka_); refine blk_put (cs := #[.int .i64 0, .int .i64 0, .int .i64 (wrap64 ((wrap64 (3 + t132)) - t133))]) ?_ 0 _ rfl; (with_reducible repeat first | apply kn_ | apply kd_ | apply ka_); exact BK134.out⟩
       have n2_ : Aside0 (Below w.heap.size w (w45.setCell ⟨gb134, 0, none⟩ (.int .i64 t136))) := ⟨by repeat (first | (with_reducible first | exact HB.out | apply ba_ | apply pd_ | apply d1_ | refine bs_ ?_ GE130.out | refine bs_ ?_ GE134.out) | exact HB.out)⟩
       (try clear BK130)
       (try clear BK134)
       (try clear HB)
       generalize (w45.setCell ⟨gb134, 0, none⟩ (.int .i64 t136)) = w47 at n0_ n1_ n2_ ⊢
       have BK130 := n0_
       have BK134 := n1_
       have HB := n2_
       clear n0_ n1_ n2_
       replace BK130 := sd_ (kd_ BK130.out)
       replace BK134 := sd_ (kd_ BK134.out)
       replace HB := sd_ (d1_ HB.out)
       refine start_ (n := 9) (S := fun w' => True) (ds := []) (Array.replicate 9 false) (by kernel_rfl) rfl rfl trivial (fun hHeld => ?_); refine with_tabW pitch_Parse.tab6 pitch_Parse.bits6 (fun HT_ HW_ => ?_)
       generalize w47.drew = w48 at BK130 BK134 HB hHeld ⊢
       refine pu_ (v := ?_) (a' := ?_) 0 26 (bz 9 1) rfl rfl HT_ (by kernel_rfl) (fun _ _ _ h => h) (by rfl) ?_ ?_ ?_
       rotate_left; (intro w'; go_simp; with_reducible rfl); rotate_left; (simp only [Act.put, ls_, lz_, lc_, i64_w, i32_w]; rfl)
       refine pu_ (v := ?_) (a' := ?_) 1 27 (bz 9 3) rfl rfl HT_ (by kernel_rfl) (fun _ _ _ h => h) (by rfl) ?_ ?_ ?_
       rotate_left; (intro w'; go_simp; with_reducible rfl); rotate_left; (simp only [Act.put, ls_, lz_, lc_, i64_w, i32_w]; rfl)
       refine pu_ (v := ?_) (a' := ?_) 3 29 (bz 9 11) rfl rfl HT_ (by kernel_rfl) (fun _ _ _ h => h) (by rfl) ?_ ?_ ?_
       rotate_left; (intro w'; go_simp; with_reducible rfl); rotate_left; (simp only [Act.put, ls_, lz_, lc_, i64_w, i32_w]; rfl)
       refine pu_ (v := ?_) (a' := ?_) 4 30 (bz 9 27) rfl rfl HT_ (by kernel_rfl) (fun _ _ _ h => h) (by rfl) ?_ ?_ ?_
       rotate_left; (intro w'; go_simp; with_reducible rfl); rotate_left; (simp only [Act.put, ls_, lz_, lc_, i64_w, i32_w]; rfl)
       refine on_ (N := some 28) 2 (bz 9 31) rfl rfl HT_ (by kernel_rfl) (by decide) (fun K hK => ?_)
       refine goes_ Tryd.func32 (by kernel_rfl) rfl #[.string (t131.extract 1 t131.size), .string (⟨#[105, 115]⟩ : ByteArray)] (by rfl) rfl rfl (by (try simp only [lm_, lq_, lx_]); first | done | rfl | (simp only [ld_, lt_]; rfl) | ((conv => rhs; simp); rfl)) ?_
       with_reducible refine (strings_Count.calls (t131.extract 1 t131.size) (⟨#[105, 115]⟩ : ByteArray) t137 _ ?side1 A36.out).mono ?_
       (case side1 => first | (with_reducible exact hE) | exact sd_ (LaidE.below hE.out (bb_ HB.out (e_ GE130 (e_ GE134 e0_)))))
       rintro e w' ⟨rfl, ⟨nd, rfl⟩⟩
       refine ⟨_, rfl, ?_⟩
       refine hK.out _ _ trivial (fun hHeld => ?_)
       clear hK K
       refine norm_ (a' := ?_) ?_ ?_
       rotate_left
       ·show Act.put _ (some 28) _ = _
        simp only [Act.put, ls_, lz_, lc_, i64_w, i32_w]
        rfl
       refine on_ (N := some 31) 5 (bz 9 63) rfl rfl HT_ (by kernel_rfl) (by decide) (fun K hK => ?_)
       refine goes_ Tryd.func32 (by kernel_rfl) rfl #[.string (t131.extract 1 t131.size), .string (⟨#[101, 115]⟩ : ByteArray)] (by rfl) rfl rfl (by (try simp only [lm_, lq_, lx_]); first | done | rfl | (simp only [ld_, lt_]; rfl) | ((conv => rhs; simp); rfl)) ?_
       with_reducible refine (strings_Count.calls (t131.extract 1 t131.size) (⟨#[101, 115]⟩ : ByteArray) t138 _ ?side1 A38.out).mono ?_
       (case side1 => first | (with_reducible exact hE) | exact sd_ (LaidE.below hE.out (bb_ HB.out (e_ GE130 (e_ GE134 e0_)))))
       rintro e w' ⟨rfl, ⟨nd, rfl⟩⟩
       refine ⟨_, rfl, ?_⟩
       refine hK.out _ _ trivial (fun hHeld => ?_)
       clear hK K
       refine norm_ (a' := ?_) ?_ ?_
       rotate_left
       ·show Act.put _ (some 31) _ = _
        simp only [Act.put, ls_, lz_, lc_, i64_w, i32_w]
        rfl
       refine pu_ (v := ?_) (a' := ?_) 6 32 (bz 9 127) rfl rfl HT_ (by kernel_rfl) (fun _ _ _ h => h) (by rfl) ?_ ?_ ?_
       rotate_left; (intro w'; go_simp; with_reducible rfl); rotate_left; (simp only [Act.put, ls_, lz_, lc_, i64_w, i32_w]; rfl)
       refine pu_ (v := ?_) (a' := ?_) 7 33 (bz 9 255) rfl rfl HT_ (by kernel_rfl) (fun _ _ _ h => h) (by rfl) ?_ ?_ ?_
       rotate_left; (intro w'; go_simp; with_reducible rfl); rotate_left; (simp only [Act.put, ls_, lz_, lc_, i64_w, i32_w]; rfl)
       refine on_ (N := none) 8 (bz 9 511) rfl rfl HT_ (by kernel_rfl) (by decide) (fun K hK => ?_)
       have hs49 : w48.cell? ⟨gb134, 1, none⟩ = some (.int .i64 0) := (kc_ BK134.out 1).trans rfl
       have hfs49 := kf_ BK134.out 1
       have hns49_0 := NB130_134.out
       have hms49_0 := NB134_130.out
       refine skip_ (w1 := ?_) (by rfl) rfl ?_ ?_
       rotate_left
       ·go_simp
        rfl
       refine hK.out _ _ trivial (fun hHeld => ?_)
       clear hK K
       refine done_ (done_of HT_.out (by kernel_rfl)) ?_
       have hcz50_0 : w48.cell? ⟨gb130, 0, none⟩ = some (.int .i64 0) := (kc_ BK130.out 0).trans rfl
       have hcz50_1 : w48.cell? ⟨gb130, 1, none⟩ = some (.int .i64 0) := (kc_ BK130.out 1).trans rfl
       have hcz50_2 : w48.cell? ⟨gb130, 2, none⟩ = some (.int .i64 0) := (kc_ BK130.out 2).trans rfl
       have hfz50_0 := kf_ BK130.out 0
       have hfz50_1 := kf_ BK130.out 1
       have hfz50_2 := kf_ BK130.out 2
       try go_wp2
       refine bodyPost_ret (results_ct rfl _ _ gb130 23 #[.int .i64 0, .int .i64 0, .int .i64 0] (0, 0) _ rfl (by (with_reducible repeat first | apply kn_ | apply kd_ | apply ka_); refine blk_put (cs := #[.int .i64 0, .int .i64 0, .int .i64 0]) ?_ 2 _ rfl; (with_reducible repeat first | apply kn_ | apply kd_ | apply ka_); refine blk_put (cs := #[.int .i64 0, .int .i64 0, .int .i64 0]) ?_ 1 _ rfl; (with_reducible repeat first | apply kn_ | apply kd_ | apply ka_); refine blk_put (cs := #[.int .i64 0, .int .i64 0, .int .i64 0]) ?_ 0 _ rfl; (with_reducible repeat first | apply kn_ | apply kd_ | apply ka_); refine blk_far ?_ NB130_134.out _; (with_reducible repeat first | apply kn_ | apply kd_ | apply ka_); exact BK130.out) Tryd.underlying23 rfl (by kernel_rfl)) rfl ?_
       exact ⟨by first | rfl | (simp [errW_none, errW_some] <;> rfl) | (simp [*, errW_none, errW_some] <;> rfl), by repeat (first | (with_reducible first | exact HB.out | apply ba_ | apply pd_ | apply d1_ | refine bs_ ?_ GE130.out | refine bs_ ?_ GE134.out) | exact HB.out)⟩
      ·rw [if_neg c39] at H
       have c39b0 : (a0.toList == ([] : List UInt8)) = false := beq_eq_false_iff_ne.mpr c39
       have c39b1 : (a0.toList != ([] : List UInt8)) = true := bne_iff_ne.mpr c39
       replace H := ob_ H
       obtain ⟨t139, A510, H⟩ := H
       replace H : (if t139.toList = a0.toList then (some (t136, wrap64 (t137 - t138), wrap64 ((wrap64 (3 + t132)) - t133), true)) else (some (0, 0, 0, false))) = some (r1, r2, r3, r4) := H
       have A51 := sd_ A510
       clear A510
       by_cases c52 : t139.toList = a0.toList
       ·rw [if_pos c52] at H
        have c52b0 : (t139.toList == a0.toList) = true := beq_iff_eq.mpr c52
        have c52b1 : (t139.toList != a0.toList) = false := bne_eq_false_iff_eq.mpr c52
        clear c52
        simp only [Option.some.injEq, Prod.mk.injEq] at H
        obtain ⟨rfl, rfl, rfl, rfl⟩ := H
        go_enter Tryd.func12, Tryd.ntmps12
        try go_wp2_with (first | ((with_reducible refine gate_dst (N := 2) rfl ?_); refine box_event ?hg (N := 2) ?hd (cs := #[.int .i64 0, .int .i64 0, .int .i64 0]) (t := 23) ?hr ?_; (case hd => rfl); (case hg => rfl); (case hr => first | (go_simp; done) | (go_simp; rfl)); intro gb130 hg w53 hbox hb; have BK130 := sd_ hbox; have GW130 := gw_ HB e0_ hg; have GE130 := GW130; replace HB := hb_ HB e0_ hb; clear hb hbox hg) | ((with_reducible refine gate_callee (f := 31) rfl ?_); refine goesL_ (some 8) rfl rfl Tryd.func31 (by kernel_rfl) rfl #[.string a0, .string (⟨#[39, 44]⟩ : ByteArray)] rfl (by (try simp only [lm_, lq_, lx_]); first | done | rfl | (simp only [ld_, lt_]; rfl) | ((conv => rhs; simp); rfl)) ?_; (with_reducible refine (strings_TrimRight.calls a0 (⟨#[39, 44]⟩ : ByteArray) t131 _ A2.out).mono ?_); rintro e w54 ⟨rfl, hb⟩; refine ⟨_, rfl, ?_⟩; replace BK130 := kb_ BK130 hb; replace HB := hb_ HB (e_ GE130 e0_) hb; (try clear hb); (try clear hb2); (try clear hk); (try clear hi)) | ((with_reducible refine gate_callee (f := 32) rfl ?_); refine goesL_ (some 14) rfl rfl Tryd.func32 (by kernel_rfl) rfl #[.string (a0.extract ((t131.size : Int) : Int).toNat a0.size), .string (⟨#[39]⟩ : ByteArray)] rfl (by (try simp only [lm_, lq_, lx_]); first | done | rfl | (simp only [ld_, lt_]; rfl) | ((conv => rhs; simp); rfl)) ?_; (with_reducible refine (strings_Count.calls (a0.extract ((t131.size : Int) : Int).toNat a0.size) (⟨#[39]⟩ : ByteArray) t132 _ ?side1 A5.out).mono ?_); (case side1 => first | (with_reducible exact hE) | exact sd_ (LaidE.below hE.out (bb_ HB.out (e_ GE130 e0_)))); rintro e w' ⟨rfl, ⟨nd, rfl⟩⟩; refine ⟨_, rfl, ?_⟩; (repeat (rw [drewN_self w54]; generalize hq_ : World.drewN w54 _ = w54; have n0_ : Aside0 (w54.heap[gb130]? = some (.cells #[.int .i64 0, .int .i64 0, .int .i64 0] 23 (0, 0))) := ⟨by rw [← hq_]; exact (kk_ BK130.out)⟩; have n1_ : Aside0 (Below w.heap.size w w54) := ⟨by rw [← hq_]; exact (bb_ HB.out (e_ GE130 e0_))⟩; clear BK130 HB hq_; have BK130 := n0_; have HB := n1_; clear n0_ n1_))) | ((with_reducible refine gate_callee (f := 32) rfl ?_); refine goesL_ (some 17) rfl rfl Tryd.func32 (by kernel_rfl) rfl #[.string (a0.extract ((t131.size : Int) : Int).toNat a0.size), .string (⟨#[44]⟩ : ByteArray)] rfl (by (try simp only [lm_, lq_, lx_]); first | done | rfl | (simp only [ld_, lt_]; rfl) | ((conv => rhs; simp); rfl)) ?_; (with_reducible refine (strings_Count.calls (a0.extract ((t131.size : Int) : Int).toNat a0.size) (⟨#[44]⟩ : ByteArray) t133 _ ?side1 A6.out).mono ?_); (case side1 => first | (with_reducible exact hE) | exact sd_ (LaidE.below hE.out (bb_ HB.out (e_ GE130 e0_)))); rintro e w' ⟨rfl, ⟨nd, rfl⟩⟩; refine ⟨_, rfl, ?_⟩; (repeat (rw [drewN_self w54]; generalize hq_ : World.drewN w54 _ = w54; have n0_ : Aside0 (w54.heap[gb130]? = some (.cells #[.int .i64 0, .int .i64 0, .int .i64 0] 23 (0, 0))) := ⟨by rw [← hq_]; exact (kk_ BK130.out)⟩; have n1_ : Aside0 (Below w.heap.size w w54) := ⟨by rw [← hq_]; exact (bb_ HB.out (e_ GE130 e0_))⟩; clear BK130 HB hq_; have BK130 := n0_; have HB := n1_; clear n0_ n1_))) | ((with_reducible refine gate_dst (N := 6) rfl ?_); refine box_event ?hg (N := 6) ?hd (cs := #[.int .i64 0, .int .i64 0, .int .i64 0]) (t := 23) ?hr ?_; (case hd => rfl); (case hg => rfl); (case hr => first | (go_simp; done) | (go_simp; rfl)); intro gb134 hg w55 hbox hb; have BK134 := sd_ hbox; have GW134 := gw_ HB (e_ GE130 e0_) hg; have GE134 := GW134; have NB130_134 := nb_ BK130 hg; have NB134_130 := sy_ NB130_134; replace BK130 := kb_ BK130 hb; replace HB := hb_ HB (e_ GE130 e0_) hb; clear hb hbox hg; have hnb56 := NB134_130.out; have hnc56 := NB130_134.out; have hcz57_0 : w55.cell? ⟨gb134, 0, none⟩ = some (.int .i64 0) := (kc_ BK134.out 0).trans rfl; have hcz57_1 : w55.cell? ⟨gb134, 1, none⟩ = some (.int .i64 0) := (kc_ BK134.out 1).trans rfl; have hcz57_2 : w55.cell? ⟨gb134, 2, none⟩ = some (.int .i64 0) := (kc_ BK134.out 2).trans rfl; have hfz57_0 := kf_ BK134.out 0; have hfz57_1 := kf_ BK134.out 1; have hfz57_2 := kf_ BK134.out 2; have p33 : 0 ≤ (0 : Int) := (by omega); have q33 : 0 < t131.size := (by have : (0 : Int) < (t131.size : Int) := od_ (by first | (with_reducible assumption) | assumption); omega); have hx33 : ∀ h : 0 < t131.size, ((t131[0]'h).toNat : Int) = bt t131 0 := bt_at t131 0; clear p33; have qi33 : (0 < (t131.size : Int)) = True := eq_true (od_ (by first | (with_reducible assumption) | assumption)); replace q33 := eq_true q33) | ((with_reducible refine gate_callee (f := 33) rfl ?_); refine goesL_ (some 24) rfl rfl Tryd.func33 (by kernel_rfl) rfl #[.string (⟨#[99, 100, 101, 102, 103, 97, 98]⟩ : ByteArray), .int .u8 (bt t131 0)] rfl (by (try simp only [lm_, lq_, lx_]); first | done | rfl | (simp only [ld_, lt_]; rfl) | ((conv => rhs; simp); rfl)) ?_; (with_reducible refine (strings_IndexByte.calls (⟨#[99, 100, 101, 102, 103, 97, 98]⟩ : ByteArray) (bt t131 0) t136 _ A34.out).mono ?_); rintro e w58 ⟨rfl, hb⟩; refine ⟨_, rfl, ?_⟩; replace BK130 := sd_ (blk_below (g := gb130) (o := .cells #[.int .i64 0, .int .i64 0, .int .i64 0] 23 (0, 0)) (by (with_reducible repeat first | apply kn_ | apply kd_ | apply ka_); refine blk_far ?_ NB130_134.out _; (with_reducible repeat first | apply kn_ | apply kd_ | apply ka_); refine blk_far ?_ NB130_134.out _; (with_reducible repeat first | apply kn_ | apply kd_ | apply ka_); refine blk_far ?_ NB130_134.out _; (with_reducible repeat first | apply kn_ | apply kd_ | apply ka_); exact BK130.out) hb); replace BK134 := sd_ (blk_below (g := gb134) (o := .cells #[.int .i64 0, .int .i64 0, .int .i64 (wrap64 ((wrap64 (3 + t132)) - t133))] 23 (0, 0)) (by (with_reducible repeat first | apply kn_ | apply kd_ | apply ka_); refine blk_put (cs := #[.int .i64 0, .int .i64 0, .int .i64 0]) ?_ 2 _ rfl; (with_reducible repeat first | apply kn_ | apply kd_ | apply ka_); refine blk_put (cs := #[.int .i64 0, .int .i64 0, .int .i64 0]) ?_ 1 _ rfl; (with_reducible repeat first | apply kn_ | apply kd_ | apply ka_); refine blk_put (cs := #[.int .i64 0, .int .i64 0, .int .i64 0]) ?_ 0 _ rfl; (with_reducible repeat first | apply kn_ | apply kd_ | apply ka_); exact BK134.out) hb); replace HB := hb_ HB (e_ GE130 (e_ GE134 e0_)) hb; (try clear hb); (try clear hb2); (try clear hk); (try clear hi); have hcz59_0 : w58.cell? ⟨gb134, 0, none⟩ = some (.int .i64 0) := (kc_ BK134.out 0).trans rfl; have hcz59_1 : w58.cell? ⟨gb134, 1, none⟩ = some (.int .i64 0) := (kc_ BK134.out 1).trans rfl; have hcz59_2 : w58.cell? ⟨gb134, 2, none⟩ = some (.int .i64 (wrap64 ((wrap64 (3 + t132)) - t133))) := (kc_ BK134.out 2).trans rfl; have hfz59_0 := kf_ BK134.out 0; have hfz59_1 := kf_ BK134.out 1; have hfz59_2 := kf_ BK134.out 2))
        have n0_ : Aside0 ((w58.setCell ⟨gb134, 0, none⟩ (.int .i64 t136)).heap[gb130]? = some (.cells #[.int .i64 0, .int .i64 0, .int .i64 0] 23 (0, 0))) := ⟨by (with_reducible repeat first | apply kn_ | apply kd_ | apply ka_); refine blk_far ?_ NB130_134.out _; (with_reducible repeat first | apply kn_ | apply kd_ | apply ka_); exact BK130.out⟩
        have n1_ : Aside0 ((w58.setCell ⟨gb134, 0, none⟩ (.int .i64 t136)).heap[gb134]? = some (.cells #[.int .i64 t136, .int .i64 0, .int .i64 (wrap64 ((wrap64 (3 + t132)) - t133))] 23 (0, 0))) := ⟨by (with_reducible repeat first | apply kn_ | apply kd_ | apply ka_); refine blk_put (cs := #[.int .i64 0, .int .i64 0, .int .i64 (wrap64 ((wrap64 (3 + t132)) - t133))]) ?_ 0 _ rfl; (with_reducible repeat first | apply kn_ | apply kd_ | apply ka_); exact BK134.out⟩
        have n2_ : Aside0 (Below w.heap.size w (w58.setCell ⟨gb134, 0, none⟩ (.int .i64 t136))) := ⟨by repeat (first | (with_reducible first | exact HB.out | apply ba_ | apply pd_ | apply d1_ | refine bs_ ?_ GE130.out | refine bs_ ?_ GE134.out) | exact HB.out)⟩
        (try clear BK130)
        (try clear BK134)
        (try clear HB)
        generalize (w58.setCell ⟨gb134, 0, none⟩ (.int .i64 t136)) = w60 at n0_ n1_ n2_ ⊢
        have BK130 := n0_
        have BK134 := n1_
        have HB := n2_
        clear n0_ n1_ n2_
        replace BK130 := sd_ (kd_ BK130.out)
        replace BK134 := sd_ (kd_ BK134.out)
        replace HB := sd_ (d1_ HB.out)
        refine start_ (n := 9) (S := fun w' => True) (ds := []) (Array.replicate 9 false) (by kernel_rfl) rfl rfl trivial (fun hHeld => ?_); refine with_tabW pitch_Parse.tab6 pitch_Parse.bits6 (fun HT_ HW_ => ?_)
        generalize w60.drew = w61 at BK130 BK134 HB hHeld ⊢
        refine pu_ (v := ?_) (a' := ?_) 0 26 (bz 9 1) rfl rfl HT_ (by kernel_rfl) (fun _ _ _ h => h) (by rfl) ?_ ?_ ?_
        rotate_left; (intro w'; go_simp; with_reducible rfl); rotate_left; (simp only [Act.put, ls_, lz_, lc_, i64_w, i32_w]; rfl)
        refine pu_ (v := ?_) (a' := ?_) 1 27 (bz 9 3) rfl rfl HT_ (by kernel_rfl) (fun _ _ _ h => h) (by rfl) ?_ ?_ ?_
        rotate_left; (intro w'; go_simp; with_reducible rfl); rotate_left; (simp only [Act.put, ls_, lz_, lc_, i64_w, i32_w]; rfl)
        refine pu_ (v := ?_) (a' := ?_) 3 29 (bz 9 11) rfl rfl HT_ (by kernel_rfl) (fun _ _ _ h => h) (by rfl) ?_ ?_ ?_
        rotate_left; (intro w'; go_simp; with_reducible rfl); rotate_left; (simp only [Act.put, ls_, lz_, lc_, i64_w, i32_w]; rfl)
        refine pu_ (v := ?_) (a' := ?_) 4 30 (bz 9 27) rfl rfl HT_ (by kernel_rfl) (fun _ _ _ h => h) (by rfl) ?_ ?_ ?_
        rotate_left; (intro w'; go_simp; with_reducible rfl); rotate_left; (simp only [Act.put, ls_, lz_, lc_, i64_w, i32_w]; rfl)
        refine on_ (N := some 28) 2 (bz 9 31) rfl rfl HT_ (by kernel_rfl) (by decide) (fun K hK => ?_)
        refine goes_ Tryd.func32 (by kernel_rfl) rfl #[.string (t131.extract 1 t131.size), .string (⟨#[105, 115]⟩ : ByteArray)] (by rfl) rfl rfl (by (try simp only [lm_, lq_, lx_]); first | done | rfl | (simp only [ld_, lt_]; rfl) | ((conv => rhs; simp); rfl)) ?_
        with_reducible refine (strings_Count.calls (t131.extract 1 t131.size) (⟨#[105, 115]⟩ : ByteArray) t137 _ ?side1 A36.out).mono ?_
        (case side1 => first | (with_reducible exact hE) | exact sd_ (LaidE.below hE.out (bb_ HB.out (e_ GE130 (e_ GE134 e0_)))))
        rintro e w' ⟨rfl, ⟨nd, rfl⟩⟩
        refine ⟨_, rfl, ?_⟩
        refine hK.out _ _ trivial (fun hHeld => ?_)
        clear hK K
        refine norm_ (a' := ?_) ?_ ?_
        rotate_left
        ·show Act.put _ (some 28) _ = _
         simp only [Act.put, ls_, lz_, lc_, i64_w, i32_w]
         rfl
        refine on_ (N := some 31) 5 (bz 9 63) rfl rfl HT_ (by kernel_rfl) (by decide) (fun K hK => ?_)
        refine goes_ Tryd.func32 (by kernel_rfl) rfl #[.string (t131.extract 1 t131.size), .string (⟨#[101, 115]⟩ : ByteArray)] (by rfl) rfl rfl (by (try simp only [lm_, lq_, lx_]); first | done | rfl | (simp only [ld_, lt_]; rfl) | ((conv => rhs; simp); rfl)) ?_
        with_reducible refine (strings_Count.calls (t131.extract 1 t131.size) (⟨#[101, 115]⟩ : ByteArray) t138 _ ?side1 A38.out).mono ?_
        (case side1 => first | (with_reducible exact hE) | exact sd_ (LaidE.below hE.out (bb_ HB.out (e_ GE130 (e_ GE134 e0_)))))
        rintro e w' ⟨rfl, ⟨nd, rfl⟩⟩
        refine ⟨_, rfl, ?_⟩
        refine hK.out _ _ trivial (fun hHeld => ?_)
        clear hK K
        refine norm_ (a' := ?_) ?_ ?_
        rotate_left
        ·show Act.put _ (some 31) _ = _
         simp only [Act.put, ls_, lz_, lc_, i64_w, i32_w]
         rfl
        refine pu_ (v := ?_) (a' := ?_) 6 32 (bz 9 127) rfl rfl HT_ (by kernel_rfl) (fun _ _ _ h => h) (by rfl) ?_ ?_ ?_
        rotate_left; (intro w'; go_simp; with_reducible rfl); rotate_left; (simp only [Act.put, ls_, lz_, lc_, i64_w, i32_w]; rfl)
        refine pu_ (v := ?_) (a' := ?_) 7 33 (bz 9 255) rfl rfl HT_ (by kernel_rfl) (fun _ _ _ h => h) (by rfl) ?_ ?_ ?_
        rotate_left; (intro w'; go_simp; with_reducible rfl); rotate_left; (simp only [Act.put, ls_, lz_, lc_, i64_w, i32_w]; rfl)
        refine on_ (N := none) 8 (bz 9 511) rfl rfl HT_ (by kernel_rfl) (by decide) (fun K hK => ?_)
        have hs62 : w61.cell? ⟨gb134, 1, none⟩ = some (.int .i64 0) := (kc_ BK134.out 1).trans rfl
        have hfs62 := kf_ BK134.out 1
        have hns62_0 := NB130_134.out
        have hms62_0 := NB134_130.out
        refine skip_ (w1 := ?_) (by rfl) rfl ?_ ?_
        rotate_left
        ·go_simp
         rfl
        refine hK.out _ _ trivial (fun hHeld => ?_)
        clear hK K
        refine done_ (done_of HT_.out (by kernel_rfl)) ?_
        have hcz63_0 : w61.cell? ⟨gb134, 0, none⟩ = some (.int .i64 t136) := (kc_ BK134.out 0).trans rfl
        have hcz63_1 : w61.cell? ⟨gb134, 1, none⟩ = some (.int .i64 0) := (kc_ BK134.out 1).trans rfl
        have hcz63_2 : w61.cell? ⟨gb134, 2, none⟩ = some (.int .i64 (wrap64 ((wrap64 (3 + t132)) - t133))) := (kc_ BK134.out 2).trans rfl
        have hfz63_0 := kf_ BK134.out 0
        have hfz63_1 := kf_ BK134.out 1
        have hfz63_2 := kf_ BK134.out 2
        try go_wp2_with (first | (go_at_call 20; (with_reducible refine (pitch_Name.calls t136 (wrap64 (t137 - t138)) (wrap64 ((wrap64 (3 + t132)) - t133)) t139 _ A51.out).mono ?_); rintro e w64 ⟨rfl, hb⟩; replace BK130 := sd_ (blk_below (g := gb130) (o := .cells #[.int .i64 0, .int .i64 0, .int .i64 0] 23 (0, 0)) (by (with_reducible repeat first | apply kn_ | apply kd_ | apply ka_); refine blk_far ?_ NB130_134.out _; (with_reducible repeat first | apply kn_ | apply kd_ | apply ka_); exact BK130.out) hb); replace BK134 := sd_ (blk_below (g := gb134) (o := .cells #[.int .i64 t136, .int .i64 (wrap64 (t137 - t138)), .int .i64 (wrap64 ((wrap64 (3 + t132)) - t133))] 23 (0, 0)) (by (with_reducible repeat first | apply kn_ | apply kd_ | apply ka_); refine blk_put (cs := #[.int .i64 t136, .int .i64 0, .int .i64 (wrap64 ((wrap64 (3 + t132)) - t133))]) ?_ 1 _ rfl; (with_reducible repeat first | apply kn_ | apply kd_ | apply ka_); exact BK134.out) hb); replace HB := hb_ HB (e_ GE130 (e_ GE134 e0_)) hb; (try clear hb); (try clear hb2); (try clear hk); (try clear hi); have hcz65_0 : w64.cell? ⟨gb134, 0, none⟩ = some (.int .i64 t136) := (kc_ BK134.out 0).trans rfl; have hcz65_1 : w64.cell? ⟨gb134, 1, none⟩ = some (.int .i64 (wrap64 (t137 - t138))) := (kc_ BK134.out 1).trans rfl; have hcz65_2 : w64.cell? ⟨gb134, 2, none⟩ = some (.int .i64 (wrap64 ((wrap64 (3 + t132)) - t133))) := (kc_ BK134.out 2).trans rfl; have hfz65_0 := kf_ BK134.out 0; have hfz65_1 := kf_ BK134.out 1; have hfz65_2 := kf_ BK134.out 2; have hcz66_0 : w64.cell? ⟨gb130, 0, none⟩ = some (.int .i64 0) := (kc_ BK130.out 0).trans rfl; have hcz66_1 : w64.cell? ⟨gb130, 1, none⟩ = some (.int .i64 0) := (kc_ BK130.out 1).trans rfl; have hcz66_2 : w64.cell? ⟨gb130, 2, none⟩ = some (.int .i64 0) := (kc_ BK130.out 2).trans rfl; have hfz66_0 := kf_ BK130.out 0; have hfz66_1 := kf_ BK130.out 1; have hfz66_2 := kf_ BK130.out 2))
        refine bodyPost_ret (results_ct rfl _ _ gb130 23 #[.int .i64 t136, .int .i64 (wrap64 (t137 - t138)), .int .i64 (wrap64 ((wrap64 (3 + t132)) - t133))] (0, 0) _ rfl (by (with_reducible repeat first | apply kn_ | apply kd_ | apply ka_); refine blk_put (cs := #[.int .i64 t136, .int .i64 (wrap64 (t137 - t138)), .int .i64 0]) ?_ 2 _ rfl; (with_reducible repeat first | apply kn_ | apply kd_ | apply ka_); refine blk_put (cs := #[.int .i64 t136, .int .i64 0, .int .i64 0]) ?_ 1 _ rfl; (with_reducible repeat first | apply kn_ | apply kd_ | apply ka_); refine blk_put (cs := #[.int .i64 0, .int .i64 0, .int .i64 0]) ?_ 0 _ rfl; (with_reducible repeat first | apply kn_ | apply kd_ | apply ka_); exact BK130.out) Tryd.underlying23 rfl (by kernel_rfl)) rfl ?_
        exact ⟨by first | rfl | (simp [errW_none, errW_some] <;> rfl) | (simp [*, errW_none, errW_some] <;> rfl), by repeat (first | (with_reducible first | exact HB.out | apply ba_ | apply pd_ | apply d1_ | refine bs_ ?_ GE130.out | refine bs_ ?_ GE134.out) | exact HB.out)⟩
       ·rw [if_neg c52] at H
        have c52b0 : (t139.toList == a0.toList) = false := beq_eq_false_iff_ne.mpr c52
        have c52b1 : (t139.toList != a0.toList) = true := bne_iff_ne.mpr c52
        simp only [Option.some.injEq, Prod.mk.injEq] at H
        obtain ⟨rfl, rfl, rfl, rfl⟩ := H
        go_enter Tryd.func12, Tryd.ntmps12
        try go_wp2_with (first | ((with_reducible refine gate_dst (N := 2) rfl ?_); refine box_event ?hg (N := 2) ?hd (cs := #[.int .i64 0, .int .i64 0, .int .i64 0]) (t := 23) ?hr ?_; (case hd => rfl); (case hg => rfl); (case hr => first | (go_simp; done) | (go_simp; rfl)); intro gb130 hg w67 hbox hb; have BK130 := sd_ hbox; have GW130 := gw_ HB e0_ hg; have GE130 := GW130; replace HB := hb_ HB e0_ hb; clear hb hbox hg) | ((with_reducible refine gate_callee (f := 31) rfl ?_); refine goesL_ (some 8) rfl rfl Tryd.func31 (by kernel_rfl) rfl #[.string a0, .string (⟨#[39, 44]⟩ : ByteArray)] rfl (by (try simp only [lm_, lq_, lx_]); first | done | rfl | (simp only [ld_, lt_]; rfl) | ((conv => rhs; simp); rfl)) ?_; (with_reducible refine (strings_TrimRight.calls a0 (⟨#[39, 44]⟩ : ByteArray) t131 _ A2.out).mono ?_); rintro e w68 ⟨rfl, hb⟩; refine ⟨_, rfl, ?_⟩; replace BK130 := kb_ BK130 hb; replace HB := hb_ HB (e_ GE130 e0_) hb; (try clear hb); (try clear hb2); (try clear hk); (try clear hi)) | ((with_reducible refine gate_callee (f := 32) rfl ?_); refine goesL_ (some 14) rfl rfl Tryd.func32 (by kernel_rfl) rfl #[.string (a0.extract ((t131.size : Int) : Int).toNat a0.size), .string (⟨#[39]⟩ : ByteArray)] rfl (by (try simp only [lm_, lq_, lx_]); first | done | rfl | (simp only [ld_, lt_]; rfl) | ((conv => rhs; simp); rfl)) ?_; (with_reducible refine (strings_Count.calls (a0.extract ((t131.size : Int) : Int).toNat a0.size) (⟨#[39]⟩ : ByteArray) t132 _ ?side1 A5.out).mono ?_); (case side1 => first | (with_reducible exact hE) | exact sd_ (LaidE.below hE.out (bb_ HB.out (e_ GE130 e0_)))); rintro e w' ⟨rfl, ⟨nd, rfl⟩⟩; refine ⟨_, rfl, ?_⟩; (repeat (rw [drewN_self w68]; generalize hq_ : World.drewN w68 _ = w68; have n0_ : Aside0 (w68.heap[gb130]? = some (.cells #[.int .i64 0, .int .i64 0, .int .i64 0] 23 (0, 0))) := ⟨by rw [← hq_]; exact (kk_ BK130.out)⟩; have n1_ : Aside0 (Below w.heap.size w w68) := ⟨by rw [← hq_]; exact (bb_ HB.out (e_ GE130 e0_))⟩; clear BK130 HB hq_; have BK130 := n0_; have HB := n1_; clear n0_ n1_))) | ((with_reducible refine gate_callee (f := 32) rfl ?_); refine goesL_ (some 17) rfl rfl Tryd.func32 (by kernel_rfl) rfl #[.string (a0.extract ((t131.size : Int) : Int).toNat a0.size), .string (⟨#[44]⟩ : ByteArray)] rfl (by (try simp only [lm_, lq_, lx_]); first | done | rfl | (simp only [ld_, lt_]; rfl) | ((conv => rhs; simp); rfl)) ?_; (with_reducible refine (strings_Count.calls (a0.extract ((t131.size : Int) : Int).toNat a0.size) (⟨#[44]⟩ : ByteArray) t133 _ ?side1 A6.out).mono ?_); (case side1 => first | (with_reducible exact hE) | exact sd_ (LaidE.below hE.out (bb_ HB.out (e_ GE130 e0_)))); rintro e w' ⟨rfl, ⟨nd, rfl⟩⟩; refine ⟨_, rfl, ?_⟩; (repeat (rw [drewN_self w68]; generalize hq_ : World.drewN w68 _ = w68; have n0_ : Aside0 (w68.heap[gb130]? = some (.cells #[.int .i64 0, .int .i64 0, .int .i64 0] 23 (0, 0))) := ⟨by rw [← hq_]; exact (kk_ BK130.out)⟩; have n1_ : Aside0 (Below w.heap.size w w68) := ⟨by rw [← hq_]; exact (bb_ HB.out (e_ GE130 e0_))⟩; clear BK130 HB hq_; have BK130 := n0_; have HB := n1_; clear n0_ n1_))) | ((with_reducible refine gate_dst (N := 6) rfl ?_); refine box_event ?hg (N := 6) ?hd (cs := #[.int .i64 0, .int .i64 0, .int .i64 0]) (t := 23) ?hr ?_; (case hd => rfl); (case hg => rfl); (case hr => first | (go_simp; done) | (go_simp; rfl)); intro gb134 hg w69 hbox hb; have BK134 := sd_ hbox; have GW134 := gw_ HB (e_ GE130 e0_) hg; have GE134 := GW134; have NB130_134 := nb_ BK130 hg; have NB134_130 := sy_ NB130_134; replace BK130 := kb_ BK130 hb; replace HB := hb_ HB (e_ GE130 e0_) hb; clear hb hbox hg; have hnb70 := NB134_130.out; have hnc70 := NB130_134.out; have hcz71_0 : w69.cell? ⟨gb134, 0, none⟩ = some (.int .i64 0) := (kc_ BK134.out 0).trans rfl; have hcz71_1 : w69.cell? ⟨gb134, 1, none⟩ = some (.int .i64 0) := (kc_ BK134.out 1).trans rfl; have hcz71_2 : w69.cell? ⟨gb134, 2, none⟩ = some (.int .i64 0) := (kc_ BK134.out 2).trans rfl; have hfz71_0 := kf_ BK134.out 0; have hfz71_1 := kf_ BK134.out 1; have hfz71_2 := kf_ BK134.out 2; have p33 : 0 ≤ (0 : Int) := (by omega); have q33 : 0 < t131.size := (by have : (0 : Int) < (t131.size : Int) := od_ (by first | (with_reducible assumption) | assumption); omega); have hx33 : ∀ h : 0 < t131.size, ((t131[0]'h).toNat : Int) = bt t131 0 := bt_at t131 0; clear p33; have qi33 : (0 < (t131.size : Int)) = True := eq_true (od_ (by first | (with_reducible assumption) | assumption)); replace q33 := eq_true q33) | ((with_reducible refine gate_callee (f := 33) rfl ?_); refine goesL_ (some 24) rfl rfl Tryd.func33 (by kernel_rfl) rfl #[.string (⟨#[99, 100, 101, 102, 103, 97, 98]⟩ : ByteArray), .int .u8 (bt t131 0)] rfl (by (try simp only [lm_, lq_, lx_]); first | done | rfl | (simp only [ld_, lt_]; rfl) | ((conv => rhs; simp); rfl)) ?_; (with_reducible refine (strings_IndexByte.calls (⟨#[99, 100, 101, 102, 103, 97, 98]⟩ : ByteArray) (bt t131 0) t136 _ A34.out).mono ?_); rintro e w72 ⟨rfl, hb⟩; refine ⟨_, rfl, ?_⟩; replace BK130 := sd_ (blk_below (g := gb130) (o := .cells #[.int .i64 0, .int .i64 0, .int .i64 0] 23 (0, 0)) (by (with_reducible repeat first | apply kn_ | apply kd_ | apply ka_); refine blk_far ?_ NB130_134.out _; (with_reducible repeat first | apply kn_ | apply kd_ | apply ka_); refine blk_far ?_ NB130_134.out _; (with_reducible repeat first | apply kn_ | apply kd_ | apply ka_); refine blk_far ?_ NB130_134.out _; (with_reducible repeat first | apply kn_ | apply kd_ | apply ka_); exact BK130.out) hb); replace BK134 := sd_ (blk_below (g := gb134) (o := .cells #[.int .i64 0, .int .i64 0, .int .i64 (wrap64 ((wrap64 (3 + t132)) - t133))] 23 (0, 0)) (by (with_reducible repeat first | apply kn_ | apply kd_ | apply ka_); refine blk_put (cs := #[.int .i64 0, .int .i64 0, .int .i64 0]) ?_ 2 _ rfl; (with_reducible repeat first | apply kn_ | apply kd_ | apply ka_); refine blk_put (cs := #[.int .i64 0, .int .i64 0, .int .i64 0]) ?_ 1 _ rfl; (with_reducible repeat first | apply kn_ | apply kd_ | apply ka_); refine blk_put (cs := #[.int .i64 0, .int .i64 0, .int .i64 0]) ?_ 0 _ rfl; (with_reducible repeat first | apply kn_ | apply kd_ | apply ka_); exact BK134.out) hb); replace HB := hb_ HB (e_ GE130 (e_ GE134 e0_)) hb; (try clear hb); (try clear hb2); (try clear hk); (try clear hi); have hcz73_0 : w72.cell? ⟨gb134, 0, none⟩ = some (.int .i64 0) := (kc_ BK134.out 0).trans rfl; have hcz73_1 : w72.cell? ⟨gb134, 1, none⟩ = some (.int .i64 0) := (kc_ BK134.out 1).trans rfl; have hcz73_2 : w72.cell? ⟨gb134, 2, none⟩ = some (.int .i64 (wrap64 ((wrap64 (3 + t132)) - t133))) := (kc_ BK134.out 2).trans rfl; have hfz73_0 := kf_ BK134.out 0; have hfz73_1 := kf_ BK134.out 1; have hfz73_2 := kf_ BK134.out 2))
        have n0_ : Aside0 ((w72.setCell ⟨gb134, 0, none⟩ (.int .i64 t136)).heap[gb130]? = some (.cells #[.int .i64 0, .int .i64 0, .int .i64 0] 23 (0, 0))) := ⟨by (with_reducible repeat first | apply kn_ | apply kd_ | apply ka_); refine blk_far ?_ NB130_134.out _; (with_reducible repeat first | apply kn_ | apply kd_ | apply ka_); exact BK130.out⟩
        have n1_ : Aside0 ((w72.setCell ⟨gb134, 0, none⟩ (.int .i64 t136)).heap[gb134]? = some (.cells #[.int .i64 t136, .int .i64 0, .int .i64 (wrap64 ((wrap64 (3 + t132)) - t133))] 23 (0, 0))) := ⟨by (with_reducible repeat first | apply kn_ | apply kd_ | apply ka_); refine blk_put (cs := #[.int .i64 0, .int .i64 0, .int .i64 (wrap64 ((wrap64 (3 + t132)) - t133))]) ?_ 0 _ rfl; (with_reducible repeat first | apply kn_ | apply kd_ | apply ka_); exact BK134.out⟩
        have n2_ : Aside0 (Below w.heap.size w (w72.setCell ⟨gb134, 0, none⟩ (.int .i64 t136))) := ⟨by repeat (first | (with_reducible first | exact HB.out | apply ba_ | apply pd_ | apply d1_ | refine bs_ ?_ GE130.out | refine bs_ ?_ GE134.out) | exact HB.out)⟩
        (try clear BK130)
        (try clear BK134)
        (try clear HB)
        generalize (w72.setCell ⟨gb134, 0, none⟩ (.int .i64 t136)) = w74 at n0_ n1_ n2_ ⊢
        have BK130 := n0_
        have BK134 := n1_
        have HB := n2_
        clear n0_ n1_ n2_
        replace BK130 := sd_ (kd_ BK130.out)
        replace BK134 := sd_ (kd_ BK134.out)
        replace HB := sd_ (d1_ HB.out)
        refine start_ (n := 9) (S := fun w' => True) (ds := []) (Array.replicate 9 false) (by kernel_rfl) rfl rfl trivial (fun hHeld => ?_); refine with_tabW pitch_Parse.tab6 pitch_Parse.bits6 (fun HT_ HW_ => ?_)
        generalize w74.drew = w75 at BK130 BK134 HB hHeld ⊢
        refine pu_ (v := ?_) (a' := ?_) 0 26 (bz 9 1) rfl rfl HT_ (by kernel_rfl) (fun _ _ _ h => h) (by rfl) ?_ ?_ ?_
        rotate_left; (intro w'; go_simp; with_reducible rfl); rotate_left; (simp only [Act.put, ls_, lz_, lc_, i64_w, i32_w]; rfl)
        refine pu_ (v := ?_) (a' := ?_) 1 27 (bz 9 3) rfl rfl HT_ (by kernel_rfl) (fun _ _ _ h => h) (by rfl) ?_ ?_ ?_
        rotate_left; (intro w'; go_simp; with_reducible rfl); rotate_left; (simp only [Act.put, ls_, lz_, lc_, i64_w, i32_w]; rfl)
        refine pu_ (v := ?_) (a' := ?_) 3 29 (bz 9 11) rfl rfl HT_ (by kernel_rfl) (fun _ _ _ h => h) (by rfl) ?_ ?_ ?_
        rotate_left; (intro w'; go_simp; with_reducible rfl); rotate_left; (simp only [Act.put, ls_, lz_, lc_, i64_w, i32_w]; rfl)
        refine pu_ (v := ?_) (a' := ?_) 4 30 (bz 9 27) rfl rfl HT_ (by kernel_rfl) (fun _ _ _ h => h) (by rfl) ?_ ?_ ?_
        rotate_left; (intro w'; go_simp; with_reducible rfl); rotate_left; (simp only [Act.put, ls_, lz_, lc_, i64_w, i32_w]; rfl)
        refine on_ (N := some 28) 2 (bz 9 31) rfl rfl HT_ (by kernel_rfl) (by decide) (fun K hK => ?_)
        refine goes_ Tryd.func32 (by kernel_rfl) rfl #[.string (t131.extract 1 t131.size), .string (⟨#[105, 115]⟩ : ByteArray)] (by rfl) rfl rfl (by (try simp only [lm_, lq_, lx_]); first | done | rfl | (simp only [ld_, lt_]; rfl) | ((conv => rhs; simp); rfl)) ?_
        with_reducible refine (strings_Count.calls (t131.extract 1 t131.size) (⟨#[105, 115]⟩ : ByteArray) t137 _ ?side1 A36.out).mono ?_
        (case side1 => first | (with_reducible exact hE) | exact sd_ (LaidE.below hE.out (bb_ HB.out (e_ GE130 (e_ GE134 e0_)))))
        rintro e w' ⟨rfl, ⟨nd, rfl⟩⟩
        refine ⟨_, rfl, ?_⟩
        refine hK.out _ _ trivial (fun hHeld => ?_)
        clear hK K
        refine norm_ (a' := ?_) ?_ ?_
        rotate_left
        ·show Act.put _ (some 28) _ = _
         simp only [Act.put, ls_, lz_, lc_, i64_w, i32_w]
         rfl
        refine on_ (N := some 31) 5 (bz 9 63) rfl rfl HT_ (by kernel_rfl) (by decide) (fun K hK => ?_)
        refine goes_ Tryd.func32 (by kernel_rfl) rfl #[.string (t131.extract 1 t131.size), .string (⟨#[101, 115]⟩ : ByteArray)] (by rfl) rfl rfl (by (try simp only [lm_, lq_, lx_]); first | done | rfl | (simp only [ld_, lt_]; rfl) | ((conv => rhs; simp); rfl)) ?_
        with_reducible refine (strings_Count.calls (t131.extract 1 t131.size) (⟨#[101, 115]⟩ : ByteArray) t138 _ ?side1 A38.out).mono ?_
        (case side1 => first | (with_reducible exact hE) | exact sd_ (LaidE.below hE.out (bb_ HB.out (e_ GE130 (e_ GE134 e0_)))))
        rintro e w' ⟨rfl, ⟨nd, rfl⟩⟩
        refine ⟨_, rfl, ?_⟩
        refine hK.out _ _ trivial (fun hHeld => ?_)
        clear hK K
        refine norm_ (a' := ?_) ?_ ?_
        rotate_left
        ·show Act.put _ (some 31) _ = _
         simp only [Act.put, ls_, lz_, lc_, i64_w, i32_w]
         rfl
        refine pu_ (v := ?_) (a' := ?_) 6 32 (bz 9 127) rfl rfl HT_ (by kernel_rfl) (fun _ _ _ h => h) (by rfl) ?_ ?_ ?_
        rotate_left; (intro w'; go_simp; with_reducible rfl); rotate_left; (simp only [Act.put, ls_, lz_, lc_, i64_w, i32_w]; rfl)
        refine pu_ (v := ?_) (a' := ?_) 7 33 (bz 9 255) rfl rfl HT_ (by kernel_rfl) (fun _ _ _ h => h) (by rfl) ?_ ?_ ?_
        rotate_left; (intro w'; go_simp; with_reducible rfl); rotate_left; (simp only [Act.put, ls_, lz_, lc_, i64_w, i32_w]; rfl)
        refine on_ (N := none) 8 (bz 9 511) rfl rfl HT_ (by kernel_rfl) (by decide) (fun K hK => ?_)
        have hs76 : w75.cell? ⟨gb134, 1, none⟩ = some (.int .i64 0) := (kc_ BK134.out 1).trans rfl
        have hfs76 := kf_ BK134.out 1
        have hns76_0 := NB130_134.out
        have hms76_0 := NB134_130.out
        refine skip_ (w1 := ?_) (by rfl) rfl ?_ ?_
        rotate_left
        ·go_simp
         rfl
        refine hK.out _ _ trivial (fun hHeld => ?_)
        clear hK K
        refine done_ (done_of HT_.out (by kernel_rfl)) ?_
        have hcz77_0 : w75.cell? ⟨gb134, 0, none⟩ = some (.int .i64 t136) := (kc_ BK134.out 0).trans rfl
        have hcz77_1 : w75.cell? ⟨gb134, 1, none⟩ = some (.int .i64 0) := (kc_ BK134.out 1).trans rfl
        have hcz77_2 : w75.cell? ⟨gb134, 2, none⟩ = some (.int .i64 (wrap64 ((wrap64 (3 + t132)) - t133))) := (kc_ BK134.out 2).trans rfl
        have hfz77_0 := kf_ BK134.out 0
        have hfz77_1 := kf_ BK134.out 1
        have hfz77_2 := kf_ BK134.out 2
        try go_wp2_with (first | (go_at_call 20; (with_reducible refine (pitch_Name.calls t136 (wrap64 (t137 - t138)) (wrap64 ((wrap64 (3 + t132)) - t133)) t139 _ A51.out).mono ?_); rintro e w78 ⟨rfl, hb⟩; replace BK130 := sd_ (blk_below (g := gb130) (o := .cells #[.int .i64 0, .int .i64 0, .int .i64 0] 23 (0, 0)) (by (with_reducible repeat first | apply kn_ | apply kd_ | apply ka_); refine blk_far ?_ NB130_134.out _; (with_reducible repeat first | apply kn_ | apply kd_ | apply ka_); exact BK130.out) hb); replace BK134 := sd_ (blk_below (g := gb134) (o := .cells #[.int .i64 t136, .int .i64 (wrap64 (t137 - t138)), .int .i64 (wrap64 ((wrap64 (3 + t132)) - t133))] 23 (0, 0)) (by (with_reducible repeat first | apply kn_ | apply kd_ | apply ka_); refine blk_put (cs := #[.int .i64 t136, .int .i64 0, .int .i64 (wrap64 ((wrap64 (3 + t132)) - t133))]) ?_ 1 _ rfl; (with_reducible repeat first | apply kn_ | apply kd_ | apply ka_); exact BK134.out) hb); replace HB := hb_ HB (e_ GE130 (e_ GE134 e0_)) hb; (try clear hb); (try clear hb2); (try clear hk); (try clear hi); have hcz79_0 : w78.cell? ⟨gb130, 0, none⟩ = some (.int .i64 0) := (kc_ BK130.out 0).trans rfl; have hcz79_1 : w78.cell? ⟨gb130, 1, none⟩ = some (.int .i64 0) := (kc_ BK130.out 1).trans rfl; have hcz79_2 : w78.cell? ⟨gb130, 2, none⟩ = some (.int .i64 0) := (kc_ BK130.out 2).trans rfl; have hfz79_0 := kf_ BK130.out 0; have hfz79_1 := kf_ BK130.out 1; have hfz79_2 := kf_ BK130.out 2))
        refine bodyPost_ret (results_ct rfl _ _ gb130 23 #[.int .i64 0, .int .i64 0, .int .i64 0] (0, 0) _ rfl (by (with_reducible repeat first | apply kn_ | apply kd_ | apply ka_); refine blk_put (cs := #[.int .i64 0, .int .i64 0, .int .i64 0]) ?_ 2 _ rfl; (with_reducible repeat first | apply kn_ | apply kd_ | apply ka_); refine blk_put (cs := #[.int .i64 0, .int .i64 0, .int .i64 0]) ?_ 1 _ rfl; (with_reducible repeat first | apply kn_ | apply kd_ | apply ka_); refine blk_put (cs := #[.int .i64 0, .int .i64 0, .int .i64 0]) ?_ 0 _ rfl; (with_reducible repeat first | apply kn_ | apply kd_ | apply ka_); exact BK130.out) Tryd.underlying23 rfl (by kernel_rfl)) rfl ?_
        exact ⟨by first | rfl | (simp [errW_none, errW_some] <;> rfl) | (simp [*, errW_none, errW_some] <;> rfl), by repeat (first | (with_reducible first | exact HB.out | apply ba_ | apply pd_ | apply d1_ | refine bs_ ?_ GE130.out | refine bs_ ?_ GE134.out) | exact HB.out)⟩
     ·rw [if_neg c35] at H
      exact absurd H (by simp)
    ·rw [if_neg c32] at H
     exact absurd H (by simp)
  ·rw [if_neg c4] at H
   exact absurd H (by simp)
 ·rw [if_neg c3] at H
  exact absurd H (by simp)

/-! ### pitch_Tone: function 16 -/
def toneA (s : Int) : Int := if s = 0 then 0 else if s = 1 then 2 else if s = 2 then 4 else if s = 3 then 5 else if s = 4 then 7 else if s = 5 then 9 else 11
def pitch_Tone.f (a0_0 : Int) (a0_1 : Int) (a0_2 : Int) : Option Int := (pitch_Check.f a0_0 a0_1 a0_2).bind fun t => if t = true then (if 0 ≤ a0_0 ∧ a0_0 ≤ 6 then some (wrap64 ((wrap64 ((wrap64 (12 * a0_2)) + toneA a0_0)) + a0_1)) else none) else some (-1)
set_option maxHeartbeats 4000000 in
set_option maxRecDepth 100000 in
theorem tone_no (a0 a1 a2 : Int) (w : World) (hc : pitch_Check.f a0 a1 a2 = some false) :
  Calls Tryd.prog 16 #[.agg #[.int .i64 a0, .int .i64 a1, .int .i64 a2]] w fun e w' => e = .returned (.int .i64 (-1)) ∧ Below w.heap.size w w' := by
 have HC := sd_ hc
 clear hc
 go_enter Tryd.func16, Tryd.ntmps16
 go_wp2_with (first | ((with_reducible refine gate_dst (N := 1) rfl ?_); refine box_event ?hg (N := 1) ?hd (cs := #[.int .i64 a0, .int .i64 a1, .int .i64 a2]) (t := 23) ?hr ?_; (case hd => rfl); (case hg => rfl); (case hr => first | (go_simp; done) | (go_simp; rfl)); intro g1 hg w2 hbox hb; have BK := sd_ hbox; have HB := sd_ hb; clear hb hbox hg; have hx0 : w2.cell? ⟨g1, 0, none⟩ = some (.int .i64 a0) := (kc_ BK.out 0).trans rfl; have hx1 : w2.cell? ⟨g1, 1, none⟩ = some (.int .i64 a1) := (kc_ BK.out 1).trans rfl; have hx2 : w2.cell? ⟨g1, 2, none⟩ = some (.int .i64 a2) := (kc_ BK.out 2).trans rfl) | (go_at_call 14; refine (pitch_Check.calls a0 a1 a2 false _ HC.out).mono ?_; rintro e w3 ⟨rfl, hb⟩; have HB3 := sd_ (bt_ HB.out hb); clear hb))
 go_ret
 exact ⟨rfl, HB3.out⟩
set_option maxHeartbeats 4000000 in
set_option maxRecDepth 100000 in
theorem tone_yes (a0 a1 a2 : Int) (w : World) (h0 : 0 ≤ a0) (h6 : a0 ≤ 6) (hc : pitch_Check.f a0 a1 a2 = some true) :
  Calls Tryd.prog 16 #[.agg #[.int .i64 a0, .int .i64 a1, .int .i64 a2]] w fun e w' => e = .returned (.int .i64 (wrap64 ((wrap64 ((wrap64 (12 * a2)) + toneA a0)) + a1))) ∧ Below w.heap.size w w' := by
 have HC := sd_ hc
 clear hc
 go_enter Tryd.func16, Tryd.ntmps16
 go_upto_region 4 with (first | ((with_reducible refine gate_dst (N := 1) rfl ?_); refine box_event ?hg (N := 1) ?hd (cs := #[.int .i64 a0, .int .i64 a1, .int .i64 a2]) (t := 23) ?hr ?_; (case hd => rfl); (case hg => rfl); (case hr => first | (go_simp; done) | (go_simp; rfl)); intro g1 hg w2 hbox hb; have BK := sd_ hbox; have HB := sd_ hb; have HG := sd_ hg; clear hb hbox hg; have hx0 : w2.cell? ⟨g1, 0, none⟩ = some (.int .i64 a0) := (kc_ BK.out 0).trans rfl; have hx1 : w2.cell? ⟨g1, 1, none⟩ = some (.int .i64 a1) := (kc_ BK.out 1).trans rfl; have hx2 : w2.cell? ⟨g1, 2, none⟩ = some (.int .i64 a2) := (kc_ BK.out 2).trans rfl) | (go_at_call 14; refine (pitch_Check.calls a0 a1 a2 true _ HC.out).mono ?_; rintro e w3 ⟨rfl, hb⟩; have HB3 := sd_ (bt_ HB.out hb); have BK3 := sd_ (blk_below BK.out hb); clear hb hx0 hx1 hx2))
 obtain ⟨W, hW⟩ : ∃ W, W = w3.alloc (Obj.cells #[Value.int .i64 0, Value.int .i64 2, Value.int .i64 4, Value.int .i64 5, Value.int .i64 7, Value.int .i64 9, Value.int .i64 11] 59) := ⟨_, rfl⟩
 obtain ⟨g3, hg3⟩ : ∃ g, g = w3.heap.size := ⟨_, rfl⟩
 have BA : W.heap[g3]? = some (.cells #[Value.int .i64 0, Value.int .i64 2, Value.int .i64 4, Value.int .i64 5, Value.int .i64 7, Value.int .i64 9, Value.int .i64 11] 59 (0, 0)) := by rw [hW, hg3]; exact blk_new _ _
 have B1 : W.heap[g1]? = some (.cells #[.int .i64 a0, .int .i64 a1, .int .i64 a2] 23 (0, 0)) := by rw [hW]; exact ka_ BK3.out _
 have HB4 := sd_ (show Below w.heap.size w W by rw [hW]; exact ba_ HB3.out _)
 rw [← hW, ← hg3]
 clear hW hg3 HB3 BK3
 have hy0 : W.cell? ⟨g1, 0, none⟩ = some (.int .i64 a0) := (kc_ B1 0).trans rfl
 have hy1 : W.cell? ⟨g1, 1, none⟩ = some (.int .i64 a1) := (kc_ B1 1).trans rfl
 have hy2 : W.cell? ⟨g1, 2, none⟩ = some (.int .i64 a2) := (kc_ B1 2).trans rfl
 have c0 : a0 = 0 ∨ a0 = 1 ∨ a0 = 2 ∨ a0 = 3 ∨ a0 = 4 ∨ a0 = 5 ∨ a0 = 6 := by omega
 clear h0 h6 HC
 have hz0 : W.cell? ⟨g3, 0, none⟩ = some (.int .i64 0) := (kc_ BA 0).trans rfl
 have hz1 : W.cell? ⟨g3, 1, none⟩ = some (.int .i64 2) := (kc_ BA 1).trans rfl
 have hz2 : W.cell? ⟨g3, 2, none⟩ = some (.int .i64 4) := (kc_ BA 2).trans rfl
 have hz3 : W.cell? ⟨g3, 3, none⟩ = some (.int .i64 5) := (kc_ BA 3).trans rfl
 have hz4 : W.cell? ⟨g3, 4, none⟩ = some (.int .i64 7) := (kc_ BA 4).trans rfl
 have hz5 : W.cell? ⟨g3, 5, none⟩ = some (.int .i64 9) := (kc_ BA 5).trans rfl
 have hz6 : W.cell? ⟨g3, 6, none⟩ = some (.int .i64 11) := (kc_ BA 6).trans rfl
 clear B1 BA
 rcases c0 with rfl | rfl | rfl | rfl | rfl | rfl | rfl
 all_goals (go_region; all_goals (go_wp2; go_ret; exact ⟨by simp [toneA], by repeat (first | exact HB4.out | apply pd_ | apply d1_)⟩))
theorem pitch_Tone.calls (a0_0 : Int) (a0_1 : Int) (a0_2 : Int) (r : Int) (w : World) (h : pitch_Tone.f a0_0 a0_1 a0_2 = some r) :
  Calls Tryd.prog 16 #[.agg #[.int .i64 a0_0, .int .i64 a0_1, .int .i64 a0_2]] w fun e w' => e = .returned (.int .i64 r) ∧ Below w.heap.size w w' := by
 unfold pitch_Tone.f at h
 cases hc : pitch_Check.f a0_0 a0_1 a0_2 with
 | none => rw [hc] at h; exact absurd h (by simp)
 | some b =>
  rw [hc, Option.bind_some] at h
  cases b with
  | false =>
   rw [if_neg (by simp)] at h
   obtain rfl := Option.some.inj h
   exact tone_no _ _ _ w hc
  | true =>
   rw [if_pos rfl] at h
   split at h
   ·rename_i q
    obtain rfl := Option.some.inj h
    exact tone_yes _ _ _ w q.1 q.2 hc
   ·exact absurd h (by simp)

/-! ### pitch_Near: function 22 -/
set_option maxHeartbeats 8000000 in
set_option maxRecDepth 100000 in
theorem near_no1 (a0_0 a0_1 a0_2 a1 a2 a3 : Int) (w : World) (A8 : Aside0 (pitch_Check.f a0_0 a0_1 a0_2 = some false)) :
  Calls Tryd.prog 22 #[.agg #[.int .i64 a0_0, .int .i64 a0_1, .int .i64 a0_2], .int .i64 a1, .int .i64 a2, .int .i64 a3] w fun e w' =>  e = .returned (.tuple #[.agg #[.int .i64 0, .int .i64 0, .int .i64 0], .int .i64 2]) ∧ Below w.heap.size w w' := by
 have hu23 := Tryd.underlying23
 have HB := sd_ (Below.refl w.heap.size w)
 go_enter Tryd.func22, Tryd.ntmps22
 go_upto_region 1 with (first | ((with_reducible refine gate_dst (N := 4) rfl ?_); refine box_event ?hg (N := 4) ?hd (cs := #[.int .i64 a0_0, .int .i64 a0_1, .int .i64 a0_2]) (t := 23) ?hr ?_; (case hd => rfl); (case hg => rfl); (case hr => first | (go_simp; done) | (go_simp; rfl)); intro gb140 hg w6 hbox hb; have BK140 := sd_ hbox; have GW140 := gw_ HB e0_ hg; have GE140 := GW140; replace HB := hb_ HB e0_ hb; clear hb hbox hg) | ((with_reducible refine gate_dst (N := 8) rfl ?_); refine box_event ?hg (N := 8) ?hd (cs := #[.int .i64 0, .int .i64 0, .int .i64 0]) (t := 23) ?hr ?_; (case hd => rfl); (case hg => rfl); (case hr => first | (go_simp; done) | (go_simp; rfl)); intro gb141 hg w7 hbox hb; have BK141 := sd_ hbox; have GW141 := gw_ HB (e_ GE140 e0_) hg; have GE141 := GW141; have NB140_141 := nb_ BK140 hg; have NB141_140 := sy_ NB140_141; replace BK140 := kb_ BK140 hb; replace HB := hb_ HB (e_ GE140 e0_) hb; clear hb hbox hg))
 (try simp only [Act.put, ls_, lz_, lc_])
 have hnb15 := NB140_141.out
 have hnc15 := NB141_140.out
 have hcz16_0 : w7.cell? ⟨gb140, 0, none⟩ = some (.int .i64 a0_0) := (kc_ BK140.out 0).trans rfl
 have hcz16_1 : w7.cell? ⟨gb140, 1, none⟩ = some (.int .i64 a0_1) := (kc_ BK140.out 1).trans rfl
 have hcz16_2 : w7.cell? ⟨gb140, 2, none⟩ = some (.int .i64 a0_2) := (kc_ BK140.out 2).trans rfl
 have hfz16_0 := kf_ BK140.out 0
 have hfz16_1 := kf_ BK140.out 1
 have hfz16_2 := kf_ BK140.out 2
 go_wp2_with (first | ((with_reducible refine gate_callee (f := 14) rfl ?_); refine goesL_ (some 14) rfl rfl Tryd.func14 (by kernel_rfl) rfl #[.agg #[.int .i64 a0_0, .int .i64 a0_1, .int .i64 a0_2]] rfl (by (try simp only [lm_, lq_, lx_]); first | done | rfl | (simp only [ld_, lt_]; rfl)) ?_; (with_reducible refine (pitch_Check.calls a0_0 a0_1 a0_2 false _ A8.out).mono ?_); rintro e w17 ⟨rfl, hb⟩; refine ⟨_, rfl, ?_⟩; replace BK140 := kb_ BK140 hb; replace BK141 := kb_ BK141 hb; replace HB := hb_ HB (e_ GE140 (e_ GE141 e0_)) hb; (try clear hb); have hcz29_0 : w17.cell? ⟨gb141, 0, none⟩ = some (.int .i64 0) := (kc_ BK141.out 0).trans rfl; have hcz29_1 : w17.cell? ⟨gb141, 1, none⟩ = some (.int .i64 0) := (kc_ BK141.out 1).trans rfl; have hcz29_2 : w17.cell? ⟨gb141, 2, none⟩ = some (.int .i64 0) := (kc_ BK141.out 2).trans rfl; have hfz29_0 := kf_ BK141.out 0; have hfz29_1 := kf_ BK141.out 1; have hfz29_2 := kf_ BK141.out 2))
 have hcz29_0 := True.intro
 refine bodyPost_ret (results_ct rfl _ _ gb141 23 #[.int .i64 0, .int .i64 0, .int .i64 0] (0, 0) _ rfl (by (with_reducible repeat first | apply kn_ | apply kd_ | apply ka_); refine blk_put (cs := #[.int .i64 0, .int .i64 0, .int .i64 0]) ?_ 2 _ rfl; (with_reducible repeat first | apply kn_ | apply kd_ | apply ka_); refine blk_put (cs := #[.int .i64 0, .int .i64 0, .int .i64 0]) ?_ 1 _ rfl; (with_reducible repeat first | apply kn_ | apply kd_ | apply ka_); refine blk_put (cs := #[.int .i64 0, .int .i64 0, .int .i64 0]) ?_ 0 _ rfl; (with_reducible repeat first | apply kn_ | apply kd_ | apply ka_); exact BK141.out) Tryd.underlying23 rfl (by kernel_rfl)) rfl ?_
 exact ⟨rfl, by repeat (first | (with_reducible first | exact HB.out | apply ba_ | apply pd_ | apply d1_ | refine bs_ ?_ GE140.out | refine bs_ ?_ GE141.out) | exact HB.out)⟩
set_option maxHeartbeats 8000000 in
set_option maxRecDepth 100000 in
theorem near_no2 (a0_0 a0_1 a0_2 a1 a2 a3 : Int) (w : World) (A8 : Aside0 (pitch_Check.f a0_0 a0_1 a0_2 = some true)) (A10 : Aside0 (pitch_within.f a1 0 6 = some false)) :
  Calls Tryd.prog 22 #[.agg #[.int .i64 a0_0, .int .i64 a0_1, .int .i64 a0_2], .int .i64 a1, .int .i64 a2, .int .i64 a3] w fun e w' =>  e = .returned (.tuple #[.agg #[.int .i64 0, .int .i64 0, .int .i64 0], .int .i64 2]) ∧ Below w.heap.size w w' := by
 have hu23 := Tryd.underlying23
 have HB := sd_ (Below.refl w.heap.size w)
 go_enter Tryd.func22, Tryd.ntmps22
 go_upto_region 1 with (first | ((with_reducible refine gate_dst (N := 4) rfl ?_); refine box_event ?hg (N := 4) ?hd (cs := #[.int .i64 a0_0, .int .i64 a0_1, .int .i64 a0_2]) (t := 23) ?hr ?_; (case hd => rfl); (case hg => rfl); (case hr => first | (go_simp; done) | (go_simp; rfl)); intro gb140 hg w6 hbox hb; have BK140 := sd_ hbox; have GW140 := gw_ HB e0_ hg; have GE140 := GW140; replace HB := hb_ HB e0_ hb; clear hb hbox hg) | ((with_reducible refine gate_dst (N := 8) rfl ?_); refine box_event ?hg (N := 8) ?hd (cs := #[.int .i64 0, .int .i64 0, .int .i64 0]) (t := 23) ?hr ?_; (case hd => rfl); (case hg => rfl); (case hr => first | (go_simp; done) | (go_simp; rfl)); intro gb141 hg w7 hbox hb; have BK141 := sd_ hbox; have GW141 := gw_ HB (e_ GE140 e0_) hg; have GE141 := GW141; have NB140_141 := nb_ BK140 hg; have NB141_140 := sy_ NB140_141; replace BK140 := kb_ BK140 hb; replace HB := hb_ HB (e_ GE140 e0_) hb; clear hb hbox hg))
 (try simp only [Act.put, ls_, lz_, lc_])
 have hnb15 := NB140_141.out
 have hnc15 := NB141_140.out
 have hcz16_0 : w7.cell? ⟨gb140, 0, none⟩ = some (.int .i64 a0_0) := (kc_ BK140.out 0).trans rfl
 have hcz16_1 : w7.cell? ⟨gb140, 1, none⟩ = some (.int .i64 a0_1) := (kc_ BK140.out 1).trans rfl
 have hcz16_2 : w7.cell? ⟨gb140, 2, none⟩ = some (.int .i64 a0_2) := (kc_ BK140.out 2).trans rfl
 have hfz16_0 := kf_ BK140.out 0
 have hfz16_1 := kf_ BK140.out 1
 have hfz16_2 := kf_ BK140.out 2
 go_wp2_with (first | ((with_reducible refine gate_callee (f := 14) rfl ?_); refine goesL_ (some 14) rfl rfl Tryd.func14 (by kernel_rfl) rfl #[.agg #[.int .i64 a0_0, .int .i64 a0_1, .int .i64 a0_2]] rfl (by (try simp only [lm_, lq_, lx_]); first | done | rfl | (simp only [ld_, lt_]; rfl)) ?_; (with_reducible refine (pitch_Check.calls a0_0 a0_1 a0_2 true _ A8.out).mono ?_); rintro e w17 ⟨rfl, hb⟩; refine ⟨_, rfl, ?_⟩; replace BK140 := kb_ BK140 hb; replace BK141 := kb_ BK141 hb; replace HB := hb_ HB (e_ GE140 (e_ GE141 e0_)) hb; (try clear hb); have hcz29_0 : w17.cell? ⟨gb141, 0, none⟩ = some (.int .i64 0) := (kc_ BK141.out 0).trans rfl; have hcz29_1 : w17.cell? ⟨gb141, 1, none⟩ = some (.int .i64 0) := (kc_ BK141.out 1).trans rfl; have hcz29_2 : w17.cell? ⟨gb141, 2, none⟩ = some (.int .i64 0) := (kc_ BK141.out 2).trans rfl; have hfz29_0 := kf_ BK141.out 0; have hfz29_1 := kf_ BK141.out 1; have hfz29_2 := kf_ BK141.out 2) | (go_at_call 28; (with_reducible refine (pitch_within.calls a1 0 6 false _ A10.out).mono ?_); rintro e w' ⟨rfl, ⟨nd, rfl⟩⟩))
 have hcz29_0 := True.intro
 refine bodyPost_ret (results_ct rfl _ _ gb141 23 #[.int .i64 0, .int .i64 0, .int .i64 0] (0, 0) _ rfl (by (with_reducible repeat first | apply kn_ | apply kd_ | apply ka_); refine blk_put (cs := #[.int .i64 0, .int .i64 0, .int .i64 0]) ?_ 2 _ rfl; (with_reducible repeat first | apply kn_ | apply kd_ | apply ka_); refine blk_put (cs := #[.int .i64 0, .int .i64 0, .int .i64 0]) ?_ 1 _ rfl; (with_reducible repeat first | apply kn_ | apply kd_ | apply ka_); refine blk_put (cs := #[.int .i64 0, .int .i64 0, .int .i64 0]) ?_ 0 _ rfl; (with_reducible repeat first | apply kn_ | apply kd_ | apply ka_); exact BK141.out) Tryd.underlying23 rfl (by kernel_rfl)) rfl ?_
 exact ⟨rfl, by repeat (first | (with_reducible first | exact HB.out | apply ba_ | apply pd_ | apply d1_ | refine bs_ ?_ GE140.out | refine bs_ ?_ GE141.out) | exact HB.out)⟩
set_option maxHeartbeats 8000000 in
set_option maxRecDepth 100000 in
theorem near_no3 (a0_0 a0_1 a0_2 a1 a2 a3 : Int) (w : World) (A8 : Aside0 (pitch_Check.f a0_0 a0_1 a0_2 = some true)) (A10 : Aside0 (pitch_within.f a1 0 6 = some true)) (A12 : Aside0 (pitch_within.f a2 (-2) 2 = some false)) :
  Calls Tryd.prog 22 #[.agg #[.int .i64 a0_0, .int .i64 a0_1, .int .i64 a0_2], .int .i64 a1, .int .i64 a2, .int .i64 a3] w fun e w' =>  e = .returned (.tuple #[.agg #[.int .i64 0, .int .i64 0, .int .i64 0], .int .i64 2]) ∧ Below w.heap.size w w' := by
 have hu23 := Tryd.underlying23
 have HB := sd_ (Below.refl w.heap.size w)
 go_enter Tryd.func22, Tryd.ntmps22
 go_upto_region 1 with (first | ((with_reducible refine gate_dst (N := 4) rfl ?_); refine box_event ?hg (N := 4) ?hd (cs := #[.int .i64 a0_0, .int .i64 a0_1, .int .i64 a0_2]) (t := 23) ?hr ?_; (case hd => rfl); (case hg => rfl); (case hr => first | (go_simp; done) | (go_simp; rfl)); intro gb140 hg w6 hbox hb; have BK140 := sd_ hbox; have GW140 := gw_ HB e0_ hg; have GE140 := GW140; replace HB := hb_ HB e0_ hb; clear hb hbox hg) | ((with_reducible refine gate_dst (N := 8) rfl ?_); refine box_event ?hg (N := 8) ?hd (cs := #[.int .i64 0, .int .i64 0, .int .i64 0]) (t := 23) ?hr ?_; (case hd => rfl); (case hg => rfl); (case hr => first | (go_simp; done) | (go_simp; rfl)); intro gb141 hg w7 hbox hb; have BK141 := sd_ hbox; have GW141 := gw_ HB (e_ GE140 e0_) hg; have GE141 := GW141; have NB140_141 := nb_ BK140 hg; have NB141_140 := sy_ NB140_141; replace BK140 := kb_ BK140 hb; replace HB := hb_ HB (e_ GE140 e0_) hb; clear hb hbox hg))
 (try simp only [Act.put, ls_, lz_, lc_])
 have hnb15 := NB140_141.out
 have hnc15 := NB141_140.out
 have hcz16_0 : w7.cell? ⟨gb140, 0, none⟩ = some (.int .i64 a0_0) := (kc_ BK140.out 0).trans rfl
 have hcz16_1 : w7.cell? ⟨gb140, 1, none⟩ = some (.int .i64 a0_1) := (kc_ BK140.out 1).trans rfl
 have hcz16_2 : w7.cell? ⟨gb140, 2, none⟩ = some (.int .i64 a0_2) := (kc_ BK140.out 2).trans rfl
 have hfz16_0 := kf_ BK140.out 0
 have hfz16_1 := kf_ BK140.out 1
 have hfz16_2 := kf_ BK140.out 2
 go_wp2_with (first | ((with_reducible refine gate_callee (f := 14) rfl ?_); refine goesL_ (some 14) rfl rfl Tryd.func14 (by kernel_rfl) rfl #[.agg #[.int .i64 a0_0, .int .i64 a0_1, .int .i64 a0_2]] rfl (by (try simp only [lm_, lq_, lx_]); first | done | rfl | (simp only [ld_, lt_]; rfl)) ?_; (with_reducible refine (pitch_Check.calls a0_0 a0_1 a0_2 true _ A8.out).mono ?_); rintro e w17 ⟨rfl, hb⟩; refine ⟨_, rfl, ?_⟩; replace BK140 := kb_ BK140 hb; replace BK141 := kb_ BK141 hb; replace HB := hb_ HB (e_ GE140 (e_ GE141 e0_)) hb; (try clear hb); have hcz29_0 : w17.cell? ⟨gb141, 0, none⟩ = some (.int .i64 0) := (kc_ BK141.out 0).trans rfl; have hcz29_1 : w17.cell? ⟨gb141, 1, none⟩ = some (.int .i64 0) := (kc_ BK141.out 1).trans rfl; have hcz29_2 : w17.cell? ⟨gb141, 2, none⟩ = some (.int .i64 0) := (kc_ BK141.out 2).trans rfl; have hfz29_0 := kf_ BK141.out 0; have hfz29_1 := kf_ BK141.out 1; have hfz29_2 := kf_ BK141.out 2) | (go_at_call 28; (with_reducible refine (pitch_within.calls a1 0 6 true _ A10.out).mono ?_); rintro e w' ⟨rfl, ⟨nd, rfl⟩⟩) | (go_at_call 28; (with_reducible refine (pitch_within.calls a2 (-2) 2 false _ A12.out).mono ?_); rintro e w' ⟨rfl, ⟨nd, rfl⟩⟩))
 have hcz29_0 := True.intro
 refine bodyPost_ret (results_ct rfl _ _ gb141 23 #[.int .i64 0, .int .i64 0, .int .i64 0] (0, 0) _ rfl (by (with_reducible repeat first | apply kn_ | apply kd_ | apply ka_); refine blk_put (cs := #[.int .i64 0, .int .i64 0, .int .i64 0]) ?_ 2 _ rfl; (with_reducible repeat first | apply kn_ | apply kd_ | apply ka_); refine blk_put (cs := #[.int .i64 0, .int .i64 0, .int .i64 0]) ?_ 1 _ rfl; (with_reducible repeat first | apply kn_ | apply kd_ | apply ka_); refine blk_put (cs := #[.int .i64 0, .int .i64 0, .int .i64 0]) ?_ 0 _ rfl; (with_reducible repeat first | apply kn_ | apply kd_ | apply ka_); exact BK141.out) Tryd.underlying23 rfl (by kernel_rfl)) rfl ?_
 exact ⟨rfl, by repeat (first | (with_reducible first | exact HB.out | apply ba_ | apply pd_ | apply d1_ | refine bs_ ?_ GE140.out | refine bs_ ?_ GE141.out) | exact HB.out)⟩
set_option maxHeartbeats 8000000 in
set_option maxRecDepth 100000 in
theorem near_no4 (a0_0 a0_1 a0_2 a1 a2 a3 : Int) (w : World) (A8 : Aside0 (pitch_Check.f a0_0 a0_1 a0_2 = some true)) (A10 : Aside0 (pitch_within.f a1 0 6 = some true)) (A12 : Aside0 (pitch_within.f a2 (-2) 2 = some true)) (A14 : Aside0 (pitch_within.f a3 (-9) 9 = some false)) :
  Calls Tryd.prog 22 #[.agg #[.int .i64 a0_0, .int .i64 a0_1, .int .i64 a0_2], .int .i64 a1, .int .i64 a2, .int .i64 a3] w fun e w' =>  e = .returned (.tuple #[.agg #[.int .i64 0, .int .i64 0, .int .i64 0], .int .i64 2]) ∧ Below w.heap.size w w' := by
 have hu23 := Tryd.underlying23
 have HB := sd_ (Below.refl w.heap.size w)
 go_enter Tryd.func22, Tryd.ntmps22
 go_upto_region 1 with (first | ((with_reducible refine gate_dst (N := 4) rfl ?_); refine box_event ?hg (N := 4) ?hd (cs := #[.int .i64 a0_0, .int .i64 a0_1, .int .i64 a0_2]) (t := 23) ?hr ?_; (case hd => rfl); (case hg => rfl); (case hr => first | (go_simp; done) | (go_simp; rfl)); intro gb140 hg w6 hbox hb; have BK140 := sd_ hbox; have GW140 := gw_ HB e0_ hg; have GE140 := GW140; replace HB := hb_ HB e0_ hb; clear hb hbox hg) | ((with_reducible refine gate_dst (N := 8) rfl ?_); refine box_event ?hg (N := 8) ?hd (cs := #[.int .i64 0, .int .i64 0, .int .i64 0]) (t := 23) ?hr ?_; (case hd => rfl); (case hg => rfl); (case hr => first | (go_simp; done) | (go_simp; rfl)); intro gb141 hg w7 hbox hb; have BK141 := sd_ hbox; have GW141 := gw_ HB (e_ GE140 e0_) hg; have GE141 := GW141; have NB140_141 := nb_ BK140 hg; have NB141_140 := sy_ NB140_141; replace BK140 := kb_ BK140 hb; replace HB := hb_ HB (e_ GE140 e0_) hb; clear hb hbox hg))
 (try simp only [Act.put, ls_, lz_, lc_])
 have hnb15 := NB140_141.out
 have hnc15 := NB141_140.out
 have hcz16_0 : w7.cell? ⟨gb140, 0, none⟩ = some (.int .i64 a0_0) := (kc_ BK140.out 0).trans rfl
 have hcz16_1 : w7.cell? ⟨gb140, 1, none⟩ = some (.int .i64 a0_1) := (kc_ BK140.out 1).trans rfl
 have hcz16_2 : w7.cell? ⟨gb140, 2, none⟩ = some (.int .i64 a0_2) := (kc_ BK140.out 2).trans rfl
 have hfz16_0 := kf_ BK140.out 0
 have hfz16_1 := kf_ BK140.out 1
 have hfz16_2 := kf_ BK140.out 2
 go_wp2_with (first | ((with_reducible refine gate_callee (f := 14) rfl ?_); refine goesL_ (some 14) rfl rfl Tryd.func14 (by kernel_rfl) rfl #[.agg #[.int .i64 a0_0, .int .i64 a0_1, .int .i64 a0_2]] rfl (by (try simp only [lm_, lq_, lx_]); first | done | rfl | (simp only [ld_, lt_]; rfl)) ?_; (with_reducible refine (pitch_Check.calls a0_0 a0_1 a0_2 true _ A8.out).mono ?_); rintro e w17 ⟨rfl, hb⟩; refine ⟨_, rfl, ?_⟩; replace BK140 := kb_ BK140 hb; replace BK141 := kb_ BK141 hb; replace HB := hb_ HB (e_ GE140 (e_ GE141 e0_)) hb; (try clear hb); have hcz29_0 : w17.cell? ⟨gb141, 0, none⟩ = some (.int .i64 0) := (kc_ BK141.out 0).trans rfl; have hcz29_1 : w17.cell? ⟨gb141, 1, none⟩ = some (.int .i64 0) := (kc_ BK141.out 1).trans rfl; have hcz29_2 : w17.cell? ⟨gb141, 2, none⟩ = some (.int .i64 0) := (kc_ BK141.out 2).trans rfl; have hfz29_0 := kf_ BK141.out 0; have hfz29_1 := kf_ BK141.out 1; have hfz29_2 := kf_ BK141.out 2) | (go_at_call 28; (with_reducible refine (pitch_within.calls a1 0 6 true _ A10.out).mono ?_); rintro e w' ⟨rfl, ⟨nd, rfl⟩⟩) | (go_at_call 28; (with_reducible refine (pitch_within.calls a2 (-2) 2 true _ A12.out).mono ?_); rintro e w' ⟨rfl, ⟨nd, rfl⟩⟩) | (go_at_call 28; (with_reducible refine (pitch_within.calls a3 (-9) 9 false _ A14.out).mono ?_); rintro e w' ⟨rfl, ⟨nd, rfl⟩⟩))
 have hcz29_0 := True.intro
 refine bodyPost_ret (results_ct rfl _ _ gb141 23 #[.int .i64 0, .int .i64 0, .int .i64 0] (0, 0) _ rfl (by (with_reducible repeat first | apply kn_ | apply kd_ | apply ka_); refine blk_put (cs := #[.int .i64 0, .int .i64 0, .int .i64 0]) ?_ 2 _ rfl; (with_reducible repeat first | apply kn_ | apply kd_ | apply ka_); refine blk_put (cs := #[.int .i64 0, .int .i64 0, .int .i64 0]) ?_ 1 _ rfl; (with_reducible repeat first | apply kn_ | apply kd_ | apply ka_); refine blk_put (cs := #[.int .i64 0, .int .i64 0, .int .i64 0]) ?_ 0 _ rfl; (with_reducible repeat first | apply kn_ | apply kd_ | apply ka_); exact BK141.out) Tryd.underlying23 rfl (by kernel_rfl)) rfl ?_
 exact ⟨rfl, by repeat (first | (with_reducible first | exact HB.out | apply ba_ | apply pd_ | apply d1_ | refine bs_ ?_ GE140.out | refine bs_ ?_ GE141.out) | exact HB.out)⟩
set_option maxHeartbeats 8000000 in
set_option maxRecDepth 100000 in
theorem near_yes (a0_0 a0_1 a0_2 a1 a2 a3 : Int) (w : World) (A8 : Aside0 (pitch_Check.f a0_0 a0_1 a0_2 = some true)) (A10 : Aside0 (pitch_within.f a1 0 6 = some true)) (A12 : Aside0 (pitch_within.f a2 (-2) 2 = some true)) (A14 : Aside0 (pitch_within.f a3 (-9) 9 = some true)) (q0 : 0 ≤ a0_0) (q1 : a0_0 ≤ 6) (q2 : 0 ≤ a1) (q3 : a1 ≤ 6) (q4 : -9 ≤ a3) (q5 : a3 ≤ 9) (t146 t147 t148 t149 : Int) (A30 : Aside0 (pitch_Count.f a0_0 a0_1 a0_2 = some t146)) (q6 : 0 ≤ t146) (q7 : t146 ≤ 69) (A31 : Aside0 (pitch_counted.f (t146 + (a1 - a0_0 + 7 + 3) % 7 - 3 + 7 * a3) = some (t147, t148, t149, true))) :
  Calls Tryd.prog 22 #[.agg #[.int .i64 a0_0, .int .i64 a0_1, .int .i64 a0_2], .int .i64 a1, .int .i64 a2, .int .i64 a3] w fun e w' =>  e = .returned (.tuple #[.agg #[.int .i64 t147, .int .i64 a2, .int .i64 t149], .int .i64 0]) ∧ Below w.heap.size w w' := by
 have hu23 := Tryd.underlying23
 have HB := sd_ (Below.refl w.heap.size w)
 go_enter Tryd.func22, Tryd.ntmps22
 go_upto_region 1 with (first | ((with_reducible refine gate_dst (N := 4) rfl ?_); refine box_event ?hg (N := 4) ?hd (cs := #[.int .i64 a0_0, .int .i64 a0_1, .int .i64 a0_2]) (t := 23) ?hr ?_; (case hd => rfl); (case hg => rfl); (case hr => first | (go_simp; done) | (go_simp; rfl)); intro gb140 hg w6 hbox hb; have BK140 := sd_ hbox; have GW140 := gw_ HB e0_ hg; have GE140 := GW140; replace HB := hb_ HB e0_ hb; clear hb hbox hg) | ((with_reducible refine gate_dst (N := 8) rfl ?_); refine box_event ?hg (N := 8) ?hd (cs := #[.int .i64 0, .int .i64 0, .int .i64 0]) (t := 23) ?hr ?_; (case hd => rfl); (case hg => rfl); (case hr => first | (go_simp; done) | (go_simp; rfl)); intro gb141 hg w7 hbox hb; have BK141 := sd_ hbox; have GW141 := gw_ HB (e_ GE140 e0_) hg; have GE141 := GW141; have NB140_141 := nb_ BK140 hg; have NB141_140 := sy_ NB140_141; replace BK140 := kb_ BK140 hb; replace HB := hb_ HB (e_ GE140 e0_) hb; clear hb hbox hg))
 (try simp only [Act.put, ls_, lz_, lc_])
 have hnb15 := NB140_141.out
 have hnc15 := NB141_140.out
 have hcz16_0 : w7.cell? ⟨gb140, 0, none⟩ = some (.int .i64 a0_0) := (kc_ BK140.out 0).trans rfl
 have hcz16_1 : w7.cell? ⟨gb140, 1, none⟩ = some (.int .i64 a0_1) := (kc_ BK140.out 1).trans rfl
 have hcz16_2 : w7.cell? ⟨gb140, 2, none⟩ = some (.int .i64 a0_2) := (kc_ BK140.out 2).trans rfl
 have hfz16_0 := kf_ BK140.out 0
 have hfz16_1 := kf_ BK140.out 1
 have hfz16_2 := kf_ BK140.out 2
 go_upto_region 4 with (first | ((with_reducible refine gate_callee (f := 14) rfl ?_); refine goesL_ (some 14) rfl rfl Tryd.func14 (by kernel_rfl) rfl #[.agg #[.int .i64 a0_0, .int .i64 a0_1, .int .i64 a0_2]] rfl (by (try simp only [lm_, lq_, lx_]); first | done | rfl | (simp only [ld_, lt_]; rfl)) ?_; (with_reducible refine (pitch_Check.calls a0_0 a0_1 a0_2 true _ A8.out).mono ?_); rintro e w17 ⟨rfl, hb⟩; refine ⟨_, rfl, ?_⟩; replace BK140 := kb_ BK140 hb; replace BK141 := kb_ BK141 hb; replace HB := hb_ HB (e_ GE140 (e_ GE141 e0_)) hb; (try clear hb); clear hcz16_0 hcz16_1 hcz16_2 hfz16_0 hfz16_1 hfz16_2; have hcz16_0 : w17.cell? ⟨gb140, 0, none⟩ = some (.int .i64 a0_0) := (kc_ BK140.out 0).trans rfl; have hcz16_1 : w17.cell? ⟨gb140, 1, none⟩ = some (.int .i64 a0_1) := (kc_ BK140.out 1).trans rfl; have hcz16_2 : w17.cell? ⟨gb140, 2, none⟩ = some (.int .i64 a0_2) := (kc_ BK140.out 2).trans rfl; have hfz16_0 := kf_ BK140.out 0; have hfz16_1 := kf_ BK140.out 1; have hfz16_2 := kf_ BK140.out 2) | (go_at_call 28; (with_reducible refine (pitch_within.calls a1 0 6 true _ A10.out).mono ?_); rintro e w' ⟨rfl, ⟨nd, rfl⟩⟩) | (go_at_call 28; (with_reducible refine (pitch_within.calls a2 (-2) 2 true _ A12.out).mono ?_); rintro e w' ⟨rfl, ⟨nd, rfl⟩⟩) | (go_at_call 28; (with_reducible refine (pitch_within.calls a3 (-9) 9 true _ A14.out).mono ?_); rintro e w' ⟨rfl, ⟨nd, rfl⟩⟩))
 have A31' := A31.out
 clear A31
 obtain ⟨u, hu⟩ : ∃ u : Int, (a1 - a0_0 + 7 + 3) % 7 = u := ⟨_, rfl⟩
 have u0 : 0 ≤ u := by omega
 have u6 : u ≤ 6 := by omega
 rw [hu] at A31'
 rw [hu]
 have A31 := sd_ A31'
 clear A31' hu
 go_upto_region 5 with (first | ((with_reducible refine gate_callee (f := 18) rfl ?_); refine goesL_ (some 41) rfl rfl Tryd.func18 (by kernel_rfl) rfl #[.agg #[.int .i64 a0_0, .int .i64 a0_1, .int .i64 a0_2]] rfl (by (try simp only [lm_, lq_, lx_]); first | done | rfl | (simp only [ld_, lt_]; rfl)) ?_; (with_reducible refine (pitch_Count.calls a0_0 a0_1 a0_2 t146 _ A30.out).mono ?_); rintro e w35 ⟨rfl, hb⟩; refine ⟨_, rfl, ?_⟩; replace BK140 := kb_ BK140 hb; replace BK141 := kb_ BK141 hb; replace HB := hb_ HB (e_ GE140 (e_ GE141 e0_)) hb; (try clear hb); clear hcz16_0 hcz16_1 hcz16_2 hfz16_0 hfz16_1 hfz16_2; have hcz16_0 : w35.cell? ⟨gb140, 0, none⟩ = some (.int .i64 a0_0) := (kc_ BK140.out 0).trans rfl; have hcz16_1 : w35.cell? ⟨gb140, 1, none⟩ = some (.int .i64 a0_1) := (kc_ BK140.out 1).trans rfl; have hcz16_2 : w35.cell? ⟨gb140, 2, none⟩ = some (.int .i64 a0_2) := (kc_ BK140.out 2).trans rfl; have hfz16_0 := kf_ BK140.out 0; have hfz16_1 := kf_ BK140.out 1; have hfz16_2 := kf_ BK140.out 2) | ((with_reducible refine gate_callee (f := 29) rfl ?_); refine goesL_ (some 48) rfl rfl Tryd.func29 (by kernel_rfl) rfl #[.int .i64 (t146 + u - 3 + 7 * a3)] rfl (by (try simp only [lm_, lq_, lx_]); first | done | rfl | (simp only [ld_, lt_]; rfl)) ?_; (with_reducible refine (pitch_counted.calls (t146 + u - 3 + 7 * a3) t147 t148 t149 true _ A31.out).mono ?_); rintro e w36 ⟨rfl, hb⟩; refine ⟨_, rfl, ?_⟩; replace BK140 := kb_ BK140 hb; replace BK141 := kb_ BK141 hb; replace HB := hb_ HB (e_ GE140 (e_ GE141 e0_)) hb; (try clear hb)))
 obtain ⟨gb151, hg⟩ : ∃ g, g = w36.heap.size := ⟨_, rfl⟩
 obtain ⟨w37, hw⟩ : ∃ W, W = w36.alloc (Obj.cells #[.int .i64 t147, .int .i64 t148, .int .i64 t149] 23) := ⟨_, rfl⟩
 have NB141_151 := nb_ BK141 hg
 have BK151 : Aside0 (w37.heap[gb151]? = some (.cells #[.int .i64 t147, .int .i64 t148, .int .i64 t149] 23 (0, 0))) := ⟨by rw [hw, hg]; exact blk_new _ _⟩
 have GE151 := gw_ HB (e_ GE140 (e_ GE141 e0_)) hg
 replace BK141 : Aside0 (w37.heap[gb141]? = some (.cells #[.int .i64 0, .int .i64 0, .int .i64 0] 23 (0, 0))) := ⟨by rw [hw]; exact ka_ BK141.out _⟩
 replace HB : Aside0 (Below w.heap.size w w37) := ⟨by rw [hw]; exact ba_ HB.out _⟩
 rw [← hw, ← hg]
 clear hw hg
 have hnb39 := (sy_ NB141_151).out
 have hnc39 := NB141_151.out
 have hcz40_0 : w37.cell? ⟨gb151, 0, none⟩ = some (.int .i64 t147) := (kc_ BK151.out 0).trans rfl
 have hcz40_1 : w37.cell? ⟨gb151, 1, none⟩ = some (.int .i64 t148) := (kc_ BK151.out 1).trans rfl
 have hcz40_2 : w37.cell? ⟨gb151, 2, none⟩ = some (.int .i64 t149) := (kc_ BK151.out 2).trans rfl
 have hfz40_0 := kf_ BK151.out 0
 have hfz40_1 := kf_ BK151.out 1
 have hfz40_2 := kf_ BK151.out 2
 have hcz41_0 : w37.cell? ⟨gb141, 0, none⟩ = some (.int .i64 0) := (kc_ BK141.out 0).trans rfl
 have hcz41_1 : w37.cell? ⟨gb141, 1, none⟩ = some (.int .i64 0) := (kc_ BK141.out 1).trans rfl
 have hcz41_2 : w37.cell? ⟨gb141, 2, none⟩ = some (.int .i64 0) := (kc_ BK141.out 2).trans rfl
 have hfz41_0 := kf_ BK141.out 0
 have hfz41_1 := kf_ BK141.out 1
 have hfz41_2 := kf_ BK141.out 2
 go_wp2
 refine bodyPost_ret (results_ct rfl _ _ gb141 23 #[.int .i64 t147, .int .i64 a2, .int .i64 t149] (0, 0) _ rfl (by (with_reducible repeat first | apply kn_ | apply kd_ | apply ka_); refine blk_put (cs := #[.int .i64 t147, .int .i64 a2, .int .i64 0]) ?_ 2 _ rfl; (with_reducible repeat first | apply kn_ | apply kd_ | apply ka_); refine blk_put (cs := #[.int .i64 t147, .int .i64 0, .int .i64 0]) ?_ 1 _ rfl; (with_reducible repeat first | apply kn_ | apply kd_ | apply ka_); refine blk_put (cs := #[.int .i64 0, .int .i64 0, .int .i64 0]) ?_ 0 _ rfl; (with_reducible repeat first | apply kn_ | apply kd_ | apply ka_); refine blk_far ?_ NB141_151.out _; (with_reducible repeat first | apply kn_ | apply kd_ | apply ka_); exact BK141.out) Tryd.underlying23 rfl (by kernel_rfl)) rfl ?_
 exact ⟨rfl, by repeat (first | (with_reducible first | exact HB.out | apply ba_ | apply pd_ | apply d1_ | refine bs_ ?_ GE140.out | refine bs_ ?_ GE141.out | refine bs_ ?_ GE151.out) | exact HB.out)⟩
set_option maxHeartbeats 8000000 in
set_option maxRecDepth 100000 in
theorem near_far (a0_0 a0_1 a0_2 a1 a2 a3 : Int) (w : World) (A8 : Aside0 (pitch_Check.f a0_0 a0_1 a0_2 = some true)) (A10 : Aside0 (pitch_within.f a1 0 6 = some true)) (A12 : Aside0 (pitch_within.f a2 (-2) 2 = some true)) (A14 : Aside0 (pitch_within.f a3 (-9) 9 = some true)) (q0 : 0 ≤ a0_0) (q1 : a0_0 ≤ 6) (q2 : 0 ≤ a1) (q3 : a1 ≤ 6) (q4 : -9 ≤ a3) (q5 : a3 ≤ 9) (t146 t147 t148 t149 : Int) (A30 : Aside0 (pitch_Count.f a0_0 a0_1 a0_2 = some t146)) (q6 : 0 ≤ t146) (q7 : t146 ≤ 69) (A31 : Aside0 (pitch_counted.f (t146 + (a1 - a0_0 + 7 + 3) % 7 - 3 + 7 * a3) = some (t147, t148, t149, false))) :
  Calls Tryd.prog 22 #[.agg #[.int .i64 a0_0, .int .i64 a0_1, .int .i64 a0_2], .int .i64 a1, .int .i64 a2, .int .i64 a3] w fun e w' =>  e = .returned (.tuple #[.agg #[.int .i64 0, .int .i64 0, .int .i64 0], .int .i64 20]) ∧ Below w.heap.size w w' := by
 have hu23 := Tryd.underlying23
 have HB := sd_ (Below.refl w.heap.size w)
 go_enter Tryd.func22, Tryd.ntmps22
 go_upto_region 1 with (first | ((with_reducible refine gate_dst (N := 4) rfl ?_); refine box_event ?hg (N := 4) ?hd (cs := #[.int .i64 a0_0, .int .i64 a0_1, .int .i64 a0_2]) (t := 23) ?hr ?_; (case hd => rfl); (case hg => rfl); (case hr => first | (go_simp; done) | (go_simp; rfl)); intro gb140 hg w6 hbox hb; have BK140 := sd_ hbox; have GW140 := gw_ HB e0_ hg; have GE140 := GW140; replace HB := hb_ HB e0_ hb; clear hb hbox hg) | ((with_reducible refine gate_dst (N := 8) rfl ?_); refine box_event ?hg (N := 8) ?hd (cs := #[.int .i64 0, .int .i64 0, .int .i64 0]) (t := 23) ?hr ?_; (case hd => rfl); (case hg => rfl); (case hr => first | (go_simp; done) | (go_simp; rfl)); intro gb141 hg w7 hbox hb; have BK141 := sd_ hbox; have GW141 := gw_ HB (e_ GE140 e0_) hg; have GE141 := GW141; have NB140_141 := nb_ BK140 hg; have NB141_140 := sy_ NB140_141; replace BK140 := kb_ BK140 hb; replace HB := hb_ HB (e_ GE140 e0_) hb; clear hb hbox hg))
 (try simp only [Act.put, ls_, lz_, lc_])
 have hnb15 := NB140_141.out
 have hnc15 := NB141_140.out
 have hcz16_0 : w7.cell? ⟨gb140, 0, none⟩ = some (.int .i64 a0_0) := (kc_ BK140.out 0).trans rfl
 have hcz16_1 : w7.cell? ⟨gb140, 1, none⟩ = some (.int .i64 a0_1) := (kc_ BK140.out 1).trans rfl
 have hcz16_2 : w7.cell? ⟨gb140, 2, none⟩ = some (.int .i64 a0_2) := (kc_ BK140.out 2).trans rfl
 have hfz16_0 := kf_ BK140.out 0
 have hfz16_1 := kf_ BK140.out 1
 have hfz16_2 := kf_ BK140.out 2
 go_upto_region 4 with (first | ((with_reducible refine gate_callee (f := 14) rfl ?_); refine goesL_ (some 14) rfl rfl Tryd.func14 (by kernel_rfl) rfl #[.agg #[.int .i64 a0_0, .int .i64 a0_1, .int .i64 a0_2]] rfl (by (try simp only [lm_, lq_, lx_]); first | done | rfl | (simp only [ld_, lt_]; rfl)) ?_; (with_reducible refine (pitch_Check.calls a0_0 a0_1 a0_2 true _ A8.out).mono ?_); rintro e w17 ⟨rfl, hb⟩; refine ⟨_, rfl, ?_⟩; replace BK140 := kb_ BK140 hb; replace BK141 := kb_ BK141 hb; replace HB := hb_ HB (e_ GE140 (e_ GE141 e0_)) hb; (try clear hb); clear hcz16_0 hcz16_1 hcz16_2 hfz16_0 hfz16_1 hfz16_2; have hcz16_0 : w17.cell? ⟨gb140, 0, none⟩ = some (.int .i64 a0_0) := (kc_ BK140.out 0).trans rfl; have hcz16_1 : w17.cell? ⟨gb140, 1, none⟩ = some (.int .i64 a0_1) := (kc_ BK140.out 1).trans rfl; have hcz16_2 : w17.cell? ⟨gb140, 2, none⟩ = some (.int .i64 a0_2) := (kc_ BK140.out 2).trans rfl; have hfz16_0 := kf_ BK140.out 0; have hfz16_1 := kf_ BK140.out 1; have hfz16_2 := kf_ BK140.out 2) | (go_at_call 28; (with_reducible refine (pitch_within.calls a1 0 6 true _ A10.out).mono ?_); rintro e w' ⟨rfl, ⟨nd, rfl⟩⟩) | (go_at_call 28; (with_reducible refine (pitch_within.calls a2 (-2) 2 true _ A12.out).mono ?_); rintro e w' ⟨rfl, ⟨nd, rfl⟩⟩) | (go_at_call 28; (with_reducible refine (pitch_within.calls a3 (-9) 9 true _ A14.out).mono ?_); rintro e w' ⟨rfl, ⟨nd, rfl⟩⟩))
 have A31' := A31.out
 clear A31
 obtain ⟨u, hu⟩ : ∃ u : Int, (a1 - a0_0 + 7 + 3) % 7 = u := ⟨_, rfl⟩
 have u0 : 0 ≤ u := by omega
 have u6 : u ≤ 6 := by omega
 rw [hu] at A31'
 rw [hu]
 have A31 := sd_ A31'
 clear A31' hu
 go_upto_region 5 with (first | ((with_reducible refine gate_callee (f := 18) rfl ?_); refine goesL_ (some 41) rfl rfl Tryd.func18 (by kernel_rfl) rfl #[.agg #[.int .i64 a0_0, .int .i64 a0_1, .int .i64 a0_2]] rfl (by (try simp only [lm_, lq_, lx_]); first | done | rfl | (simp only [ld_, lt_]; rfl)) ?_; (with_reducible refine (pitch_Count.calls a0_0 a0_1 a0_2 t146 _ A30.out).mono ?_); rintro e w35 ⟨rfl, hb⟩; refine ⟨_, rfl, ?_⟩; replace BK140 := kb_ BK140 hb; replace BK141 := kb_ BK141 hb; replace HB := hb_ HB (e_ GE140 (e_ GE141 e0_)) hb; (try clear hb); clear hcz16_0 hcz16_1 hcz16_2 hfz16_0 hfz16_1 hfz16_2; have hcz16_0 : w35.cell? ⟨gb140, 0, none⟩ = some (.int .i64 a0_0) := (kc_ BK140.out 0).trans rfl; have hcz16_1 : w35.cell? ⟨gb140, 1, none⟩ = some (.int .i64 a0_1) := (kc_ BK140.out 1).trans rfl; have hcz16_2 : w35.cell? ⟨gb140, 2, none⟩ = some (.int .i64 a0_2) := (kc_ BK140.out 2).trans rfl; have hfz16_0 := kf_ BK140.out 0; have hfz16_1 := kf_ BK140.out 1; have hfz16_2 := kf_ BK140.out 2) | ((with_reducible refine gate_callee (f := 29) rfl ?_); refine goesL_ (some 48) rfl rfl Tryd.func29 (by kernel_rfl) rfl #[.int .i64 (t146 + u - 3 + 7 * a3)] rfl (by (try simp only [lm_, lq_, lx_]); first | done | rfl | (simp only [ld_, lt_]; rfl)) ?_; (with_reducible refine (pitch_counted.calls (t146 + u - 3 + 7 * a3) t147 t148 t149 false _ A31.out).mono ?_); rintro e w36 ⟨rfl, hb⟩; refine ⟨_, rfl, ?_⟩; replace BK140 := kb_ BK140 hb; replace BK141 := kb_ BK141 hb; replace HB := hb_ HB (e_ GE140 (e_ GE141 e0_)) hb; (try clear hb)))
 obtain ⟨gb151, hg⟩ : ∃ g, g = w36.heap.size := ⟨_, rfl⟩
 obtain ⟨w37, hw⟩ : ∃ W, W = w36.alloc (Obj.cells #[.int .i64 t147, .int .i64 t148, .int .i64 t149] 23) := ⟨_, rfl⟩
 have NB141_151 := nb_ BK141 hg
 have BK151 : Aside0 (w37.heap[gb151]? = some (.cells #[.int .i64 t147, .int .i64 t148, .int .i64 t149] 23 (0, 0))) := ⟨by rw [hw, hg]; exact blk_new _ _⟩
 have GE151 := gw_ HB (e_ GE140 (e_ GE141 e0_)) hg
 replace BK141 : Aside0 (w37.heap[gb141]? = some (.cells #[.int .i64 0, .int .i64 0, .int .i64 0] 23 (0, 0))) := ⟨by rw [hw]; exact ka_ BK141.out _⟩
 replace HB : Aside0 (Below w.heap.size w w37) := ⟨by rw [hw]; exact ba_ HB.out _⟩
 rw [← hw, ← hg]
 clear hw hg
 have hnb39 := (sy_ NB141_151).out
 have hnc39 := NB141_151.out
 have hcz40_0 : w37.cell? ⟨gb151, 0, none⟩ = some (.int .i64 t147) := (kc_ BK151.out 0).trans rfl
 have hcz40_1 : w37.cell? ⟨gb151, 1, none⟩ = some (.int .i64 t148) := (kc_ BK151.out 1).trans rfl
 have hcz40_2 : w37.cell? ⟨gb151, 2, none⟩ = some (.int .i64 t149) := (kc_ BK151.out 2).trans rfl
 have hfz40_0 := kf_ BK151.out 0
 have hfz40_1 := kf_ BK151.out 1
 have hfz40_2 := kf_ BK151.out 2
 have hcz41_0 : w37.cell? ⟨gb141, 0, none⟩ = some (.int .i64 0) := (kc_ BK141.out 0).trans rfl
 have hcz41_1 : w37.cell? ⟨gb141, 1, none⟩ = some (.int .i64 0) := (kc_ BK141.out 1).trans rfl
 have hcz41_2 : w37.cell? ⟨gb141, 2, none⟩ = some (.int .i64 0) := (kc_ BK141.out 2).trans rfl
 have hfz41_0 := kf_ BK141.out 0
 have hfz41_1 := kf_ BK141.out 1
 have hfz41_2 := kf_ BK141.out 2
 go_wp2
 refine bodyPost_ret (results_ct rfl _ _ gb141 23 #[.int .i64 0, .int .i64 0, .int .i64 0] (0, 0) _ rfl (by (with_reducible repeat first | apply kn_ | apply kd_ | apply ka_); refine blk_put (cs := #[.int .i64 0, .int .i64 0, .int .i64 0]) ?_ 2 _ rfl; (with_reducible repeat first | apply kn_ | apply kd_ | apply ka_); refine blk_put (cs := #[.int .i64 0, .int .i64 0, .int .i64 0]) ?_ 1 _ rfl; (with_reducible repeat first | apply kn_ | apply kd_ | apply ka_); refine blk_put (cs := #[.int .i64 0, .int .i64 0, .int .i64 0]) ?_ 0 _ rfl; (with_reducible repeat first | apply kn_ | apply kd_ | apply ka_); exact BK141.out) Tryd.underlying23 rfl (by kernel_rfl)) rfl ?_
 exact ⟨rfl, by repeat (first | (with_reducible first | exact HB.out | apply ba_ | apply pd_ | apply d1_ | refine bs_ ?_ GE140.out | refine bs_ ?_ GE141.out | refine bs_ ?_ GE151.out) | exact HB.out)⟩
def nearOkB (a0_0 a1 a3 : Int) : Bool := decide (0 ≤ a0_0) && decide (a0_0 ≤ 6) && decide (0 ≤ a1) && decide (a1 ≤ 6) && decide (-9 ≤ a3) && decide (a3 ≤ 9)
def pitch_Near.f (a0_0 a0_1 a0_2 a1 a2 a3 : Int) : Option (Int × Int × Int × Int) :=
 match pitch_Check.f a0_0 a0_1 a0_2 with
 | none => none
 | some false => some (0, 0, 0, 2)
 | some true => match pitch_within.f a1 0 6 with
  | none => none
  | some false => some (0, 0, 0, 2)
  | some true => match pitch_within.f a2 (-2) 2 with
   | none => none
   | some false => some (0, 0, 0, 2)
   | some true => match pitch_within.f a3 (-9) 9 with
    | none => none
    | some false => some (0, 0, 0, 2)
    | some true => if nearOkB a0_0 a1 a3 = true then (match pitch_Count.f a0_0 a0_1 a0_2 with
     | none => none
     | some t146 => if 0 ≤ t146 ∧ t146 ≤ 69 then (match pitch_counted.f (t146 + (a1 - a0_0 + 7 + 3) % 7 - 3 + 7 * a3) with
      | none => none
      | some (t147, _, t149, true) => some (t147, a2, t149, 0)
      | some (_, _, _, false) => some (0, 0, 0, 20)) else none) else none
theorem pitch_Near.calls (a0_0 a0_1 a0_2 a1 a2 a3 : Int) (r1 r2 r3 r4 : Int) (w : World) (h : pitch_Near.f a0_0 a0_1 a0_2 a1 a2 a3 = some (r1, r2, r3, r4)) :
  Calls Tryd.prog 22 #[.agg #[.int .i64 a0_0, .int .i64 a0_1, .int .i64 a0_2], .int .i64 a1, .int .i64 a2, .int .i64 a3] w fun e w' => e = .returned (.tuple #[.agg #[.int .i64 r1, .int .i64 r2, .int .i64 r3], .int .i64 r4]) ∧ Below w.heap.size w w' := by
 unfold pitch_Near.f at h
 split at h
 ·cases h
 ·rename_i c1
  obtain ⟨rfl, rfl, rfl, rfl⟩ : 0 = r1 ∧ 0 = r2 ∧ 0 = r3 ∧ 2 = r4 := by simpa using h
  exact near_no1 _ _ _ _ _ _ w ⟨c1⟩
 ·rename_i c1
  split at h
  ·cases h
  ·rename_i c2
   obtain ⟨rfl, rfl, rfl, rfl⟩ : 0 = r1 ∧ 0 = r2 ∧ 0 = r3 ∧ 2 = r4 := by simpa using h
   exact near_no2 _ _ _ _ _ _ w ⟨c1⟩ ⟨c2⟩
  ·rename_i c2
   split at h
   ·cases h
   ·rename_i c3
    obtain ⟨rfl, rfl, rfl, rfl⟩ : 0 = r1 ∧ 0 = r2 ∧ 0 = r3 ∧ 2 = r4 := by simpa using h
    exact near_no3 _ _ _ _ _ _ w ⟨c1⟩ ⟨c2⟩ ⟨c3⟩
   ·rename_i c3
    split at h
    ·cases h
    ·rename_i c4
     obtain ⟨rfl, rfl, rfl, rfl⟩ : 0 = r1 ∧ 0 = r2 ∧ 0 = r3 ∧ 2 = r4 := by simpa using h
     exact near_no4 _ _ _ _ _ _ w ⟨c1⟩ ⟨c2⟩ ⟨c3⟩ ⟨c4⟩
    ·rename_i c4
     split at h
     ·rename_i hb
      simp only [nearOkB, Bool.and_eq_true, decide_eq_true_eq] at hb
      obtain ⟨⟨⟨⟨⟨b0, b1⟩, b2⟩, b3⟩, b4⟩, b5⟩ := hb
      split at h
      ·cases h
      ·rename_i t146 c5
       split at h
       ·rename_i hn
        split at h
        ·cases h
        ·rename_i t147 t148 t149 c6
         obtain ⟨rfl, rfl, rfl, rfl⟩ : t147 = r1 ∧ a2 = r2 ∧ t149 = r3 ∧ 0 = r4 := by simpa using h
         exact near_yes _ _ _ _ _ _ w ⟨c1⟩ ⟨c2⟩ ⟨c3⟩ ⟨c4⟩ b0 b1 b2 b3 b4 b5 t146 _ t148 _ ⟨c5⟩ hn.1 hn.2 ⟨c6⟩
        ·rename_i t147 t148 t149 c6
         obtain ⟨rfl, rfl, rfl, rfl⟩ : 0 = r1 ∧ 0 = r2 ∧ 0 = r3 ∧ 20 = r4 := by simpa using h
         exact near_far _ _ _ _ _ _ w ⟨c1⟩ ⟨c2⟩ ⟨c3⟩ ⟨c4⟩ b0 b1 b2 b3 b4 b5 t146 t147 t148 t149 ⟨c5⟩ hn.1 hn.2 ⟨c6⟩
       ·cases h
     ·cases h

end Go.Proofs.YtkncoedagigliaaDoor.P
