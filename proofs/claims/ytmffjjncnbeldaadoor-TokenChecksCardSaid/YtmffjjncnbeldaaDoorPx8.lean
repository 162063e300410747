-- Written by a program of this session (wip/tools/xprint.py, over the kit's print): Lean checks it.
import Derived.Test.YtmffjjncnbeldaaDoorPx0
import Derived.Test.YtmffjjncnbeldaaDoorPx7
namespace Go.Proofs.YtmffjjncnbeldaaDoor.P
open Go.RowKit Go.Proofs.YtmffjjncnbeldaaDoorW.PrintWords Go.Proofs.YtmffjjncnbeldaaDoorW.PrintLast Go.Proofs.YtmffjjncnbeldaaDoorW.PrintMore
attribute [local go_sem] max2_int min2_int max_two min_two max_three min_three max_four min_four   -- for this text's walks alone
set_option linter.unusedVariables false
set_option linter.unusedSimpArgs false

/-! ### neumeref08_double: function 39 -/
def neumeref08_double.f (a0 : ByteArray) (a1 : Int) : Option (Int × Int × Int) := if (wrap64 (a1 + 1)) = (a0.size : Int) then ((neumeref08_fault.f 14 (a0.size : Int)).bind fun bt206 => (some (0, bt206.1, bt206.2))) else (if 0 ≤ (wrap64 (a1 + 1)) then (if (wrap64 (a1 + 1)) < (a0.size : Int) then (if 0 ≤ a1 then (if a1 < (a0.size : Int) then (if (bt a0 (wrap64 (a1 + 1))) = (bt a0 a1) then (some (wrap64 (a1 + 2), 0, 0)) else ((neumeref08_fault.f 10 (wrap64 (a1 + 1))).bind fun bt208 => (some (0, bt208.1, bt208.2)))) else (none)) else (none)) else (none)) else (none))
set_option maxHeartbeats 8000000 in
set_option maxRecDepth 100000 in
theorem neumeref08_double.calls (a0 : ByteArray) (a1 : Int) (r1 : Int) (r2 : Int) (r3 : Int) (w : World) (h : neumeref08_double.f a0 a1 = some (r1, r2, r3)) :
  Calls Tryd.prog 39 #[.string a0, .int .i64 a1] w fun e w' => e = .returned (.tuple #[.int .i64 r1, .agg #[.int .i64 r2, .int .i64 r3]]) ∧ Below w.heap.size w w' := by
 have hu26 := Tryd.underlying26
 have HB := sd_ (Below.refl w.heap.size w)
 have H : (if (wrap64 (a1 + 1)) = (a0.size : Int) then ((neumeref08_fault.f 14 (a0.size : Int)).bind fun bt206 => (some (0, bt206.1, bt206.2))) else (if 0 ≤ (wrap64 (a1 + 1)) then (if (wrap64 (a1 + 1)) < (a0.size : Int) then (if 0 ≤ a1 then (if a1 < (a0.size : Int) then (if (bt a0 (wrap64 (a1 + 1))) = (bt a0 a1) then (some (wrap64 (a1 + 2), 0, 0)) else ((neumeref08_fault.f 10 (wrap64 (a1 + 1))).bind fun bt208 => (some (0, bt208.1, bt208.2)))) else (none)) else (none)) else (none)) else (none))) = some (r1, r2, r3) := h
 clear h
 by_cases c3 : (wrap64 (a1 + 1)) = (a0.size : Int)
 ·rw [if_pos c3] at H
  have c3b0 : ((wrap64 (a1 + 1)) == (a0.size : Int)) = true := beq_iff_eq.mpr c3
  have c3b1 : ((wrap64 (a1 + 1)) != (a0.size : Int)) = false := bne_eq_false_iff_eq.mpr c3
  clear c3
  replace H := ob_ H
  obtain ⟨⟨t206, t207⟩, A40, H⟩ := H
  replace H : (some (0, t206, t207)) = some (r1, r2, r3) := H
  have A4 := sd_ A40
  clear A40
  simp only [Option.some.injEq, Prod.mk.injEq] at H
  obtain ⟨rfl, rfl, rfl⟩ := H
  go_enter Tryd.func39, Tryd.ntmps39
  go_wp2_with (first | ((with_reducible refine gate_dst (N := 5) rfl ?_); refine box_event ?hg (N := 5) ?hd (cs := #[.int .i64 0, .int .i64 0]) (t := 26) ?hr ?_; (case hd => rfl); (case hg => rfl); (case hr => first | (go_simp; done) | (go_simp; rfl)); intro gb205 hg w5 hbox hb; have BK205 := sd_ hbox; have GW205 := gw_ HB e0_ hg; have GE205 := GW205; replace HB := hb_ HB e0_ hb; clear hb hbox hg) | (go_at_call 22; (with_reducible refine (neumeref08_fault.calls 14 (a0.size : Int) t206 t207 _ A4.out).mono ?_); rintro e w6 ⟨rfl, hb⟩; replace BK205 := kb_ BK205 hb; replace HB := hb_ HB (e_ GE205 e0_) hb; (try clear hb); (try clear hb2); (try clear hk); (try clear hi); have hcz7_0 : w6.cell? ⟨gb205, 0, none⟩ = some (.int .i64 0) := (kc_ BK205.out 0).trans rfl; have hcz7_1 : w6.cell? ⟨gb205, 1, none⟩ = some (.int .i64 0) := (kc_ BK205.out 1).trans rfl; have hfz7_0 := kf_ BK205.out 0; have hfz7_1 := kf_ BK205.out 1))
  repeat (go_quiet (first | ((with_reducible refine gate_dst (N := 5) rfl ?_); refine box_event ?hg (N := 5) ?hd (cs := #[.int .i64 0, .int .i64 0]) (t := 26) ?hr ?_; (case hd => rfl); (case hg => rfl); (case hr => first | (go_simp; done) | (go_simp; rfl)); intro gb205 hg w5 hbox hb; have BK205 := sd_ hbox; have GW205 := gw_ HB e0_ hg; have GE205 := GW205; replace HB := hb_ HB e0_ hb; clear hb hbox hg) | (go_at_call 22; (with_reducible refine (neumeref08_fault.calls 14 (a0.size : Int) t206 t207 _ A4.out).mono ?_); rintro e w6 ⟨rfl, hb⟩; replace BK205 := kb_ BK205 hb; replace HB := hb_ HB (e_ GE205 e0_) hb; (try clear hb); (try clear hb2); (try clear hk); (try clear hi); have hcz7_0 : w6.cell? ⟨gb205, 0, none⟩ = some (.int .i64 0) := (kc_ BK205.out 0).trans rfl; have hcz7_1 : w6.cell? ⟨gb205, 1, none⟩ = some (.int .i64 0) := (kc_ BK205.out 1).trans rfl; have hfz7_0 := kf_ BK205.out 0; have hfz7_1 := kf_ BK205.out 1)); try go_wp2_with (first | ((with_reducible refine gate_dst (N := 5) rfl ?_); refine box_event ?hg (N := 5) ?hd (cs := #[.int .i64 0, .int .i64 0]) (t := 26) ?hr ?_; (case hd => rfl); (case hg => rfl); (case hr => first | (go_simp; done) | (go_simp; rfl)); intro gb205 hg w5 hbox hb; have BK205 := sd_ hbox; have GW205 := gw_ HB e0_ hg; have GE205 := GW205; replace HB := hb_ HB e0_ hb; clear hb hbox hg) | (go_at_call 22; (with_reducible refine (neumeref08_fault.calls 14 (a0.size : Int) t206 t207 _ A4.out).mono ?_); rintro e w6 ⟨rfl, hb⟩; replace BK205 := kb_ BK205 hb; replace HB := hb_ HB (e_ GE205 e0_) hb; (try clear hb); (try clear hb2); (try clear hk); (try clear hi); have hcz7_0 : w6.cell? ⟨gb205, 0, none⟩ = some (.int .i64 0) := (kc_ BK205.out 0).trans rfl; have hcz7_1 : w6.cell? ⟨gb205, 1, none⟩ = some (.int .i64 0) := (kc_ BK205.out 1).trans rfl; have hfz7_0 := kf_ BK205.out 0; have hfz7_1 := kf_ BK205.out 1)))
  refine bodyPost_ret (results_tc rfl _ _ gb205 26 #[.int .i64 t206, .int .i64 t207] (0, 0) _ rfl (by (with_reducible repeat first | apply kn_ | apply kd_ | apply ka_); refine blk_put (cs := #[.int .i64 t206, .int .i64 0]) ?_ 1 _ rfl; (with_reducible repeat first | apply kn_ | apply kd_ | apply ka_); refine blk_put (cs := #[.int .i64 0, .int .i64 0]) ?_ 0 _ rfl; (with_reducible repeat first | apply kn_ | apply kd_ | apply ka_); exact BK205.out) Tryd.underlying26 rfl (by kernel_rfl)) rfl ?_
  exact ⟨by first | rfl | (simp [errW_none, errW_some] <;> rfl) | (simp [*, errW_none, errW_some] <;> rfl), by repeat (first | (with_reducible first | exact HB.out | apply ba_ | apply pd_ | apply d1_ | refine bs_ ?_ GE205.out) | exact HB.out)⟩
 ·rw [if_neg c3] at H
  have c3b0 : ((wrap64 (a1 + 1)) == (a0.size : Int)) = false := beq_eq_false_iff_ne.mpr c3
  have c3b1 : ((wrap64 (a1 + 1)) != (a0.size : Int)) = true := bne_iff_ne.mpr c3
  obtain ⟨ji8, hji8⟩ : ∃ j_ : Int, (wrap64 (a1 + 1)) = j_ := ⟨_, rfl⟩
  replace H : (if 0 ≤ (ji8) then (if (ji8) < (a0.size : Int) then (if 0 ≤ a1 then (if a1 < (a0.size : Int) then (if (bt a0 (ji8)) = (bt a0 a1) then (some (wrap64 (a1 + 2), 0, 0)) else ((neumeref08_fault.f 10 (ji8)).bind fun bt208 => (some (0, bt208.1, bt208.2)))) else (none)) else (none)) else (none)) else (none)) = some (r1, r2, r3) := by first | (rw [hji8] at H; exact H) | (simp only [hji8] at H ⊢; exact H)
  (try rw [hji8] at c3b0)
  (try rw [hji8] at c3b1)
  have hji8w : (IntKind.i64.wrap (a1 + 1)) = ji8 := (i64_w _).trans hji8
  by_cases c9 : 0 ≤ (ji8)
  ·rw [if_pos c9] at H
   have c9b0 : decide (0 ≤ (ji8)) = true := dt_ c9
   clear c9
   by_cases c10 : (ji8) < (a0.size : Int)
   ·rw [if_pos c10] at H
    have c10b0 : decide ((ji8) < (a0.size : Int)) = true := dt_ c10
    clear c10
    by_cases c12 : 0 ≤ a1
    ·rw [if_pos c12] at H
     have c12b0 : decide (0 ≤ a1) = true := dt_ c12
     clear c12
     by_cases c13 : a1 < (a0.size : Int)
     ·rw [if_pos c13] at H
      have c13b0 : decide (a1 < (a0.size : Int)) = true := dt_ c13
      clear c13
      by_cases c15 : (bt a0 (ji8)) = (bt a0 a1)
      ·rw [if_pos c15] at H
       have c15b0 : ((bt a0 (ji8)) == (bt a0 a1)) = true := beq_iff_eq.mpr c15
       have c15b1 : ((bt a0 (ji8)) != (bt a0 a1)) = false := bne_eq_false_iff_eq.mpr c15
       clear c15
       simp only [Option.some.injEq, Prod.mk.injEq] at H
       obtain ⟨rfl, rfl, rfl⟩ := H
       go_enter Tryd.func39, Tryd.ntmps39
       go_wp2_with (first | ((with_reducible refine gate_dst (N := 5) rfl ?_); refine box_event ?hg (N := 5) ?hd (cs := #[.int .i64 0, .int .i64 0]) (t := 26) ?hr ?_; (case hd => rfl); (case hg => rfl); (case hr => first | (go_simp; done) | (go_simp; rfl)); intro gb205 hg w16 hbox hb; have BK205 := sd_ hbox; have GW205 := gw_ HB e0_ hg; have GE205 := GW205; replace HB := hb_ HB e0_ hb; clear hb hbox hg; have p11 : 0 ≤ ((ji8) : Int) := od_ (by first | (with_reducible assumption) | assumption); have q11 : (ji8) < (a0.size : Int) := od_ (by first | (with_reducible assumption) | assumption); have hx11 := bt_at a0 (ji8); replace p11 := eq_true p11; replace q11 := eq_true q11; have p14 : 0 ≤ (a1 : Int) := od_ (by first | (with_reducible assumption) | assumption); have q14 : a1 < (a0.size : Int) := od_ (by first | (with_reducible assumption) | assumption); have hx14 := bt_at a0 a1; replace p14 := eq_true p14; replace q14 := eq_true q14; have hcz17_0 : w16.cell? ⟨gb205, 0, none⟩ = some (.int .i64 0) := (kc_ BK205.out 0).trans rfl; have hcz17_1 : w16.cell? ⟨gb205, 1, none⟩ = some (.int .i64 0) := (kc_ BK205.out 1).trans rfl; have hfz17_0 := kf_ BK205.out 0; have hfz17_1 := kf_ BK205.out 1))
       repeat (go_quiet (first | ((with_reducible refine gate_dst (N := 5) rfl ?_); refine box_event ?hg (N := 5) ?hd (cs := #[.int .i64 0, .int .i64 0]) (t := 26) ?hr ?_; (case hd => rfl); (case hg => rfl); (case hr => first | (go_simp; done) | (go_simp; rfl)); intro gb205 hg w16 hbox hb; have BK205 := sd_ hbox; have GW205 := gw_ HB e0_ hg; have GE205 := GW205; replace HB := hb_ HB e0_ hb; clear hb hbox hg; have p11 : 0 ≤ ((ji8) : Int) := od_ (by first | (with_reducible assumption) | assumption); have q11 : (ji8) < (a0.size : Int) := od_ (by first | (with_reducible assumption) | assumption); have hx11 := bt_at a0 (ji8); replace p11 := eq_true p11; replace q11 := eq_true q11; have p14 : 0 ≤ (a1 : Int) := od_ (by first | (with_reducible assumption) | assumption); have q14 : a1 < (a0.size : Int) := od_ (by first | (with_reducible assumption) | assumption); have hx14 := bt_at a0 a1; replace p14 := eq_true p14; replace q14 := eq_true q14; have hcz17_0 : w16.cell? ⟨gb205, 0, none⟩ = some (.int .i64 0) := (kc_ BK205.out 0).trans rfl; have hcz17_1 : w16.cell? ⟨gb205, 1, none⟩ = some (.int .i64 0) := (kc_ BK205.out 1).trans rfl; have hfz17_0 := kf_ BK205.out 0; have hfz17_1 := kf_ BK205.out 1)); try go_wp2_with (first | ((with_reducible refine gate_dst (N := 5) rfl ?_); refine box_event ?hg (N := 5) ?hd (cs := #[.int .i64 0, .int .i64 0]) (t := 26) ?hr ?_; (case hd => rfl); (case hg => rfl); (case hr => first | (go_simp; done) | (go_simp; rfl)); intro gb205 hg w16 hbox hb; have BK205 := sd_ hbox; have GW205 := gw_ HB e0_ hg; have GE205 := GW205; replace HB := hb_ HB e0_ hb; clear hb hbox hg; have p11 : 0 ≤ ((ji8) : Int) := od_ (by first | (with_reducible assumption) | assumption); have q11 : (ji8) < (a0.size : Int) := od_ (by first | (with_reducible assumption) | assumption); have hx11 := bt_at a0 (ji8); replace p11 := eq_true p11; replace q11 := eq_true q11; have p14 : 0 ≤ (a1 : Int) := od_ (by first | (with_reducible assumption) | assumption); have q14 : a1 < (a0.size : Int) := od_ (by first | (with_reducible assumption) | assumption); have hx14 := bt_at a0 a1; replace p14 := eq_true p14; replace q14 := eq_true q14; have hcz17_0 : w16.cell? ⟨gb205, 0, none⟩ = some (.int .i64 0) := (kc_ BK205.out 0).trans rfl; have hcz17_1 : w16.cell? ⟨gb205, 1, none⟩ = some (.int .i64 0) := (kc_ BK205.out 1).trans rfl; have hfz17_0 := kf_ BK205.out 0; have hfz17_1 := kf_ BK205.out 1)))
       refine bodyPost_ret (results_tc rfl _ _ gb205 26 #[.int .i64 0, .int .i64 0] (0, 0) _ rfl (by (with_reducible repeat first | apply kn_ | apply kd_ | apply ka_); refine blk_put (cs := #[.int .i64 0, .int .i64 0]) ?_ 1 _ rfl; (with_reducible repeat first | apply kn_ | apply kd_ | apply ka_); refine blk_put (cs := #[.int .i64 0, .int .i64 0]) ?_ 0 _ rfl; (with_reducible repeat first | apply kn_ | apply kd_ | apply ka_); exact BK205.out) Tryd.underlying26 rfl (by kernel_rfl)) rfl ?_
       exact ⟨by first | rfl | (simp [errW_none, errW_some] <;> rfl) | (simp only [← hji8]; first | rfl | (simp [errW_none, errW_some] <;> rfl)) | (simp [*, errW_none, errW_some] <;> rfl), by repeat (first | (with_reducible first | exact HB.out | apply ba_ | apply pd_ | apply d1_ | refine bs_ ?_ GE205.out) | exact HB.out)⟩
      ·rw [if_neg c15] at H
       have c15b0 : ((bt a0 (ji8)) == (bt a0 a1)) = false := beq_eq_false_iff_ne.mpr c15
       have c15b1 : ((bt a0 (ji8)) != (bt a0 a1)) = true := bne_iff_ne.mpr c15
       replace H := ob_ H
       obtain ⟨⟨t208, t209⟩, A180, H⟩ := H
       replace H : (some (0, t208, t209)) = some (r1, r2, r3) := H
       have A18 := sd_ A180
       clear A180
       simp only [Option.some.injEq, Prod.mk.injEq] at H
       obtain ⟨rfl, rfl, rfl⟩ := H
       go_enter Tryd.func39, Tryd.ntmps39
       go_wp2_with (first | ((with_reducible refine gate_dst (N := 5) rfl ?_); refine box_event ?hg (N := 5) ?hd (cs := #[.int .i64 0, .int .i64 0]) (t := 26) ?hr ?_; (case hd => rfl); (case hg => rfl); (case hr => first | (go_simp; done) | (go_simp; rfl)); intro gb205 hg w19 hbox hb; have BK205 := sd_ hbox; have GW205 := gw_ HB e0_ hg; have GE205 := GW205; replace HB := hb_ HB e0_ hb; clear hb hbox hg; have p11 : 0 ≤ ((ji8) : Int) := od_ (by first | (with_reducible assumption) | assumption); have q11 : (ji8) < (a0.size : Int) := od_ (by first | (with_reducible assumption) | assumption); have hx11 := bt_at a0 (ji8); replace p11 := eq_true p11; replace q11 := eq_true q11; have p14 : 0 ≤ (a1 : Int) := od_ (by first | (with_reducible assumption) | assumption); have q14 : a1 < (a0.size : Int) := od_ (by first | (with_reducible assumption) | assumption); have hx14 := bt_at a0 a1; replace p14 := eq_true p14; replace q14 := eq_true q14) | (go_at_call 22; (with_reducible refine (neumeref08_fault.calls 10 ji8 t208 t209 _ A18.out).mono ?_); rintro e w20 ⟨rfl, hb⟩; replace BK205 := kb_ BK205 hb; replace HB := hb_ HB (e_ GE205 e0_) hb; (try clear hb); (try clear hb2); (try clear hk); (try clear hi); have hcz21_0 : w20.cell? ⟨gb205, 0, none⟩ = some (.int .i64 0) := (kc_ BK205.out 0).trans rfl; have hcz21_1 : w20.cell? ⟨gb205, 1, none⟩ = some (.int .i64 0) := (kc_ BK205.out 1).trans rfl; have hfz21_0 := kf_ BK205.out 0; have hfz21_1 := kf_ BK205.out 1))
       repeat (go_quiet (first | ((with_reducible refine gate_dst (N := 5) rfl ?_); refine box_event ?hg (N := 5) ?hd (cs := #[.int .i64 0, .int .i64 0]) (t := 26) ?hr ?_; (case hd => rfl); (case hg => rfl); (case hr => first | (go_simp; done) | (go_simp; rfl)); intro gb205 hg w19 hbox hb; have BK205 := sd_ hbox; have GW205 := gw_ HB e0_ hg; have GE205 := GW205; replace HB := hb_ HB e0_ hb; clear hb hbox hg; have p11 : 0 ≤ ((ji8) : Int) := od_ (by first | (with_reducible assumption) | assumption); have q11 : (ji8) < (a0.size : Int) := od_ (by first | (with_reducible assumption) | assumption); have hx11 := bt_at a0 (ji8); replace p11 := eq_true p11; replace q11 := eq_true q11; have p14 : 0 ≤ (a1 : Int) := od_ (by first | (with_reducible assumption) | assumption); have q14 : a1 < (a0.size : Int) := od_ (by first | (with_reducible assumption) | assumption); have hx14 := bt_at a0 a1; replace p14 := eq_true p14; replace q14 := eq_true q14) | (go_at_call 22; (with_reducible refine (neumeref08_fault.calls 10 ji8 t208 t209 _ A18.out).mono ?_); rintro e w20 ⟨rfl, hb⟩; replace BK205 := kb_ BK205 hb; replace HB := hb_ HB (e_ GE205 e0_) hb; (try clear hb); (try clear hb2); (try clear hk); (try clear hi); have hcz21_0 : w20.cell? ⟨gb205, 0, none⟩ = some (.int .i64 0) := (kc_ BK205.out 0).trans rfl; have hcz21_1 : w20.cell? ⟨gb205, 1, none⟩ = some (.int .i64 0) := (kc_ BK205.out 1).trans rfl; have hfz21_0 := kf_ BK205.out 0; have hfz21_1 := kf_ BK205.out 1)); try go_wp2_with (first | ((with_reducible refine gate_dst (N := 5) rfl ?_); refine box_event ?hg (N := 5) ?hd (cs := #[.int .i64 0, .int .i64 0]) (t := 26) ?hr ?_; (case hd => rfl); (case hg => rfl); (case hr => first | (go_simp; done) | (go_simp; rfl)); intro gb205 hg w19 hbox hb; have BK205 := sd_ hbox; have GW205 := gw_ HB e0_ hg; have GE205 := GW205; replace HB := hb_ HB e0_ hb; clear hb hbox hg; have p11 : 0 ≤ ((ji8) : Int) := od_ (by first | (with_reducible assumption) | assumption); have q11 : (ji8) < (a0.size : Int) := od_ (by first | (with_reducible assumption) | assumption); have hx11 := bt_at a0 (ji8); replace p11 := eq_true p11; replace q11 := eq_true q11; have p14 : 0 ≤ (a1 : Int) := od_ (by first | (with_reducible assumption) | assumption); have q14 : a1 < (a0.size : Int) := od_ (by first | (with_reducible assumption) | assumption); have hx14 := bt_at a0 a1; replace p14 := eq_true p14; replace q14 := eq_true q14) | (go_at_call 22; (with_reducible refine (neumeref08_fault.calls 10 ji8 t208 t209 _ A18.out).mono ?_); rintro e w20 ⟨rfl, hb⟩; replace BK205 := kb_ BK205 hb; replace HB := hb_ HB (e_ GE205 e0_) hb; (try clear hb); (try clear hb2); (try clear hk); (try clear hi); have hcz21_0 : w20.cell? ⟨gb205, 0, none⟩ = some (.int .i64 0) := (kc_ BK205.out 0).trans rfl; have hcz21_1 : w20.cell? ⟨gb205, 1, none⟩ = some (.int .i64 0) := (kc_ BK205.out 1).trans rfl; have hfz21_0 := kf_ BK205.out 0; have hfz21_1 := kf_ BK205.out 1)))
       refine bodyPost_ret (results_tc rfl _ _ gb205 26 #[.int .i64 t208, .int .i64 t209] (0, 0) _ rfl (by (with_reducible repeat first | apply kn_ | apply kd_ | apply ka_); refine blk_put (cs := #[.int .i64 t208, .int .i64 0]) ?_ 1 _ rfl; (with_reducible repeat first | apply kn_ | apply kd_ | apply ka_); refine blk_put (cs := #[.int .i64 0, .int .i64 0]) ?_ 0 _ rfl; (with_reducible repeat first | apply kn_ | apply kd_ | apply ka_); exact BK205.out) Tryd.underlying26 rfl (by kernel_rfl)) rfl ?_
       exact ⟨by first | rfl | (simp [errW_none, errW_some] <;> rfl) | (simp only [← hji8]; first | rfl | (simp [errW_none, errW_some] <;> rfl)) | (simp [*, errW_none, errW_some] <;> rfl), by repeat (first | (with_reducible first | exact HB.out | apply ba_ | apply pd_ | apply d1_ | refine bs_ ?_ GE205.out) | exact HB.out)⟩
     ·rw [if_neg c13] at H
      exact absurd H (by simp)
    ·rw [if_neg c12] at H
     exact absurd H (by simp)
   ·rw [if_neg c10] at H
    exact absurd H (by simp)
  ·rw [if_neg c9] at H
   exact absurd H (by simp)

/-! ### neumeref08_digit: function 40 -/
def neumeref08_digit.f (a0 : Int) : Option (Bool) := if a0 ≥ 48 then (some (decide (a0 ≤ 57))) else (some false)
set_option maxHeartbeats 8000000 in
set_option maxRecDepth 100000 in
theorem neumeref08_digit.calls (a0 : Int) (r : Bool) (w : World) (h : neumeref08_digit.f a0 = some r) :
  Calls Tryd.prog 40 #[.int .u8 a0] w fun e w' => e = .returned (.bool r) ∧ Drawn0 w w' := by
 have H : (if a0 ≥ 48 then (some (decide (a0 ≤ 57))) else (some false)) = some r := h
 clear h
 by_cases c2 : a0 ≥ 48
 ·rw [if_pos c2] at H
  have c2b0 : decide (48 ≤ a0) = true := dt_ c2
  clear c2
  obtain rfl := Option.some.inj H
  go_enter Tryd.func40, Tryd.ntmps40
  go_wp2
  go_ret
  exact ⟨by first | rfl | (simp; done) | (simp [*]; done), by repeat (first | exact Drawn0.refl _ | apply Drawn0.step)⟩
 ·rw [if_neg c2] at H
  have c2b0 : decide (48 ≤ a0) = false := df_ c2
  clear c2
  obtain rfl := Option.some.inj H
  go_enter Tryd.func40, Tryd.ntmps40
  go_wp2
  go_ret
  exact ⟨by first | rfl | (simp; done) | (simp [*]; done), by repeat (first | exact Drawn0.refl _ | apply Drawn0.step)⟩

/-! ### neumeref08_letter: function 41 -/
def neumeref08_letter.j0 : Nat → ByteArray → Int → Int → Bool → Option (Int)
 | 0, _, _, _, _ => none
 | k + 1, x0, x1, x5, x22 => if x22 = true then (some 1) else (if x5 ≥ 128 then ((neumeref08_long.f x0 x1).bind fun t210 => (some t210)) else (some 0))
def neumeref08_letter.f (k : Nat) (a0 : ByteArray) (a1 : Int) : Option (Int) := if 0 ≤ a1 then (if a1 < (a0.size : Int) then (if (bt a0 a1) ≥ 97 then (if (bt a0 a1) ≤ 122 then (neumeref08_letter.j0 k a0 a1 (bt a0 a1) true) else (if (bt a0 a1) ≥ 65 then (neumeref08_letter.j0 k a0 a1 (bt a0 a1) (decide ((bt a0 a1) ≤ 90))) else (neumeref08_letter.j0 k a0 a1 (bt a0 a1) false))) else (if (bt a0 a1) ≥ 65 then (neumeref08_letter.j0 k a0 a1 (bt a0 a1) (decide ((bt a0 a1) ≤ 90))) else (neumeref08_letter.j0 k a0 a1 (bt a0 a1) false))) else (none)) else (none)
theorem neumeref08_letter.mono_l : ∀ k, (∀ y0 y1 y2 y3, LeO (neumeref08_letter.j0 k y0 y1 y2 y3) (neumeref08_letter.j0 (k + 1) y0 y1 y2 y3))
 | 0 => fun _ _ _ _ r h => by simp [neumeref08_letter.j0] at h
 | k + 1 => by
  have ih0 := neumeref08_letter.mono_l k
  ·intro y0 y1 y2 y3
   unfold neumeref08_letter.j0
   repeat' first
   | (with_reducible exact ih0 _ _ _ _)
   | (with_reducible exact LeO.refl _)
   | (with_reducible exact LeO.none _)
   | (with_reducible refine LeO.ite ?_ ?_)
   | (with_reducible refine LeO.bind ?_ (fun _ => ?_))
   | exact ih0 _ _ _ _
   | exact LeO.none _
   | refine LeO.ite ?_ ?_
   | refine LeO.bind ?_ (fun _ => ?_)
theorem neumeref08_letter.mono : ∀ a0 a1 k, LeO (neumeref08_letter.f k a0 a1) (neumeref08_letter.f (k + 1) a0 a1) := by
 intro a0 a1 k
 have ih0 := neumeref08_letter.mono_l k
 unfold neumeref08_letter.f
 repeat' first
   | (with_reducible exact ih0 _ _ _ _)
   | (with_reducible exact LeO.refl _)
   | (with_reducible exact LeO.none _)
   | (with_reducible refine LeO.ite ?_ ?_)
   | (with_reducible refine LeO.bind ?_ (fun _ => ?_))
   | exact ih0 _ _ _ _
   | exact LeO.none _
   | refine LeO.ite ?_ ?_
   | refine LeO.bind ?_ (fun _ => ?_)
set_option maxHeartbeats 8000000 in
set_option maxRecDepth 100000 in
theorem neumeref08_letter.calls (k : Nat) (a0 : ByteArray) (a1 : Int) (r : Int) (w : World) (h : neumeref08_letter.f k a0 a1 = some r) :
  Calls Tryd.prog 41 #[.string a0, .int .i64 a1] w fun e w' => e = .returned (.int .i64 r) ∧ Below w.heap.size w w' := by
 have HB := sd_ (Below.refl w.heap.size w)
 have H : (if 0 ≤ a1 then (if a1 < (a0.size : Int) then (if (bt a0 a1) ≥ 97 then (if (bt a0 a1) ≤ 122 then (neumeref08_letter.j0 k a0 a1 (bt a0 a1) true) else (if (bt a0 a1) ≥ 65 then (neumeref08_letter.j0 k a0 a1 (bt a0 a1) (decide ((bt a0 a1) ≤ 90))) else (neumeref08_letter.j0 k a0 a1 (bt a0 a1) false))) else (if (bt a0 a1) ≥ 65 then (neumeref08_letter.j0 k a0 a1 (bt a0 a1) (decide ((bt a0 a1) ≤ 90))) else (neumeref08_letter.j0 k a0 a1 (bt a0 a1) false))) else (none)) else (none)) = some r := h
 clear h
 by_cases c3 : 0 ≤ a1
 ·rw [if_pos c3] at H
  have c3b0 : decide (0 ≤ a1) = true := dt_ c3
  clear c3
  by_cases c4 : a1 < (a0.size : Int)
  ·rw [if_pos c4] at H
   have c4b0 : decide (a1 < (a0.size : Int)) = true := dt_ c4
   clear c4
   have HC6 := sd_ H
   clear H
   have p5 : 0 ≤ (a1 : Int) := od_ (by first | (with_reducible assumption) | assumption)
   have q5 : a1 < (a0.size : Int) := od_ (by first | (with_reducible assumption) | assumption)
   have hx5 := bt_at a0 a1
   replace p5 := eq_true p5
   replace q5 := eq_true q5
   go_enter Tryd.func41, Tryd.ntmps41
   go_upto_region 2 with (fail)
   go_cut [22] (fun v22 wc => ∃ (kq : Nat) (x22_5 : Bool), v22 = .bool x22_5 ∧ Aside0 (neumeref08_letter.j0 kq a0 a1 (bt a0 a1) x22_5 = some r) ∧ Aside0 (kq ≤ k) ∧ Aside0 (Below w.heap.size w wc))
   case first =>
    have H := HC6.out
    clear HC6
    by_cases c7 : (bt a0 a1) ≥ 97
    ·rw [if_pos c7] at H
     have c7b0 : decide (97 ≤ (bt a0 a1)) = true := dt_ c7
     clear c7
     (first | rw [c7b0] | (simp only [i64_w, i32_w]; rw [c7b0]) | skip)
     by_cases c8 : (bt a0 a1) ≤ 122
     ·rw [if_pos c8] at H
      have c8b0 : decide ((bt a0 a1) ≤ 122) = true := dt_ c8
      clear c8
      have H' := sd_ H
      clear H
      go_wp2
      go_meet
      case rel => exact ⟨_, (true), (by first | rfl | (simp; done) | (simp [*]; done) | (simp [bne]; done)), H', ⟨by first | omega | exact Nat.le_refl _⟩, ⟨by repeat (first | (with_reducible first | exact HB.out | apply ba_ | apply pd_ | apply d1_) | exact HB.out)⟩⟩
     ·rw [if_neg c8] at H
      have c8b0 : decide ((bt a0 a1) ≤ 122) = false := df_ c8
      clear c8
      by_cases c9 : (bt a0 a1) ≥ 65
      ·rw [if_pos c9] at H
       have c9b0 : decide (65 ≤ (bt a0 a1)) = true := dt_ c9
       clear c9
       have H' := sd_ H
       clear H
       go_wp2
       go_meet
       case rel => exact ⟨_, (decide ((bt a0 a1) ≤ 90)), (by first | rfl | (simp; done) | (simp [*]; done) | (simp [bne]; done)), H', ⟨by first | omega | exact Nat.le_refl _⟩, ⟨by repeat (first | (with_reducible first | exact HB.out | apply ba_ | apply pd_ | apply d1_) | exact HB.out)⟩⟩
      ·rw [if_neg c9] at H
       have c9b0 : decide (65 ≤ (bt a0 a1)) = false := df_ c9
       clear c9
       have H' := sd_ H
       clear H
       go_wp2
       go_meet
       case rel => exact ⟨_, (false), (by first | rfl | (simp; done) | (simp [*]; done) | (simp [bne]; done)), H', ⟨by first | omega | exact Nat.le_refl _⟩, ⟨by repeat (first | (with_reducible first | exact HB.out | apply ba_ | apply pd_ | apply d1_) | exact HB.out)⟩⟩
    ·rw [if_neg c7] at H
     have c7b0 : decide (97 ≤ (bt a0 a1)) = false := df_ c7
     clear c7
     (first | rw [c7b0] | (simp only [i64_w, i32_w]; rw [c7b0]) | skip)
     by_cases c10 : (bt a0 a1) ≥ 65
     ·rw [if_pos c10] at H
      have c10b0 : decide (65 ≤ (bt a0 a1)) = true := dt_ c10
      clear c10
      have H' := sd_ H
      clear H
      go_wp2
      go_meet
      case rel => exact ⟨_, (decide ((bt a0 a1) ≤ 90)), (by first | rfl | (simp; done) | (simp [*]; done) | (simp [bne]; done)), H', ⟨by first | omega | exact Nat.le_refl _⟩, ⟨by repeat (first | (with_reducible first | exact HB.out | apply ba_ | apply pd_ | apply d1_) | exact HB.out)⟩⟩
     ·rw [if_neg c10] at H
      have c10b0 : decide (65 ≤ (bt a0 a1)) = false := df_ c10
      clear c10
      have H' := sd_ H
      clear H
      go_wp2
      go_meet
      case rel => exact ⟨_, (false), (by first | rfl | (simp; done) | (simp [*]; done) | (simp [bne]; done)), H', ⟨by first | omega | exact Nat.le_refl _⟩, ⟨by repeat (first | (with_reducible first | exact HB.out | apply ba_ | apply pd_ | apply d1_) | exact HB.out)⟩⟩
   case rest =>
    clear HC6
    try clear c1; try clear p2; try clear c3; try clear c3b0; try clear c4; try clear c4b0; try clear p5; try clear q5; try clear hx5; try clear c7; try clear c7b0; try clear c8; try clear c8b0; try clear c9; try clear c9b0; try clear c10; try clear c10b0; try clear p5; try clear q5
    obtain ⟨kq, x22_5, rfl, HA, HJ5, HB⟩ := hcut
    cases kq with
    | zero => exact absurd HA.out (by simp [neumeref08_letter.j0])
    | succ kj5 =>
     have H := HA.out
     clear HA
     simp only [neumeref08_letter.j0] at H
     by_cases c11 : x22_5 = true
     ·subst c11
      have H1 : (some 1) = some r := by rw [if_pos rfl] at H; exact H
      clear H; have H := H1; clear H1
      obtain rfl := Option.some.inj H
      go_wp2
      go_ret
      exact ⟨by first | rfl | (simp [errW_none, errW_some] <;> rfl) | (simp [*, errW_none, errW_some] <;> rfl), by repeat (first | (with_reducible first | exact HB.out | apply ba_ | apply pd_ | apply d1_) | exact HB.out)⟩
     ·replace c11 := bf_ c11
      subst c11
      have H1 : (if (bt a0 a1) ≥ 128 then ((neumeref08_long.f a0 a1).bind fun t210 => (some t210)) else (some 0)) = some r := by rw [if_neg (show ¬ (false = true) by decide)] at H; exact H
      clear H; have H := H1; clear H1
      by_cases c12 : (bt a0 a1) ≥ 128
      ·rw [if_pos c12] at H
       have c12b0 : decide (128 ≤ (bt a0 a1)) = true := dt_ c12
       clear c12
       replace H := ob_ H
       obtain ⟨t210, A130, H⟩ := H
       replace H : (some t210) = some r := H
       have A13 := sd_ A130
       clear A130
       obtain rfl := Option.some.inj H
       go_wp2_with (first | ((with_reducible refine gate_callee (f := 46) rfl ?_); refine goesL_ (some 27) rfl rfl Tryd.func46 (by kernel_rfl) rfl #[.string a0, .int .i64 a1] rfl (by (try simp only [lm_, lq_, lx_]); first | done | rfl | (simp only [ld_, lt_]; rfl)) ?_; (with_reducible refine (neumeref08_long.calls a0 a1 t210 _ A13.out).mono ?_); rintro e w14 ⟨rfl, hb⟩; refine ⟨_, rfl, ?_⟩; replace HB := hb_ HB e0_ hb; (try clear hb); (try clear hb2); (try clear hk); (try clear hi)))
       go_ret
       exact ⟨by first | rfl | (simp [errW_none, errW_some] <;> rfl) | (simp [*, errW_none, errW_some] <;> rfl), by repeat (first | (with_reducible first | exact HB.out | apply ba_ | apply pd_ | apply d1_) | exact HB.out)⟩
      ·rw [if_neg c12] at H
       have c12b0 : decide (128 ≤ (bt a0 a1)) = false := df_ c12
       clear c12
       obtain rfl := Option.some.inj H
       go_wp2
       go_ret
       exact ⟨by first | rfl | (simp [errW_none, errW_some] <;> rfl) | (simp [*, errW_none, errW_some] <;> rfl), by repeat (first | (with_reducible first | exact HB.out | apply ba_ | apply pd_ | apply d1_) | exact HB.out)⟩
  ·rw [if_neg c4] at H
   exact absurd H (by simp)
 ·rw [if_neg c3] at H
  exact absurd H (by simp)

end Go.Proofs.YtmffjjncnbeldaaDoor.P
