-- Written by a program of this session (wip/tools/xprint.py, over the kit's print): Lean checks it.
import Derived.Test.YtdiccfonlojlfaaGreatDoorPx0
import Derived.Test.YtdiccfonlojlfaaGreatDoorPx11
namespace Go.Proofs.YtdiccfonlojlfaaGreatDoor.P
open Go.RowKit Go.Proofs.YtdiccfonlojlfaaGreatDoorW.PrintWords Go.Proofs.YtdiccfonlojlfaaGreatDoorW.PrintLast Go.Proofs.YtdiccfonlojlfaaGreatDoorW.PrintMore
attribute [local go_sem] max2_int min2_int max_two min_two max_three min_three max_four min_four   -- for this text's walks alone
set_option linter.unusedVariables false
set_option linter.unusedSimpArgs false

/-! ### neumeref07_Meter: function 33 -/
def neumeref07_Meter.f (a0_0 : Int) (a0_1 : Int) : Option (Bool) := if a0_0 ≥ 1 then (if a0_0 ≤ 32 then (if a0_1 = 1 then (some true) else (if a0_1 = 2 then (some true) else (if a0_1 = 4 then (some true) else (if a0_1 = 8 then (some true) else (if a0_1 = 16 then (some true) else (some (a0_1 == 32))))))) else (some false)) else (some false)
set_option maxHeartbeats 8000000 in
set_option maxRecDepth 100000 in
theorem neumeref07_Meter.calls (a0_0 : Int) (a0_1 : Int) (r : Bool) (w : World) (h : neumeref07_Meter.f a0_0 a0_1 = some r) :
  Calls Tryz.prog 33 #[.agg #[.int .i64 a0_0, .int .i64 a0_1]] w fun e w' => e = .returned (.bool r) ∧ Below w.heap.size w w' := by
 have hu45 := Tryz.underlying45
 have HB := sd_ (Below.refl w.heap.size w)
 have H : (if a0_0 ≥ 1 then (if a0_0 ≤ 32 then (if a0_1 = 1 then (some true) else (if a0_1 = 2 then (some true) else (if a0_1 = 4 then (some true) else (if a0_1 = 8 then (some true) else (if a0_1 = 16 then (some true) else (some (a0_1 == 32))))))) else (some false)) else (some false)) = some r := h
 clear h
 by_cases c2 : a0_0 ≥ 1
 ·rw [if_pos c2] at H
  have c2b0 : decide (1 ≤ a0_0) = true := dt_ c2
  clear c2
  by_cases c3 : a0_0 ≤ 32
  ·rw [if_pos c3] at H
   have c3b0 : decide (a0_0 ≤ 32) = true := dt_ c3
   clear c3
   by_cases c4 : a0_1 = 1
   ·rw [if_pos c4] at H
    have c4b0 : (a0_1 == 1) = true := beq_iff_eq.mpr c4
    have c4b1 : (a0_1 != 1) = false := bne_eq_false_iff_eq.mpr c4
    clear c4
    obtain rfl := Option.some.inj H
    go_enter Tryz.func33, Tryz.ntmps33
    go_wp2_with (first | ((with_reducible refine gate_dst (N := 1) rfl ?_); refine box_event ?hg (N := 1) ?hd (cs := #[.int .i64 a0_0, .int .i64 a0_1]) (t := 45) ?hr ?_; (case hd => rfl); (case hg => rfl); (case hr => first | (go_simp; done) | (go_simp; rfl)); intro gb476 hg w5 hbox hb; have BK476 := sd_ hbox; have GW476 := gw_ HB e0_ hg; have GE476 := GW476; replace HB := hb_ HB e0_ hb; clear hb hbox hg; have hcz6_0 : w5.cell? ⟨gb476, 0, none⟩ = some (.int .i64 a0_0) := (kc_ BK476.out 0).trans rfl; have hcz6_1 : w5.cell? ⟨gb476, 1, none⟩ = some (.int .i64 a0_1) := (kc_ BK476.out 1).trans rfl; have hfz6_0 := kf_ BK476.out 0; have hfz6_1 := kf_ BK476.out 1))
    go_ret
    exact ⟨by first | rfl | (simp [errW_none, errW_some] <;> rfl) | (simp [*, errW_none, errW_some] <;> rfl), by repeat (first | (with_reducible first | exact HB.out | apply ba_ | apply pd_ | apply d1_ | refine bs_ ?_ GE476.out) | exact HB.out)⟩
   ·rw [if_neg c4] at H
    have c4b0 : (a0_1 == 1) = false := beq_eq_false_iff_ne.mpr c4
    have c4b1 : (a0_1 != 1) = true := bne_iff_ne.mpr c4
    by_cases c7 : a0_1 = 2
    ·rw [if_pos c7] at H
     have c7b0 : (a0_1 == 2) = true := beq_iff_eq.mpr c7
     have c7b1 : (a0_1 != 2) = false := bne_eq_false_iff_eq.mpr c7
     clear c7
     obtain rfl := Option.some.inj H
     go_enter Tryz.func33, Tryz.ntmps33
     go_wp2_with (first | ((with_reducible refine gate_dst (N := 1) rfl ?_); refine box_event ?hg (N := 1) ?hd (cs := #[.int .i64 a0_0, .int .i64 a0_1]) (t := 45) ?hr ?_; (case hd => rfl); (case hg => rfl); (case hr => first | (go_simp; done) | (go_simp; rfl)); intro gb476 hg w8 hbox hb; have BK476 := sd_ hbox; have GW476 := gw_ HB e0_ hg; have GE476 := GW476; replace HB := hb_ HB e0_ hb; clear hb hbox hg; have hcz9_0 : w8.cell? ⟨gb476, 0, none⟩ = some (.int .i64 a0_0) := (kc_ BK476.out 0).trans rfl; have hcz9_1 : w8.cell? ⟨gb476, 1, none⟩ = some (.int .i64 a0_1) := (kc_ BK476.out 1).trans rfl; have hfz9_0 := kf_ BK476.out 0; have hfz9_1 := kf_ BK476.out 1))
     go_ret
     exact ⟨by first | rfl | (simp [errW_none, errW_some] <;> rfl) | (simp [*, errW_none, errW_some] <;> rfl), by repeat (first | (with_reducible first | exact HB.out | apply ba_ | apply pd_ | apply d1_ | refine bs_ ?_ GE476.out) | exact HB.out)⟩
    ·rw [if_neg c7] at H
     have c7b0 : (a0_1 == 2) = false := beq_eq_false_iff_ne.mpr c7
     have c7b1 : (a0_1 != 2) = true := bne_iff_ne.mpr c7
     by_cases c10 : a0_1 = 4
     ·rw [if_pos c10] at H
      have c10b0 : (a0_1 == 4) = true := beq_iff_eq.mpr c10
      have c10b1 : (a0_1 != 4) = false := bne_eq_false_iff_eq.mpr c10
      clear c10
      obtain rfl := Option.some.inj H
      go_enter Tryz.func33, Tryz.ntmps33
      go_wp2_with (first | ((with_reducible refine gate_dst (N := 1) rfl ?_); refine box_event ?hg (N := 1) ?hd (cs := #[.int .i64 a0_0, .int .i64 a0_1]) (t := 45) ?hr ?_; (case hd => rfl); (case hg => rfl); (case hr => first | (go_simp; done) | (go_simp; rfl)); intro gb476 hg w11 hbox hb; have BK476 := sd_ hbox; have GW476 := gw_ HB e0_ hg; have GE476 := GW476; replace HB := hb_ HB e0_ hb; clear hb hbox hg; have hcz12_0 : w11.cell? ⟨gb476, 0, none⟩ = some (.int .i64 a0_0) := (kc_ BK476.out 0).trans rfl; have hcz12_1 : w11.cell? ⟨gb476, 1, none⟩ = some (.int .i64 a0_1) := (kc_ BK476.out 1).trans rfl; have hfz12_0 := kf_ BK476.out 0; have hfz12_1 := kf_ BK476.out 1))
      go_ret
      exact ⟨by first | rfl | (simp [errW_none, errW_some] <;> rfl) | (simp [*, errW_none, errW_some] <;> rfl), by repeat (first | (with_reducible first | exact HB.out | apply ba_ | apply pd_ | apply d1_ | refine bs_ ?_ GE476.out) | exact HB.out)⟩
     ·rw [if_neg c10] at H
      have c10b0 : (a0_1 == 4) = false := beq_eq_false_iff_ne.mpr c10
      have c10b1 : (a0_1 != 4) = true := bne_iff_ne.mpr c10
      by_cases c13 : a0_1 = 8
      ·rw [if_pos c13] at H
       have c13b0 : (a0_1 == 8) = true := beq_iff_eq.mpr c13
       have c13b1 : (a0_1 != 8) = false := bne_eq_false_iff_eq.mpr c13
       clear c13
       obtain rfl := Option.some.inj H
       go_enter Tryz.func33, Tryz.ntmps33
       go_wp2_with (first | ((with_reducible refine gate_dst (N := 1) rfl ?_); refine box_event ?hg (N := 1) ?hd (cs := #[.int .i64 a0_0, .int .i64 a0_1]) (t := 45) ?hr ?_; (case hd => rfl); (case hg => rfl); (case hr => first | (go_simp; done) | (go_simp; rfl)); intro gb476 hg w14 hbox hb; have BK476 := sd_ hbox; have GW476 := gw_ HB e0_ hg; have GE476 := GW476; replace HB := hb_ HB e0_ hb; clear hb hbox hg; have hcz15_0 : w14.cell? ⟨gb476, 0, none⟩ = some (.int .i64 a0_0) := (kc_ BK476.out 0).trans rfl; have hcz15_1 : w14.cell? ⟨gb476, 1, none⟩ = some (.int .i64 a0_1) := (kc_ BK476.out 1).trans rfl; have hfz15_0 := kf_ BK476.out 0; have hfz15_1 := kf_ BK476.out 1))
       go_ret
       exact ⟨by first | rfl | (simp [errW_none, errW_some] <;> rfl) | (simp [*, errW_none, errW_some] <;> rfl), by repeat (first | (with_reducible first | exact HB.out | apply ba_ | apply pd_ | apply d1_ | refine bs_ ?_ GE476.out) | exact HB.out)⟩
      ·rw [if_neg c13] at H
       have c13b0 : (a0_1 == 8) = false := beq_eq_false_iff_ne.mpr c13
       have c13b1 : (a0_1 != 8) = true := bne_iff_ne.mpr c13
       by_cases c16 : a0_1 = 16
       ·rw [if_pos c16] at H
        have c16b0 : (a0_1 == 16) = true := beq_iff_eq.mpr c16
        have c16b1 : (a0_1 != 16) = false := bne_eq_false_iff_eq.mpr c16
        clear c16
        obtain rfl := Option.some.inj H
        go_enter Tryz.func33, Tryz.ntmps33
        go_wp2_with (first | ((with_reducible refine gate_dst (N := 1) rfl ?_); refine box_event ?hg (N := 1) ?hd (cs := #[.int .i64 a0_0, .int .i64 a0_1]) (t := 45) ?hr ?_; (case hd => rfl); (case hg => rfl); (case hr => first | (go_simp; done) | (go_simp; rfl)); intro gb476 hg w17 hbox hb; have BK476 := sd_ hbox; have GW476 := gw_ HB e0_ hg; have GE476 := GW476; replace HB := hb_ HB e0_ hb; clear hb hbox hg; have hcz18_0 : w17.cell? ⟨gb476, 0, none⟩ = some (.int .i64 a0_0) := (kc_ BK476.out 0).trans rfl; have hcz18_1 : w17.cell? ⟨gb476, 1, none⟩ = some (.int .i64 a0_1) := (kc_ BK476.out 1).trans rfl; have hfz18_0 := kf_ BK476.out 0; have hfz18_1 := kf_ BK476.out 1))
        go_ret
        exact ⟨by first | rfl | (simp [errW_none, errW_some] <;> rfl) | (simp [*, errW_none, errW_some] <;> rfl), by repeat (first | (with_reducible first | exact HB.out | apply ba_ | apply pd_ | apply d1_ | refine bs_ ?_ GE476.out) | exact HB.out)⟩
       ·rw [if_neg c16] at H
        have c16b0 : (a0_1 == 16) = false := beq_eq_false_iff_ne.mpr c16
        have c16b1 : (a0_1 != 16) = true := bne_iff_ne.mpr c16
        obtain rfl := Option.some.inj H
        go_enter Tryz.func33, Tryz.ntmps33
        go_wp2_with (first | ((with_reducible refine gate_dst (N := 1) rfl ?_); refine box_event ?hg (N := 1) ?hd (cs := #[.int .i64 a0_0, .int .i64 a0_1]) (t := 45) ?hr ?_; (case hd => rfl); (case hg => rfl); (case hr => first | (go_simp; done) | (go_simp; rfl)); intro gb476 hg w19 hbox hb; have BK476 := sd_ hbox; have GW476 := gw_ HB e0_ hg; have GE476 := GW476; replace HB := hb_ HB e0_ hb; clear hb hbox hg; have hcz20_0 : w19.cell? ⟨gb476, 0, none⟩ = some (.int .i64 a0_0) := (kc_ BK476.out 0).trans rfl; have hcz20_1 : w19.cell? ⟨gb476, 1, none⟩ = some (.int .i64 a0_1) := (kc_ BK476.out 1).trans rfl; have hfz20_0 := kf_ BK476.out 0; have hfz20_1 := kf_ BK476.out 1))
        go_ret
        exact ⟨by first | rfl | (simp [errW_none, errW_some] <;> rfl) | (simp [*, errW_none, errW_some] <;> rfl), by repeat (first | (with_reducible first | exact HB.out | apply ba_ | apply pd_ | apply d1_ | refine bs_ ?_ GE476.out) | exact HB.out)⟩
  ·rw [if_neg c3] at H
   have c3b0 : decide (a0_0 ≤ 32) = false := df_ c3
   clear c3
   obtain rfl := Option.some.inj H
   go_enter Tryz.func33, Tryz.ntmps33
   go_wp2_with (first | ((with_reducible refine gate_dst (N := 1) rfl ?_); refine box_event ?hg (N := 1) ?hd (cs := #[.int .i64 a0_0, .int .i64 a0_1]) (t := 45) ?hr ?_; (case hd => rfl); (case hg => rfl); (case hr => first | (go_simp; done) | (go_simp; rfl)); intro gb476 hg w21 hbox hb; have BK476 := sd_ hbox; have GW476 := gw_ HB e0_ hg; have GE476 := GW476; replace HB := hb_ HB e0_ hb; clear hb hbox hg; have hcz22_0 : w21.cell? ⟨gb476, 0, none⟩ = some (.int .i64 a0_0) := (kc_ BK476.out 0).trans rfl; have hcz22_1 : w21.cell? ⟨gb476, 1, none⟩ = some (.int .i64 a0_1) := (kc_ BK476.out 1).trans rfl; have hfz22_0 := kf_ BK476.out 0; have hfz22_1 := kf_ BK476.out 1))
   go_ret
   exact ⟨by first | rfl | (simp [errW_none, errW_some] <;> rfl) | (simp [*, errW_none, errW_some] <;> rfl), by repeat (first | (with_reducible first | exact HB.out | apply ba_ | apply pd_ | apply d1_ | refine bs_ ?_ GE476.out) | exact HB.out)⟩
 ·rw [if_neg c2] at H
  have c2b0 : decide (1 ≤ a0_0) = false := df_ c2
  clear c2
  obtain rfl := Option.some.inj H
  go_enter Tryz.func33, Tryz.ntmps33
  go_wp2_with (first | ((with_reducible refine gate_dst (N := 1) rfl ?_); refine box_event ?hg (N := 1) ?hd (cs := #[.int .i64 a0_0, .int .i64 a0_1]) (t := 45) ?hr ?_; (case hd => rfl); (case hg => rfl); (case hr => first | (go_simp; done) | (go_simp; rfl)); intro gb476 hg w23 hbox hb; have BK476 := sd_ hbox; have GW476 := gw_ HB e0_ hg; have GE476 := GW476; replace HB := hb_ HB e0_ hb; clear hb hbox hg; have hcz24_0 : w23.cell? ⟨gb476, 0, none⟩ = some (.int .i64 a0_0) := (kc_ BK476.out 0).trans rfl; have hcz24_1 : w23.cell? ⟨gb476, 1, none⟩ = some (.int .i64 a0_1) := (kc_ BK476.out 1).trans rfl; have hfz24_0 := kf_ BK476.out 0; have hfz24_1 := kf_ BK476.out 1))
  go_ret
  exact ⟨by first | rfl | (simp [errW_none, errW_some] <;> rfl) | (simp [*, errW_none, errW_some] <;> rfl), by repeat (first | (with_reducible first | exact HB.out | apply ba_ | apply pd_ | apply d1_ | refine bs_ ?_ GE476.out) | exact HB.out)⟩

/-! ### neumeref07_Bar: function 26 -/
def neumeref07_Bar.f (k : Nat) (a0_0 : Int) (a0_1 : Int) : Option (Int × Int × Int) := (neumeref07_Meter.f a0_0 a0_1).bind fun t479 => (if t479 = true then ((neumeref02_Of.f k a0_0 a0_1).bind fun bt480 => (some (bt480.1, bt480.2.1, bt480.2.2))) else (some (0, 0, 2)))
theorem neumeref07_Bar.mono : ∀ a0 a1 k, LeO (neumeref07_Bar.f k a0 a1) (neumeref07_Bar.f (k + 1) a0 a1) := by
 intro a0 a1 k
 unfold neumeref07_Bar.f
 repeat' first
   | (with_reducible exact neumeref02_Of.mono _ _ _)
   | (with_reducible exact LeO.refl _)
   | (with_reducible exact LeO.none _)
   | (with_reducible refine LeO.ite ?_ ?_)
   | (with_reducible refine LeO.bind ?_ (fun _ => ?_))
   | exact neumeref02_Of.mono _ _ _
   | exact LeO.none _
   | refine LeO.ite ?_ ?_
   | refine LeO.bind ?_ (fun _ => ?_)
set_option maxHeartbeats 8000000 in
set_option maxRecDepth 100000 in
theorem neumeref07_Bar.calls (k : Nat) (a0_0 : Int) (a0_1 : Int) (r1 : Int) (r2 : Int) (r3 : Int) (w : World) (h : neumeref07_Bar.f k a0_0 a0_1 = some (r1, r2, r3)) :
  Calls Tryz.prog 26 #[.agg #[.int .i64 a0_0, .int .i64 a0_1]] w fun e w' => e = .returned (.tuple #[.agg #[.int .i64 r1, .int .i64 r2], .int .i64 r3]) ∧ Below w.heap.size w w' := by
 have hu45 := Tryz.underlying45
 have hu25 := Tryz.underlying25
 have HB := sd_ (Below.refl w.heap.size w)
 have H : ((neumeref07_Meter.f a0_0 a0_1).bind fun t479 => (if t479 = true then ((neumeref02_Of.f k a0_0 a0_1).bind fun bt480 => (some (bt480.1, bt480.2.1, bt480.2.2))) else (some (0, 0, 2)))) = some (r1, r2, r3) := h
 clear h
 replace H := ob_ H
 obtain ⟨t479, A20, H⟩ := H
 replace H : (if t479 = true then ((neumeref02_Of.f k a0_0 a0_1).bind fun bt480 => (some (bt480.1, bt480.2.1, bt480.2.2))) else (some (0, 0, 2))) = some (r1, r2, r3) := H
 have A2 := sd_ A20
 clear A20
 by_cases c3 : t479 = true
 ·subst c3
  have H1 : ((neumeref02_Of.f k a0_0 a0_1).bind fun bt480 => (some (bt480.1, bt480.2.1, bt480.2.2))) = some (r1, r2, r3) := by rw [if_pos rfl] at H; exact H
  clear H; have H := H1; clear H1
  replace H := ob_ H
  obtain ⟨⟨t480, t481, t482⟩, A40, H⟩ := H
  replace H : (some (t480, t481, t482)) = some (r1, r2, r3) := H
  have A4 := sd_ A40
  clear A40
  simp only [Option.some.injEq, Prod.mk.injEq] at H
  obtain ⟨rfl, rfl, rfl⟩ := H
  go_enter Tryz.func26, Tryz.ntmps26
  go_wp2_with (first | ((with_reducible refine gate_dst (N := 1) rfl ?_); refine box_event ?hg (N := 1) ?hd (cs := #[.int .i64 a0_0, .int .i64 a0_1]) (t := 45) ?hr ?_; (case hd => rfl); (case hg => rfl); (case hr => first | (go_simp; done) | (go_simp; rfl)); intro gb477 hg w5 hbox hb; have BK477 := sd_ hbox; have GW477 := gw_ HB e0_ hg; have GE477 := GW477; replace HB := hb_ HB e0_ hb; clear hb hbox hg) | ((with_reducible refine gate_dst (N := 2) rfl ?_); refine box_event ?hg (N := 2) ?hd (cs := #[.int .i64 0, .int .i64 0]) (t := 25) ?hr ?_; (case hd => rfl); (case hg => rfl); (case hr => first | (go_simp; done) | (go_simp; rfl)); intro gb478 hg w6 hbox hb; have BK478 := sd_ hbox; have GW478 := gw_ HB (e_ GE477 e0_) hg; have GE478 := GW478; have NB477_478 := nb_ BK477 hg; have NB478_477 := sy_ NB477_478; replace BK477 := kb_ BK477 hb; replace HB := hb_ HB (e_ GE477 e0_) hb; clear hb hbox hg; have hnb7 := NB477_478.out; have hnc7 := NB478_477.out; have hcz8_0 : w6.cell? ⟨gb477, 0, none⟩ = some (.int .i64 a0_0) := (kc_ BK477.out 0).trans rfl; have hcz8_1 : w6.cell? ⟨gb477, 1, none⟩ = some (.int .i64 a0_1) := (kc_ BK477.out 1).trans rfl; have hfz8_0 := kf_ BK477.out 0; have hfz8_1 := kf_ BK477.out 1) | ((with_reducible refine gate_callee (f := 33) rfl ?_); refine goesL_ (some 5) rfl rfl Tryz.func33 (by kernel_rfl) rfl #[.agg #[.int .i64 a0_0, .int .i64 a0_1]] rfl (by (try simp only [lm_, lq_, lx_]); first | done | rfl | (simp only [ld_, lt_]; rfl)) ?_; (with_reducible refine (neumeref07_Meter.calls a0_0 a0_1 true _ A2.out).mono ?_); rintro e w9 ⟨rfl, hb⟩; refine ⟨_, rfl, ?_⟩; replace BK477 := kb_ BK477 hb; replace BK478 := kb_ BK478 hb; replace HB := hb_ HB (e_ GE477 (e_ GE478 e0_)) hb; (try clear hb); (try clear hb2); (try clear hk); (try clear hi); have hcz10_0 : w9.cell? ⟨gb477, 0, none⟩ = some (.int .i64 a0_0) := (kc_ BK477.out 0).trans rfl; have hcz10_1 : w9.cell? ⟨gb477, 1, none⟩ = some (.int .i64 a0_1) := (kc_ BK477.out 1).trans rfl; have hfz10_0 := kf_ BK477.out 0; have hfz10_1 := kf_ BK477.out 1) | ((with_reducible refine gate_callee (f := 38) rfl ?_); refine goesL_ (some 12) rfl rfl Tryz.func38 (by kernel_rfl) rfl #[.int .i64 a0_0, .int .i64 a0_1] rfl (by (try simp only [lm_, lq_, lx_]); first | done | rfl | (simp only [ld_, lt_]; rfl)) ?_; (with_reducible refine (neumeref02_Of.calls k a0_0 a0_1 t480 t481 t482 _ A4.out).mono ?_); rintro e w11 ⟨rfl, hb⟩; refine ⟨_, rfl, ?_⟩; replace BK477 := kb_ BK477 hb; replace BK478 := kb_ BK478 hb; replace HB := hb_ HB (e_ GE477 (e_ GE478 e0_)) hb; (try clear hb); (try clear hb2); (try clear hk); (try clear hi); have hcz12_0 : w11.cell? ⟨gb478, 0, none⟩ = some (.int .i64 0) := (kc_ BK478.out 0).trans rfl; have hcz12_1 : w11.cell? ⟨gb478, 1, none⟩ = some (.int .i64 0) := (kc_ BK478.out 1).trans rfl; have hfz12_0 := kf_ BK478.out 0; have hfz12_1 := kf_ BK478.out 1))
  refine bodyPost_ret (results_ct rfl _ _ gb478 25 #[.int .i64 t480, .int .i64 t481] (0, 0) _ rfl (by (with_reducible repeat first | apply kn_ | apply kd_ | apply ka_); refine blk_put (cs := #[.int .i64 t480, .int .i64 0]) ?_ 1 _ rfl; (with_reducible repeat first | apply kn_ | apply kd_ | apply ka_); refine blk_put (cs := #[.int .i64 0, .int .i64 0]) ?_ 0 _ rfl; (with_reducible repeat first | apply kn_ | apply kd_ | apply ka_); exact BK478.out) Tryz.underlying25 rfl (by kernel_rfl)) rfl ?_
  exact ⟨by first | rfl | (simp [errW_none, errW_some] <;> rfl) | (simp [*, errW_none, errW_some] <;> rfl), by repeat (first | (with_reducible first | exact HB.out | apply ba_ | apply pd_ | apply d1_ | refine bs_ ?_ GE477.out | refine bs_ ?_ GE478.out) | exact HB.out)⟩
 ·replace c3 := bf_ c3
  subst c3
  have H1 : (some (0, 0, 2)) = some (r1, r2, r3) := by rw [if_neg (show ¬ (false = true) by decide)] at H; exact H
  clear H; have H := H1; clear H1
  simp only [Option.some.injEq, Prod.mk.injEq] at H
  obtain ⟨rfl, rfl, rfl⟩ := H
  go_enter Tryz.func26, Tryz.ntmps26
  go_wp2_with (first | ((with_reducible refine gate_dst (N := 1) rfl ?_); refine box_event ?hg (N := 1) ?hd (cs := #[.int .i64 a0_0, .int .i64 a0_1]) (t := 45) ?hr ?_; (case hd => rfl); (case hg => rfl); (case hr => first | (go_simp; done) | (go_simp; rfl)); intro gb477 hg w13 hbox hb; have BK477 := sd_ hbox; have GW477 := gw_ HB e0_ hg; have GE477 := GW477; replace HB := hb_ HB e0_ hb; clear hb hbox hg) | ((with_reducible refine gate_dst (N := 2) rfl ?_); refine box_event ?hg (N := 2) ?hd (cs := #[.int .i64 0, .int .i64 0]) (t := 25) ?hr ?_; (case hd => rfl); (case hg => rfl); (case hr => first | (go_simp; done) | (go_simp; rfl)); intro gb478 hg w14 hbox hb; have BK478 := sd_ hbox; have GW478 := gw_ HB (e_ GE477 e0_) hg; have GE478 := GW478; have NB477_478 := nb_ BK477 hg; have NB478_477 := sy_ NB477_478; replace BK477 := kb_ BK477 hb; replace HB := hb_ HB (e_ GE477 e0_) hb; clear hb hbox hg; have hnb15 := NB477_478.out; have hnc15 := NB478_477.out; have hcz16_0 : w14.cell? ⟨gb477, 0, none⟩ = some (.int .i64 a0_0) := (kc_ BK477.out 0).trans rfl; have hcz16_1 : w14.cell? ⟨gb477, 1, none⟩ = some (.int .i64 a0_1) := (kc_ BK477.out 1).trans rfl; have hfz16_0 := kf_ BK477.out 0; have hfz16_1 := kf_ BK477.out 1) | ((with_reducible refine gate_callee (f := 33) rfl ?_); refine goesL_ (some 5) rfl rfl Tryz.func33 (by kernel_rfl) rfl #[.agg #[.int .i64 a0_0, .int .i64 a0_1]] rfl (by (try simp only [lm_, lq_, lx_]); first | done | rfl | (simp only [ld_, lt_]; rfl)) ?_; (with_reducible refine (neumeref07_Meter.calls a0_0 a0_1 false _ A2.out).mono ?_); rintro e w17 ⟨rfl, hb⟩; refine ⟨_, rfl, ?_⟩; replace BK477 := kb_ BK477 hb; replace BK478 := kb_ BK478 hb; replace HB := hb_ HB (e_ GE477 (e_ GE478 e0_)) hb; (try clear hb); (try clear hb2); (try clear hk); (try clear hi); have hcz18_0 : w17.cell? ⟨gb478, 0, none⟩ = some (.int .i64 0) := (kc_ BK478.out 0).trans rfl; have hcz18_1 : w17.cell? ⟨gb478, 1, none⟩ = some (.int .i64 0) := (kc_ BK478.out 1).trans rfl; have hfz18_0 := kf_ BK478.out 0; have hfz18_1 := kf_ BK478.out 1))
  refine bodyPost_ret (results_ct rfl _ _ gb478 25 #[.int .i64 0, .int .i64 0] (0, 0) _ rfl (by (with_reducible repeat first | apply kn_ | apply kd_ | apply ka_); refine blk_put (cs := #[.int .i64 0, .int .i64 0]) ?_ 1 _ rfl; (with_reducible repeat first | apply kn_ | apply kd_ | apply ka_); refine blk_put (cs := #[.int .i64 0, .int .i64 0]) ?_ 0 _ rfl; (with_reducible repeat first | apply kn_ | apply kd_ | apply ka_); exact BK478.out) Tryz.underlying25 rfl (by kernel_rfl)) rfl ?_
  exact ⟨by first | rfl | (simp [errW_none, errW_some] <;> rfl) | (simp [*, errW_none, errW_some] <;> rfl), by repeat (first | (with_reducible first | exact HB.out | apply ba_ | apply pd_ | apply d1_ | refine bs_ ?_ GE477.out | refine bs_ ?_ GE478.out) | exact HB.out)⟩

/-! ### neumeref07_Beats: function 28 -/
mutual
def neumeref07_Beats.j0 : Nat → Int → Bool → Int → Int → Option ((List (S25)) × Int)
 | 0, _, _, _, _ => none
 | k + 1, x4, x25, x484000, x484001 => if x25 = true then (neumeref07_Beats.j1 k 3 x484000 x484001) else (neumeref07_Beats.j1 k x4 x484000 x484001)
def neumeref07_Beats.j1 : Nat → Int → Int → Int → Option ((List (S25)) × Int)
 | 0, _, _, _ => none
 | k + 1, x4, x484000, x484001 => neumeref07_Beats.l0 k x4 ([] : List (S25)) 0 x484000 x484001
def neumeref07_Beats.l0 : Nat → Int → List (S25) → Int → Int → Int → Option ((List (S25)) × Int)
 | 0, _, _, _, _, _ => none
 | k + 1, x4, x5, x6, x484000, x484001 => if x6 < x484000 then ((neumeref02_Of.f k x6 x484001).bind fun bt485 => (if x5.length < 8796093022208 then (neumeref07_Beats.l0 k x4 (x5 ++ [(⟨bt485.1, bt485.2.1⟩ : S25)]) (wrap64 (x6 + x4)) x484000 x484001) else (none))) else (some (x5, 0))
end
def neumeref07_Beats.f (k : Nat) (a0_0 : Int) (a0_1 : Int) : Option ((List (S25)) × Int) := (neumeref07_Meter.f a0_0 a0_1).bind fun t484 => (if t484 = true then (if a0_1 ≥ 8 then (if a0_0 > 3 then (neumeref07_Beats.j0 k 1 ((Int.tmod a0_0 3) == 0) a0_0 a0_1) else (neumeref07_Beats.j0 k 1 false a0_0 a0_1)) else (neumeref07_Beats.j0 k 1 false a0_0 a0_1)) else (some (([] : List (S25)), 2)))
theorem neumeref07_Beats.mono_l : ∀ k, (∀ y0 y1 y2 y3, LeO (neumeref07_Beats.j0 k y0 y1 y2 y3) (neumeref07_Beats.j0 (k + 1) y0 y1 y2 y3)) ∧ (∀ y0 y1 y2, LeO (neumeref07_Beats.j1 k y0 y1 y2) (neumeref07_Beats.j1 (k + 1) y0 y1 y2)) ∧ (∀ y0 y1 y2 y3 y4, LeO (neumeref07_Beats.l0 k y0 y1 y2 y3 y4) (neumeref07_Beats.l0 (k + 1) y0 y1 y2 y3 y4))
 | 0 => ⟨fun _ _ _ _ r h => by simp [neumeref07_Beats.j0] at h, fun _ _ _ r h => by simp [neumeref07_Beats.j1] at h, fun _ _ _ _ _ r h => by simp [neumeref07_Beats.l0] at h⟩
 | k + 1 => by
  obtain ⟨ih0, ih1, ih2⟩ := neumeref07_Beats.mono_l k
  refine ⟨?_, ?_, ?_⟩
  ·intro y0 y1 y2 y3
   unfold neumeref07_Beats.j0
   repeat' first
   | (with_reducible exact ih0 _ _ _ _)
   | (with_reducible exact ih1 _ _ _)
   | (with_reducible exact ih2 _ _ _ _ _)
   | (with_reducible exact neumeref02_Of.mono _ _ _)
   | (with_reducible exact LeO.refl _)
   | (with_reducible exact LeO.none _)
   | (with_reducible refine LeO.ite ?_ ?_)
   | (with_reducible refine LeO.bind ?_ (fun _ => ?_))
   | exact ih0 _ _ _ _
   | exact ih1 _ _ _
   | exact ih2 _ _ _ _ _
   | exact neumeref02_Of.mono _ _ _
   | exact LeO.none _
   | refine LeO.ite ?_ ?_
   | refine LeO.bind ?_ (fun _ => ?_)
  ·intro y0 y1 y2
   unfold neumeref07_Beats.j1
   repeat' first
   | (with_reducible exact ih0 _ _ _ _)
   | (with_reducible exact ih1 _ _ _)
   | (with_reducible exact ih2 _ _ _ _ _)
   | (with_reducible exact neumeref02_Of.mono _ _ _)
   | (with_reducible exact LeO.refl _)
   | (with_reducible exact LeO.none _)
   | (with_reducible refine LeO.ite ?_ ?_)
   | (with_reducible refine LeO.bind ?_ (fun _ => ?_))
   | exact ih0 _ _ _ _
   | exact ih1 _ _ _
   | exact ih2 _ _ _ _ _
   | exact neumeref02_Of.mono _ _ _
   | exact LeO.none _
   | refine LeO.ite ?_ ?_
   | refine LeO.bind ?_ (fun _ => ?_)
  ·intro y0 y1 y2 y3 y4
   unfold neumeref07_Beats.l0
   repeat' first
   | (with_reducible exact ih0 _ _ _ _)
   | (with_reducible exact ih1 _ _ _)
   | (with_reducible exact ih2 _ _ _ _ _)
   | (with_reducible exact neumeref02_Of.mono _ _ _)
   | (with_reducible exact LeO.refl _)
   | (with_reducible exact LeO.none _)
   | (with_reducible refine LeO.ite ?_ ?_)
   | (with_reducible refine LeO.bind ?_ (fun _ => ?_))
   | exact ih0 _ _ _ _
   | exact ih1 _ _ _
   | exact ih2 _ _ _ _ _
   | exact neumeref02_Of.mono _ _ _
   | exact LeO.none _
   | refine LeO.ite ?_ ?_
   | refine LeO.bind ?_ (fun _ => ?_)
theorem neumeref07_Beats.mono : ∀ a0 a1 k, LeO (neumeref07_Beats.f k a0 a1) (neumeref07_Beats.f (k + 1) a0 a1) := by
 intro a0 a1 k
 obtain ⟨ih0, ih1, ih2⟩ := neumeref07_Beats.mono_l k
 unfold neumeref07_Beats.f
 repeat' first
   | (with_reducible exact ih0 _ _ _ _)
   | (with_reducible exact ih1 _ _ _)
   | (with_reducible exact ih2 _ _ _ _ _)
   | (with_reducible exact neumeref02_Of.mono _ _ _)
   | (with_reducible exact LeO.refl _)
   | (with_reducible exact LeO.none _)
   | (with_reducible refine LeO.ite ?_ ?_)
   | (with_reducible refine LeO.bind ?_ (fun _ => ?_))
   | exact ih0 _ _ _ _
   | exact ih1 _ _ _
   | exact ih2 _ _ _ _ _
   | exact neumeref02_Of.mono _ _ _
   | exact LeO.none _
   | refine LeO.ite ?_ ?_
   | refine LeO.bind ?_ (fun _ => ?_)
set_option maxHeartbeats 8000000 in
set_option maxRecDepth 100000 in
theorem neumeref07_Beats.calls (k : Nat) (a0_0 : Int) (a0_1 : Int) (r1 : List (S25)) (r2 : Int) (w : World) (h : neumeref07_Beats.f k a0_0 a0_1 = some (r1, r2)) :
  Calls Tryz.prog 28 #[.agg #[.int .i64 a0_0, .int .i64 a0_1]] w fun e w' => ∃ v0_ : Value, e = .returned (.tuple #[v0_, .int .i64 r2]) ∧ Kd.R k25 25 w' w.heap.size (fun _ => True) v0_ r1 ∧ Below w.heap.size w w' := by
 have hu45 := Tryz.underlying45
 have hu25 := Tryz.underlying25
 have HB := sd_ (Below.refl w.heap.size w)
 have H : ((neumeref07_Meter.f a0_0 a0_1).bind fun t484 => (if t484 = true then (if a0_1 ≥ 8 then (if a0_0 > 3 then (neumeref07_Beats.j0 k 1 ((Int.tmod a0_0 3) == 0) a0_0 a0_1) else (neumeref07_Beats.j0 k 1 false a0_0 a0_1)) else (neumeref07_Beats.j0 k 1 false a0_0 a0_1)) else (some (([] : List (S25)), 2)))) = some (r1, r2) := h
 clear h
 replace H := ob_ H
 obtain ⟨t484, A20, H⟩ := H
 replace H : (if t484 = true then (if a0_1 ≥ 8 then (if a0_0 > 3 then (neumeref07_Beats.j0 k 1 ((Int.tmod a0_0 3) == 0) a0_0 a0_1) else (neumeref07_Beats.j0 k 1 false a0_0 a0_1)) else (neumeref07_Beats.j0 k 1 false a0_0 a0_1)) else (some (([] : List (S25)), 2))) = some (r1, r2) := H
 have A2 := sd_ A20
 clear A20
 by_cases c3 : t484 = true
 ·subst c3
  have H1 : (if a0_1 ≥ 8 then (if a0_0 > 3 then (neumeref07_Beats.j0 k 1 ((Int.tmod a0_0 3) == 0) a0_0 a0_1) else (neumeref07_Beats.j0 k 1 false a0_0 a0_1)) else (neumeref07_Beats.j0 k 1 false a0_0 a0_1)) = some (r1, r2) := by rw [if_pos rfl] at H; exact H
  clear H; have H := H1; clear H1
  have HC4 := sd_ H
  clear H
  go_enter Tryz.func28, Tryz.ntmps28
  go_upto_region 4 with (first | ((with_reducible refine gate_dst (N := 1) rfl ?_); refine box_event ?hg (N := 1) ?hd (cs := #[.int .i64 a0_0, .int .i64 a0_1]) (t := 45) ?hr ?_; (case hd => rfl); (case hg => rfl); (case hr => first | (go_simp; done) | (go_simp; rfl)); intro gb483 hg w5 hbox hb; have BK483 := sd_ hbox; have GW483 := gw_ HB e0_ hg; have GE483 := GW483; replace HB := hb_ HB e0_ hb; clear hb hbox hg; have hcz6_0 : w5.cell? ⟨gb483, 0, none⟩ = some (.int .i64 a0_0) := (kc_ BK483.out 0).trans rfl; have hcz6_1 : w5.cell? ⟨gb483, 1, none⟩ = some (.int .i64 a0_1) := (kc_ BK483.out 1).trans rfl; have hfz6_0 := kf_ BK483.out 0; have hfz6_1 := kf_ BK483.out 1) | ((with_reducible refine gate_callee (f := 33) rfl ?_); refine goesL_ (some 10) rfl rfl Tryz.func33 (by kernel_rfl) rfl #[.agg #[.int .i64 a0_0, .int .i64 a0_1]] rfl (by (try simp only [lm_, lq_, lx_]); first | done | rfl | (simp only [ld_, lt_]; rfl)) ?_; (with_reducible refine (neumeref07_Meter.calls a0_0 a0_1 true _ A2.out).mono ?_); rintro e w7 ⟨rfl, hb⟩; refine ⟨_, rfl, ?_⟩; replace BK483 := kb_ BK483 hb; replace HB := hb_ HB (e_ GE483 e0_) hb; (try clear hb); (try clear hb2); (try clear hk); (try clear hi)))
  (try simp only [Act.put, ls_, lz_, lc_])
  go_cut [25] (fun v25 wc => ∃ (kq : Nat) (x25_3 : Bool), v25 = .bool x25_3 ∧ Aside0 (neumeref07_Beats.j0 kq 1 x25_3 a0_0 a0_1 = some (r1, r2)) ∧ Aside0 (kq ≤ k) ∧ Aside0 (wc.heap[gb483]? = some (.cells #[.int .i64 a0_0, .int .i64 a0_1] 45 (0, 0))) ∧ Aside0 (Below w.heap.size w wc))
  case first =>
   have H := HC4.out
   clear HC4
   by_cases c8 : a0_1 ≥ 8
   ·rw [if_pos c8] at H
    have c8b0 : decide (8 ≤ a0_1) = true := dt_ c8
    clear c8
    (first | rw [c8b0] | (simp only [i64_w, i32_w]; rw [c8b0]) | skip)
    by_cases c9 : a0_0 > 3
    ·rw [if_pos c9] at H
     have c9b0 : decide (3 < a0_0) = true := dt_ c9
     clear c9
     have H' := sd_ H
     clear H
     have hcz10_0 : w7.cell? ⟨gb483, 0, none⟩ = some (.int .i64 a0_0) := (kc_ BK483.out 0).trans rfl
     have hcz10_1 : w7.cell? ⟨gb483, 1, none⟩ = some (.int .i64 a0_1) := (kc_ BK483.out 1).trans rfl
     have hfz10_0 := kf_ BK483.out 0
     have hfz10_1 := kf_ BK483.out 1
     go_wp2
     go_meet
     case rel => exact ⟨_, (((Int.tmod a0_0 3) == 0)), (by first | rfl | (simp; done) | (simp [*]; done) | (simp [bne]; done)), H', ⟨by first | omega | exact Nat.le_refl _⟩, ⟨by (with_reducible repeat first | apply kn_ | apply kd_ | apply ka_); exact BK483.out⟩, ⟨by repeat (first | (with_reducible first | exact HB.out | apply ba_ | apply pd_ | apply d1_ | refine bs_ ?_ GE483.out) | exact HB.out)⟩⟩
    ·rw [if_neg c9] at H
     have c9b0 : decide (3 < a0_0) = false := df_ c9
     clear c9
     have H' := sd_ H
     clear H
     have hcz11_0 : w7.cell? ⟨gb483, 0, none⟩ = some (.int .i64 a0_0) := (kc_ BK483.out 0).trans rfl
     have hcz11_1 : w7.cell? ⟨gb483, 1, none⟩ = some (.int .i64 a0_1) := (kc_ BK483.out 1).trans rfl
     have hfz11_0 := kf_ BK483.out 0
     have hfz11_1 := kf_ BK483.out 1
     go_wp2
     go_meet
     case rel => exact ⟨_, (false), (by first | rfl | (simp; done) | (simp [*]; done) | (simp [bne]; done)), H', ⟨by first | omega | exact Nat.le_refl _⟩, ⟨by (with_reducible repeat first | apply kn_ | apply kd_ | apply ka_); exact BK483.out⟩, ⟨by repeat (first | (with_reducible first | exact HB.out | apply ba_ | apply pd_ | apply d1_ | refine bs_ ?_ GE483.out) | exact HB.out)⟩⟩
   ·rw [if_neg c8] at H
    have c8b0 : decide (8 ≤ a0_1) = false := df_ c8
    clear c8
    (first | rw [c8b0] | (simp only [i64_w, i32_w]; rw [c8b0]) | skip)
    have H' := sd_ H
    clear H
    have hcz12_0 : w7.cell? ⟨gb483, 0, none⟩ = some (.int .i64 a0_0) := (kc_ BK483.out 0).trans rfl
    have hcz12_1 : w7.cell? ⟨gb483, 1, none⟩ = some (.int .i64 a0_1) := (kc_ BK483.out 1).trans rfl
    have hfz12_0 := kf_ BK483.out 0
    have hfz12_1 := kf_ BK483.out 1
    go_wp2
    go_meet
    case rel => exact ⟨_, (false), (by first | rfl | (simp; done) | (simp [*]; done) | (simp [bne]; done)), H', ⟨by first | omega | exact Nat.le_refl _⟩, ⟨by (with_reducible repeat first | apply kn_ | apply kd_ | apply ka_); exact BK483.out⟩, ⟨by repeat (first | (with_reducible first | exact HB.out | apply ba_ | apply pd_ | apply d1_ | refine bs_ ?_ GE483.out) | exact HB.out)⟩⟩
  case rest =>
   clear HC4
   try clear c2; try clear p2; try clear c3; try clear c8; try clear c8b0; try clear c9; try clear c9b0; try clear hcz10_0; try clear hcz10_1; try clear hcz11_0; try clear hcz11_1; try clear hcz12_0; try clear hcz12_1; try clear hcz6_0; try clear hcz6_1; try clear hfz10_0; try clear hfz10_1; try clear hfz11_0; try clear hfz11_1; try clear hfz12_0; try clear hfz12_1; try clear hfz6_0; try clear hfz6_1
   obtain ⟨kq, x25_3, rfl, HA, HJ3, BK483, HB⟩ := hcut
   cases kq with
   | zero => exact absurd HA.out (by simp [neumeref07_Beats.j0])
   | succ kj3 =>
    have H := HA.out
    clear HA
    simp only [neumeref07_Beats.j0] at H
    have HC13 := sd_ H
    clear H
    go_upto_if 25 with (fail)
    go_cut [4] (fun v4 wc => ∃ (kq : Nat) (x4_12 : Int), v4 = .int .i64 x4_12 ∧ Aside0 (neumeref07_Beats.j1 kq x4_12 a0_0 a0_1 = some (r1, r2)) ∧ Aside0 (kq ≤ kj3) ∧ Aside0 (wc.heap[gb483]? = some (.cells #[.int .i64 a0_0, .int .i64 a0_1] 45 (0, 0))) ∧ Aside0 (Below w.heap.size w wc))
    case first =>
     have H := HC13.out
     clear HC13
     by_cases c14 : x25_3 = true
     ·subst c14
      have H1 : (neumeref07_Beats.j1 kj3 3 a0_0 a0_1) = some (r1, r2) := by rw [if_pos rfl] at H; exact H
      clear H; have H := H1; clear H1
      have H' := sd_ H
      clear H
      go_wp2
      go_meet
      case rel => exact ⟨_, (3), (by first | rfl | (simp; done) | (simp [*]; done) | (simp [bne]; done)), H', ⟨by have := HJ3.out; first | omega | exact Nat.le_refl _⟩, ⟨by (with_reducible repeat first | apply kn_ | apply kd_ | apply ka_); exact BK483.out⟩, ⟨by repeat (first | (with_reducible first | exact HB.out | apply ba_ | apply pd_ | apply d1_ | refine bs_ ?_ GE483.out) | exact HB.out)⟩⟩
     ·replace c14 := bf_ c14
      subst c14
      have H1 : (neumeref07_Beats.j1 kj3 1 a0_0 a0_1) = some (r1, r2) := by rw [if_neg (show ¬ (false = true) by decide)] at H; exact H
      clear H; have H := H1; clear H1
      have H' := sd_ H
      clear H
      go_wp2
      go_meet
      case rel => exact ⟨_, (1), (by first | rfl | (simp; done) | (simp [*]; done) | (simp [bne]; done)), H', ⟨by have := HJ3.out; first | omega | exact Nat.le_refl _⟩, ⟨by (with_reducible repeat first | apply kn_ | apply kd_ | apply ka_); exact BK483.out⟩, ⟨by repeat (first | (with_reducible first | exact HB.out | apply ba_ | apply pd_ | apply d1_ | refine bs_ ?_ GE483.out) | exact HB.out)⟩⟩
    case rest =>
     clear HC13
     try clear c1; try clear c2; try clear p2; try clear c3; try clear c8; try clear c8b0; try clear c9; try clear c9b0; try clear c14; try clear hcz10_0; try clear hcz10_1; try clear hcz11_0; try clear hcz11_1; try clear hcz12_0; try clear hcz12_1; try clear hcz6_0; try clear hcz6_1; try clear hfz10_0; try clear hfz10_1; try clear hfz11_0; try clear hfz11_1; try clear hfz12_0; try clear hfz12_1; try clear hfz6_0; try clear hfz6_1; try clear p2
     obtain ⟨kq, x4_12, rfl, HA, HJ12, BK483, HB⟩ := hcut
     cases kq with
     | zero => exact absurd HA.out (by simp [neumeref07_Beats.j1])
     | succ kj12 =>
      have H := HA.out
      clear HA
      simp only [neumeref07_Beats.j1] at H
      have H' := sd_ H
      clear H
      go_wp2
      go_loopg [5, 6] kj12 (fun kq v5 v6 w' => ∃ (x5_3 : List (S25)) (x6_3 : Int), v6 = .int .i64 x6_3 ∧ Aside0 (neumeref07_Beats.l0 kq x4_12 x5_3 x6_3 a0_0 a0_1 = some (r1, r2)) ∧ Aside0 (kq ≤ kj12) ∧ Aside0 (Kd.R k25 25 w' w.heap.size (fun _ => True) v5 x5_3) ∧ Aside0 (w'.heap[gb483]? = some (.cells #[.int .i64 a0_0, .int .i64 a0_1] 45 (0, 0))) ∧ Aside0 (Below w.heap.size w w'))
      case atStart => exact ⟨(([] : List (S25))), (0), (by first | rfl | (simp; done) | (simp [*]; done) | (simp [bne]; done)), H', ⟨Nat.le_refl _⟩, ⟨by first | exact Kd.R_nil _ _ _ _ _ | exact Kd.N_nil _ _ _ _ _ | exact Kd.V_nil _ _ _ _ _ | exact Kd.Q_nil _ _ _ _ _ | exact Kd.S_nil _ _ _ _ _⟩, ⟨by (with_reducible repeat first | apply kn_ | apply kd_ | apply ka_); exact BK483.out⟩, ⟨by repeat (first | (with_reducible first | exact HB.out | apply ba_ | apply pd_ | apply d1_ | refine bs_ ?_ GE483.out) | exact HB.out)⟩⟩
      case round =>
       clear H'
       try clear c1; try clear c2; try clear p2; try clear c3; try clear c8; try clear c8b0; try clear c9; try clear c9b0; try clear c14; try clear hcz10_0; try clear hcz10_1; try clear hcz11_0; try clear hcz11_1; try clear hcz12_0; try clear hcz12_1; try clear hcz6_0; try clear hcz6_1; try clear hfz10_0; try clear hfz10_1; try clear hfz11_0; try clear hfz11_1; try clear hfz12_0; try clear hfz12_1; try clear hfz6_0; try clear hfz6_1; try clear p2
       obtain ⟨x5_3, x6_3, rfl, HA, HK3, HO_5, BK483, HB⟩ := hrel
       cases gk with
       | zero => exact absurd HA.out (by simp [neumeref07_Beats.l0])
       | succ k3 =>
        have H := HA.out
        clear HA
        simp only [neumeref07_Beats.l0] at H
        by_cases c15 : x6_3 < a0_0
        ·rw [if_pos c15] at H
         have c15b0 : decide (x6_3 < a0_0) = true := dt_ c15
         clear c15
         replace H := ob_ H
         obtain ⟨⟨t485, t486, t487⟩, A160, H⟩ := H
         replace H : (if x5_3.length < 8796093022208 then (neumeref07_Beats.l0 k3 x4_12 (x5_3 ++ [(⟨t485, t486⟩ : S25)]) (wrap64 (x6_3 + x4_12)) a0_0 a0_1) else (none)) = some (r1, r2) := H
         have A16 := sd_ A160
         clear A160
         by_cases c17 : x5_3.length < 8796093022208
         ·rw [if_pos c17] at H
          have LMc17 := sd_ c17
          clear c17
          obtain ⟨y489, hy489⟩ : ∃ y_ : List (S25), y_ = (x5_3 ++ [(⟨t485, t486⟩ : S25)]) := ⟨_, rfl⟩
          replace H : (neumeref07_Beats.l0 k3 x4_12 y489 (wrap64 (x6_3 + x4_12)) a0_0 a0_1) = some (r1, r2) := by first | (rw [hy489]; with_reducible exact H) | (have H2_ := (Option.bind_some _ _).symm.trans H; rw [hy489]; with_reducible exact H2_) | (have H2_ := (Option.bind_some _ _).symm.trans H; with_reducible exact H2_) | with_reducible exact H | (rw [hy489]; exact H) | exact H
          have Ny489 := sd_ hy489
          clear hy489
          have H' := sd_ H
          clear H
          have hcz18_0 : wr.cell? ⟨gb483, 0, none⟩ = some (.int .i64 a0_0) := (kc_ BK483.out 0).trans rfl
          have hcz18_1 : wr.cell? ⟨gb483, 1, none⟩ = some (.int .i64 a0_1) := (kc_ BK483.out 1).trans rfl
          have hfz18_0 := kf_ BK483.out 0
          have hfz18_1 := kf_ BK483.out 1
          go_wp2_with (first | ((with_reducible refine gate_callee (f := 38) rfl ?_); refine goesL_ (some 37) rfl rfl Tryz.func38 (by kernel_rfl) rfl #[.int .i64 x6_3, .int .i64 a0_1] rfl (by (try simp only [lm_, lq_, lx_]); first | done | rfl | (simp only [ld_, lt_]; rfl)) ?_; (with_reducible refine (neumeref02_Of.calls k3 x6_3 a0_1 t485 t486 t487 _ A16.out).mono ?_); rintro e w19 ⟨rfl, hb⟩; refine ⟨_, rfl, ?_⟩; replace HO_5 := sd_ (Kd.R_below (by (with_reducible repeat (first | apply Kd.R_alloc | apply Kd.R_drewN | apply Kd.R_drew)); exact HO_5.out) hb); replace BK483 := kb_ BK483 hb; replace HB := hb_ HB (e_ GE483 e0_) hb; (try clear hb); (try clear hb2); (try clear hk); (try clear hi)) | ((with_reducible refine gate_dst (N := 7) rfl ?_); refine box_event ?hg (N := 7) ?hd (cs := #[.int .i64 0, .int .i64 0]) (t := 25) ?hr ?_; (case hd => rfl); (case hg => rfl); (case hr => first | (go_simp; done) | (go_simp; rfl)); intro gb488 hg w20 hbox hb; have BK488 := sd_ hbox; have GW488 := gw_ HB (e_ GE483 e0_) hg; have GE488 := GW488; have NB483_488 := nb_ BK483 hg; have NB488_483 := sy_ NB483_488; replace HO_5 := sd_ (Kd.R_below (Kd.R_elderB (by (with_reducible repeat (first | apply Kd.R_alloc | apply Kd.R_drewN | apply Kd.R_drew)); exact HO_5.out) gb488 (Nat.le_of_eq hg.symm)) hb); replace BK483 := kb_ BK483 hb; replace HB := hb_ HB (e_ GE483 e0_) hb; clear hb hbox hg; have hnb21 := NB488_483.out; have hnc21 := NB483_488.out; have hcz22_0 : w20.cell? ⟨gb488, 0, none⟩ = some (.int .i64 0) := (kc_ BK488.out 0).trans rfl; have hcz22_1 : w20.cell? ⟨gb488, 1, none⟩ = some (.int .i64 0) := (kc_ BK488.out 1).trans rfl; have hfz22_0 := kf_ BK488.out 0; have hfz22_1 := kf_ BK488.out 1) | ((with_reducible refine gate_builtin (b := .append) (xs := #[.tmp 40, .tmp 42]) rfl ?_); at_builtin; refine Kd.R_append k25 (w0 := w) w.heap.size rfl (.tmp 40) (.tmp 42) 48 25 (.agg #[(.int .i64 0), (.int .i64 0)]) 16 rfl Tryz.underlying48 info25 rfl (by decide) (by omega) u5 x5_3 (⟨t485, t486⟩ : S25) [.int .i64 t485, .int .i64 t486] (fun k_ => k_ ≠ gb488) (fun _ => False) rfl (by first | (go_simp; done) | (go_simp; rfl)) ?aP (fun _ hk => hk.elim) ?aF ?aO ?aB ?aS ?aL ?_; (case aP => exact k25_mkM _ _ _ (⟨t485, t486⟩ : S25)); (case aB => exact (bb_ HB.out (e_ GE483 (e_ GE488 e0_)))); (case aF => exact (fun k_ hk => Kd.freshB (g := gb488) (o := .cells #[.int .i64 t485, .int .i64 t486] 25 (0, 0)) (by (with_reducible repeat first | apply kn_ | apply kd_ | apply ka_); refine blk_put (cs := #[.int .i64 t485, .int .i64 0]) ?_ 1 _ rfl; (with_reducible repeat first | apply kn_ | apply kd_ | apply ka_); refine blk_put (cs := #[.int .i64 0, .int .i64 0]) ?_ 0 _ rfl; (with_reducible repeat first | apply kn_ | apply kd_ | apply ka_); exact BK488.out) k_ hk)); (case aO => exact (by (with_reducible repeat (first | apply Kd.R_alloc | apply Kd.R_drewN | apply Kd.R_drew)); exact Kd.R_mono (Kd.R_far (p := ⟨gb488, 1, none⟩) (Kd.R_far (p := ⟨gb488, 0, none⟩) (Kd.R_mono HO_5.out (fun k_ hk => (⟨hk, hk.2⟩ : _ ∧ k_ ≠ gb488))) (fun _ hk => hk.2) (.int .i64 t485)) (fun _ hk => hk.2) (.int .i64 t486)) (fun _ hk => hk.1.2))); (case aS => exact (bz_ (bb_ HB.out (e_ GE483 (e_ GE488 e0_))))); (case aL => have := LMc17.out; omega); intro v490 w23 ho hb hg hat; rw [← Ny489.out] at ho; have n0_ := sd_ (blk_grown (g := gb483) (o := .cells #[.int .i64 a0_0, .int .i64 a0_1] 45 (0, 0)) (by (with_reducible repeat first | apply kn_ | apply kd_ | apply ka_); refine blk_far ?_ NB483_488.out _; (with_reducible repeat first | apply kn_ | apply kd_ | apply ka_); refine blk_far ?_ NB483_488.out _; (with_reducible repeat first | apply kn_ | apply kd_ | apply ka_); exact BK483.out) hg (Kd.R_ne HO_5.out BK483.out (by decide))); have n1_ := sd_ (blk_grown (g := gb488) (o := .cells #[.int .i64 t485, .int .i64 t486] 25 (0, 0)) (by (with_reducible repeat first | apply kn_ | apply kd_ | apply ka_); refine blk_put (cs := #[.int .i64 t485, .int .i64 0]) ?_ 1 _ rfl; (with_reducible repeat first | apply kn_ | apply kd_ | apply ka_); refine blk_put (cs := #[.int .i64 0, .int .i64 0]) ?_ 0 _ rfl; (with_reducible repeat first | apply kn_ | apply kd_ | apply ka_); exact BK488.out) hg (Kd.R_away HO_5.out (fun _ hk => hk.2))); have n2_ := sd_ (hb); have n3_ := sd_ (ho); clear BK483; clear BK488; clear HB; clear HO_5; have BK483 := n0_; have BK488 := n1_; have HB := n2_; have HO491 := n3_; clear n0_ n1_ n2_ n3_; clear ho hb hg hat))
          go_roundg k3
          case measure => have := HJ3.out; have := HJ12.out; have := HK3.out; omega
          case rel => exact ⟨(y489), (wrap64 (x6_3 + x4_12)), (by first | rfl | (simp; done) | (simp [*]; done) | (simp [bne]; done)), H', ⟨by have := HJ3.out; have := HJ12.out; have := HK3.out; omega⟩, ⟨by (with_reducible repeat (first | apply Kd.R_alloc | apply Kd.R_drewN | apply Kd.R_drew)); exact Kd.R_mono HO491.out (fun _ hk => trivial)⟩, ⟨by (with_reducible repeat first | apply kn_ | apply kd_ | apply ka_); exact BK483.out⟩, ⟨by repeat (first | (with_reducible first | exact HB.out | apply ba_ | apply pd_ | apply d1_ | refine bs_ ?_ GE483.out | refine bs_ ?_ GE488.out) | exact HB.out)⟩⟩
         ·rw [if_neg c17] at H
          exact absurd H (by simp)
        ·rw [if_neg c15] at H
         have c15b0 : decide (x6_3 < a0_0) = false := df_ c15
         clear c15
         simp only [Option.some.injEq, Prod.mk.injEq] at H
         obtain ⟨rfl, rfl⟩ := H
         have hcz24_0 : wr.cell? ⟨gb483, 0, none⟩ = some (.int .i64 a0_0) := (kc_ BK483.out 0).trans rfl
         have hcz24_1 : wr.cell? ⟨gb483, 1, none⟩ = some (.int .i64 a0_1) := (kc_ BK483.out 1).trans rfl
         have hfz24_0 := kf_ BK483.out 0
         have hfz24_1 := kf_ BK483.out 1
         go_wp2
         go_ret2
         exact ⟨_, by first | rfl | (simp [errW_none, errW_some] <;> rfl) | (simp [*, errW_none, errW_some] <;> rfl), by (with_reducible repeat (first | apply Kd.R_alloc | apply Kd.R_drewN | apply Kd.R_drew)); exact HO_5.out, by repeat (first | (with_reducible first | exact HB.out | apply ba_ | apply pd_ | apply d1_ | refine bs_ ?_ GE483.out) | exact HB.out)⟩
 ·replace c3 := bf_ c3
  subst c3
  have H1 : (some (([] : List (S25)), 2)) = some (r1, r2) := by rw [if_neg (show ¬ (false = true) by decide)] at H; exact H
  clear H; have H := H1; clear H1
  simp only [Option.some.injEq, Prod.mk.injEq] at H
  obtain ⟨rfl, rfl⟩ := H
  go_enter Tryz.func28, Tryz.ntmps28
  go_wp2_with (first | ((with_reducible refine gate_dst (N := 1) rfl ?_); refine box_event ?hg (N := 1) ?hd (cs := #[.int .i64 a0_0, .int .i64 a0_1]) (t := 45) ?hr ?_; (case hd => rfl); (case hg => rfl); (case hr => first | (go_simp; done) | (go_simp; rfl)); intro gb483 hg w25 hbox hb; have BK483 := sd_ hbox; have GW483 := gw_ HB e0_ hg; have GE483 := GW483; replace HB := hb_ HB e0_ hb; clear hb hbox hg; have hcz26_0 : w25.cell? ⟨gb483, 0, none⟩ = some (.int .i64 a0_0) := (kc_ BK483.out 0).trans rfl; have hcz26_1 : w25.cell? ⟨gb483, 1, none⟩ = some (.int .i64 a0_1) := (kc_ BK483.out 1).trans rfl; have hfz26_0 := kf_ BK483.out 0; have hfz26_1 := kf_ BK483.out 1) | ((with_reducible refine gate_callee (f := 33) rfl ?_); refine goesL_ (some 10) rfl rfl Tryz.func33 (by kernel_rfl) rfl #[.agg #[.int .i64 a0_0, .int .i64 a0_1]] rfl (by (try simp only [lm_, lq_, lx_]); first | done | rfl | (simp only [ld_, lt_]; rfl)) ?_; (with_reducible refine (neumeref07_Meter.calls a0_0 a0_1 false _ A2.out).mono ?_); rintro e w27 ⟨rfl, hb⟩; refine ⟨_, rfl, ?_⟩; replace BK483 := kb_ BK483 hb; replace HB := hb_ HB (e_ GE483 e0_) hb; (try clear hb); (try clear hb2); (try clear hk); (try clear hi)))
  go_ret2
  exact ⟨_, by first | rfl | (simp [errW_none, errW_some] <;> rfl) | (simp [*, errW_none, errW_some] <;> rfl), by first | exact Kd.R_nil _ _ _ _ _ | exact Kd.N_nil _ _ _ _ _ | exact Kd.V_nil _ _ _ _ _ | exact Kd.Q_nil _ _ _ _ _ | exact Kd.S_nil _ _ _ _ _, by repeat (first | (with_reducible first | exact HB.out | apply ba_ | apply pd_ | apply d1_ | refine bs_ ?_ GE483.out) | exact HB.out)⟩

end Go.Proofs.YtdiccfonlojlfaaGreatDoor.P
