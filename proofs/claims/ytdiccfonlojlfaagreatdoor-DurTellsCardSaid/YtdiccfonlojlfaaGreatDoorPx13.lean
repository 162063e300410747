-- Written by a program of this session (wip/tools/xprint.py, over the kit's print): Lean checks it.
import Derived.Test.YtdiccfonlojlfaaGreatDoorPx0
import Derived.Test.YtdiccfonlojlfaaGreatDoorPx12
namespace Go.Proofs.YtdiccfonlojlfaaGreatDoor.P
open Go.RowKit Go.Proofs.YtdiccfonlojlfaaGreatDoorW.PrintWords Go.Proofs.YtdiccfonlojlfaaGreatDoorW.PrintLast Go.Proofs.YtdiccfonlojlfaaGreatDoorW.PrintMore
attribute [local go_sem] max2_int min2_int max_two min_two max_three min_three max_four min_four   -- for this text's walks alone
set_option linter.unusedVariables false
set_option linter.unusedSimpArgs false

/-! ### neumeref02_Cmp: function 48 -/
def neumeref02_Cmp.j0 : Nat → Bool → Int → Int → Int → Int → Option (Int)
 | 0, _, _, _, _, _ => none
 | k + 1, x14, x390000, x390001, x391000, x391001 => if x14 = true then (some 0) else (if (wrap64 (x390000 * x391001)) < (wrap64 (x391000 * x390001)) then (some (-1)) else (if (wrap64 (x390000 * x391001)) > (wrap64 (x391000 * x390001)) then (some 1) else (some 0)))
def neumeref02_Cmp.f (k : Nat) (a0_0 : Int) (a0_1 : Int) (a1_0 : Int) (a1_1 : Int) : Option (Int) := (neumeref02_Check.f k a0_0 a0_1).bind fun t391 => (if t391 = true then ((neumeref02_Check.f k a1_0 a1_1).bind fun t392 => (neumeref02_Cmp.j0 k (!t392) a0_0 a0_1 a1_0 a1_1)) else (neumeref02_Cmp.j0 k true a0_0 a0_1 a1_0 a1_1))
theorem neumeref02_Cmp.mono_l : ∀ k, (∀ y0 y1 y2 y3 y4, LeO (neumeref02_Cmp.j0 k y0 y1 y2 y3 y4) (neumeref02_Cmp.j0 (k + 1) y0 y1 y2 y3 y4))
 | 0 => fun _ _ _ _ _ r h => by simp [neumeref02_Cmp.j0] at h
 | k + 1 => by
  have ih0 := neumeref02_Cmp.mono_l k
  ·intro y0 y1 y2 y3 y4
   unfold neumeref02_Cmp.j0
   repeat' first
   | (with_reducible exact ih0 _ _ _ _ _)
   | (with_reducible exact neumeref02_Check.mono _ _ _)
   | (with_reducible exact LeO.refl _)
   | (with_reducible exact LeO.none _)
   | (with_reducible refine LeO.ite ?_ ?_)
   | (with_reducible refine LeO.bind ?_ (fun _ => ?_))
   | exact ih0 _ _ _ _ _
   | exact neumeref02_Check.mono _ _ _
   | exact LeO.none _
   | refine LeO.ite ?_ ?_
   | refine LeO.bind ?_ (fun _ => ?_)
theorem neumeref02_Cmp.mono : ∀ a0 a1 a2 a3 k, LeO (neumeref02_Cmp.f k a0 a1 a2 a3) (neumeref02_Cmp.f (k + 1) a0 a1 a2 a3) := by
 intro a0 a1 a2 a3 k
 have ih0 := neumeref02_Cmp.mono_l k
 unfold neumeref02_Cmp.f
 repeat' first
   | (with_reducible exact ih0 _ _ _ _ _)
   | (with_reducible exact neumeref02_Check.mono _ _ _)
   | (with_reducible exact LeO.refl _)
   | (with_reducible exact LeO.none _)
   | (with_reducible refine LeO.ite ?_ ?_)
   | (with_reducible refine LeO.bind ?_ (fun _ => ?_))
   | exact ih0 _ _ _ _ _
   | exact neumeref02_Check.mono _ _ _
   | exact LeO.none _
   | refine LeO.ite ?_ ?_
   | refine LeO.bind ?_ (fun _ => ?_)
set_option maxHeartbeats 8000000 in
set_option maxRecDepth 100000 in
theorem neumeref02_Cmp.calls (k : Nat) (a0_0 : Int) (a0_1 : Int) (a1_0 : Int) (a1_1 : Int) (r : Int) (w : World) (h : neumeref02_Cmp.f k a0_0 a0_1 a1_0 a1_1 = some r) :
  Calls Tryz.prog 48 #[.agg #[.int .i64 a0_0, .int .i64 a0_1], .agg #[.int .i64 a1_0, .int .i64 a1_1]] w fun e w' => e = .returned (.int .i64 r) ∧ Below w.heap.size w w' := by
 have hu25 := Tryz.underlying25
 have HB := sd_ (Below.refl w.heap.size w)
 have H : ((neumeref02_Check.f k a0_0 a0_1).bind fun t391 => (if t391 = true then ((neumeref02_Check.f k a1_0 a1_1).bind fun t392 => (neumeref02_Cmp.j0 k (!t392) a0_0 a0_1 a1_0 a1_1)) else (neumeref02_Cmp.j0 k true a0_0 a0_1 a1_0 a1_1))) = some r := h
 clear h
 have HC3 := sd_ H
 clear H
 go_enter Tryz.func48, Tryz.ntmps48
 go_upto_region 1 with (first | ((with_reducible refine gate_dst (N := 2) rfl ?_); refine box_event ?hg (N := 2) ?hd (cs := #[.int .i64 a0_0, .int .i64 a0_1]) (t := 25) ?hr ?_; (case hd => rfl); (case hg => rfl); (case hr => first | (go_simp; done) | (go_simp; rfl)); intro gb389 hg w4 hbox hb; have BK389 := sd_ hbox; have GW389 := gw_ HB e0_ hg; have GE389 := GW389; replace HB := hb_ HB e0_ hb; clear hb hbox hg) | ((with_reducible refine gate_dst (N := 3) rfl ?_); refine box_event ?hg (N := 3) ?hd (cs := #[.int .i64 a1_0, .int .i64 a1_1]) (t := 25) ?hr ?_; (case hd => rfl); (case hg => rfl); (case hr => first | (go_simp; done) | (go_simp; rfl)); intro gb390 hg w5 hbox hb; have BK390 := sd_ hbox; have GW390 := gw_ HB (e_ GE389 e0_) hg; have GE390 := GW390; have NB389_390 := nb_ BK389 hg; have NB390_389 := sy_ NB389_390; replace BK389 := kb_ BK389 hb; replace HB := hb_ HB (e_ GE389 e0_) hb; clear hb hbox hg))
 repeat (go_quiet (first | ((with_reducible refine gate_dst (N := 2) rfl ?_); refine box_event ?hg (N := 2) ?hd (cs := #[.int .i64 a0_0, .int .i64 a0_1]) (t := 25) ?hr ?_; (case hd => rfl); (case hg => rfl); (case hr => first | (go_simp; done) | (go_simp; rfl)); intro gb389 hg w4 hbox hb; have BK389 := sd_ hbox; have GW389 := gw_ HB e0_ hg; have GE389 := GW389; replace HB := hb_ HB e0_ hb; clear hb hbox hg) | ((with_reducible refine gate_dst (N := 3) rfl ?_); refine box_event ?hg (N := 3) ?hd (cs := #[.int .i64 a1_0, .int .i64 a1_1]) (t := 25) ?hr ?_; (case hd => rfl); (case hg => rfl); (case hr => first | (go_simp; done) | (go_simp; rfl)); intro gb390 hg w5 hbox hb; have BK390 := sd_ hbox; have GW390 := gw_ HB (e_ GE389 e0_) hg; have GE390 := GW390; have NB389_390 := nb_ BK389 hg; have NB390_389 := sy_ NB389_390; replace BK389 := kb_ BK389 hb; replace HB := hb_ HB (e_ GE389 e0_) hb; clear hb hbox hg)); go_upto_region 1 with (first | ((with_reducible refine gate_dst (N := 2) rfl ?_); refine box_event ?hg (N := 2) ?hd (cs := #[.int .i64 a0_0, .int .i64 a0_1]) (t := 25) ?hr ?_; (case hd => rfl); (case hg => rfl); (case hr => first | (go_simp; done) | (go_simp; rfl)); intro gb389 hg w4 hbox hb; have BK389 := sd_ hbox; have GW389 := gw_ HB e0_ hg; have GE389 := GW389; replace HB := hb_ HB e0_ hb; clear hb hbox hg) | ((with_reducible refine gate_dst (N := 3) rfl ?_); refine box_event ?hg (N := 3) ?hd (cs := #[.int .i64 a1_0, .int .i64 a1_1]) (t := 25) ?hr ?_; (case hd => rfl); (case hg => rfl); (case hr => first | (go_simp; done) | (go_simp; rfl)); intro gb390 hg w5 hbox hb; have BK390 := sd_ hbox; have GW390 := gw_ HB (e_ GE389 e0_) hg; have GE390 := GW390; have NB389_390 := nb_ BK389 hg; have NB390_389 := sy_ NB389_390; replace BK389 := kb_ BK389 hb; replace HB := hb_ HB (e_ GE389 e0_) hb; clear hb hbox hg)))
 (try simp only [Act.put, ls_, lz_, lc_])
 go_cut [14] (fun v14 wc => ∃ (kq : Nat) (x14_2 : Bool), v14 = .bool x14_2 ∧ Aside0 (neumeref02_Cmp.j0 kq x14_2 a0_0 a0_1 a1_0 a1_1 = some r) ∧ Aside0 (kq ≤ k) ∧ Aside0 (wc.heap[gb389]? = some (.cells #[.int .i64 a0_0, .int .i64 a0_1] 25 (0, 0))) ∧ Aside0 (wc.heap[gb390]? = some (.cells #[.int .i64 a1_0, .int .i64 a1_1] 25 (0, 0))) ∧ Aside0 (Below w.heap.size w wc))
 case first =>
  have H := HC3.out
  clear HC3
  replace H := ob_ H
  obtain ⟨t391, A60, H⟩ := H
  replace H : (if t391 = true then ((neumeref02_Check.f k a1_0 a1_1).bind fun t392 => (neumeref02_Cmp.j0 k (!t392) a0_0 a0_1 a1_0 a1_1)) else (neumeref02_Cmp.j0 k true a0_0 a0_1 a1_0 a1_1)) = some r := H
  have A6 := sd_ A60
  clear A60
  by_cases c7 : t391 = true
  ·subst c7
   have H1 : ((neumeref02_Check.f k a1_0 a1_1).bind fun t392 => (neumeref02_Cmp.j0 k (!t392) a0_0 a0_1 a1_0 a1_1)) = some r := by rw [if_pos rfl] at H; exact H
   clear H; have H := H1; clear H1
   replace H := ob_ H
   obtain ⟨t392, A80, H⟩ := H
   replace H : (neumeref02_Cmp.j0 k (!t392) a0_0 a0_1 a1_0 a1_1) = some r := H
   have A8 := sd_ A80
   clear A80
   have H' := sd_ H
   clear H
   have hnb9 := NB389_390.out
   have hnc9 := NB390_389.out
   have hcz10_0 : w5.cell? ⟨gb389, 0, none⟩ = some (.int .i64 a0_0) := (kc_ BK389.out 0).trans rfl
   have hcz10_1 : w5.cell? ⟨gb389, 1, none⟩ = some (.int .i64 a0_1) := (kc_ BK389.out 1).trans rfl
   have hfz10_0 := kf_ BK389.out 0
   have hfz10_1 := kf_ BK389.out 1
   go_wp2_with (first | (go_at_call 47; (with_reducible refine (neumeref02_Check.calls k a0_0 a0_1 true _ A6.out).mono ?_); rintro e w11 ⟨rfl, hb⟩; replace BK389 := kb_ BK389 hb; replace BK390 := kb_ BK390 hb; replace HB := hb_ HB (e_ GE389 (e_ GE390 e0_)) hb; (try clear hb); (try clear hb2); (try clear hk); (try clear hi); have hcz12_0 : w11.cell? ⟨gb390, 0, none⟩ = some (.int .i64 a1_0) := (kc_ BK390.out 0).trans rfl; have hcz12_1 : w11.cell? ⟨gb390, 1, none⟩ = some (.int .i64 a1_1) := (kc_ BK390.out 1).trans rfl; have hfz12_0 := kf_ BK390.out 0; have hfz12_1 := kf_ BK390.out 1) | (go_at_call 47; (with_reducible refine (neumeref02_Check.calls k a1_0 a1_1 t392 _ A8.out).mono ?_); rintro e w13 ⟨rfl, hb⟩; replace BK389 := kb_ BK389 hb; replace BK390 := kb_ BK390 hb; replace HB := hb_ HB (e_ GE389 (e_ GE390 e0_)) hb; (try clear hb); (try clear hb2); (try clear hk); (try clear hi)))
   repeat (go_quiet (first | (go_at_call 47; (with_reducible refine (neumeref02_Check.calls k a0_0 a0_1 true _ A6.out).mono ?_); rintro e w11 ⟨rfl, hb⟩; replace BK389 := kb_ BK389 hb; replace BK390 := kb_ BK390 hb; replace HB := hb_ HB (e_ GE389 (e_ GE390 e0_)) hb; (try clear hb); (try clear hb2); (try clear hk); (try clear hi); have hcz12_0 : w11.cell? ⟨gb390, 0, none⟩ = some (.int .i64 a1_0) := (kc_ BK390.out 0).trans rfl; have hcz12_1 : w11.cell? ⟨gb390, 1, none⟩ = some (.int .i64 a1_1) := (kc_ BK390.out 1).trans rfl; have hfz12_0 := kf_ BK390.out 0; have hfz12_1 := kf_ BK390.out 1) | (go_at_call 47; (with_reducible refine (neumeref02_Check.calls k a1_0 a1_1 t392 _ A8.out).mono ?_); rintro e w13 ⟨rfl, hb⟩; replace BK389 := kb_ BK389 hb; replace BK390 := kb_ BK390 hb; replace HB := hb_ HB (e_ GE389 (e_ GE390 e0_)) hb; (try clear hb); (try clear hb2); (try clear hk); (try clear hi))); try go_wp2_with (first | (go_at_call 47; (with_reducible refine (neumeref02_Check.calls k a0_0 a0_1 true _ A6.out).mono ?_); rintro e w11 ⟨rfl, hb⟩; replace BK389 := kb_ BK389 hb; replace BK390 := kb_ BK390 hb; replace HB := hb_ HB (e_ GE389 (e_ GE390 e0_)) hb; (try clear hb); (try clear hb2); (try clear hk); (try clear hi); have hcz12_0 : w11.cell? ⟨gb390, 0, none⟩ = some (.int .i64 a1_0) := (kc_ BK390.out 0).trans rfl; have hcz12_1 : w11.cell? ⟨gb390, 1, none⟩ = some (.int .i64 a1_1) := (kc_ BK390.out 1).trans rfl; have hfz12_0 := kf_ BK390.out 0; have hfz12_1 := kf_ BK390.out 1) | (go_at_call 47; (with_reducible refine (neumeref02_Check.calls k a1_0 a1_1 t392 _ A8.out).mono ?_); rintro e w13 ⟨rfl, hb⟩; replace BK389 := kb_ BK389 hb; replace BK390 := kb_ BK390 hb; replace HB := hb_ HB (e_ GE389 (e_ GE390 e0_)) hb; (try clear hb); (try clear hb2); (try clear hk); (try clear hi))))
   go_meet
   case rel => exact ⟨_, (!t392), (by first | rfl | (simp; done) | (simp [*]; done) | (simp [bne]; done)), H', ⟨by first | omega | exact Nat.le_refl _⟩, ⟨by (with_reducible repeat first | apply kn_ | apply kd_ | apply ka_); exact BK389.out⟩, ⟨by (with_reducible repeat first | apply kn_ | apply kd_ | apply ka_); exact BK390.out⟩, ⟨by repeat (first | (with_reducible first | exact HB.out | apply ba_ | apply pd_ | apply d1_ | refine bs_ ?_ GE389.out | refine bs_ ?_ GE390.out) | exact HB.out)⟩⟩
  ·replace c7 := bf_ c7
   subst c7
   have H1 : (neumeref02_Cmp.j0 k true a0_0 a0_1 a1_0 a1_1) = some r := by rw [if_neg (show ¬ (false = true) by decide)] at H; exact H
   clear H; have H := H1; clear H1
   have H' := sd_ H
   clear H
   have hnb14 := NB389_390.out
   have hnc14 := NB390_389.out
   have hcz15_0 : w5.cell? ⟨gb389, 0, none⟩ = some (.int .i64 a0_0) := (kc_ BK389.out 0).trans rfl
   have hcz15_1 : w5.cell? ⟨gb389, 1, none⟩ = some (.int .i64 a0_1) := (kc_ BK389.out 1).trans rfl
   have hfz15_0 := kf_ BK389.out 0
   have hfz15_1 := kf_ BK389.out 1
   go_wp2_with (first | (go_at_call 47; (with_reducible refine (neumeref02_Check.calls k a0_0 a0_1 false _ A6.out).mono ?_); rintro e w16 ⟨rfl, hb⟩; replace BK389 := kb_ BK389 hb; replace BK390 := kb_ BK390 hb; replace HB := hb_ HB (e_ GE389 (e_ GE390 e0_)) hb; (try clear hb); (try clear hb2); (try clear hk); (try clear hi)))
   repeat (go_quiet (first | (go_at_call 47; (with_reducible refine (neumeref02_Check.calls k a0_0 a0_1 false _ A6.out).mono ?_); rintro e w16 ⟨rfl, hb⟩; replace BK389 := kb_ BK389 hb; replace BK390 := kb_ BK390 hb; replace HB := hb_ HB (e_ GE389 (e_ GE390 e0_)) hb; (try clear hb); (try clear hb2); (try clear hk); (try clear hi))); try go_wp2_with (first | (go_at_call 47; (with_reducible refine (neumeref02_Check.calls k a0_0 a0_1 false _ A6.out).mono ?_); rintro e w16 ⟨rfl, hb⟩; replace BK389 := kb_ BK389 hb; replace BK390 := kb_ BK390 hb; replace HB := hb_ HB (e_ GE389 (e_ GE390 e0_)) hb; (try clear hb); (try clear hb2); (try clear hk); (try clear hi))))
   go_meet
   case rel => exact ⟨_, (true), (by first | rfl | (simp; done) | (simp [*]; done) | (simp [bne]; done)), H', ⟨by first | omega | exact Nat.le_refl _⟩, ⟨by (with_reducible repeat first | apply kn_ | apply kd_ | apply ka_); exact BK389.out⟩, ⟨by (with_reducible repeat first | apply kn_ | apply kd_ | apply ka_); exact BK390.out⟩, ⟨by repeat (first | (with_reducible first | exact HB.out | apply ba_ | apply pd_ | apply d1_ | refine bs_ ?_ GE389.out | refine bs_ ?_ GE390.out) | exact HB.out)⟩⟩
 case rest =>
  clear HC3
  try clear c1; try clear p2; try clear c4; try clear c7; try clear c9; try clear c14; try clear hcz10_0; try clear hcz10_1; try clear hcz12_0; try clear hcz12_1; try clear hcz15_0; try clear hcz15_1; try clear hfz10_0; try clear hfz10_1; try clear hfz12_0; try clear hfz12_1; try clear hfz15_0; try clear hfz15_1
  obtain ⟨kq, x14_2, rfl, HA, HJ2, BK389, BK390, HB⟩ := hcut
  cases kq with
  | zero => exact absurd HA.out (by simp [neumeref02_Cmp.j0])
  | succ kj2 =>
   have H := HA.out
   clear HA
   simp only [neumeref02_Cmp.j0] at H
   by_cases c17 : x14_2 = true
   ·subst c17
    have H1 : (some 0) = some r := by rw [if_pos rfl] at H; exact H
    clear H; have H := H1; clear H1
    obtain rfl := Option.some.inj H
    go_wp2
    repeat (go_quiet (fail); try go_wp2)
    go_ret
    exact ⟨by first | rfl | (simp [errW_none, errW_some] <;> rfl) | (simp [*, errW_none, errW_some] <;> rfl), by repeat (first | (with_reducible first | exact HB.out | apply ba_ | apply pd_ | apply d1_ | refine bs_ ?_ GE389.out | refine bs_ ?_ GE390.out) | exact HB.out)⟩
   ·replace c17 := bf_ c17
    subst c17
    have H1 : (if (wrap64 (a0_0 * a1_1)) < (wrap64 (a1_0 * a0_1)) then (some (-1)) else (if (wrap64 (a0_0 * a1_1)) > (wrap64 (a1_0 * a0_1)) then (some 1) else (some 0))) = some r := by rw [if_neg (show ¬ (false = true) by decide)] at H; exact H
    clear H; have H := H1; clear H1
    by_cases c18 : (wrap64 (a0_0 * a1_1)) < (wrap64 (a1_0 * a0_1))
    ·rw [if_pos c18] at H
     have c18b0 : decide ((wrap64 (a0_0 * a1_1)) < (wrap64 (a1_0 * a0_1))) = true := dt_ c18
     clear c18
     obtain rfl := Option.some.inj H
     have hnb19 := NB389_390.out
     have hnc19 := NB390_389.out
     have hcz20_0 : wc.cell? ⟨gb389, 0, none⟩ = some (.int .i64 a0_0) := (kc_ BK389.out 0).trans rfl
     have hcz20_1 : wc.cell? ⟨gb389, 1, none⟩ = some (.int .i64 a0_1) := (kc_ BK389.out 1).trans rfl
     have hfz20_0 := kf_ BK389.out 0
     have hfz20_1 := kf_ BK389.out 1
     have hcz21_0 : wc.cell? ⟨gb390, 0, none⟩ = some (.int .i64 a1_0) := (kc_ BK390.out 0).trans rfl
     have hcz21_1 : wc.cell? ⟨gb390, 1, none⟩ = some (.int .i64 a1_1) := (kc_ BK390.out 1).trans rfl
     have hfz21_0 := kf_ BK390.out 0
     have hfz21_1 := kf_ BK390.out 1
     go_wp2
     repeat (go_quiet (fail); try go_wp2)
     go_ret
     exact ⟨by first | rfl | (simp [errW_none, errW_some] <;> rfl) | (simp [*, errW_none, errW_some] <;> rfl), by repeat (first | (with_reducible first | exact HB.out | apply ba_ | apply pd_ | apply d1_ | refine bs_ ?_ GE389.out | refine bs_ ?_ GE390.out) | exact HB.out)⟩
    ·rw [if_neg c18] at H
     have c18b0 : decide ((wrap64 (a0_0 * a1_1)) < (wrap64 (a1_0 * a0_1))) = false := df_ c18
     clear c18
     by_cases c22 : (wrap64 (a0_0 * a1_1)) > (wrap64 (a1_0 * a0_1))
     ·rw [if_pos c22] at H
      have c22b0 : decide ((wrap64 (a1_0 * a0_1)) < (wrap64 (a0_0 * a1_1))) = true := dt_ c22
      clear c22
      obtain rfl := Option.some.inj H
      have hnb23 := NB389_390.out
      have hnc23 := NB390_389.out
      have hcz24_0 : wc.cell? ⟨gb389, 0, none⟩ = some (.int .i64 a0_0) := (kc_ BK389.out 0).trans rfl
      have hcz24_1 : wc.cell? ⟨gb389, 1, none⟩ = some (.int .i64 a0_1) := (kc_ BK389.out 1).trans rfl
      have hfz24_0 := kf_ BK389.out 0
      have hfz24_1 := kf_ BK389.out 1
      have hcz25_0 : wc.cell? ⟨gb390, 0, none⟩ = some (.int .i64 a1_0) := (kc_ BK390.out 0).trans rfl
      have hcz25_1 : wc.cell? ⟨gb390, 1, none⟩ = some (.int .i64 a1_1) := (kc_ BK390.out 1).trans rfl
      have hfz25_0 := kf_ BK390.out 0
      have hfz25_1 := kf_ BK390.out 1
      go_wp2
      repeat (go_quiet (fail); try go_wp2)
      go_ret
      exact ⟨by first | rfl | (simp [errW_none, errW_some] <;> rfl) | (simp [*, errW_none, errW_some] <;> rfl), by repeat (first | (with_reducible first | exact HB.out | apply ba_ | apply pd_ | apply d1_ | refine bs_ ?_ GE389.out | refine bs_ ?_ GE390.out) | exact HB.out)⟩
     ·rw [if_neg c22] at H
      have c22b0 : decide ((wrap64 (a1_0 * a0_1)) < (wrap64 (a0_0 * a1_1))) = false := df_ c22
      clear c22
      obtain rfl := Option.some.inj H
      have hnb26 := NB389_390.out
      have hnc26 := NB390_389.out
      have hcz27_0 : wc.cell? ⟨gb389, 0, none⟩ = some (.int .i64 a0_0) := (kc_ BK389.out 0).trans rfl
      have hcz27_1 : wc.cell? ⟨gb389, 1, none⟩ = some (.int .i64 a0_1) := (kc_ BK389.out 1).trans rfl
      have hfz27_0 := kf_ BK389.out 0
      have hfz27_1 := kf_ BK389.out 1
      have hcz28_0 : wc.cell? ⟨gb390, 0, none⟩ = some (.int .i64 a1_0) := (kc_ BK390.out 0).trans rfl
      have hcz28_1 : wc.cell? ⟨gb390, 1, none⟩ = some (.int .i64 a1_1) := (kc_ BK390.out 1).trans rfl
      have hfz28_0 := kf_ BK390.out 0
      have hfz28_1 := kf_ BK390.out 1
      go_wp2
      repeat (go_quiet (fail); try go_wp2)
      go_ret
      exact ⟨by first | rfl | (simp [errW_none, errW_some] <;> rfl) | (simp [*, errW_none, errW_some] <;> rfl), by repeat (first | (with_reducible first | exact HB.out | apply ba_ | apply pd_ | apply d1_ | refine bs_ ?_ GE389.out | refine bs_ ?_ GE390.out) | exact HB.out)⟩

end Go.Proofs.YtdiccfonlojlfaaGreatDoor.P
