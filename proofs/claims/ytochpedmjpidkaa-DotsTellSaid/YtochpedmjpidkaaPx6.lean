-- Written by a program of this session (wip/tools/xprint.py, over the kit's print): Lean checks it.
import Derived.Test.YtochpedmjpidkaaPx0
import Derived.Test.YtochpedmjpidkaaPx5
namespace Go.Proofs.Ytochpedmjpidkaa.P
open Go.RowKit Go.Proofs.YtochpedmjpidkaaW.PrintWords Go.Proofs.YtochpedmjpidkaaW.PrintLast Go.Proofs.YtochpedmjpidkaaW.PrintMore
attribute [local go_sem] max2_int min2_int max_two min_two max_three min_three max_four min_four   -- for this text's walks alone
set_option linter.unusedVariables false
set_option linter.unusedSimpArgs false

/-! ### neumeref20_Rest: function 10 -/
mutual
def neumeref20_Rest.j0 : Nat → Bool → Int → Bool → Int → Int → Option (Int × Int)
 | 0, _, _, _, _, _ => none
 | k + 1, x1, x2, x19, x183000, x183001 => if x19 = true then (some (0, 2)) else (if x183000 = 0 then (neumeref20_Rest.j1 k x1 x2 2) else (neumeref20_Rest.j1 k x1 x2 0))
def neumeref20_Rest.j1 : Nat → Bool → Int → Int → Option (Int × Int)
 | 0, _, _, _ => none
 | k + 1, x1, x2, x8 => if x1 = true then (neumeref20_Rest.j2 k x1 x2 x8 ((Int.tmod x2 2) == 0)) else (neumeref20_Rest.j2 k x1 x2 x8 false)
def neumeref20_Rest.j2 : Nat → Bool → Int → Int → Bool → Option (Int × Int)
 | 0, _, _, _, _ => none
 | k + 1, x1, x2, x8, x28 => if x28 = true then (if x1 = true then (if (Int.tmod x2 2) = 1 then (some (wrap64 ((wrap64 (x8 + 4)) - 4), 0)) else (some (wrap64 (x8 + 4), 0))) else (some (wrap64 (x8 + 4), 0))) else (if x1 = true then (if (Int.tmod x2 2) = 1 then (some (wrap64 (x8 - 4), 0)) else (some (x8, 0))) else (some (x8, 0)))
end
def neumeref20_Rest.f (k : Nat) (a0_0 : Int) (a0_1 : Int) (a1 : Bool) (a2 : Int) : Option (Int × Int) := (neumeref07_Check.f a0_0 a0_1).bind fun t183 => (if t183 = true then (if a2 < 0 then (neumeref20_Rest.j0 k a1 a2 true a0_0 a0_1) else (neumeref20_Rest.j0 k a1 a2 (decide (a2 ≥ 4)) a0_0 a0_1)) else (neumeref20_Rest.j0 k a1 a2 true a0_0 a0_1))
theorem neumeref20_Rest.mono_l : ∀ k, (∀ y0 y1 y2 y3 y4, LeO (neumeref20_Rest.j0 k y0 y1 y2 y3 y4) (neumeref20_Rest.j0 (k + 1) y0 y1 y2 y3 y4)) ∧ (∀ y0 y1 y2, LeO (neumeref20_Rest.j1 k y0 y1 y2) (neumeref20_Rest.j1 (k + 1) y0 y1 y2)) ∧ (∀ y0 y1 y2 y3, LeO (neumeref20_Rest.j2 k y0 y1 y2 y3) (neumeref20_Rest.j2 (k + 1) y0 y1 y2 y3))
 | 0 => ⟨fun _ _ _ _ _ r h => by simp [neumeref20_Rest.j0] at h, fun _ _ _ r h => by simp [neumeref20_Rest.j1] at h, fun _ _ _ _ r h => by simp [neumeref20_Rest.j2] at h⟩
 | k + 1 => by
  obtain ⟨ih0, ih1, ih2⟩ := neumeref20_Rest.mono_l k
  refine ⟨?_, ?_, ?_⟩
  ·intro y0 y1 y2 y3 y4
   unfold neumeref20_Rest.j0
   repeat' first
   | (with_reducible exact ih0 _ _ _ _ _)
   | (with_reducible exact ih1 _ _ _)
   | (with_reducible exact ih2 _ _ _ _)
   | (with_reducible exact LeO.refl _)
   | (with_reducible exact LeO.none _)
   | (with_reducible refine LeO.ite ?_ ?_)
   | (with_reducible refine LeO.bind ?_ (fun _ => ?_))
   | exact ih0 _ _ _ _ _
   | exact ih1 _ _ _
   | exact ih2 _ _ _ _
   | exact LeO.none _
   | refine LeO.ite ?_ ?_
   | refine LeO.bind ?_ (fun _ => ?_)
  ·intro y0 y1 y2
   unfold neumeref20_Rest.j1
   repeat' first
   | (with_reducible exact ih0 _ _ _ _ _)
   | (with_reducible exact ih1 _ _ _)
   | (with_reducible exact ih2 _ _ _ _)
   | (with_reducible exact LeO.refl _)
   | (with_reducible exact LeO.none _)
   | (with_reducible refine LeO.ite ?_ ?_)
   | (with_reducible refine LeO.bind ?_ (fun _ => ?_))
   | exact ih0 _ _ _ _ _
   | exact ih1 _ _ _
   | exact ih2 _ _ _ _
   | exact LeO.none _
   | refine LeO.ite ?_ ?_
   | refine LeO.bind ?_ (fun _ => ?_)
  ·intro y0 y1 y2 y3
   unfold neumeref20_Rest.j2
   repeat' first
   | (with_reducible exact ih0 _ _ _ _ _)
   | (with_reducible exact ih1 _ _ _)
   | (with_reducible exact ih2 _ _ _ _)
   | (with_reducible exact LeO.refl _)
   | (with_reducible exact LeO.none _)
   | (with_reducible refine LeO.ite ?_ ?_)
   | (with_reducible refine LeO.bind ?_ (fun _ => ?_))
   | exact ih0 _ _ _ _ _
   | exact ih1 _ _ _
   | exact ih2 _ _ _ _
   | exact LeO.none _
   | refine LeO.ite ?_ ?_
   | refine LeO.bind ?_ (fun _ => ?_)
theorem neumeref20_Rest.mono : ∀ a0 a1 a2 a3 k, LeO (neumeref20_Rest.f k a0 a1 a2 a3) (neumeref20_Rest.f (k + 1) a0 a1 a2 a3) := by
 intro a0 a1 a2 a3 k
 obtain ⟨ih0, ih1, ih2⟩ := neumeref20_Rest.mono_l k
 unfold neumeref20_Rest.f
 repeat' first
   | (with_reducible exact ih0 _ _ _ _ _)
   | (with_reducible exact ih1 _ _ _)
   | (with_reducible exact ih2 _ _ _ _)
   | (with_reducible exact LeO.refl _)
   | (with_reducible exact LeO.none _)
   | (with_reducible refine LeO.ite ?_ ?_)
   | (with_reducible refine LeO.bind ?_ (fun _ => ?_))
   | exact ih0 _ _ _ _ _
   | exact ih1 _ _ _
   | exact ih2 _ _ _ _
   | exact LeO.none _
   | refine LeO.ite ?_ ?_
   | refine LeO.bind ?_ (fun _ => ?_)
set_option maxHeartbeats 8000000 in
set_option maxRecDepth 100000 in
theorem neumeref20_Rest.calls (k : Nat) (a0_0 : Int) (a0_1 : Int) (a1 : Bool) (a2 : Int) (r1 : Int) (r2 : Int) (w : World) (h : neumeref20_Rest.f k a0_0 a0_1 a1 a2 = some (r1, r2)) :
  Calls Try.prog 10 #[.agg #[.int .i64 a0_0, .int .i64 a0_1], .bool a1, .int .i64 a2] w fun e w' => e = .returned (.tuple #[.int .i64 r1, .int .i64 r2]) ∧ Below w.heap.size w w' := by
 have hu24 := Try.underlying24
 have HB := sd_ (Below.refl w.heap.size w)
 have H : ((neumeref07_Check.f a0_0 a0_1).bind fun t183 => (if t183 = true then (if a2 < 0 then (neumeref20_Rest.j0 k a1 a2 true a0_0 a0_1) else (neumeref20_Rest.j0 k a1 a2 (decide (a2 ≥ 4)) a0_0 a0_1)) else (neumeref20_Rest.j0 k a1 a2 true a0_0 a0_1))) = some (r1, r2) := h
 clear h
 have HC4 := sd_ H
 clear H
 go_enter Try.func10, Try.ntmps10
 go_upto_region 1 with (first | ((with_reducible refine gate_dst (N := 3) rfl ?_); refine box_event ?hg (N := 3) ?hd (cs := #[.int .i64 a0_0, .int .i64 a0_1]) (t := 24) ?hr ?_; (case hd => rfl); (case hg => rfl); (case hr => first | (go_simp; done) | (go_simp; rfl)); intro gb182 hg w5 hbox hb; have BK182 := sd_ hbox; have GW182 := gw_ HB e0_ hg; have GE182 := GW182; replace HB := hb_ HB e0_ hb; clear hb hbox hg))
 (try simp only [Act.put, ls_, lz_, lc_])
 go_cut [19] (fun v19 wc => ∃ (kq : Nat) (x19_3 : Bool), v19 = .bool x19_3 ∧ Aside0 (neumeref20_Rest.j0 kq a1 a2 x19_3 a0_0 a0_1 = some (r1, r2)) ∧ Aside0 (kq ≤ k) ∧ Aside0 (wc.heap[gb182]? = some (.cells #[.int .i64 a0_0, .int .i64 a0_1] 24 (0, 0))) ∧ Aside0 (Below w.heap.size w wc))
 case first =>
  have H := HC4.out
  clear HC4
  replace H := ob_ H
  obtain ⟨t183, A60, H⟩ := H
  replace H : (if t183 = true then (if a2 < 0 then (neumeref20_Rest.j0 k a1 a2 true a0_0 a0_1) else (neumeref20_Rest.j0 k a1 a2 (decide (a2 ≥ 4)) a0_0 a0_1)) else (neumeref20_Rest.j0 k a1 a2 true a0_0 a0_1)) = some (r1, r2) := H
  have A6 := sd_ A60
  clear A60
  by_cases c7 : t183 = true
  ·subst c7
   have H1 : (if a2 < 0 then (neumeref20_Rest.j0 k a1 a2 true a0_0 a0_1) else (neumeref20_Rest.j0 k a1 a2 (decide (a2 ≥ 4)) a0_0 a0_1)) = some (r1, r2) := by rw [if_pos rfl] at H; exact H
   clear H; have H := H1; clear H1
   by_cases c8 : a2 < 0
   ·rw [if_pos c8] at H
    have c8b0 : decide (a2 < 0) = true := dt_ c8
    clear c8
    (first | rw [c8b0] | (simp only [i64_w, i32_w]; rw [c8b0]) | skip)
    have H' := sd_ H
    clear H
    have hcz9_0 : w5.cell? ⟨gb182, 0, none⟩ = some (.int .i64 a0_0) := (kc_ BK182.out 0).trans rfl
    have hcz9_1 : w5.cell? ⟨gb182, 1, none⟩ = some (.int .i64 a0_1) := (kc_ BK182.out 1).trans rfl
    have hfz9_0 := kf_ BK182.out 0
    have hfz9_1 := kf_ BK182.out 1
    go_wp2_with (first | ((with_reducible refine gate_callee (f := 25) rfl ?_); refine goesL_ (some 10) rfl rfl Try.func25 (by kernel_rfl) rfl #[.agg #[.int .i64 a0_0, .int .i64 a0_1]] rfl (by (try simp only [lm_, lq_, lx_]); first | done | rfl | (simp only [ld_, lt_]; rfl)) ?_; (with_reducible refine (neumeref07_Check.calls a0_0 a0_1 true _ A6.out).mono ?_); rintro e w10 ⟨rfl, hb⟩; refine ⟨_, rfl, ?_⟩; replace BK182 := kb_ BK182 hb; replace HB := hb_ HB (e_ GE182 e0_) hb; (try clear hb); (try clear hb2); (try clear hk); (try clear hi)))
    go_meet
    case rel => exact ⟨_, (true), (by first | rfl | (simp; done) | (simp [*]; done) | (simp [bne]; done)), H', ⟨by first | omega | exact Nat.le_refl _⟩, ⟨by (with_reducible repeat first | apply kn_ | apply kd_ | apply ka_); exact BK182.out⟩, ⟨by repeat (first | (with_reducible first | exact HB.out | apply ba_ | apply pd_ | apply d1_ | refine bs_ ?_ GE182.out) | exact HB.out)⟩⟩
   ·rw [if_neg c8] at H
    have c8b0 : decide (a2 < 0) = false := df_ c8
    clear c8
    (first | rw [c8b0] | (simp only [i64_w, i32_w]; rw [c8b0]) | skip)
    have H' := sd_ H
    clear H
    have hcz11_0 : w5.cell? ⟨gb182, 0, none⟩ = some (.int .i64 a0_0) := (kc_ BK182.out 0).trans rfl
    have hcz11_1 : w5.cell? ⟨gb182, 1, none⟩ = some (.int .i64 a0_1) := (kc_ BK182.out 1).trans rfl
    have hfz11_0 := kf_ BK182.out 0
    have hfz11_1 := kf_ BK182.out 1
    go_wp2_with (first | ((with_reducible refine gate_callee (f := 25) rfl ?_); refine goesL_ (some 10) rfl rfl Try.func25 (by kernel_rfl) rfl #[.agg #[.int .i64 a0_0, .int .i64 a0_1]] rfl (by (try simp only [lm_, lq_, lx_]); first | done | rfl | (simp only [ld_, lt_]; rfl)) ?_; (with_reducible refine (neumeref07_Check.calls a0_0 a0_1 true _ A6.out).mono ?_); rintro e w12 ⟨rfl, hb⟩; refine ⟨_, rfl, ?_⟩; replace BK182 := kb_ BK182 hb; replace HB := hb_ HB (e_ GE182 e0_) hb; (try clear hb); (try clear hb2); (try clear hk); (try clear hi)))
    go_meet
    case rel => exact ⟨_, (decide (a2 ≥ 4)), (by first | rfl | (simp; done) | (simp [*]; done) | (simp [bne]; done)), H', ⟨by first | omega | exact Nat.le_refl _⟩, ⟨by (with_reducible repeat first | apply kn_ | apply kd_ | apply ka_); exact BK182.out⟩, ⟨by repeat (first | (with_reducible first | exact HB.out | apply ba_ | apply pd_ | apply d1_ | refine bs_ ?_ GE182.out) | exact HB.out)⟩⟩
  ·replace c7 := bf_ c7
   subst c7
   have H1 : (neumeref20_Rest.j0 k a1 a2 true a0_0 a0_1) = some (r1, r2) := by rw [if_neg (show ¬ (false = true) by decide)] at H; exact H
   clear H; have H := H1; clear H1
   have H' := sd_ H
   clear H
   have hcz13_0 : w5.cell? ⟨gb182, 0, none⟩ = some (.int .i64 a0_0) := (kc_ BK182.out 0).trans rfl
   have hcz13_1 : w5.cell? ⟨gb182, 1, none⟩ = some (.int .i64 a0_1) := (kc_ BK182.out 1).trans rfl
   have hfz13_0 := kf_ BK182.out 0
   have hfz13_1 := kf_ BK182.out 1
   go_wp2_with (first | ((with_reducible refine gate_callee (f := 25) rfl ?_); refine goesL_ (some 10) rfl rfl Try.func25 (by kernel_rfl) rfl #[.agg #[.int .i64 a0_0, .int .i64 a0_1]] rfl (by (try simp only [lm_, lq_, lx_]); first | done | rfl | (simp only [ld_, lt_]; rfl)) ?_; (with_reducible refine (neumeref07_Check.calls a0_0 a0_1 false _ A6.out).mono ?_); rintro e w14 ⟨rfl, hb⟩; refine ⟨_, rfl, ?_⟩; replace BK182 := kb_ BK182 hb; replace HB := hb_ HB (e_ GE182 e0_) hb; (try clear hb); (try clear hb2); (try clear hk); (try clear hi)))
   go_meet
   case rel => exact ⟨_, (true), (by first | rfl | (simp; done) | (simp [*]; done) | (simp [bne]; done)), H', ⟨by first | omega | exact Nat.le_refl _⟩, ⟨by (with_reducible repeat first | apply kn_ | apply kd_ | apply ka_); exact BK182.out⟩, ⟨by repeat (first | (with_reducible first | exact HB.out | apply ba_ | apply pd_ | apply d1_ | refine bs_ ?_ GE182.out) | exact HB.out)⟩⟩
 case rest =>
  clear HC4
  try clear c1; try clear c2; try clear p2; try clear c7; try clear c8; try clear c8b0; try clear c10; try clear hcz11_0; try clear hcz11_1; try clear hcz13_0; try clear hcz13_1; try clear hcz9_0; try clear hcz9_1; try clear hfz11_0; try clear hfz11_1; try clear hfz13_0; try clear hfz13_1; try clear hfz9_0; try clear hfz9_1
  obtain ⟨kq, x19_3, rfl, HA, HJ3, BK182, HB⟩ := hcut
  cases kq with
  | zero => exact absurd HA.out (by simp [neumeref20_Rest.j0])
  | succ kj3 =>
   have H := HA.out
   clear HA
   simp only [neumeref20_Rest.j0] at H
   by_cases c15 : x19_3 = true
   ·subst c15
    have H1 : (some (0, 2)) = some (r1, r2) := by rw [if_pos rfl] at H; exact H
    clear H; have H := H1; clear H1
    simp only [Option.some.injEq, Prod.mk.injEq] at H
    obtain ⟨rfl, rfl⟩ := H
    go_wp2
    go_ret2
    exact ⟨by first | rfl | (simp [errW_none, errW_some] <;> rfl) | (simp [*, errW_none, errW_some] <;> rfl), by repeat (first | (with_reducible first | exact HB.out | apply ba_ | apply pd_ | apply d1_ | refine bs_ ?_ GE182.out) | exact HB.out)⟩
   ·replace c15 := bf_ c15
    subst c15
    have H1 : (if a0_0 = 0 then (neumeref20_Rest.j1 kj3 a1 a2 2) else (neumeref20_Rest.j1 kj3 a1 a2 0)) = some (r1, r2) := by rw [if_neg (show ¬ (false = true) by decide)] at H; exact H
    clear H; have H := H1; clear H1
    have HC16 := sd_ H
    clear H
    have hcz17_0 : wc.cell? ⟨gb182, 0, none⟩ = some (.int .i64 a0_0) := (kc_ BK182.out 0).trans rfl
    have hcz17_1 : wc.cell? ⟨gb182, 1, none⟩ = some (.int .i64 a0_1) := (kc_ BK182.out 1).trans rfl
    have hfz17_0 := kf_ BK182.out 0
    have hfz17_1 := kf_ BK182.out 1
    go_upto_if 22 with (fail)
    go_cut [8] (fun v8 wc => ∃ (kq : Nat) (x8_15 : Int), v8 = .int .i64 x8_15 ∧ Aside0 (neumeref20_Rest.j1 kq a1 a2 x8_15 = some (r1, r2)) ∧ Aside0 (kq ≤ kj3) ∧ Aside0 (wc.heap[gb182]? = some (.cells #[.int .i64 a0_0, .int .i64 a0_1] 24 (0, 0))) ∧ Aside0 (Below w.heap.size w wc))
    case first =>
     have H := HC16.out
     clear HC16
     by_cases c18 : a0_0 = 0
     ·rw [if_pos c18] at H
      have c18b0 : (a0_0 == 0) = true := beq_iff_eq.mpr c18
      have c18b1 : (a0_0 != 0) = false := bne_eq_false_iff_eq.mpr c18
      clear c18
      (first | rw [c18b0] | (simp only [i64_w, i32_w]; rw [c18b0]) | skip)
      have H' := sd_ H
      clear H
      go_wp2
      go_meet
      case rel => exact ⟨_, (2), (by first | rfl | (simp; done) | (simp [*]; done) | (simp [bne]; done)), H', ⟨by have := HJ3.out; first | omega | exact Nat.le_refl _⟩, ⟨by (with_reducible repeat first | apply kn_ | apply kd_ | apply ka_); exact BK182.out⟩, ⟨by repeat (first | (with_reducible first | exact HB.out | apply ba_ | apply pd_ | apply d1_ | refine bs_ ?_ GE182.out) | exact HB.out)⟩⟩
     ·rw [if_neg c18] at H
      have c18b0 : (a0_0 == 0) = false := beq_eq_false_iff_ne.mpr c18
      have c18b1 : (a0_0 != 0) = true := bne_iff_ne.mpr c18
      (first | rw [c18b0] | (simp only [i64_w, i32_w]; rw [c18b0]) | skip)
      have H' := sd_ H
      clear H
      go_wp2
      go_meet
      case rel => exact ⟨_, (0), (by first | rfl | (simp; done) | (simp [*]; done) | (simp [bne]; done)), H', ⟨by have := HJ3.out; first | omega | exact Nat.le_refl _⟩, ⟨by (with_reducible repeat first | apply kn_ | apply kd_ | apply ka_); exact BK182.out⟩, ⟨by repeat (first | (with_reducible first | exact HB.out | apply ba_ | apply pd_ | apply d1_ | refine bs_ ?_ GE182.out) | exact HB.out)⟩⟩
    case rest =>
     clear HC16
     try clear c1; try clear c2; try clear p2; try clear c7; try clear c8; try clear c8b0; try clear c10; try clear c15; try clear c18; try clear c18b0; try clear c18b1; try clear hcz11_0; try clear hcz11_1; try clear hcz13_0; try clear hcz13_1; try clear hcz17_0; try clear hcz17_1; try clear hcz9_0; try clear hcz9_1; try clear hfz11_0; try clear hfz11_1; try clear hfz13_0; try clear hfz13_1; try clear hfz17_0; try clear hfz17_1; try clear hfz9_0; try clear hfz9_1; try clear p2
     obtain ⟨kq, x8_15, rfl, HA, HJ15, BK182, HB⟩ := hcut
     cases kq with
     | zero => exact absurd HA.out (by simp [neumeref20_Rest.j1])
     | succ kj15 =>
      have H := HA.out
      clear HA
      simp only [neumeref20_Rest.j1] at H
      have HC19 := sd_ H
      clear H
      go_upto_region 6 with (fail)
      go_cut [28] (fun v28 wc => ∃ (kq : Nat) (x28_18 : Bool), v28 = .bool x28_18 ∧ Aside0 (neumeref20_Rest.j2 kq a1 a2 x8_15 x28_18 = some (r1, r2)) ∧ Aside0 (kq ≤ kj15) ∧ Aside0 (wc.heap[gb182]? = some (.cells #[.int .i64 a0_0, .int .i64 a0_1] 24 (0, 0))) ∧ Aside0 (Below w.heap.size w wc))
      case first =>
       have H := HC19.out
       clear HC19
       by_cases c20 : a1 = true
       ·subst c20
        have H1 : (neumeref20_Rest.j2 kj15 true a2 x8_15 ((Int.tmod a2 2) == 0)) = some (r1, r2) := by rw [if_pos rfl] at H; exact H
        clear H; have H := H1; clear H1
        have H' := sd_ H
        clear H
        go_wp2
        go_meet
        case rel => exact ⟨_, (((Int.tmod a2 2) == 0)), (by first | rfl | (simp; done) | (simp [*]; done) | (simp [bne]; done)), H', ⟨by have := HJ3.out; have := HJ15.out; first | omega | exact Nat.le_refl _⟩, ⟨by (with_reducible repeat first | apply kn_ | apply kd_ | apply ka_); exact BK182.out⟩, ⟨by repeat (first | (with_reducible first | exact HB.out | apply ba_ | apply pd_ | apply d1_ | refine bs_ ?_ GE182.out) | exact HB.out)⟩⟩
       ·replace c20 := bf_ c20
        subst c20
        have H1 : (neumeref20_Rest.j2 kj15 false a2 x8_15 false) = some (r1, r2) := by rw [if_neg (show ¬ (false = true) by decide)] at H; exact H
        clear H; have H := H1; clear H1
        have H' := sd_ H
        clear H
        go_wp2
        go_meet
        case rel => exact ⟨_, (false), (by first | rfl | (simp; done) | (simp [*]; done) | (simp [bne]; done)), H', ⟨by have := HJ3.out; have := HJ15.out; first | omega | exact Nat.le_refl _⟩, ⟨by (with_reducible repeat first | apply kn_ | apply kd_ | apply ka_); exact BK182.out⟩, ⟨by repeat (first | (with_reducible first | exact HB.out | apply ba_ | apply pd_ | apply d1_ | refine bs_ ?_ GE182.out) | exact HB.out)⟩⟩
      case rest =>
       clear HC19
       try clear c1; try clear c2; try clear p2; try clear c7; try clear c8; try clear c8b0; try clear c10; try clear c15; try clear c18; try clear c18b0; try clear c18b1; try clear c20; try clear hcz11_0; try clear hcz11_1; try clear hcz13_0; try clear hcz13_1; try clear hcz17_0; try clear hcz17_1; try clear hcz9_0; try clear hcz9_1; try clear hfz11_0; try clear hfz11_1; try clear hfz13_0; try clear hfz13_1; try clear hfz17_0; try clear hfz17_1; try clear hfz9_0; try clear hfz9_1; try clear p2
       obtain ⟨kq, x28_18, rfl, HA, HJ18, BK182, HB⟩ := hcut
       cases kq with
       | zero => exact absurd HA.out (by simp [neumeref20_Rest.j2])
       | succ kj18 =>
        have H := HA.out
        clear HA
        simp only [neumeref20_Rest.j2] at H
        by_cases c21 : x28_18 = true
        ·subst c21
         have H1 : (if a1 = true then (if (Int.tmod a2 2) = 1 then (some (wrap64 ((wrap64 (x8_15 + 4)) - 4), 0)) else (some (wrap64 (x8_15 + 4), 0))) else (some (wrap64 (x8_15 + 4), 0))) = some (r1, r2) := by rw [if_pos rfl] at H; exact H
         clear H; have H := H1; clear H1
         by_cases c22 : a1 = true
         ·subst c22
          have H1 : (if (Int.tmod a2 2) = 1 then (some (wrap64 ((wrap64 (x8_15 + 4)) - 4), 0)) else (some (wrap64 (x8_15 + 4), 0))) = some (r1, r2) := by rw [if_pos rfl] at H; exact H
          clear H; have H := H1; clear H1
          by_cases c23 : (Int.tmod a2 2) = 1
          ·rw [if_pos c23] at H
           have c23b0 : ((Int.tmod a2 2) == 1) = true := beq_iff_eq.mpr c23
           have c23b1 : ((Int.tmod a2 2) != 1) = false := bne_eq_false_iff_eq.mpr c23
           clear c23
           simp only [Option.some.injEq, Prod.mk.injEq] at H
           obtain ⟨rfl, rfl⟩ := H
           go_wp2
           go_ret2
           exact ⟨by first | rfl | (simp [errW_none, errW_some] <;> rfl) | (simp [*, errW_none, errW_some] <;> rfl), by repeat (first | (with_reducible first | exact HB.out | apply ba_ | apply pd_ | apply d1_ | refine bs_ ?_ GE182.out) | exact HB.out)⟩
          ·rw [if_neg c23] at H
           have c23b0 : ((Int.tmod a2 2) == 1) = false := beq_eq_false_iff_ne.mpr c23
           have c23b1 : ((Int.tmod a2 2) != 1) = true := bne_iff_ne.mpr c23
           simp only [Option.some.injEq, Prod.mk.injEq] at H
           obtain ⟨rfl, rfl⟩ := H
           go_wp2
           go_ret2
           exact ⟨by first | rfl | (simp [errW_none, errW_some] <;> rfl) | (simp [*, errW_none, errW_some] <;> rfl), by repeat (first | (with_reducible first | exact HB.out | apply ba_ | apply pd_ | apply d1_ | refine bs_ ?_ GE182.out) | exact HB.out)⟩
         ·replace c22 := bf_ c22
          subst c22
          have H1 : (some (wrap64 (x8_15 + 4), 0)) = some (r1, r2) := by rw [if_neg (show ¬ (false = true) by decide)] at H; exact H
          clear H; have H := H1; clear H1
          simp only [Option.some.injEq, Prod.mk.injEq] at H
          obtain ⟨rfl, rfl⟩ := H
          go_wp2
          go_ret2
          exact ⟨by first | rfl | (simp [errW_none, errW_some] <;> rfl) | (simp [*, errW_none, errW_some] <;> rfl), by repeat (first | (with_reducible first | exact HB.out | apply ba_ | apply pd_ | apply d1_ | refine bs_ ?_ GE182.out) | exact HB.out)⟩
        ·replace c21 := bf_ c21
         subst c21
         have H1 : (if a1 = true then (if (Int.tmod a2 2) = 1 then (some (wrap64 (x8_15 - 4), 0)) else (some (x8_15, 0))) else (some (x8_15, 0))) = some (r1, r2) := by rw [if_neg (show ¬ (false = true) by decide)] at H; exact H
         clear H; have H := H1; clear H1
         by_cases c24 : a1 = true
         ·subst c24
          have H1 : (if (Int.tmod a2 2) = 1 then (some (wrap64 (x8_15 - 4), 0)) else (some (x8_15, 0))) = some (r1, r2) := by rw [if_pos rfl] at H; exact H
          clear H; have H := H1; clear H1
          by_cases c25 : (Int.tmod a2 2) = 1
          ·rw [if_pos c25] at H
           have c25b0 : ((Int.tmod a2 2) == 1) = true := beq_iff_eq.mpr c25
           have c25b1 : ((Int.tmod a2 2) != 1) = false := bne_eq_false_iff_eq.mpr c25
           clear c25
           simp only [Option.some.injEq, Prod.mk.injEq] at H
           obtain ⟨rfl, rfl⟩ := H
           go_wp2
           go_ret2
           exact ⟨by first | rfl | (simp [errW_none, errW_some] <;> rfl) | (simp [*, errW_none, errW_some] <;> rfl), by repeat (first | (with_reducible first | exact HB.out | apply ba_ | apply pd_ | apply d1_ | refine bs_ ?_ GE182.out) | exact HB.out)⟩
          ·rw [if_neg c25] at H
           have c25b0 : ((Int.tmod a2 2) == 1) = false := beq_eq_false_iff_ne.mpr c25
           have c25b1 : ((Int.tmod a2 2) != 1) = true := bne_iff_ne.mpr c25
           simp only [Option.some.injEq, Prod.mk.injEq] at H
           obtain ⟨rfl, rfl⟩ := H
           go_wp2
           go_ret2
           exact ⟨by first | rfl | (simp [errW_none, errW_some] <;> rfl) | (simp [*, errW_none, errW_some] <;> rfl), by repeat (first | (with_reducible first | exact HB.out | apply ba_ | apply pd_ | apply d1_ | refine bs_ ?_ GE182.out) | exact HB.out)⟩
         ·replace c24 := bf_ c24
          subst c24
          have H1 : (some (x8_15, 0)) = some (r1, r2) := by rw [if_neg (show ¬ (false = true) by decide)] at H; exact H
          clear H; have H := H1; clear H1
          simp only [Option.some.injEq, Prod.mk.injEq] at H
          obtain ⟨rfl, rfl⟩ := H
          go_wp2
          go_ret2
          exact ⟨by first | rfl | (simp [errW_none, errW_some] <;> rfl) | (simp [*, errW_none, errW_some] <;> rfl), by repeat (first | (with_reducible first | exact HB.out | apply ba_ | apply pd_ | apply d1_ | refine bs_ ?_ GE182.out) | exact HB.out)⟩

/-! ### neumeref17_Highest: function 29 -/
def neumeref17_Highest.l0 : Nat → List Int → Int → Int → Option (Int)
 | 0, _, _, _ => none
 | k + 1, x0, x3, x4 => if x4 < (x0.length : Int) then (if 0 ≤ x4 then (neumeref17_Highest.l0 k x0 (mx x3 (rd x0 x4)) (wrap64 (x4 + 1))) else (none)) else (some x3)
def neumeref17_Highest.f (k : Nat) (l0 : List Int) : Option (Int) := if 0 < (l0.length : Int) then (neumeref17_Highest.l0 k l0 (rd l0 0) 0) else (none)
theorem neumeref17_Highest.mono_l : ∀ k, (∀ y0 y1 y2, LeO (neumeref17_Highest.l0 k y0 y1 y2) (neumeref17_Highest.l0 (k + 1) y0 y1 y2))
 | 0 => fun _ _ _ r h => by simp [neumeref17_Highest.l0] at h
 | k + 1 => by
  have ih0 := neumeref17_Highest.mono_l k
  ·intro y0 y1 y2
   unfold neumeref17_Highest.l0
   repeat' first
   | (with_reducible exact ih0 _ _ _)
   | (with_reducible exact LeO.refl _)
   | (with_reducible exact LeO.none _)
   | (with_reducible refine LeO.ite ?_ ?_)
   | (with_reducible refine LeO.bind ?_ (fun _ => ?_))
   | exact ih0 _ _ _
   | exact LeO.none _
   | refine LeO.ite ?_ ?_
   | refine LeO.bind ?_ (fun _ => ?_)
theorem neumeref17_Highest.mono : ∀ a0 k, LeO (neumeref17_Highest.f k a0) (neumeref17_Highest.f (k + 1) a0) := by
 intro a0 k
 have ih0 := neumeref17_Highest.mono_l k
 unfold neumeref17_Highest.f
 repeat' first
   | (with_reducible exact ih0 _ _ _)
   | (with_reducible exact LeO.refl _)
   | (with_reducible exact LeO.none _)
   | (with_reducible refine LeO.ite ?_ ?_)
   | (with_reducible refine LeO.bind ?_ (fun _ => ?_))
   | exact ih0 _ _ _
   | exact LeO.none _
   | refine LeO.ite ?_ ?_
   | refine LeO.bind ?_ (fun _ => ?_)
set_option maxHeartbeats 8000000 in
set_option maxRecDepth 100000 in
theorem neumeref17_Highest.calls (k : Nat) (A0 : Option Addr) (c0 : Nat) (l0 : List Int) (r : Int) (w : World) (hr0 : Kd.C (Kd.int .i64) w A0 l0.length l0) (hc0 : l0.length ≤ c0) (h : neumeref17_Highest.f k l0 = some r) :
  Calls Try.prog 29 #[.slice A0 l0.length c0] w fun e w' => e = .returned (.int .i64 r) ∧ Below w.heap.size w w' := by
 have HR0 := sd_ hr0
 have HC0 := sd_ hc0
 clear hr0 hc0
 have HB := sd_ (Below.refl w.heap.size w)
 have H : (if 0 < (l0.length : Int) then (neumeref17_Highest.l0 k l0 (rd l0 0) 0) else (none)) = some r := h
 clear h
 by_cases c2 : 0 < (l0.length : Int)
 ·rw [if_pos c2] at H
  have c2b0 : decide (0 < (l0.length : Int)) = true := dt_ c2
  have c2b1 : decide (0 < l0.length) = true := dt_ (by omega)
  clear c2
  have H' := sd_ H
  clear H
  have p184 : 0 ≤ (0 : Int) := (by omega)
  have q184 : 0 < (l0.length : Int) := od_ (by first | (with_reducible assumption) | assumption)
  obtain ⟨ad184, e184, hx184_0⟩ := Kd.at_int HR0.out 0 p184 q184
  cases e184
  have qi184 : (0 < l0.length) = True := eq_true (by omega)
  (try rw [show ((0 : Int)).toNat = 0 from rfl] at hx184_0)
  (try rw [Addr.add_zero'] at hx184_0)
  replace p184 := eq_true p184
  replace q184 := eq_true q184
  go_enter Try.func29, Try.ntmps29
  go_wp2
  go_loopg [3, 4] k (fun kq v3 v4 w' => ∃ (x3_1 : Int) (x4_1 : Int), v3 = .int .i64 x3_1 ∧ v4 = .int .i64 x4_1 ∧ Aside0 (neumeref17_Highest.l0 kq l0 x3_1 x4_1 = some r) ∧ Aside0 (kq ≤ k) ∧ Aside0 (Below w.heap.size w w'))
  case atStart => exact ⟨(rd l0 0), (0), (by first | rfl | (simp; done) | (simp [*]; done) | (simp [bne]; done)), (by first | rfl | (simp; done) | (simp [*]; done) | (simp [bne]; done)), H', ⟨Nat.le_refl _⟩, ⟨by repeat (first | (with_reducible first | exact HB.out | apply ba_ | apply pd_ | apply d1_) | exact HB.out)⟩⟩
  case round =>
   clear H'
   try clear p1; try clear q1; try clear hx1; try clear qi1; try clear c2; try clear c2b0; try clear c2b1; try clear p2; try clear hx184_0; try clear p184; try clear q184
   obtain ⟨x3_1, x4_1, rfl, rfl, HA, HK1, HB⟩ := hrel
   cases gk with
   | zero => exact absurd HA.out (by simp [neumeref17_Highest.l0])
   | succ k1 =>
    have H := HA.out
    clear HA
    simp only [neumeref17_Highest.l0] at H
    by_cases c3 : x4_1 < (l0.length : Int)
    ·rw [if_pos c3] at H
     have c3b0 : decide (x4_1 < (l0.length : Int)) = true := dt_ c3
     clear c3
     by_cases c4 : 0 ≤ x4_1
     ·rw [if_pos c4] at H
      have c4b0 : decide (0 ≤ x4_1) = true := dt_ c4
      clear c4
      obtain ⟨ji5, hji5⟩ : ∃ j_ : Int, (mx x3_1 (rd l0 x4_1)) = j_ := ⟨_, rfl⟩
      replace H : (neumeref17_Highest.l0 k1 l0 ji5 (wrap64 (x4_1 + 1))) = some r := by first | (rw [hji5] at H; exact H) | (simp only [hji5] at H ⊢; exact H)
      have hji5_ : (if x3_1 < (rd l0 x4_1) then (rd l0 x4_1) else x3_1) = ji5 := hji5
      have H' := sd_ H
      clear H
      have p185 : 0 ≤ (x4_1 : Int) := od_ (by first | (with_reducible assumption) | assumption)
      have q185 : x4_1 < (l0.length : Int) := od_ (by first | (with_reducible assumption) | assumption)
      obtain ⟨ad185, e185, hx185_0⟩ := Kd.at_int HR0.out x4_1 p185 q185
      obtain rfl : ad184 = ad185 := (by injection e185)
      replace hx185_0 := (HB.out.cell (wb_ w _ hx185_0)).trans hx185_0
      replace p185 := eq_true p185
      replace q185 := eq_true q185
      go_wp2
      go_roundg k1
      case measure => have := HK1.out; omega
      case rel => exact ⟨(ji5), (wrap64 (x4_1 + 1)), (by first | rfl | (simp; done) | (simp only [← hji5] <;> (first | rfl | simp)) | (simp [*]; done)), (by first | rfl | (simp; done) | (simp [*]; done) | (simp [bne]; done)), H', ⟨by have := HK1.out; omega⟩, ⟨by repeat (first | (with_reducible first | exact HB.out | apply ba_ | apply pd_ | apply d1_) | exact HB.out)⟩⟩
     ·rw [if_neg c4] at H
      exact absurd H (by simp)
    ·rw [if_neg c3] at H
     have c3b0 : decide (x4_1 < (l0.length : Int)) = false := df_ c3
     clear c3
     obtain rfl := Option.some.inj H
     go_wp2
     go_ret
     exact ⟨by first | rfl | (simp [errW_none, errW_some] <;> rfl) | (simp [*, errW_none, errW_some] <;> rfl), by repeat (first | (with_reducible first | exact HB.out | apply ba_ | apply pd_ | apply d1_) | exact HB.out)⟩
 ·rw [if_neg c2] at H
  exact absurd H (by simp)

/-! ### neumeref17_Lowest: function 30 -/
def neumeref17_Lowest.l0 : Nat → List Int → Int → Int → Option (Int)
 | 0, _, _, _ => none
 | k + 1, x0, x3, x4 => if x4 < (x0.length : Int) then (if 0 ≤ x4 then (neumeref17_Lowest.l0 k x0 (mn x3 (rd x0 x4)) (wrap64 (x4 + 1))) else (none)) else (some x3)
def neumeref17_Lowest.f (k : Nat) (l0 : List Int) : Option (Int) := if 0 < (l0.length : Int) then (neumeref17_Lowest.l0 k l0 (rd l0 0) 0) else (none)
theorem neumeref17_Lowest.mono_l : ∀ k, (∀ y0 y1 y2, LeO (neumeref17_Lowest.l0 k y0 y1 y2) (neumeref17_Lowest.l0 (k + 1) y0 y1 y2))
 | 0 => fun _ _ _ r h => by simp [neumeref17_Lowest.l0] at h
 | k + 1 => by
  have ih0 := neumeref17_Lowest.mono_l k
  ·intro y0 y1 y2
   unfold neumeref17_Lowest.l0
   repeat' first
   | (with_reducible exact ih0 _ _ _)
   | (with_reducible exact LeO.refl _)
   | (with_reducible exact LeO.none _)
   | (with_reducible refine LeO.ite ?_ ?_)
   | (with_reducible refine LeO.bind ?_ (fun _ => ?_))
   | exact ih0 _ _ _
   | exact LeO.none _
   | refine LeO.ite ?_ ?_
   | refine LeO.bind ?_ (fun _ => ?_)
theorem neumeref17_Lowest.mono : ∀ a0 k, LeO (neumeref17_Lowest.f k a0) (neumeref17_Lowest.f (k + 1) a0) := by
 intro a0 k
 have ih0 := neumeref17_Lowest.mono_l k
 unfold neumeref17_Lowest.f
 repeat' first
   | (with_reducible exact ih0 _ _ _)
   | (with_reducible exact LeO.refl _)
   | (with_reducible exact LeO.none _)
   | (with_reducible refine LeO.ite ?_ ?_)
   | (with_reducible refine LeO.bind ?_ (fun _ => ?_))
   | exact ih0 _ _ _
   | exact LeO.none _
   | refine LeO.ite ?_ ?_
   | refine LeO.bind ?_ (fun _ => ?_)
set_option maxHeartbeats 8000000 in
set_option maxRecDepth 100000 in
theorem neumeref17_Lowest.calls (k : Nat) (A0 : Option Addr) (c0 : Nat) (l0 : List Int) (r : Int) (w : World) (hr0 : Kd.C (Kd.int .i64) w A0 l0.length l0) (hc0 : l0.length ≤ c0) (h : neumeref17_Lowest.f k l0 = some r) :
  Calls Try.prog 30 #[.slice A0 l0.length c0] w fun e w' => e = .returned (.int .i64 r) ∧ Below w.heap.size w w' := by
 have HR0 := sd_ hr0
 have HC0 := sd_ hc0
 clear hr0 hc0
 have HB := sd_ (Below.refl w.heap.size w)
 have H : (if 0 < (l0.length : Int) then (neumeref17_Lowest.l0 k l0 (rd l0 0) 0) else (none)) = some r := h
 clear h
 by_cases c2 : 0 < (l0.length : Int)
 ·rw [if_pos c2] at H
  have c2b0 : decide (0 < (l0.length : Int)) = true := dt_ c2
  have c2b1 : decide (0 < l0.length) = true := dt_ (by omega)
  clear c2
  have H' := sd_ H
  clear H
  have p186 : 0 ≤ (0 : Int) := (by omega)
  have q186 : 0 < (l0.length : Int) := od_ (by first | (with_reducible assumption) | assumption)
  obtain ⟨ad186, e186, hx186_0⟩ := Kd.at_int HR0.out 0 p186 q186
  cases e186
  have qi186 : (0 < l0.length) = True := eq_true (by omega)
  (try rw [show ((0 : Int)).toNat = 0 from rfl] at hx186_0)
  (try rw [Addr.add_zero'] at hx186_0)
  replace p186 := eq_true p186
  replace q186 := eq_true q186
  go_enter Try.func30, Try.ntmps30
  go_wp2
  go_loopg [3, 4] k (fun kq v3 v4 w' => ∃ (x3_1 : Int) (x4_1 : Int), v3 = .int .i64 x3_1 ∧ v4 = .int .i64 x4_1 ∧ Aside0 (neumeref17_Lowest.l0 kq l0 x3_1 x4_1 = some r) ∧ Aside0 (kq ≤ k) ∧ Aside0 (Below w.heap.size w w'))
  case atStart => exact ⟨(rd l0 0), (0), (by first | rfl | (simp; done) | (simp [*]; done) | (simp [bne]; done)), (by first | rfl | (simp; done) | (simp [*]; done) | (simp [bne]; done)), H', ⟨Nat.le_refl _⟩, ⟨by repeat (first | (with_reducible first | exact HB.out | apply ba_ | apply pd_ | apply d1_) | exact HB.out)⟩⟩
  case round =>
   clear H'
   try clear p1; try clear q1; try clear hx1; try clear qi1; try clear c2; try clear c2b0; try clear c2b1; try clear p2; try clear hx186_0; try clear p186; try clear q186
   obtain ⟨x3_1, x4_1, rfl, rfl, HA, HK1, HB⟩ := hrel
   cases gk with
   | zero => exact absurd HA.out (by simp [neumeref17_Lowest.l0])
   | succ k1 =>
    have H := HA.out
    clear HA
    simp only [neumeref17_Lowest.l0] at H
    by_cases c3 : x4_1 < (l0.length : Int)
    ·rw [if_pos c3] at H
     have c3b0 : decide (x4_1 < (l0.length : Int)) = true := dt_ c3
     clear c3
     by_cases c4 : 0 ≤ x4_1
     ·rw [if_pos c4] at H
      have c4b0 : decide (0 ≤ x4_1) = true := dt_ c4
      clear c4
      obtain ⟨ji5, hji5⟩ : ∃ j_ : Int, (mn x3_1 (rd l0 x4_1)) = j_ := ⟨_, rfl⟩
      replace H : (neumeref17_Lowest.l0 k1 l0 ji5 (wrap64 (x4_1 + 1))) = some r := by first | (rw [hji5] at H; exact H) | (simp only [hji5] at H ⊢; exact H)
      have hji5_ : (if (rd l0 x4_1) < x3_1 then (rd l0 x4_1) else x3_1) = ji5 := hji5
      have H' := sd_ H
      clear H
      have p187 : 0 ≤ (x4_1 : Int) := od_ (by first | (with_reducible assumption) | assumption)
      have q187 : x4_1 < (l0.length : Int) := od_ (by first | (with_reducible assumption) | assumption)
      obtain ⟨ad187, e187, hx187_0⟩ := Kd.at_int HR0.out x4_1 p187 q187
      obtain rfl : ad186 = ad187 := (by injection e187)
      replace hx187_0 := (HB.out.cell (wb_ w _ hx187_0)).trans hx187_0
      replace p187 := eq_true p187
      replace q187 := eq_true q187
      go_wp2
      go_roundg k1
      case measure => have := HK1.out; omega
      case rel => exact ⟨(ji5), (wrap64 (x4_1 + 1)), (by first | rfl | (simp; done) | (simp only [← hji5] <;> (first | rfl | simp)) | (simp [*]; done)), (by first | rfl | (simp; done) | (simp [*]; done) | (simp [bne]; done)), H', ⟨by have := HK1.out; omega⟩, ⟨by repeat (first | (with_reducible first | exact HB.out | apply ba_ | apply pd_ | apply d1_) | exact HB.out)⟩⟩
     ·rw [if_neg c4] at H
      exact absurd H (by simp)
    ·rw [if_neg c3] at H
     have c3b0 : decide (x4_1 < (l0.length : Int)) = false := df_ c3
     clear c3
     obtain rfl := Option.some.inj H
     go_wp2
     go_ret
     exact ⟨by first | rfl | (simp [errW_none, errW_some] <;> rfl) | (simp [*, errW_none, errW_some] <;> rfl), by repeat (first | (with_reducible first | exact HB.out | apply ba_ | apply pd_ | apply d1_) | exact HB.out)⟩
 ·rw [if_neg c2] at H
  exact absurd H (by simp)

/-! ### neumeref20_Ledgers: function 13 -/
def neumeref20_Ledgers.l0 : Nat → Int → Int → List Int → Int → Option (List Int)
 | 0, _, _, _, _ => none
 | k + 1, x3, x4, x5, x6 => if x6 ≤ 200 then (if x6 ≥ 6 then (if x6 ≤ x3 then (if x5.length < 17592186044416 then (neumeref20_Ledgers.l0 k x3 x4 (x5 ++ [x6]) (wrap64 (x6 + 2))) else (none)) else (if x6 ≤ (-6) then (if x6 ≥ x4 then (if x5.length < 17592186044416 then (neumeref20_Ledgers.l0 k x3 x4 (x5 ++ [x6]) (wrap64 (x6 + 2))) else (none)) else (neumeref20_Ledgers.l0 k x3 x4 x5 (wrap64 (x6 + 2)))) else (neumeref20_Ledgers.l0 k x3 x4 x5 (wrap64 (x6 + 2))))) else (if x6 ≤ (-6) then (if x6 ≥ x4 then (if x5.length < 17592186044416 then (neumeref20_Ledgers.l0 k x3 x4 (x5 ++ [x6]) (wrap64 (x6 + 2))) else (none)) else (neumeref20_Ledgers.l0 k x3 x4 x5 (wrap64 (x6 + 2)))) else (neumeref20_Ledgers.l0 k x3 x4 x5 (wrap64 (x6 + 2))))) else (some x5)
def neumeref20_Ledgers.f (k : Nat) (l0 : List Int) : Option (List Int) := (neumeref17_Fits.f k l0).bind fun t188 => (if t188 = true then ((neumeref17_Highest.f k l0).bind fun t189 => ((neumeref17_Lowest.f k l0).bind fun t190 => (neumeref20_Ledgers.l0 k t189 t190 ([] : List Int) (-200)))) else (some ([] : List Int)))
theorem neumeref20_Ledgers.mono_l : ∀ k, (∀ y0 y1 y2 y3, LeO (neumeref20_Ledgers.l0 k y0 y1 y2 y3) (neumeref20_Ledgers.l0 (k + 1) y0 y1 y2 y3))
 | 0 => fun _ _ _ _ r h => by simp [neumeref20_Ledgers.l0] at h
 | k + 1 => by
  have ih0 := neumeref20_Ledgers.mono_l k
  ·intro y0 y1 y2 y3
   unfold neumeref20_Ledgers.l0
   repeat' first
   | (with_reducible exact ih0 _ _ _ _)
   | (with_reducible exact neumeref17_Fits.mono _ _)
   | (with_reducible exact neumeref17_Highest.mono _ _)
   | (with_reducible exact neumeref17_Lowest.mono _ _)
   | (with_reducible exact LeO.refl _)
   | (with_reducible exact LeO.none _)
   | (with_reducible refine LeO.ite ?_ ?_)
   | (with_reducible refine LeO.bind ?_ (fun _ => ?_))
   | exact ih0 _ _ _ _
   | exact neumeref17_Fits.mono _ _
   | exact neumeref17_Highest.mono _ _
   | exact neumeref17_Lowest.mono _ _
   | exact LeO.none _
   | refine LeO.ite ?_ ?_
   | refine LeO.bind ?_ (fun _ => ?_)
theorem neumeref20_Ledgers.mono : ∀ a0 k, LeO (neumeref20_Ledgers.f k a0) (neumeref20_Ledgers.f (k + 1) a0) := by
 intro a0 k
 have ih0 := neumeref20_Ledgers.mono_l k
 unfold neumeref20_Ledgers.f
 repeat' first
   | (with_reducible exact ih0 _ _ _ _)
   | (with_reducible exact neumeref17_Fits.mono _ _)
   | (with_reducible exact neumeref17_Highest.mono _ _)
   | (with_reducible exact neumeref17_Lowest.mono _ _)
   | (with_reducible exact LeO.refl _)
   | (with_reducible exact LeO.none _)
   | (with_reducible refine LeO.ite ?_ ?_)
   | (with_reducible refine LeO.bind ?_ (fun _ => ?_))
   | exact ih0 _ _ _ _
   | exact neumeref17_Fits.mono _ _
   | exact neumeref17_Highest.mono _ _
   | exact neumeref17_Lowest.mono _ _
   | exact LeO.none _
   | refine LeO.ite ?_ ?_
   | refine LeO.bind ?_ (fun _ => ?_)
set_option maxHeartbeats 8000000 in
set_option maxRecDepth 100000 in
theorem neumeref20_Ledgers.calls (k : Nat) (A0 : Option Addr) (c0 : Nat) (l0 : List Int) (r : List Int) (w : World) (hr0 : Kd.C (Kd.int .i64) w A0 l0.length l0) (hc0 : l0.length ≤ c0) (h : neumeref20_Ledgers.f k l0 = some r) :
  Calls Try.prog 13 #[.slice A0 l0.length c0] w fun e w' => ∃ v0_ : Value, e = .returned (v0_) ∧ Kd.R (Kd.int .i64) 3 w' w.heap.size (fun _ => True) v0_ r ∧ Below w.heap.size w w' := by
 have HR0 := sd_ hr0
 have HC0 := sd_ hc0
 clear hr0 hc0
 have HB := sd_ (Below.refl w.heap.size w)
 have H : ((neumeref17_Fits.f k l0).bind fun t188 => (if t188 = true then ((neumeref17_Highest.f k l0).bind fun t189 => ((neumeref17_Lowest.f k l0).bind fun t190 => (neumeref20_Ledgers.l0 k t189 t190 ([] : List Int) (-200)))) else (some ([] : List Int)))) = some r := h
 clear h
 replace H := ob_ H
 obtain ⟨t188, A20, H⟩ := H
 replace H : (if t188 = true then ((neumeref17_Highest.f k l0).bind fun t189 => ((neumeref17_Lowest.f k l0).bind fun t190 => (neumeref20_Ledgers.l0 k t189 t190 ([] : List Int) (-200)))) else (some ([] : List Int))) = some r := H
 have A2 := sd_ A20
 clear A20
 by_cases c3 : t188 = true
 ·subst c3
  have H1 : ((neumeref17_Highest.f k l0).bind fun t189 => ((neumeref17_Lowest.f k l0).bind fun t190 => (neumeref20_Ledgers.l0 k t189 t190 ([] : List Int) (-200)))) = some r := by rw [if_pos rfl] at H; exact H
  clear H; have H := H1; clear H1
  replace H := ob_ H
  obtain ⟨t189, A40, H⟩ := H
  replace H : ((neumeref17_Lowest.f k l0).bind fun t190 => (neumeref20_Ledgers.l0 k t189 t190 ([] : List Int) (-200))) = some r := H
  have A4 := sd_ A40
  clear A40
  replace H := ob_ H
  obtain ⟨t190, A50, H⟩ := H
  replace H : (neumeref20_Ledgers.l0 k t189 t190 ([] : List Int) (-200)) = some r := H
  have A5 := sd_ A50
  clear A50
  have H' := sd_ H
  clear H
  go_enter Try.func13, Try.ntmps13
  go_wp2_with (first | ((with_reducible refine gate_callee (f := 21) rfl ?_); refine goesL_ (some 8) rfl rfl Try.func21 (by kernel_rfl) rfl #[.slice A0 l0.length c0] rfl (by (try simp only [lm_, lq_, lx_]); first | done | rfl | (simp only [ld_, lt_]; rfl)) ?_; (with_reducible refine (neumeref17_Fits.calls k _ _ l0 true _ ?side1 ?side2 A2.out).mono ?_); (case side1 => repeat (first | exact HR0.out | (with_reducible refine Kd.C_alloc ?_ _) | (with_reducible refine Kd.C_drewN ?_ _) | (with_reducible refine Kd.C_drew ?_))); (case side2 => exact HC0.out); rintro e w' ⟨rfl, ⟨nd, rfl⟩⟩; refine ⟨_, rfl, ?_⟩) | ((with_reducible refine gate_callee (f := 29) rfl ?_); refine goesL_ (some 11) rfl rfl Try.func29 (by kernel_rfl) rfl #[.slice A0 l0.length c0] rfl (by (try simp only [lm_, lq_, lx_]); first | done | rfl | (simp only [ld_, lt_]; rfl)) ?_; (with_reducible refine (neumeref17_Highest.calls k _ _ l0 t189 _ ?side1 ?side2 A4.out).mono ?_); (case side1 => repeat (first | exact HR0.out | (with_reducible refine Kd.C_alloc ?_ _) | (with_reducible refine Kd.C_drewN ?_ _) | (with_reducible refine Kd.C_drew ?_))); (case side2 => exact HC0.out); rintro e w6 ⟨rfl, hb⟩; refine ⟨_, rfl, ?_⟩; replace HB := hb_ HB e0_ hb; (try clear hb); (try clear hb2); (try clear hk); (try clear hi)) | ((with_reducible refine gate_callee (f := 30) rfl ?_); refine goesL_ (some 13) rfl rfl Try.func30 (by kernel_rfl) rfl #[.slice A0 l0.length c0] rfl (by (try simp only [lm_, lq_, lx_]); first | done | rfl | (simp only [ld_, lt_]; rfl)) ?_; (with_reducible refine (neumeref17_Lowest.calls k _ _ l0 t190 _ ?side1 ?side2 A5.out).mono ?_); (case side1 => repeat (first | exact (Kd.C_below HR0.out HB.out) | (with_reducible refine Kd.C_alloc ?_ _) | (with_reducible refine Kd.C_drewN ?_ _) | (with_reducible refine Kd.C_drew ?_))); (case side2 => exact HC0.out); rintro e w7 ⟨rfl, hb⟩; refine ⟨_, rfl, ?_⟩; replace HB := hb_ HB e0_ hb; (try clear hb); (try clear hb2); (try clear hk); (try clear hi)))
  go_loopg [5, 6] k (fun kq v5 v6 w' => ∃ (x5_1 : List Int) (x6_1 : Int), v6 = .int .i64 x6_1 ∧ Aside0 (neumeref20_Ledgers.l0 kq t189 t190 x5_1 x6_1 = some r) ∧ Aside0 (kq ≤ k) ∧ Aside0 (Kd.R (Kd.int .i64) 3 w' w.heap.size (fun _ => True) v5 x5_1) ∧ Aside0 (Below w.heap.size w w'))
  case atStart => exact ⟨(([] : List Int)), ((-200)), (by first | rfl | (simp; done) | (simp [*]; done) | (simp [bne]; done)), H', ⟨Nat.le_refl _⟩, ⟨by first | exact Kd.R_nil _ _ _ _ _ | exact Kd.N_nil _ _ _ _ _ | exact Kd.V_nil _ _ _ _ _ | exact Kd.Q_nil _ _ _ _ _ | exact Kd.S_nil _ _ _ _ _⟩, ⟨by repeat (first | (with_reducible first | exact HB.out | apply ba_ | apply pd_ | apply d1_) | exact HB.out)⟩⟩
  case round =>
   clear H'
   try clear c1; try clear c2; try clear p2; try clear c3
   obtain ⟨x5_1, x6_1, rfl, HA, HK1, HO_5, HB⟩ := hrel
   cases gk with
   | zero => exact absurd HA.out (by simp [neumeref20_Ledgers.l0])
   | succ k1 =>
    have H := HA.out
    clear HA
    simp only [neumeref20_Ledgers.l0] at H
    by_cases c8 : x6_1 ≤ 200
    ·rw [if_pos c8] at H
     have c8b0 : decide (x6_1 ≤ 200) = true := dt_ c8
     clear c8
     by_cases c9 : x6_1 ≥ 6
     ·rw [if_pos c9] at H
      have c9b0 : decide (6 ≤ x6_1) = true := dt_ c9
      clear c9
      by_cases c10 : x6_1 ≤ t189
      ·rw [if_pos c10] at H
       have c10b0 : decide (x6_1 ≤ t189) = true := dt_ c10
       clear c10
       by_cases c11 : x5_1.length < 17592186044416
       ·rw [if_pos c11] at H
        have LMc11 := sd_ c11
        clear c11
        obtain ⟨y191, hy191⟩ : ∃ y_ : List Int, y_ = (x5_1 ++ [x6_1]) := ⟨_, rfl⟩
        replace H : (neumeref20_Ledgers.l0 k1 t189 t190 y191 (wrap64 (x6_1 + 2))) = some r := by first | (rw [hy191]; with_reducible exact H) | (have H2_ := (Option.bind_some _ _).symm.trans H; rw [hy191]; with_reducible exact H2_) | (have H2_ := (Option.bind_some _ _).symm.trans H; with_reducible exact H2_) | with_reducible exact H | (rw [hy191]; exact H) | exact H
        have Ny191 := sd_ hy191
        clear hy191
        have H' := sd_ H
        clear H
        go_wp2_with (first | ((with_reducible refine gate_builtin (b := .append) (xs := #[.tmp 34, .tmp 36]) rfl ?_); at_builtin; refine Kd.R_append (Kd.int .i64) (w0 := w) w.heap.size rfl (.tmp 34) (.tmp 36) 22 3 (.int .i64 0) 8 rfl Try.underlying22 info3 rfl (by decide) (by omega) u5 x5_1 x6_1 [.int .i64 x6_1] (fun _ => True) (fun _ => False) rfl rfl ?aP (fun _ hk => hk.elim) ?aF ?aO ?aB ?aS ?aL ?_; (case aP => exact rfl); (case aB => exact (bb_ HB.out e0_)); (case aF => exact (fun _ _ => trivial)); (case aO => exact (by (with_reducible repeat (first | apply Kd.R_alloc | apply Kd.R_drewN | apply Kd.R_drew)); exact HO_5.out)); (case aS => exact (bz_ (bb_ HB.out e0_))); (case aL => have := LMc11.out; omega); intro v192 w12 ho hb hg hat; rw [← Ny191.out] at ho; have HO193 := sd_ (ho); replace HB := sd_ (hb); clear HO_5; clear ho hb hg hat))
        go_roundg k1
        case measure => have := HK1.out; omega
        case rel => exact ⟨(y191), (wrap64 (x6_1 + 2)), (by first | rfl | (simp; done) | (simp [*]; done) | (simp [bne]; done)), H', ⟨by have := HK1.out; omega⟩, ⟨by (with_reducible repeat (first | apply Kd.R_alloc | apply Kd.R_drewN | apply Kd.R_drew)); exact HO193.out⟩, ⟨by repeat (first | (with_reducible first | exact HB.out | apply ba_ | apply pd_ | apply d1_) | exact HB.out)⟩⟩
       ·rw [if_neg c11] at H
        exact absurd H (by simp)
      ·rw [if_neg c10] at H
       have c10b0 : decide (x6_1 ≤ t189) = false := df_ c10
       clear c10
       by_cases c13 : x6_1 ≤ (-6)
       ·rw [if_pos c13] at H
        have c13b0 : decide (x6_1 ≤ (-6)) = true := dt_ c13
        clear c13
        by_cases c14 : x6_1 ≥ t190
        ·rw [if_pos c14] at H
         have c14b0 : decide (t190 ≤ x6_1) = true := dt_ c14
         clear c14
         by_cases c15 : x5_1.length < 17592186044416
         ·rw [if_pos c15] at H
          have LMc15 := sd_ c15
          clear c15
          obtain ⟨y194, hy194⟩ : ∃ y_ : List Int, y_ = (x5_1 ++ [x6_1]) := ⟨_, rfl⟩
          replace H : (neumeref20_Ledgers.l0 k1 t189 t190 y194 (wrap64 (x6_1 + 2))) = some r := by first | (rw [hy194]; with_reducible exact H) | (have H2_ := (Option.bind_some _ _).symm.trans H; rw [hy194]; with_reducible exact H2_) | (have H2_ := (Option.bind_some _ _).symm.trans H; with_reducible exact H2_) | with_reducible exact H | (rw [hy194]; exact H) | exact H
          have Ny194 := sd_ hy194
          clear hy194
          have H' := sd_ H
          clear H
          go_wp2_with (first | ((with_reducible refine gate_builtin (b := .append) (xs := #[.tmp 34, .tmp 36]) rfl ?_); at_builtin; refine Kd.R_append (Kd.int .i64) (w0 := w) w.heap.size rfl (.tmp 34) (.tmp 36) 22 3 (.int .i64 0) 8 rfl Try.underlying22 info3 rfl (by decide) (by omega) u5 x5_1 x6_1 [.int .i64 x6_1] (fun _ => True) (fun _ => False) rfl rfl ?aP (fun _ hk => hk.elim) ?aF ?aO ?aB ?aS ?aL ?_; (case aP => exact rfl); (case aB => exact (bb_ HB.out e0_)); (case aF => exact (fun _ _ => trivial)); (case aO => exact (by (with_reducible repeat (first | apply Kd.R_alloc | apply Kd.R_drewN | apply Kd.R_drew)); exact HO_5.out)); (case aS => exact (bz_ (bb_ HB.out e0_))); (case aL => have := LMc15.out; omega); intro v195 w16 ho hb hg hat; rw [← Ny194.out] at ho; have HO196 := sd_ (ho); replace HB := sd_ (hb); clear HO_5; clear ho hb hg hat))
          go_roundg k1
          case measure => have := HK1.out; omega
          case rel => exact ⟨(y194), (wrap64 (x6_1 + 2)), (by first | rfl | (simp; done) | (simp [*]; done) | (simp [bne]; done)), H', ⟨by have := HK1.out; omega⟩, ⟨by (with_reducible repeat (first | apply Kd.R_alloc | apply Kd.R_drewN | apply Kd.R_drew)); exact HO196.out⟩, ⟨by repeat (first | (with_reducible first | exact HB.out | apply ba_ | apply pd_ | apply d1_) | exact HB.out)⟩⟩
         ·rw [if_neg c15] at H
          exact absurd H (by simp)
        ·rw [if_neg c14] at H
         have c14b0 : decide (t190 ≤ x6_1) = false := df_ c14
         clear c14
         have H' := sd_ H
         clear H
         go_wp2
         go_roundg k1
         case measure => have := HK1.out; omega
         case rel => exact ⟨(x5_1), (wrap64 (x6_1 + 2)), (by first | rfl | (simp; done) | (simp [*]; done) | (simp [bne]; done)), H', ⟨by have := HK1.out; omega⟩, ⟨by (with_reducible repeat (first | apply Kd.R_alloc | apply Kd.R_drewN | apply Kd.R_drew)); exact HO_5.out⟩, ⟨by repeat (first | (with_reducible first | exact HB.out | apply ba_ | apply pd_ | apply d1_) | exact HB.out)⟩⟩
       ·rw [if_neg c13] at H
        have c13b0 : decide (x6_1 ≤ (-6)) = false := df_ c13
        clear c13
        have H' := sd_ H
        clear H
        go_wp2
        go_roundg k1
        case measure => have := HK1.out; omega
        case rel => exact ⟨(x5_1), (wrap64 (x6_1 + 2)), (by first | rfl | (simp; done) | (simp [*]; done) | (simp [bne]; done)), H', ⟨by have := HK1.out; omega⟩, ⟨by (with_reducible repeat (first | apply Kd.R_alloc | apply Kd.R_drewN | apply Kd.R_drew)); exact HO_5.out⟩, ⟨by repeat (first | (with_reducible first | exact HB.out | apply ba_ | apply pd_ | apply d1_) | exact HB.out)⟩⟩
     ·rw [if_neg c9] at H
      have c9b0 : decide (6 ≤ x6_1) = false := df_ c9
      clear c9
      by_cases c17 : x6_1 ≤ (-6)
      ·rw [if_pos c17] at H
       have c17b0 : decide (x6_1 ≤ (-6)) = true := dt_ c17
       clear c17
       by_cases c18 : x6_1 ≥ t190
       ·rw [if_pos c18] at H
        have c18b0 : decide (t190 ≤ x6_1) = true := dt_ c18
        clear c18
        by_cases c19 : x5_1.length < 17592186044416
        ·rw [if_pos c19] at H
         have LMc19 := sd_ c19
         clear c19
         obtain ⟨y197, hy197⟩ : ∃ y_ : List Int, y_ = (x5_1 ++ [x6_1]) := ⟨_, rfl⟩
         replace H : (neumeref20_Ledgers.l0 k1 t189 t190 y197 (wrap64 (x6_1 + 2))) = some r := by first | (rw [hy197]; with_reducible exact H) | (have H2_ := (Option.bind_some _ _).symm.trans H; rw [hy197]; with_reducible exact H2_) | (have H2_ := (Option.bind_some _ _).symm.trans H; with_reducible exact H2_) | with_reducible exact H | (rw [hy197]; exact H) | exact H
         have Ny197 := sd_ hy197
         clear hy197
         have H' := sd_ H
         clear H
         go_wp2_with (first | ((with_reducible refine gate_builtin (b := .append) (xs := #[.tmp 34, .tmp 36]) rfl ?_); at_builtin; refine Kd.R_append (Kd.int .i64) (w0 := w) w.heap.size rfl (.tmp 34) (.tmp 36) 22 3 (.int .i64 0) 8 rfl Try.underlying22 info3 rfl (by decide) (by omega) u5 x5_1 x6_1 [.int .i64 x6_1] (fun _ => True) (fun _ => False) rfl rfl ?aP (fun _ hk => hk.elim) ?aF ?aO ?aB ?aS ?aL ?_; (case aP => exact rfl); (case aB => exact (bb_ HB.out e0_)); (case aF => exact (fun _ _ => trivial)); (case aO => exact (by (with_reducible repeat (first | apply Kd.R_alloc | apply Kd.R_drewN | apply Kd.R_drew)); exact HO_5.out)); (case aS => exact (bz_ (bb_ HB.out e0_))); (case aL => have := LMc19.out; omega); intro v198 w20 ho hb hg hat; rw [← Ny197.out] at ho; have HO199 := sd_ (ho); replace HB := sd_ (hb); clear HO_5; clear ho hb hg hat))
         go_roundg k1
         case measure => have := HK1.out; omega
         case rel => exact ⟨(y197), (wrap64 (x6_1 + 2)), (by first | rfl | (simp; done) | (simp [*]; done) | (simp [bne]; done)), H', ⟨by have := HK1.out; omega⟩, ⟨by (with_reducible repeat (first | apply Kd.R_alloc | apply Kd.R_drewN | apply Kd.R_drew)); exact HO199.out⟩, ⟨by repeat (first | (with_reducible first | exact HB.out | apply ba_ | apply pd_ | apply d1_) | exact HB.out)⟩⟩
        ·rw [if_neg c19] at H
         exact absurd H (by simp)
       ·rw [if_neg c18] at H
        have c18b0 : decide (t190 ≤ x6_1) = false := df_ c18
        clear c18
        have H' := sd_ H
        clear H
        go_wp2
        go_roundg k1
        case measure => have := HK1.out; omega
        case rel => exact ⟨(x5_1), (wrap64 (x6_1 + 2)), (by first | rfl | (simp; done) | (simp [*]; done) | (simp [bne]; done)), H', ⟨by have := HK1.out; omega⟩, ⟨by (with_reducible repeat (first | apply Kd.R_alloc | apply Kd.R_drewN | apply Kd.R_drew)); exact HO_5.out⟩, ⟨by repeat (first | (with_reducible first | exact HB.out | apply ba_ | apply pd_ | apply d1_) | exact HB.out)⟩⟩
      ·rw [if_neg c17] at H
       have c17b0 : decide (x6_1 ≤ (-6)) = false := df_ c17
       clear c17
       have H' := sd_ H
       clear H
       go_wp2
       go_roundg k1
       case measure => have := HK1.out; omega
       case rel => exact ⟨(x5_1), (wrap64 (x6_1 + 2)), (by first | rfl | (simp; done) | (simp [*]; done) | (simp [bne]; done)), H', ⟨by have := HK1.out; omega⟩, ⟨by (with_reducible repeat (first | apply Kd.R_alloc | apply Kd.R_drewN | apply Kd.R_drew)); exact HO_5.out⟩, ⟨by repeat (first | (with_reducible first | exact HB.out | apply ba_ | apply pd_ | apply d1_) | exact HB.out)⟩⟩
    ·rw [if_neg c8] at H
     have c8b0 : decide (x6_1 ≤ 200) = false := df_ c8
     clear c8
     obtain rfl := Option.some.inj H
     go_wp2
     go_ret
     exact ⟨_, by first | rfl | (simp [errW_none, errW_some] <;> rfl) | (simp [*, errW_none, errW_some] <;> rfl), by (with_reducible repeat (first | apply Kd.R_alloc | apply Kd.R_drewN | apply Kd.R_drew)); exact HO_5.out, by repeat (first | (with_reducible first | exact HB.out | apply ba_ | apply pd_ | apply d1_) | exact HB.out)⟩
 ·replace c3 := bf_ c3
  subst c3
  have H1 : (some ([] : List Int)) = some r := by rw [if_neg (show ¬ (false = true) by decide)] at H; exact H
  clear H; have H := H1; clear H1
  obtain rfl := Option.some.inj H
  go_enter Try.func13, Try.ntmps13
  go_wp2_with (first | ((with_reducible refine gate_callee (f := 21) rfl ?_); refine goesL_ (some 8) rfl rfl Try.func21 (by kernel_rfl) rfl #[.slice A0 l0.length c0] rfl (by (try simp only [lm_, lq_, lx_]); first | done | rfl | (simp only [ld_, lt_]; rfl)) ?_; (with_reducible refine (neumeref17_Fits.calls k _ _ l0 false _ ?side1 ?side2 A2.out).mono ?_); (case side1 => repeat (first | exact HR0.out | (with_reducible refine Kd.C_alloc ?_ _) | (with_reducible refine Kd.C_drewN ?_ _) | (with_reducible refine Kd.C_drew ?_))); (case side2 => exact HC0.out); rintro e w' ⟨rfl, ⟨nd, rfl⟩⟩; refine ⟨_, rfl, ?_⟩))
  go_ret
  exact ⟨_, by first | rfl | (simp [errW_none, errW_some] <;> rfl) | (simp [*, errW_none, errW_some] <;> rfl), by first | exact Kd.R_nil _ _ _ _ _ | exact Kd.N_nil _ _ _ _ _ | exact Kd.V_nil _ _ _ _ _ | exact Kd.Q_nil _ _ _ _ _ | exact Kd.S_nil _ _ _ _ _, by repeat (first | (with_reducible first | exact HB.out | apply ba_ | apply pd_ | apply d1_) | exact HB.out)⟩

end Go.Proofs.Ytochpedmjpidkaa.P
