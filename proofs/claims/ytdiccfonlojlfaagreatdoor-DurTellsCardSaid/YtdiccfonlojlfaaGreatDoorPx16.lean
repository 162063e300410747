-- Written by a program of this session (wip/tools/xprint.py, over the kit's print): Lean checks it.
import Derived.Test.YtdiccfonlojlfaaGreatDoorPx0
import Derived.Test.YtdiccfonlojlfaaGreatDoorPx12
import Derived.Test.YtdiccfonlojlfaaGreatDoorPx13
import Derived.Test.YtdiccfonlojlfaaGreatDoorPx14
import Derived.Test.YtdiccfonlojlfaaGreatDoorPx15
namespace Go.Proofs.YtdiccfonlojlfaaGreatDoor.P
open Go.RowKit Go.Proofs.YtdiccfonlojlfaaGreatDoorW.PrintWords Go.Proofs.YtdiccfonlojlfaaGreatDoorW.PrintLast Go.Proofs.YtdiccfonlojlfaaGreatDoorW.PrintMore
attribute [local go_sem] max2_int min2_int max_two min_two max_three min_three max_four min_four   -- for this text's walks alone
set_option linter.unusedVariables false
set_option linter.unusedSimpArgs false

/-! ### neumeref07_Split: function 13 -/
mutual
def neumeref07_Split.j0 : Nat → Bool → Int → Int → Option ((List (S23)) × Bool)
 | 0, _, _, _ => none
 | k + 1, x16, x410000, x410001 => if x16 = true then (some (([] : List (S23)), false)) else (neumeref07_Split.l0 k ([] : List (S23)) x410000 x410001)
def neumeref07_Split.l0 : Nat → List (S23) → Int → Int → Option ((List (S23)) × Bool)
 | 0, _, _, _ => none
 | k + 1, x4, x410000, x410001 => if x410000 > 0 then (neumeref07_Split.l1 k x4 (-1) x410000 x410001 0 0) else (some (x4, true))
def neumeref07_Split.j3 : Nat → List (S23) → Int → Int → Int → Int → Int → Option ((List (S23)) × Bool)
 | 0, _, _, _, _, _, _ => none
 | k + 1, x4, x5, x410000, x410001, x412000, x412001 => if x5 > 6 then (neumeref07_Split.j4 k x4 x5 true x410000 x410001 x412000 x412001) else (neumeref07_Split.j4 k x4 x5 ((x4.length : Int) == 64) x410000 x410001 x412000 x412001)
def neumeref07_Split.j4 : Nat → List (S23) → Int → Bool → Int → Int → Int → Int → Option ((List (S23)) × Bool)
 | 0, _, _, _, _, _, _, _ => none
 | k + 1, x4, x5, x41, x410000, x410001, x412000, x412001 => if x41 = true then (some (([] : List (S23)), false)) else (if x4.length < 8796093022208 then ((neumeref02_Sub.f k x410000 x410001 x412000 x412001).bind fun bt419 => (if bt419.2.2 = 0 then (neumeref07_Split.l0 k (x4 ++ [(⟨x5, 0⟩ : S23)]) bt419.1 bt419.2.1) else (some (([] : List (S23)), false)))) else (none))
def neumeref07_Split.l1 : Nat → List (S23) → Int → Int → Int → Int → Int → Option ((List (S23)) × Bool)
 | 0, _, _, _, _, _, _ => none
 | k + 1, x4, x5, x410000, x410001, x412000, x412001 => if x5 ≤ 6 then ((neumeref07_Value.f k x5 0).bind fun bt412 => ((neumeref02_Cmp.f k bt412.1 bt412.2.1 x410000 x410001).bind fun t415 => (if t415 ≤ 0 then (neumeref07_Split.j3 k x4 x5 x410000 x410001 bt412.1 bt412.2.1) else (neumeref07_Split.l1 k x4 (wrap64 (x5 + 1)) x410000 x410001 bt412.1 bt412.2.1)))) else (neumeref07_Split.j3 k x4 x5 x410000 x410001 x412000 x412001)
end
def neumeref07_Split.f (k : Nat) (a0_0 : Int) (a0_1 : Int) : Option ((List (S23)) × Bool) := (neumeref02_Check.f k a0_0 a0_1).bind fun t410 => (if t410 = true then (neumeref07_Split.j0 k (decide (a0_0 ≤ 0)) a0_0 a0_1) else (neumeref07_Split.j0 k true a0_0 a0_1))
theorem neumeref07_Split.mono_l : ∀ k, (∀ y0 y1 y2, LeO (neumeref07_Split.j0 k y0 y1 y2) (neumeref07_Split.j0 (k + 1) y0 y1 y2)) ∧ (∀ y0 y1 y2, LeO (neumeref07_Split.l0 k y0 y1 y2) (neumeref07_Split.l0 (k + 1) y0 y1 y2)) ∧ (∀ y0 y1 y2 y3 y4 y5, LeO (neumeref07_Split.j3 k y0 y1 y2 y3 y4 y5) (neumeref07_Split.j3 (k + 1) y0 y1 y2 y3 y4 y5)) ∧ (∀ y0 y1 y2 y3 y4 y5 y6, LeO (neumeref07_Split.j4 k y0 y1 y2 y3 y4 y5 y6) (neumeref07_Split.j4 (k + 1) y0 y1 y2 y3 y4 y5 y6)) ∧ (∀ y0 y1 y2 y3 y4 y5, LeO (neumeref07_Split.l1 k y0 y1 y2 y3 y4 y5) (neumeref07_Split.l1 (k + 1) y0 y1 y2 y3 y4 y5))
 | 0 => ⟨fun _ _ _ r h => by simp [neumeref07_Split.j0] at h, fun _ _ _ r h => by simp [neumeref07_Split.l0] at h, fun _ _ _ _ _ _ r h => by simp [neumeref07_Split.j3] at h, fun _ _ _ _ _ _ _ r h => by simp [neumeref07_Split.j4] at h, fun _ _ _ _ _ _ r h => by simp [neumeref07_Split.l1] at h⟩
 | k + 1 => by
  obtain ⟨ih0, ih1, ih2, ih3, ih4⟩ := neumeref07_Split.mono_l k
  refine ⟨?_, ?_, ?_, ?_, ?_⟩
  ·intro y0 y1 y2
   unfold neumeref07_Split.j0
   repeat' first
   | (with_reducible exact ih0 _ _ _)
   | (with_reducible exact ih1 _ _ _)
   | (with_reducible exact ih2 _ _ _ _ _ _)
   | (with_reducible exact ih3 _ _ _ _ _ _ _)
   | (with_reducible exact ih4 _ _ _ _ _ _)
   | (with_reducible exact neumeref02_Check.mono _ _ _)
   | (with_reducible exact neumeref02_Cmp.mono _ _ _ _ _)
   | (with_reducible exact neumeref02_Sub.mono _ _ _ _ _)
   | (with_reducible exact neumeref07_Value.mono _ _ _)
   | (with_reducible exact LeO.refl _)
   | (with_reducible exact LeO.none _)
   | (with_reducible refine LeO.ite ?_ ?_)
   | (with_reducible refine LeO.bind ?_ (fun _ => ?_))
   | exact ih0 _ _ _
   | exact ih1 _ _ _
   | exact ih2 _ _ _ _ _ _
   | exact ih3 _ _ _ _ _ _ _
   | exact ih4 _ _ _ _ _ _
   | exact neumeref02_Check.mono _ _ _
   | exact neumeref02_Cmp.mono _ _ _ _ _
   | exact neumeref02_Sub.mono _ _ _ _ _
   | exact neumeref07_Value.mono _ _ _
   | exact LeO.none _
   | refine LeO.ite ?_ ?_
   | refine LeO.bind ?_ (fun _ => ?_)
  ·intro y0 y1 y2
   unfold neumeref07_Split.l0
   repeat' first
   | (with_reducible exact ih0 _ _ _)
   | (with_reducible exact ih1 _ _ _)
   | (with_reducible exact ih2 _ _ _ _ _ _)
   | (with_reducible exact ih3 _ _ _ _ _ _ _)
   | (with_reducible exact ih4 _ _ _ _ _ _)
   | (with_reducible exact neumeref02_Check.mono _ _ _)
   | (with_reducible exact neumeref02_Cmp.mono _ _ _ _ _)
   | (with_reducible exact neumeref02_Sub.mono _ _ _ _ _)
   | (with_reducible exact neumeref07_Value.mono _ _ _)
   | (with_reducible exact LeO.refl _)
   | (with_reducible exact LeO.none _)
   | (with_reducible refine LeO.ite ?_ ?_)
   | (with_reducible refine LeO.bind ?_ (fun _ => ?_))
   | exact ih0 _ _ _
   | exact ih1 _ _ _
   | exact ih2 _ _ _ _ _ _
   | exact ih3 _ _ _ _ _ _ _
   | exact ih4 _ _ _ _ _ _
   | exact neumeref02_Check.mono _ _ _
   | exact neumeref02_Cmp.mono _ _ _ _ _
   | exact neumeref02_Sub.mono _ _ _ _ _
   | exact neumeref07_Value.mono _ _ _
   | exact LeO.none _
   | refine LeO.ite ?_ ?_
   | refine LeO.bind ?_ (fun _ => ?_)
  ·intro y0 y1 y2 y3 y4 y5
   unfold neumeref07_Split.j3
   repeat' first
   | (with_reducible exact ih0 _ _ _)
   | (with_reducible exact ih1 _ _ _)
   | (with_reducible exact ih2 _ _ _ _ _ _)
   | (with_reducible exact ih3 _ _ _ _ _ _ _)
   | (with_reducible exact ih4 _ _ _ _ _ _)
   | (with_reducible exact neumeref02_Check.mono _ _ _)
   | (with_reducible exact neumeref02_Cmp.mono _ _ _ _ _)
   | (with_reducible exact neumeref02_Sub.mono _ _ _ _ _)
   | (with_reducible exact neumeref07_Value.mono _ _ _)
   | (with_reducible exact LeO.refl _)
   | (with_reducible exact LeO.none _)
   | (with_reducible refine LeO.ite ?_ ?_)
   | (with_reducible refine LeO.bind ?_ (fun _ => ?_))
   | exact ih0 _ _ _
   | exact ih1 _ _ _
   | exact ih2 _ _ _ _ _ _
   | exact ih3 _ _ _ _ _ _ _
   | exact ih4 _ _ _ _ _ _
   | exact neumeref02_Check.mono _ _ _
   | exact neumeref02_Cmp.mono _ _ _ _ _
   | exact neumeref02_Sub.mono _ _ _ _ _
   | exact neumeref07_Value.mono _ _ _
   | exact LeO.none _
   | refine LeO.ite ?_ ?_
   | refine LeO.bind ?_ (fun _ => ?_)
  ·intro y0 y1 y2 y3 y4 y5 y6
   unfold neumeref07_Split.j4
   repeat' first
   | (with_reducible exact ih0 _ _ _)
   | (with_reducible exact ih1 _ _ _)
   | (with_reducible exact ih2 _ _ _ _ _ _)
   | (with_reducible exact ih3 _ _ _ _ _ _ _)
   | (with_reducible exact ih4 _ _ _ _ _ _)
   | (with_reducible exact neumeref02_Check.mono _ _ _)
   | (with_reducible exact neumeref02_Cmp.mono _ _ _ _ _)
   | (with_reducible exact neumeref02_Sub.mono _ _ _ _ _)
   | (with_reducible exact neumeref07_Value.mono _ _ _)
   | (with_reducible exact LeO.refl _)
   | (with_reducible exact LeO.none _)
   | (with_reducible refine LeO.ite ?_ ?_)
   | (with_reducible refine LeO.bind ?_ (fun _ => ?_))
   | exact ih0 _ _ _
   | exact ih1 _ _ _
   | exact ih2 _ _ _ _ _ _
   | exact ih3 _ _ _ _ _ _ _
   | exact ih4 _ _ _ _ _ _
   | exact neumeref02_Check.mono _ _ _
   | exact neumeref02_Cmp.mono _ _ _ _ _
   | exact neumeref02_Sub.mono _ _ _ _ _
   | exact neumeref07_Value.mono _ _ _
   | exact LeO.none _
   | refine LeO.ite ?_ ?_
   | refine LeO.bind ?_ (fun _ => ?_)
  ·intro y0 y1 y2 y3 y4 y5
   unfold neumeref07_Split.l1
   repeat' first
   | (with_reducible exact ih0 _ _ _)
   | (with_reducible exact ih1 _ _ _)
   | (with_reducible exact ih2 _ _ _ _ _ _)
   | (with_reducible exact ih3 _ _ _ _ _ _ _)
   | (with_reducible exact ih4 _ _ _ _ _ _)
   | (with_reducible exact neumeref02_Check.mono _ _ _)
   | (with_reducible exact neumeref02_Cmp.mono _ _ _ _ _)
   | (with_reducible exact neumeref02_Sub.mono _ _ _ _ _)
   | (with_reducible exact neumeref07_Value.mono _ _ _)
   | (with_reducible exact LeO.refl _)
   | (with_reducible exact LeO.none _)
   | (with_reducible refine LeO.ite ?_ ?_)
   | (with_reducible refine LeO.bind ?_ (fun _ => ?_))
   | exact ih0 _ _ _
   | exact ih1 _ _ _
   | exact ih2 _ _ _ _ _ _
   | exact ih3 _ _ _ _ _ _ _
   | exact ih4 _ _ _ _ _ _
   | exact neumeref02_Check.mono _ _ _
   | exact neumeref02_Cmp.mono _ _ _ _ _
   | exact neumeref02_Sub.mono _ _ _ _ _
   | exact neumeref07_Value.mono _ _ _
   | exact LeO.none _
   | refine LeO.ite ?_ ?_
   | refine LeO.bind ?_ (fun _ => ?_)
theorem neumeref07_Split.mono : ∀ a0 a1 k, LeO (neumeref07_Split.f k a0 a1) (neumeref07_Split.f (k + 1) a0 a1) := by
 intro a0 a1 k
 obtain ⟨ih0, ih1, ih2, ih3, ih4⟩ := neumeref07_Split.mono_l k
 unfold neumeref07_Split.f
 repeat' first
   | (with_reducible exact ih0 _ _ _)
   | (with_reducible exact ih1 _ _ _)
   | (with_reducible exact ih2 _ _ _ _ _ _)
   | (with_reducible exact ih3 _ _ _ _ _ _ _)
   | (with_reducible exact ih4 _ _ _ _ _ _)
   | (with_reducible exact neumeref02_Check.mono _ _ _)
   | (with_reducible exact neumeref02_Cmp.mono _ _ _ _ _)
   | (with_reducible exact neumeref02_Sub.mono _ _ _ _ _)
   | (with_reducible exact neumeref07_Value.mono _ _ _)
   | (with_reducible exact LeO.refl _)
   | (with_reducible exact LeO.none _)
   | (with_reducible refine LeO.ite ?_ ?_)
   | (with_reducible refine LeO.bind ?_ (fun _ => ?_))
   | exact ih0 _ _ _
   | exact ih1 _ _ _
   | exact ih2 _ _ _ _ _ _
   | exact ih3 _ _ _ _ _ _ _
   | exact ih4 _ _ _ _ _ _
   | exact neumeref02_Check.mono _ _ _
   | exact neumeref02_Cmp.mono _ _ _ _ _
   | exact neumeref02_Sub.mono _ _ _ _ _
   | exact neumeref07_Value.mono _ _ _
   | exact LeO.none _
   | refine LeO.ite ?_ ?_
   | refine LeO.bind ?_ (fun _ => ?_)
set_option maxHeartbeats 8000000 in
set_option maxRecDepth 100000 in
theorem neumeref07_Split.calls (k : Nat) (a0_0 : Int) (a0_1 : Int) (r1 : List (S23)) (r2 : Bool) (w : World) (h : neumeref07_Split.f k a0_0 a0_1 = some (r1, r2)) :
  Calls Tryz.prog 13 #[.agg #[.int .i64 a0_0, .int .i64 a0_1]] w fun e w' => ∃ v0_ : Value, e = .returned (.tuple #[v0_, .bool r2]) ∧ Kd.R k23 23 w' w.heap.size (fun _ => True) v0_ r1 ∧ Below w.heap.size w w' := by
 have hu25 := Tryz.underlying25
 have hu23 := Tryz.underlying23
 have HB := sd_ (Below.refl w.heap.size w)
 have H : ((neumeref02_Check.f k a0_0 a0_1).bind fun t410 => (if t410 = true then (neumeref07_Split.j0 k (decide (a0_0 ≤ 0)) a0_0 a0_1) else (neumeref07_Split.j0 k true a0_0 a0_1))) = some (r1, r2) := h
 clear h
 have HC2 := sd_ H
 clear H
 go_enter Tryz.func13, Tryz.ntmps13
 go_upto_region 1 with (first | ((with_reducible refine gate_dst (N := 1) rfl ?_); (try (refine gate_guard (by rfl) ?_; dsimp only)); refine box_event ?hg (N := 1) ?hd (cs := #[.int .i64 a0_0, .int .i64 a0_1]) (t := 25) ?hr ?_; (case hd => rfl); (case hg => rfl); (case hr => first | (go_simp; done) | (go_simp; rfl)); intro gb409 hg w3 hbox hb; have BK409 := sd_ hbox; have GW409 := gw_ HB e0_ hg; have GE409 := GW409; replace HB := hb_ HB e0_ hb; clear hb hbox hg))
 (try simp only [Act.put, ls_, lz_, lc_])
 go_cut [16] (fun v16 wc => ∃ (kq : Nat) (x16_1 : Bool), v16 = .bool x16_1 ∧ Aside0 (neumeref07_Split.j0 kq x16_1 a0_0 a0_1 = some (r1, r2)) ∧ Aside0 (kq ≤ k) ∧ Aside0 (wc.heap[gb409]? = some (.cells #[.int .i64 a0_0, .int .i64 a0_1] 25 (0, 0))) ∧ Aside0 (Below w.heap.size w wc))
 case first =>
  have H := HC2.out
  clear HC2
  replace H := ob_ H
  obtain ⟨t410, A40, H⟩ := H
  replace H : (if t410 = true then (neumeref07_Split.j0 k (decide (a0_0 ≤ 0)) a0_0 a0_1) else (neumeref07_Split.j0 k true a0_0 a0_1)) = some (r1, r2) := H
  have A4 := sd_ A40
  clear A40
  by_cases c5 : t410 = true
  ·subst c5
   have H1 : (neumeref07_Split.j0 k (decide (a0_0 ≤ 0)) a0_0 a0_1) = some (r1, r2) := by rw [if_pos rfl] at H; exact H
   clear H; have H := H1; clear H1
   have H' := sd_ H
   clear H
   have hcz6_0 : w3.cell? ⟨gb409, 0, none⟩ = some (.int .i64 a0_0) := (kc_ BK409.out 0).trans rfl
   have hcz6_1 : w3.cell? ⟨gb409, 1, none⟩ = some (.int .i64 a0_1) := (kc_ BK409.out 1).trans rfl
   have hfz6_0 := kf_ BK409.out 0
   have hfz6_1 := kf_ BK409.out 1
   go_wp2_with (first | ((with_reducible refine gate_callee (f := 47) rfl ?_); refine goesL_ (some 10) rfl rfl Tryz.func47 (by kernel_rfl) rfl #[.agg #[.int .i64 a0_0, .int .i64 a0_1]] rfl (by (try simp only [lm_, lq_, lx_]); first | done | rfl | (simp only [ld_, lt_]; rfl)) ?_; (with_reducible refine (neumeref02_Check.calls k a0_0 a0_1 true _ A4.out).mono ?_); rintro e w7 ⟨rfl, hb⟩; refine ⟨_, rfl, ?_⟩; replace BK409 := kb_ BK409 hb; replace HB := hb_ HB (e_ GE409 e0_) hb; (try clear hb); (try clear hb2); (try clear hk); (try clear hi); have hcz8_0 : w7.cell? ⟨gb409, 0, none⟩ = some (.int .i64 a0_0) := (kc_ BK409.out 0).trans rfl; have hcz8_1 : w7.cell? ⟨gb409, 1, none⟩ = some (.int .i64 a0_1) := (kc_ BK409.out 1).trans rfl; have hfz8_0 := kf_ BK409.out 0; have hfz8_1 := kf_ BK409.out 1))
   go_meet
   case rel => exact ⟨_, (decide (a0_0 ≤ 0)), (by first | rfl | (simp; done) | (simp [*]; done) | (simp [bne]; done)), H', ⟨by first | omega | exact Nat.le_refl _⟩, ⟨by (with_reducible repeat first | apply kn_ | apply kd_ | apply ka_); exact BK409.out⟩, ⟨by repeat (first | (with_reducible first | exact HB.out | apply ba_ | apply pd_ | apply d1_ | refine bs_ ?_ GE409.out) | exact HB.out)⟩⟩
  ·replace c5 := bf_ c5
   subst c5
   have H1 : (neumeref07_Split.j0 k true a0_0 a0_1) = some (r1, r2) := by rw [if_neg (show ¬ (false = true) by decide)] at H; exact H
   clear H; have H := H1; clear H1
   have H' := sd_ H
   clear H
   have hcz9_0 : w3.cell? ⟨gb409, 0, none⟩ = some (.int .i64 a0_0) := (kc_ BK409.out 0).trans rfl
   have hcz9_1 : w3.cell? ⟨gb409, 1, none⟩ = some (.int .i64 a0_1) := (kc_ BK409.out 1).trans rfl
   have hfz9_0 := kf_ BK409.out 0
   have hfz9_1 := kf_ BK409.out 1
   go_wp2_with (first | ((with_reducible refine gate_callee (f := 47) rfl ?_); refine goesL_ (some 10) rfl rfl Tryz.func47 (by kernel_rfl) rfl #[.agg #[.int .i64 a0_0, .int .i64 a0_1]] rfl (by (try simp only [lm_, lq_, lx_]); first | done | rfl | (simp only [ld_, lt_]; rfl)) ?_; (with_reducible refine (neumeref02_Check.calls k a0_0 a0_1 false _ A4.out).mono ?_); rintro e w10 ⟨rfl, hb⟩; refine ⟨_, rfl, ?_⟩; replace BK409 := kb_ BK409 hb; replace HB := hb_ HB (e_ GE409 e0_) hb; (try clear hb); (try clear hb2); (try clear hk); (try clear hi)))
   go_meet
   case rel => exact ⟨_, (true), (by first | rfl | (simp; done) | (simp [*]; done) | (simp [bne]; done)), H', ⟨by first | omega | exact Nat.le_refl _⟩, ⟨by (with_reducible repeat first | apply kn_ | apply kd_ | apply ka_); exact BK409.out⟩, ⟨by repeat (first | (with_reducible first | exact HB.out | apply ba_ | apply pd_ | apply d1_ | refine bs_ ?_ GE409.out) | exact HB.out)⟩⟩
 case rest =>
  clear HC2
  try clear c1; try clear p2; try clear c4; try clear c5; try clear hcz6_0; try clear hcz6_1; try clear hcz8_0; try clear hcz8_1; try clear hcz9_0; try clear hcz9_1; try clear hfz6_0; try clear hfz6_1; try clear hfz8_0; try clear hfz8_1; try clear hfz9_0; try clear hfz9_1
  obtain ⟨kq, x16_1, rfl, HA, HJ1, BK409, HB⟩ := hcut
  cases kq with
  | zero => exact absurd HA.out (by simp [neumeref07_Split.j0])
  | succ kj1 =>
   have H := HA.out
   clear HA
   simp only [neumeref07_Split.j0] at H
   by_cases c11 : x16_1 = true
   ·subst c11
    have H1 : (some (([] : List (S23)), false)) = some (r1, r2) := by rw [if_pos rfl] at H; exact H
    clear H; have H := H1; clear H1
    simp only [Option.some.injEq, Prod.mk.injEq] at H
    obtain ⟨rfl, rfl⟩ := H
    go_wp2
    go_ret2
    exact ⟨_, by first | rfl | (simp [errW_none, errW_some] <;> rfl) | (simp [*, errW_none, errW_some] <;> rfl), by first | exact Kd.R_nil _ _ _ _ _ | exact Kd.N_nil _ _ _ _ _ | exact Kd.V_nil _ _ _ _ _ | exact Kd.Q_nil _ _ _ _ _ | exact Kd.S_nil _ _ _ _ _, by repeat (first | (with_reducible first | exact HB.out | apply ba_ | apply pd_ | apply d1_ | refine bs_ ?_ GE409.out) | exact HB.out)⟩
   ·replace c11 := bf_ c11
    subst c11
    have H1 : (neumeref07_Split.l0 kj1 ([] : List (S23)) a0_0 a0_1) = some (r1, r2) := by rw [if_neg (show ¬ (false = true) by decide)] at H; exact H
    clear H; have H := H1; clear H1
    have H' := sd_ H
    clear H
    go_wp2
    go_loopg [4] kj1 (fun kq v4 w' => ∃ (x4_2 : List (S23)) (x410000_2 : Int) (x410001_2 : Int), Aside0 (neumeref07_Split.l0 kq x4_2 x410000_2 x410001_2 = some (r1, r2)) ∧ Aside0 (kq ≤ kj1) ∧ Aside0 (Kd.R k23 23 w' w.heap.size (fun _ => True) v4 x4_2) ∧ Aside0 (w'.heap[gb409]? = some (.cells #[.int .i64 x410000_2, .int .i64 x410001_2] 25 (0, 0))) ∧ Aside0 (Below w.heap.size w w'))
    case atStart => exact ⟨(([] : List (S23))), (a0_0), (a0_1), H', ⟨Nat.le_refl _⟩, ⟨by first | exact Kd.R_nil _ _ _ _ _ | exact Kd.N_nil _ _ _ _ _ | exact Kd.V_nil _ _ _ _ _ | exact Kd.Q_nil _ _ _ _ _ | exact Kd.S_nil _ _ _ _ _⟩, ⟨by (with_reducible repeat first | apply kn_ | apply kd_ | apply ka_); exact BK409.out⟩, ⟨by repeat (first | (with_reducible first | exact HB.out | apply ba_ | apply pd_ | apply d1_ | refine bs_ ?_ GE409.out) | exact HB.out)⟩⟩
    case round =>
     clear H'
     try clear c1; try clear p2; try clear c4; try clear c5; try clear c11; try clear hcz6_0; try clear hcz6_1; try clear hcz8_0; try clear hcz8_1; try clear hcz9_0; try clear hcz9_1; try clear hfz6_0; try clear hfz6_1; try clear hfz8_0; try clear hfz8_1; try clear hfz9_0; try clear hfz9_1; try clear p2
     obtain ⟨x4_2, x410000_2, x410001_2, HA, HK2, HO_4, BK409, HB⟩ := hrel
     cases gk with
     | zero => exact absurd HA.out (by simp [neumeref07_Split.l0])
     | succ k2 =>
      have H := HA.out
      clear HA
      simp only [neumeref07_Split.l0] at H
      by_cases c12 : x410000_2 > 0
      ·rw [if_pos c12] at H
       have c12b0 : decide (0 < x410000_2) = true := dt_ c12
       clear c12
       have HC13 := sd_ H
       clear H
       have hcz14_0 : wr.cell? ⟨gb409, 0, none⟩ = some (.int .i64 x410000_2) := (kc_ BK409.out 0).trans rfl
       have hcz14_1 : wr.cell? ⟨gb409, 1, none⟩ = some (.int .i64 x410001_2) := (kc_ BK409.out 1).trans rfl
       have hfz14_0 := kf_ BK409.out 0
       have hfz14_1 := kf_ BK409.out 1
       go_upto_block 2 with (first | ((with_reducible refine gate_dst (N := 6) rfl ?_); (try (refine gate_guard (by rfl) ?_; dsimp only)); refine box_event ?hg (N := 6) ?hd (cs := #[.int .i64 0, .int .i64 0]) (t := 25) ?hr ?_; (case hd => rfl); (case hg => rfl); (case hr => first | (go_simp; done) | (go_simp; rfl)); intro gb411 hg w15 hbox hb; have BK411 := sd_ hbox; have GW411 := gw_ HB (e_ GE409 e0_) hg; have GE411 := GW411; have NB409_411 := nb_ BK409 hg; have NB411_409 := sy_ NB409_411; replace HO_4 := sd_ (Kd.R_below (by (with_reducible repeat (first | apply Kd.R_alloc | apply Kd.R_drewN | apply Kd.R_drew)); exact HO_4.out) hb); replace BK409 := kb_ BK409 hb; replace HB := hb_ HB (e_ GE409 e0_) hb; clear hb hbox hg; have hnb16 := NB411_409.out; have hnc16 := NB409_411.out; have hcz17_0 : w15.cell? ⟨gb411, 0, none⟩ = some (.int .i64 0) := (kc_ BK411.out 0).trans rfl; have hcz17_1 : w15.cell? ⟨gb411, 1, none⟩ = some (.int .i64 0) := (kc_ BK411.out 1).trans rfl; have hfz17_0 := kf_ BK411.out 0; have hfz17_1 := kf_ BK411.out 1))
       (try simp only [Act.put, ls_, lz_, lc_])
       go_cut [5] (fun v5 wc => ∃ (kq : Nat) (x5_12 : Int) (x412000_12 : Int) (x412001_12 : Int), v5 = .int .i64 x5_12 ∧ Aside0 (neumeref07_Split.j3 kq x4_2 x5_12 x410000_2 x410001_2 x412000_12 x412001_12 = some (r1, r2)) ∧ Aside0 (kq ≤ k2) ∧ Aside0 (Kd.R k23 23 wc w.heap.size (fun _ => True) u4 x4_2) ∧ Aside0 (wc.heap[gb409]? = some (.cells #[.int .i64 x410000_2, .int .i64 x410001_2] 25 (0, 0))) ∧ Aside0 (wc.heap[gb411]? = some (.cells #[.int .i64 x412000_12, .int .i64 x412001_12] 25 (0, 0))) ∧ Aside0 (Below w.heap.size w wc))
       case first =>
        have H := HC13.out
        clear HC13
        have H' := sd_ H
        clear H
        go_wp2
        go_loopg [5] k2 (fun kq v5 w' => ∃ (x5_3 : Int) (x412000_3 : Int) (x412001_3 : Int), v5 = .int .i64 x5_3 ∧ Aside0 (neumeref07_Split.l1 kq x4_2 x5_3 x410000_2 x410001_2 x412000_3 x412001_3 = some (r1, r2)) ∧ Aside0 (kq ≤ k2) ∧ Aside0 (Kd.R k23 23 w' w.heap.size (fun _ => True) u4 x4_2) ∧ Aside0 (w'.heap[gb409]? = some (.cells #[.int .i64 x410000_2, .int .i64 x410001_2] 25 (0, 0))) ∧ Aside0 (w'.heap[gb411]? = some (.cells #[.int .i64 x412000_3, .int .i64 x412001_3] 25 (0, 0))) ∧ Aside0 (Below w.heap.size w w'))
        case atStart => exact ⟨((-1)), (0), (0), (by first | rfl | (simp; done) | (simp [*]; done) | (simp [bne]; done)), H', ⟨Nat.le_refl _⟩, ⟨by (with_reducible repeat (first | apply Kd.R_alloc | apply Kd.R_drewN | apply Kd.R_drew)); exact Kd.R_mono (Kd.R_far (p := ⟨gb411, 1, none⟩) (Kd.R_far (p := ⟨gb411, 0, none⟩) (Kd.R_types HO_4.out BK411.out (by decide)) (fun _ hk => hk.2) (.int .i64 0)) (fun _ hk => hk.2) (.int .i64 0)) (fun _ hk => trivial)⟩, ⟨by (with_reducible repeat first | apply kn_ | apply kd_ | apply ka_); refine blk_far ?_ NB409_411.out _; (with_reducible repeat first | apply kn_ | apply kd_ | apply ka_); refine blk_far ?_ NB409_411.out _; (with_reducible repeat first | apply kn_ | apply kd_ | apply ka_); exact BK409.out⟩, ⟨by (with_reducible repeat first | apply kn_ | apply kd_ | apply ka_); refine blk_put (cs := #[.int .i64 0, .int .i64 0]) ?_ 1 _ rfl; (with_reducible repeat first | apply kn_ | apply kd_ | apply ka_); refine blk_put (cs := #[.int .i64 0, .int .i64 0]) ?_ 0 _ rfl; (with_reducible repeat first | apply kn_ | apply kd_ | apply ka_); exact BK411.out⟩, ⟨by repeat (first | (with_reducible first | exact HB.out | apply ba_ | apply pd_ | apply d1_ | refine bs_ ?_ GE409.out | refine bs_ ?_ GE411.out) | exact HB.out)⟩⟩
        case round =>
         clear H'
         try clear c1; try clear p2; try clear c4; try clear c5; try clear c11; try clear c12; try clear c12b0; try clear c13; try clear c16; try clear hcz14_0; try clear hcz14_1; try clear hcz17_0; try clear hcz17_1; try clear hcz6_0; try clear hcz6_1; try clear hcz8_0; try clear hcz8_1; try clear hcz9_0; try clear hcz9_1; try clear hfz14_0; try clear hfz14_1; try clear hfz17_0; try clear hfz17_1; try clear hfz6_0; try clear hfz6_1; try clear hfz8_0; try clear hfz8_1; try clear hfz9_0; try clear hfz9_1; try clear p2
         obtain ⟨x5_3, x412000_3, x412001_3, rfl, HA, HK3, HO_4, BK409, BK411, HB⟩ := hrel
         cases gk with
         | zero => exact absurd HA.out (by simp [neumeref07_Split.l1])
         | succ k3 =>
          have H := HA.out
          clear HA
          simp only [neumeref07_Split.l1] at H
          by_cases c18 : x5_3 ≤ 6
          ·rw [if_pos c18] at H
           have c18b0 : decide (x5_3 ≤ 6) = true := dt_ c18
           clear c18
           (first | rw [c18b0] | (simp only [i64_w, i32_w]; rw [c18b0]) | skip)
           replace H := ob_ H
           obtain ⟨⟨t412, t413, t414⟩, A190, H⟩ := H
           replace H : ((neumeref02_Cmp.f k3 t412 t413 x410000_2 x410001_2).bind fun t415 => (if t415 ≤ 0 then (neumeref07_Split.j3 k3 x4_2 x5_3 x410000_2 x410001_2 t412 t413) else (neumeref07_Split.l1 k3 x4_2 (wrap64 (x5_3 + 1)) x410000_2 x410001_2 t412 t413))) = some (r1, r2) := H
           have A19 := sd_ A190
           clear A190
           replace H := ob_ H
           obtain ⟨t415, A200, H⟩ := H
           replace H : (if t415 ≤ 0 then (neumeref07_Split.j3 k3 x4_2 x5_3 x410000_2 x410001_2 t412 t413) else (neumeref07_Split.l1 k3 x4_2 (wrap64 (x5_3 + 1)) x410000_2 x410001_2 t412 t413)) = some (r1, r2) := H
           have A20 := sd_ A200
           clear A200
           by_cases c21 : t415 ≤ 0
           ·rw [if_pos c21] at H
            have c21b0 : decide (t415 ≤ 0) = true := dt_ c21
            clear c21
            have H' := sd_ H
            clear H
            go_wp2_with (first | ((with_reducible refine gate_callee (f := 7) rfl ?_); refine goesL_ (some 26) rfl rfl Tryz.func7 (by kernel_rfl) rfl #[.agg #[.int .i64 x5_3, .int .i64 0]] rfl (by (try simp only [lm_, lq_, lx_]); first | done | rfl | (simp only [ld_, lt_]; rfl)) ?_; (with_reducible refine (neumeref07_Value.calls k3 x5_3 0 t412 t413 t414 _ A19.out).mono ?_); rintro e w22 ⟨rfl, hb⟩; refine ⟨_, rfl, ?_⟩; replace HO_4 := sd_ (Kd.R_below (by (with_reducible repeat (first | apply Kd.R_alloc | apply Kd.R_drewN | apply Kd.R_drew)); exact HO_4.out) hb); replace BK409 := kb_ BK409 hb; replace BK411 := kb_ BK411 hb; replace HB := hb_ HB (e_ GE409 (e_ GE411 e0_)) hb; (try clear hb); (try clear hb2); (try clear hk); (try clear hi); have hnb23 := NB411_409.out; have hnc23 := NB409_411.out; have hcz24_0 : w22.cell? ⟨gb411, 0, none⟩ = some (.int .i64 x412000_3) := (kc_ BK411.out 0).trans rfl; have hcz24_1 : w22.cell? ⟨gb411, 1, none⟩ = some (.int .i64 x412001_3) := (kc_ BK411.out 1).trans rfl; have hfz24_0 := kf_ BK411.out 0; have hfz24_1 := kf_ BK411.out 1; have hcz25_0 : w22.cell? ⟨gb409, 0, none⟩ = some (.int .i64 x410000_2) := (kc_ BK409.out 0).trans rfl; have hcz25_1 : w22.cell? ⟨gb409, 1, none⟩ = some (.int .i64 x410001_2) := (kc_ BK409.out 1).trans rfl; have hfz25_0 := kf_ BK409.out 0; have hfz25_1 := kf_ BK409.out 1) | ((with_reducible refine gate_callee (f := 48) rfl ?_); refine goesL_ (some 31) rfl rfl Tryz.func48 (by kernel_rfl) rfl #[.agg #[.int .i64 t412, .int .i64 t413], .agg #[.int .i64 x410000_2, .int .i64 x410001_2]] rfl (by (try simp only [lm_, lq_, lx_]); first | done | rfl | (simp only [ld_, lt_]; rfl)) ?_; (with_reducible refine (neumeref02_Cmp.calls k3 t412 t413 x410000_2 x410001_2 t415 _ A20.out).mono ?_); rintro e w26 ⟨rfl, hb⟩; refine ⟨_, rfl, ?_⟩; have n0_ := sd_ (Kd.R_below (by (with_reducible repeat (first | apply Kd.R_alloc | apply Kd.R_drewN | apply Kd.R_drew)); exact (Kd.R_mono (Kd.R_far (p := ⟨gb411, 1, none⟩) (Kd.R_far (p := ⟨gb411, 0, none⟩) (Kd.R_types HO_4.out BK411.out (by decide)) (fun _ hk => hk.2) (.int .i64 t412)) (fun _ hk => hk.2) (.int .i64 t413)) (fun _ h_ => h_.1))) hb); have n1_ := sd_ (blk_below (g := gb409) (o := .cells #[.int .i64 x410000_2, .int .i64 x410001_2] 25 (0, 0)) (by (with_reducible repeat first | apply kn_ | apply kd_ | apply ka_); refine blk_far ?_ NB409_411.out _; (with_reducible repeat first | apply kn_ | apply kd_ | apply ka_); refine blk_far ?_ NB409_411.out _; (with_reducible repeat first | apply kn_ | apply kd_ | apply ka_); exact BK409.out) hb); have n2_ := sd_ (blk_below (g := gb411) (o := .cells #[.int .i64 t412, .int .i64 t413] 25 (0, 0)) (by (with_reducible repeat first | apply kn_ | apply kd_ | apply ka_); refine blk_put (cs := #[.int .i64 t412, .int .i64 x412001_3]) ?_ 1 _ rfl; (with_reducible repeat first | apply kn_ | apply kd_ | apply ka_); refine blk_put (cs := #[.int .i64 x412000_3, .int .i64 x412001_3]) ?_ 0 _ rfl; (with_reducible repeat first | apply kn_ | apply kd_ | apply ka_); exact BK411.out) hb); have n3_ := hb_ HB (e_ GE409 (e_ GE411 e0_)) hb; clear HO_4; clear BK409; clear BK411; clear HB; have HO_4 := n0_; have BK409 := n1_; have BK411 := n2_; have HB := n3_; clear n0_ n1_ n2_ n3_; (try clear hb); (try clear hb2); (try clear hk); (try clear hi)))
            go_meet
            case rel => exact ⟨_, (x5_3), (t412), (t413), (by first | rfl | (simp; done) | (simp [*]; done) | (simp [bne]; done)), H', ⟨by have := HJ1.out; have := HK2.out; have := HK3.out; first | omega | exact Nat.le_refl _⟩, ⟨by (with_reducible repeat (first | apply Kd.R_alloc | apply Kd.R_drewN | apply Kd.R_drew)); exact HO_4.out⟩, ⟨by (with_reducible repeat first | apply kn_ | apply kd_ | apply ka_); exact BK409.out⟩, ⟨by (with_reducible repeat first | apply kn_ | apply kd_ | apply ka_); exact BK411.out⟩, ⟨by repeat (first | (with_reducible first | exact HB.out | apply ba_ | apply pd_ | apply d1_ | refine bs_ ?_ GE409.out | refine bs_ ?_ GE411.out) | exact HB.out)⟩⟩
           ·rw [if_neg c21] at H
            have c21b0 : decide (t415 ≤ 0) = false := df_ c21
            clear c21
            have H' := sd_ H
            clear H
            go_wp2_with (first | ((with_reducible refine gate_callee (f := 7) rfl ?_); refine goesL_ (some 26) rfl rfl Tryz.func7 (by kernel_rfl) rfl #[.agg #[.int .i64 x5_3, .int .i64 0]] rfl (by (try simp only [lm_, lq_, lx_]); first | done | rfl | (simp only [ld_, lt_]; rfl)) ?_; (with_reducible refine (neumeref07_Value.calls k3 x5_3 0 t412 t413 t414 _ A19.out).mono ?_); rintro e w27 ⟨rfl, hb⟩; refine ⟨_, rfl, ?_⟩; replace HO_4 := sd_ (Kd.R_below (by (with_reducible repeat (first | apply Kd.R_alloc | apply Kd.R_drewN | apply Kd.R_drew)); exact HO_4.out) hb); replace BK409 := kb_ BK409 hb; replace BK411 := kb_ BK411 hb; replace HB := hb_ HB (e_ GE409 (e_ GE411 e0_)) hb; (try clear hb); (try clear hb2); (try clear hk); (try clear hi); have hnb28 := NB411_409.out; have hnc28 := NB409_411.out; have hcz29_0 : w27.cell? ⟨gb411, 0, none⟩ = some (.int .i64 x412000_3) := (kc_ BK411.out 0).trans rfl; have hcz29_1 : w27.cell? ⟨gb411, 1, none⟩ = some (.int .i64 x412001_3) := (kc_ BK411.out 1).trans rfl; have hfz29_0 := kf_ BK411.out 0; have hfz29_1 := kf_ BK411.out 1; have hcz30_0 : w27.cell? ⟨gb409, 0, none⟩ = some (.int .i64 x410000_2) := (kc_ BK409.out 0).trans rfl; have hcz30_1 : w27.cell? ⟨gb409, 1, none⟩ = some (.int .i64 x410001_2) := (kc_ BK409.out 1).trans rfl; have hfz30_0 := kf_ BK409.out 0; have hfz30_1 := kf_ BK409.out 1) | ((with_reducible refine gate_callee (f := 48) rfl ?_); refine goesL_ (some 31) rfl rfl Tryz.func48 (by kernel_rfl) rfl #[.agg #[.int .i64 t412, .int .i64 t413], .agg #[.int .i64 x410000_2, .int .i64 x410001_2]] rfl (by (try simp only [lm_, lq_, lx_]); first | done | rfl | (simp only [ld_, lt_]; rfl)) ?_; (with_reducible refine (neumeref02_Cmp.calls k3 t412 t413 x410000_2 x410001_2 t415 _ A20.out).mono ?_); rintro e w31 ⟨rfl, hb⟩; refine ⟨_, rfl, ?_⟩; have n0_ := sd_ (Kd.R_below (by (with_reducible repeat (first | apply Kd.R_alloc | apply Kd.R_drewN | apply Kd.R_drew)); exact (Kd.R_mono (Kd.R_far (p := ⟨gb411, 1, none⟩) (Kd.R_far (p := ⟨gb411, 0, none⟩) (Kd.R_types HO_4.out BK411.out (by decide)) (fun _ hk => hk.2) (.int .i64 t412)) (fun _ hk => hk.2) (.int .i64 t413)) (fun _ h_ => h_.1))) hb); have n1_ := sd_ (blk_below (g := gb409) (o := .cells #[.int .i64 x410000_2, .int .i64 x410001_2] 25 (0, 0)) (by (with_reducible repeat first | apply kn_ | apply kd_ | apply ka_); refine blk_far ?_ NB409_411.out _; (with_reducible repeat first | apply kn_ | apply kd_ | apply ka_); refine blk_far ?_ NB409_411.out _; (with_reducible repeat first | apply kn_ | apply kd_ | apply ka_); exact BK409.out) hb); have n2_ := sd_ (blk_below (g := gb411) (o := .cells #[.int .i64 t412, .int .i64 t413] 25 (0, 0)) (by (with_reducible repeat first | apply kn_ | apply kd_ | apply ka_); refine blk_put (cs := #[.int .i64 t412, .int .i64 x412001_3]) ?_ 1 _ rfl; (with_reducible repeat first | apply kn_ | apply kd_ | apply ka_); refine blk_put (cs := #[.int .i64 x412000_3, .int .i64 x412001_3]) ?_ 0 _ rfl; (with_reducible repeat first | apply kn_ | apply kd_ | apply ka_); exact BK411.out) hb); have n3_ := hb_ HB (e_ GE409 (e_ GE411 e0_)) hb; clear HO_4; clear BK409; clear BK411; clear HB; have HO_4 := n0_; have BK409 := n1_; have BK411 := n2_; have HB := n3_; clear n0_ n1_ n2_ n3_; (try clear hb); (try clear hb2); (try clear hk); (try clear hi)))
            go_roundg k3
            case measure => have := HJ1.out; have := HK2.out; have := HK3.out; omega
            case rel => exact ⟨(wrap64 (x5_3 + 1)), (t412), (t413), (by first | rfl | (simp; done) | (simp [*]; done) | (simp [bne]; done)), H', ⟨by have := HJ1.out; have := HK2.out; have := HK3.out; omega⟩, ⟨by (with_reducible repeat (first | apply Kd.R_alloc | apply Kd.R_drewN | apply Kd.R_drew)); exact HO_4.out⟩, ⟨by (with_reducible repeat first | apply kn_ | apply kd_ | apply ka_); exact BK409.out⟩, ⟨by (with_reducible repeat first | apply kn_ | apply kd_ | apply ka_); exact BK411.out⟩, ⟨by repeat (first | (with_reducible first | exact HB.out | apply ba_ | apply pd_ | apply d1_ | refine bs_ ?_ GE409.out | refine bs_ ?_ GE411.out) | exact HB.out)⟩⟩
          ·rw [if_neg c18] at H
           have c18b0 : decide (x5_3 ≤ 6) = false := df_ c18
           clear c18
           (first | rw [c18b0] | (simp only [i64_w, i32_w]; rw [c18b0]) | skip)
           have H' := sd_ H
           clear H
           go_wp2
           go_meet
           case rel => exact ⟨_, (x5_3), (x412000_3), (x412001_3), (by first | rfl | (simp; done) | (simp [*]; done) | (simp [bne]; done)), H', ⟨by have := HJ1.out; have := HK2.out; have := HK3.out; first | omega | exact Nat.le_refl _⟩, ⟨by (with_reducible repeat (first | apply Kd.R_alloc | apply Kd.R_drewN | apply Kd.R_drew)); exact HO_4.out⟩, ⟨by (with_reducible repeat first | apply kn_ | apply kd_ | apply ka_); exact BK409.out⟩, ⟨by (with_reducible repeat first | apply kn_ | apply kd_ | apply ka_); exact BK411.out⟩, ⟨by repeat (first | (with_reducible first | exact HB.out | apply ba_ | apply pd_ | apply d1_ | refine bs_ ?_ GE409.out | refine bs_ ?_ GE411.out) | exact HB.out)⟩⟩
       case rest =>
        clear HC13
        try clear c1; try clear c2; try clear p2; try clear c4; try clear c5; try clear p6; try clear c7; try clear c11; try clear c12; try clear c12b0; try clear c13; try clear c16; try clear c18; try clear c18b0; try clear c21; try clear c21b0; try clear c23; try clear c28; try clear hcz14_0; try clear hcz14_1; try clear hcz17_0; try clear hcz17_1; try clear hcz24_0; try clear hcz24_1; try clear hcz25_0; try clear hcz25_1; try clear hcz29_0; try clear hcz29_1; try clear hcz30_0; try clear hcz30_1; try clear hcz6_0; try clear hcz6_1; try clear hcz8_0; try clear hcz8_1; try clear hcz9_0; try clear hcz9_1; try clear hfz14_0; try clear hfz14_1; try clear hfz17_0; try clear hfz17_1; try clear hfz24_0; try clear hfz24_1; try clear hfz25_0; try clear hfz25_1; try clear hfz29_0; try clear hfz29_1; try clear hfz30_0; try clear hfz30_1; try clear hfz6_0; try clear hfz6_1; try clear hfz8_0; try clear hfz8_1; try clear hfz9_0; try clear hfz9_1; try clear p2
        obtain ⟨kq, x5_12, x412000_12, x412001_12, rfl, HA, HJ12, HO_4, BK409, BK411, HB⟩ := hcut
        cases kq with
        | zero => exact absurd HA.out (by simp [neumeref07_Split.j3])
        | succ kj12 =>
         have H := HA.out
         clear HA
         simp only [neumeref07_Split.j3] at H
         have HC32 := sd_ H
         clear H
         go_upto_region 11 with (fail)
         go_cut [41] (fun v41 wc => ∃ (kq : Nat) (x41_31 : Bool), v41 = .bool x41_31 ∧ Aside0 (neumeref07_Split.j4 kq x4_2 x5_12 x41_31 x410000_2 x410001_2 x412000_12 x412001_12 = some (r1, r2)) ∧ Aside0 (kq ≤ kj12) ∧ Aside0 (Kd.R k23 23 wc w.heap.size (fun _ => True) u4 x4_2) ∧ Aside0 (wc.heap[gb409]? = some (.cells #[.int .i64 x410000_2, .int .i64 x410001_2] 25 (0, 0))) ∧ Aside0 (wc.heap[gb411]? = some (.cells #[.int .i64 x412000_12, .int .i64 x412001_12] 25 (0, 0))) ∧ Aside0 (Below w.heap.size w wc))
         case first =>
          have H := HC32.out
          clear HC32
          by_cases c33 : x5_12 > 6
          ·rw [if_pos c33] at H
           have c33b0 : decide (6 < x5_12) = true := dt_ c33
           clear c33
           (first | rw [c33b0] | (simp only [i64_w, i32_w]; rw [c33b0]) | skip)
           have H' := sd_ H
           clear H
           go_wp2
           go_meet
           case rel => exact ⟨_, (true), (by first | rfl | (simp; done) | (simp [*]; done) | (simp [bne]; done)), H', ⟨by have := HJ1.out; have := HK2.out; have := HJ12.out; first | omega | exact Nat.le_refl _⟩, ⟨by (with_reducible repeat (first | apply Kd.R_alloc | apply Kd.R_drewN | apply Kd.R_drew)); exact HO_4.out⟩, ⟨by (with_reducible repeat first | apply kn_ | apply kd_ | apply ka_); exact BK409.out⟩, ⟨by (with_reducible repeat first | apply kn_ | apply kd_ | apply ka_); exact BK411.out⟩, ⟨by repeat (first | (with_reducible first | exact HB.out | apply ba_ | apply pd_ | apply d1_ | refine bs_ ?_ GE409.out | refine bs_ ?_ GE411.out) | exact HB.out)⟩⟩
          ·rw [if_neg c33] at H
           have c33b0 : decide (6 < x5_12) = false := df_ c33
           clear c33
           (first | rw [c33b0] | (simp only [i64_w, i32_w]; rw [c33b0]) | skip)
           have H' := sd_ H
           clear H
           obtain ⟨Ao34, co34, eo34⟩ := Kd.R_slice HO_4.out
           subst eo34
           go_wp2
           go_meet
           case rel => exact ⟨_, (((x4_2.length : Int) == 64)), (by first | rfl | (simp; done) | (simp [*]; done) | (simp [bne]; done)), H', ⟨by have := HJ1.out; have := HK2.out; have := HJ12.out; first | omega | exact Nat.le_refl _⟩, ⟨by (with_reducible repeat (first | apply Kd.R_alloc | apply Kd.R_drewN | apply Kd.R_drew)); exact HO_4.out⟩, ⟨by (with_reducible repeat first | apply kn_ | apply kd_ | apply ka_); exact BK409.out⟩, ⟨by (with_reducible repeat first | apply kn_ | apply kd_ | apply ka_); exact BK411.out⟩, ⟨by repeat (first | (with_reducible first | exact HB.out | apply ba_ | apply pd_ | apply d1_ | refine bs_ ?_ GE409.out | refine bs_ ?_ GE411.out) | exact HB.out)⟩⟩
         case rest =>
          clear HC32
          try clear c1; try clear c2; try clear p2; try clear c3; try clear c4; try clear c5; try clear p6; try clear c7; try clear c11; try clear c12; try clear c12b0; try clear c13; try clear c16; try clear c18; try clear c18b0; try clear c21; try clear c21b0; try clear c23; try clear c28; try clear c33; try clear c33b0; try clear hcz14_0; try clear hcz14_1; try clear hcz17_0; try clear hcz17_1; try clear hcz24_0; try clear hcz24_1; try clear hcz25_0; try clear hcz25_1; try clear hcz29_0; try clear hcz29_1; try clear hcz30_0; try clear hcz30_1; try clear hcz6_0; try clear hcz6_1; try clear hcz8_0; try clear hcz8_1; try clear hcz9_0; try clear hcz9_1; try clear hfz14_0; try clear hfz14_1; try clear hfz17_0; try clear hfz17_1; try clear hfz24_0; try clear hfz24_1; try clear hfz25_0; try clear hfz25_1; try clear hfz29_0; try clear hfz29_1; try clear hfz30_0; try clear hfz30_1; try clear hfz6_0; try clear hfz6_1; try clear hfz8_0; try clear hfz8_1; try clear hfz9_0; try clear hfz9_1; try clear p2; try clear p6
          obtain ⟨kq, x41_31, rfl, HA, HJ31, HO_4, BK409, BK411, HB⟩ := hcut
          cases kq with
          | zero => exact absurd HA.out (by simp [neumeref07_Split.j4])
          | succ kj31 =>
           have H := HA.out
           clear HA
           simp only [neumeref07_Split.j4] at H
           by_cases c35 : x41_31 = true
           ·subst c35
            have H1 : (some (([] : List (S23)), false)) = some (r1, r2) := by rw [if_pos rfl] at H; exact H
            clear H; have H := H1; clear H1
            simp only [Option.some.injEq, Prod.mk.injEq] at H
            obtain ⟨rfl, rfl⟩ := H
            go_wp2
            go_ret2
            exact ⟨_, by first | rfl | (simp [errW_none, errW_some] <;> rfl) | (simp [*, errW_none, errW_some] <;> rfl), by first | exact Kd.R_nil _ _ _ _ _ | exact Kd.N_nil _ _ _ _ _ | exact Kd.V_nil _ _ _ _ _ | exact Kd.Q_nil _ _ _ _ _ | exact Kd.S_nil _ _ _ _ _, by repeat (first | (with_reducible first | exact HB.out | apply ba_ | apply pd_ | apply d1_ | refine bs_ ?_ GE409.out | refine bs_ ?_ GE411.out) | exact HB.out)⟩
           ·replace c35 := bf_ c35
            subst c35
            have H1 : (if x4_2.length < 8796093022208 then ((neumeref02_Sub.f kj31 x410000_2 x410001_2 x412000_12 x412001_12).bind fun bt419 => (if bt419.2.2 = 0 then (neumeref07_Split.l0 kj31 (x4_2 ++ [(⟨x5_12, 0⟩ : S23)]) bt419.1 bt419.2.1) else (some (([] : List (S23)), false)))) else (none)) = some (r1, r2) := by rw [if_neg (show ¬ (false = true) by decide)] at H; exact H
            clear H; have H := H1; clear H1
            by_cases c36 : x4_2.length < 8796093022208
            ·rw [if_pos c36] at H
             have LMc36 := sd_ c36
             clear c36
             obtain ⟨y416, hy416⟩ : ∃ y_ : List (S23), y_ = (x4_2 ++ [(⟨x5_12, 0⟩ : S23)]) := ⟨_, rfl⟩
             replace H : ((neumeref02_Sub.f kj31 x410000_2 x410001_2 x412000_12 x412001_12).bind fun bt419 => (if bt419.2.2 = 0 then (neumeref07_Split.l0 kj31 y416 bt419.1 bt419.2.1) else (some (([] : List (S23)), false)))) = some (r1, r2) := by first | (rw [hy416]; with_reducible exact H) | (have H2_ := (Option.bind_some _ _).symm.trans H; rw [hy416]; with_reducible exact H2_) | (have H2_ := (Option.bind_some _ _).symm.trans H; with_reducible exact H2_) | with_reducible exact H | (rw [hy416]; exact H) | exact H
             have Ny416 := sd_ hy416
             clear hy416
             replace H := ob_ H
             obtain ⟨⟨t419, t420, t421⟩, A370, H⟩ := H
             replace H : (if t421 = 0 then (neumeref07_Split.l0 kj31 y416 t419 t420) else (some (([] : List (S23)), false))) = some (r1, r2) := H
             have A37 := sd_ A370
             clear A370
             by_cases c38 : t421 = 0
             ·rw [if_pos c38] at H
              have c38b0 : (t421 == 0) = true := beq_iff_eq.mpr c38
              have c38b1 : (t421 != 0) = false := bne_eq_false_iff_eq.mpr c38
              clear c38
              have H' := sd_ H
              clear H
              go_wp2_with (first | ((with_reducible refine gate_builtin (b := .append) (xs := #[.tmp 42, .tmp 45]) rfl ?_); (try (refine gate_guard (by rfl) ?_; dsimp only)); at_builtin; refine Kd.R_append k23 (w0 := w) w.heap.size rfl (.tmp 42) (.tmp 45) 35 23 (.agg #[(.int .i64 0), (.int .i64 0)]) 16 rfl Tryz.underlying35 info23 rfl (by decide) (by omega) u4 x4_2 (⟨x5_12, 0⟩ : S23) [.int .i64 x5_12, .int .i64 0] (fun _ => True) (fun _ => False) rfl rfl ?aP (fun _ hk => hk.elim) ?aF ?aO ?aB ?aS ?aL ?_; (case aP => exact k23_mkM _ _ _ (⟨x5_12, 0⟩ : S23)); (case aB => exact (bb_ HB.out (e_ GE409 (e_ GE411 e0_)))); (case aF => exact (fun _ _ => trivial)); (case aO => exact (by (with_reducible repeat (first | apply Kd.R_alloc | apply Kd.R_drewN | apply Kd.R_drew)); exact HO_4.out)); (case aS => exact (bz_ (bb_ HB.out (e_ GE409 (e_ GE411 e0_))))); (case aL => have := LMc36.out; omega); intro v417 w39 ho hb hg hat; rw [← Ny416.out] at ho; have n0_ := sd_ (blk_grown (kk_ BK409.out) hg (Kd.R_ne HO_4.out BK409.out (by decide))); have n1_ := sd_ (blk_grown (kk_ BK411.out) hg (Kd.R_ne HO_4.out BK411.out (by decide))); have n2_ := sd_ (hb); have n3_ := sd_ (ho); clear BK409; clear BK411; clear HB; clear HO_4; have BK409 := n0_; have BK411 := n1_; have HB := n2_; have HO418 := n3_; clear n0_ n1_ n2_ n3_; clear ho hb hg hat; have hnb40 := NB409_411.out; have hnc40 := NB411_409.out; have hcz41_0 : w39.cell? ⟨gb409, 0, none⟩ = some (.int .i64 x410000_2) := (kc_ BK409.out 0).trans rfl; have hcz41_1 : w39.cell? ⟨gb409, 1, none⟩ = some (.int .i64 x410001_2) := (kc_ BK409.out 1).trans rfl; have hfz41_0 := kf_ BK409.out 0; have hfz41_1 := kf_ BK409.out 1; have hcz42_0 : w39.cell? ⟨gb411, 0, none⟩ = some (.int .i64 x412000_12) := (kc_ BK411.out 0).trans rfl; have hcz42_1 : w39.cell? ⟨gb411, 1, none⟩ = some (.int .i64 x412001_12) := (kc_ BK411.out 1).trans rfl; have hfz42_0 := kf_ BK411.out 0; have hfz42_1 := kf_ BK411.out 1) | ((with_reducible refine gate_callee (f := 49) rfl ?_); refine goesL_ (some 50) rfl rfl Tryz.func49 (by kernel_rfl) rfl #[.agg #[.int .i64 x410000_2, .int .i64 x410001_2], .agg #[.int .i64 x412000_12, .int .i64 x412001_12]] rfl (by (try simp only [lm_, lq_, lx_]); first | done | rfl | (simp only [ld_, lt_]; rfl)) ?_; (with_reducible refine (neumeref02_Sub.calls kj31 x410000_2 x410001_2 x412000_12 x412001_12 t419 t420 t421 _ A37.out).mono ?_); rintro e w43 ⟨rfl, hb⟩; refine ⟨_, rfl, ?_⟩; replace HO418 := sd_ (Kd.R_below (by (with_reducible repeat (first | apply Kd.R_alloc | apply Kd.R_drewN | apply Kd.R_drew)); exact HO418.out) hb); replace BK409 := kb_ BK409 hb; replace BK411 := kb_ BK411 hb; replace HB := hb_ HB (e_ GE409 (e_ GE411 e0_)) hb; (try clear hb); (try clear hb2); (try clear hk); (try clear hi)) | ((with_reducible refine gate_dst (N := 7) rfl ?_); (try (refine gate_guard (by rfl) ?_; dsimp only)); refine box_event ?hg (N := 7) ?hd (cs := #[.int .i64 0, .int .i64 0]) (t := 25) ?hr ?_; (case hd => rfl); (case hg => rfl); (case hr => first | (go_simp; done) | (go_simp; rfl)); intro gb422 hg w44 hbox hb; have BK422 := sd_ hbox; have GW422 := gw_ HB (e_ GE409 (e_ GE411 e0_)) hg; have GE422 := GW422; have NB409_422 := nb_ BK409 hg; have NB422_409 := sy_ NB409_422; have NB411_422 := nb_ BK411 hg; have NB422_411 := sy_ NB411_422; replace HO418 := sd_ (Kd.R_below (by (with_reducible repeat (first | apply Kd.R_alloc | apply Kd.R_drewN | apply Kd.R_drew)); exact HO418.out) hb); replace BK409 := kb_ BK409 hb; replace BK411 := kb_ BK411 hb; replace HB := hb_ HB (e_ GE409 (e_ GE411 e0_)) hb; clear hb hbox hg; have hnb45 := NB422_409.out; have hnc45 := NB409_422.out; have hnb46 := NB422_411.out; have hnc46 := NB411_422.out; have hcz47_0 : w44.cell? ⟨gb422, 0, none⟩ = some (.int .i64 0) := (kc_ BK422.out 0).trans rfl; have hcz47_1 : w44.cell? ⟨gb422, 1, none⟩ = some (.int .i64 0) := (kc_ BK422.out 1).trans rfl; have hfz47_0 := kf_ BK422.out 0; have hfz47_1 := kf_ BK422.out 1; have hcz48_0 : w44.cell? ⟨gb409, 0, none⟩ = some (.int .i64 x410000_2) := (kc_ BK409.out 0).trans rfl; have hcz48_1 : w44.cell? ⟨gb409, 1, none⟩ = some (.int .i64 x410001_2) := (kc_ BK409.out 1).trans rfl; have hfz48_0 := kf_ BK409.out 0; have hfz48_1 := kf_ BK409.out 1))
              go_roundg kj31
              case measure => have := HJ1.out; have := HK2.out; have := HJ12.out; have := HJ31.out; omega
              case rel => exact ⟨(y416), (t419), (t420), H', ⟨by have := HJ1.out; have := HK2.out; have := HJ12.out; have := HJ31.out; omega⟩, ⟨by (with_reducible repeat (first | apply Kd.R_alloc | apply Kd.R_drewN | apply Kd.R_drew)); exact Kd.R_mono (Kd.R_far (p := ⟨gb409, 1, none⟩) (Kd.R_far (p := ⟨gb409, 0, none⟩) (Kd.R_far (p := ⟨gb422, 1, none⟩) (Kd.R_far (p := ⟨gb422, 0, none⟩) (Kd.R_types (Kd.R_types HO418.out BK422.out (by decide)) BK409.out (by decide)) (fun _ hk => hk.1.2) (.int .i64 t419)) (fun _ hk => hk.1.2) (.int .i64 t420)) (fun _ hk => hk.2) (.int .i64 t419)) (fun _ hk => hk.2) (.int .i64 t420)) (fun _ hk => trivial)⟩, ⟨by (with_reducible repeat first | apply kn_ | apply kd_ | apply ka_); refine blk_put (cs := #[.int .i64 t419, .int .i64 x410001_2]) ?_ 1 _ rfl; (with_reducible repeat first | apply kn_ | apply kd_ | apply ka_); refine blk_put (cs := #[.int .i64 x410000_2, .int .i64 x410001_2]) ?_ 0 _ rfl; (with_reducible repeat first | apply kn_ | apply kd_ | apply ka_); refine blk_far ?_ NB409_422.out _; (with_reducible repeat first | apply kn_ | apply kd_ | apply ka_); refine blk_far ?_ NB409_422.out _; (with_reducible repeat first | apply kn_ | apply kd_ | apply ka_); exact BK409.out⟩, ⟨by repeat (first | (with_reducible first | exact HB.out | apply ba_ | apply pd_ | apply d1_ | refine bs_ ?_ GE409.out | refine bs_ ?_ GE411.out | refine bs_ ?_ GE422.out) | exact HB.out)⟩⟩
             ·rw [if_neg c38] at H
              have c38b0 : (t421 == 0) = false := beq_eq_false_iff_ne.mpr c38
              have c38b1 : (t421 != 0) = true := bne_iff_ne.mpr c38
              simp only [Option.some.injEq, Prod.mk.injEq] at H
              obtain ⟨rfl, rfl⟩ := H
              go_wp2_with (first | ((with_reducible refine gate_builtin (b := .append) (xs := #[.tmp 42, .tmp 45]) rfl ?_); (try (refine gate_guard (by rfl) ?_; dsimp only)); at_builtin; refine Kd.R_append k23 (w0 := w) w.heap.size rfl (.tmp 42) (.tmp 45) 35 23 (.agg #[(.int .i64 0), (.int .i64 0)]) 16 rfl Tryz.underlying35 info23 rfl (by decide) (by omega) u4 x4_2 (⟨x5_12, 0⟩ : S23) [.int .i64 x5_12, .int .i64 0] (fun _ => True) (fun _ => False) rfl rfl ?aP (fun _ hk => hk.elim) ?aF ?aO ?aB ?aS ?aL ?_; (case aP => exact k23_mkM _ _ _ (⟨x5_12, 0⟩ : S23)); (case aB => exact (bb_ HB.out (e_ GE409 (e_ GE411 e0_)))); (case aF => exact (fun _ _ => trivial)); (case aO => exact (by (with_reducible repeat (first | apply Kd.R_alloc | apply Kd.R_drewN | apply Kd.R_drew)); exact HO_4.out)); (case aS => exact (bz_ (bb_ HB.out (e_ GE409 (e_ GE411 e0_))))); (case aL => have := LMc36.out; omega); intro v417 w49 ho hb hg hat; rw [← Ny416.out] at ho; have n0_ := sd_ (blk_grown (kk_ BK409.out) hg (Kd.R_ne HO_4.out BK409.out (by decide))); have n1_ := sd_ (blk_grown (kk_ BK411.out) hg (Kd.R_ne HO_4.out BK411.out (by decide))); have n2_ := sd_ (hb); have n3_ := sd_ (ho); clear BK409; clear BK411; clear HB; clear HO_4; have BK409 := n0_; have BK411 := n1_; have HB := n2_; have HO418 := n3_; clear n0_ n1_ n2_ n3_; clear ho hb hg hat; have hnb50 := NB409_411.out; have hnc50 := NB411_409.out; have hcz51_0 : w49.cell? ⟨gb409, 0, none⟩ = some (.int .i64 x410000_2) := (kc_ BK409.out 0).trans rfl; have hcz51_1 : w49.cell? ⟨gb409, 1, none⟩ = some (.int .i64 x410001_2) := (kc_ BK409.out 1).trans rfl; have hfz51_0 := kf_ BK409.out 0; have hfz51_1 := kf_ BK409.out 1; have hcz52_0 : w49.cell? ⟨gb411, 0, none⟩ = some (.int .i64 x412000_12) := (kc_ BK411.out 0).trans rfl; have hcz52_1 : w49.cell? ⟨gb411, 1, none⟩ = some (.int .i64 x412001_12) := (kc_ BK411.out 1).trans rfl; have hfz52_0 := kf_ BK411.out 0; have hfz52_1 := kf_ BK411.out 1) | ((with_reducible refine gate_callee (f := 49) rfl ?_); refine goesL_ (some 50) rfl rfl Tryz.func49 (by kernel_rfl) rfl #[.agg #[.int .i64 x410000_2, .int .i64 x410001_2], .agg #[.int .i64 x412000_12, .int .i64 x412001_12]] rfl (by (try simp only [lm_, lq_, lx_]); first | done | rfl | (simp only [ld_, lt_]; rfl)) ?_; (with_reducible refine (neumeref02_Sub.calls kj31 x410000_2 x410001_2 x412000_12 x412001_12 t419 t420 t421 _ A37.out).mono ?_); rintro e w53 ⟨rfl, hb⟩; refine ⟨_, rfl, ?_⟩; replace HO418 := sd_ (Kd.R_below (by (with_reducible repeat (first | apply Kd.R_alloc | apply Kd.R_drewN | apply Kd.R_drew)); exact HO418.out) hb); replace BK409 := kb_ BK409 hb; replace BK411 := kb_ BK411 hb; replace HB := hb_ HB (e_ GE409 (e_ GE411 e0_)) hb; (try clear hb); (try clear hb2); (try clear hk); (try clear hi)) | ((with_reducible refine gate_dst (N := 7) rfl ?_); (try (refine gate_guard (by rfl) ?_; dsimp only)); refine box_event ?hg (N := 7) ?hd (cs := #[.int .i64 0, .int .i64 0]) (t := 25) ?hr ?_; (case hd => rfl); (case hg => rfl); (case hr => first | (go_simp; done) | (go_simp; rfl)); intro gb422 hg w54 hbox hb; have BK422 := sd_ hbox; have GW422 := gw_ HB (e_ GE409 (e_ GE411 e0_)) hg; have GE422 := GW422; have NB409_422 := nb_ BK409 hg; have NB422_409 := sy_ NB409_422; have NB411_422 := nb_ BK411 hg; have NB422_411 := sy_ NB411_422; replace HO418 := sd_ (Kd.R_below (by (with_reducible repeat (first | apply Kd.R_alloc | apply Kd.R_drewN | apply Kd.R_drew)); exact HO418.out) hb); replace BK409 := kb_ BK409 hb; replace BK411 := kb_ BK411 hb; replace HB := hb_ HB (e_ GE409 (e_ GE411 e0_)) hb; clear hb hbox hg; have hnb55 := NB422_409.out; have hnc55 := NB409_422.out; have hnb56 := NB422_411.out; have hnc56 := NB411_422.out; have hcz57_0 : w54.cell? ⟨gb422, 0, none⟩ = some (.int .i64 0) := (kc_ BK422.out 0).trans rfl; have hcz57_1 : w54.cell? ⟨gb422, 1, none⟩ = some (.int .i64 0) := (kc_ BK422.out 1).trans rfl; have hfz57_0 := kf_ BK422.out 0; have hfz57_1 := kf_ BK422.out 1))
              go_ret2
              exact ⟨_, by first | rfl | (simp [errW_none, errW_some] <;> rfl) | (simp [*, errW_none, errW_some] <;> rfl), by first | exact Kd.R_nil _ _ _ _ _ | exact Kd.N_nil _ _ _ _ _ | exact Kd.V_nil _ _ _ _ _ | exact Kd.Q_nil _ _ _ _ _ | exact Kd.S_nil _ _ _ _ _, by repeat (first | (with_reducible first | exact HB.out | apply ba_ | apply pd_ | apply d1_ | refine bs_ ?_ GE409.out | refine bs_ ?_ GE411.out | refine bs_ ?_ GE422.out) | exact HB.out)⟩
            ·rw [if_neg c36] at H
             exact absurd H (by simp)
      ·rw [if_neg c12] at H
       have c12b0 : decide (0 < x410000_2) = false := df_ c12
       clear c12
       simp only [Option.some.injEq, Prod.mk.injEq] at H
       obtain ⟨rfl, rfl⟩ := H
       have hcz58_0 : wr.cell? ⟨gb409, 0, none⟩ = some (.int .i64 x410000_2) := (kc_ BK409.out 0).trans rfl
       have hcz58_1 : wr.cell? ⟨gb409, 1, none⟩ = some (.int .i64 x410001_2) := (kc_ BK409.out 1).trans rfl
       have hfz58_0 := kf_ BK409.out 0
       have hfz58_1 := kf_ BK409.out 1
       go_wp2
       go_ret2
       exact ⟨_, by first | rfl | (simp [errW_none, errW_some] <;> rfl) | (simp [*, errW_none, errW_some] <;> rfl), by (with_reducible repeat (first | apply Kd.R_alloc | apply Kd.R_drewN | apply Kd.R_drew)); exact HO_4.out, by repeat (first | (with_reducible first | exact HB.out | apply ba_ | apply pd_ | apply d1_ | refine bs_ ?_ GE409.out) | exact HB.out)⟩

/-! ### neumeref07_Head: function 20 -/
def neumeref07_Head.f (a0_0 : Int) (a0_1 : Int) : Option (Int) := (neumeref07_Check.f a0_0 a0_1).bind fun t424 => (if t424 = true then (some (mn 4 (wrap64 (a0_0 + 2)))) else (some 0))
set_option maxHeartbeats 8000000 in
set_option maxRecDepth 100000 in
theorem neumeref07_Head.calls (a0_0 : Int) (a0_1 : Int) (r : Int) (w : World) (h : neumeref07_Head.f a0_0 a0_1 = some r) :
  Calls Tryz.prog 20 #[.agg #[.int .i64 a0_0, .int .i64 a0_1]] w fun e w' => e = .returned (.int .i64 r) ∧ Below w.heap.size w w' := by
 have hu23 := Tryz.underlying23
 have HB := sd_ (Below.refl w.heap.size w)
 have H : ((neumeref07_Check.f a0_0 a0_1).bind fun t424 => (if t424 = true then (some (mn 4 (wrap64 (a0_0 + 2)))) else (some 0))) = some r := h
 clear h
 replace H := ob_ H
 obtain ⟨t424, A20, H⟩ := H
 replace H : (if t424 = true then (some (mn 4 (wrap64 (a0_0 + 2)))) else (some 0)) = some r := H
 have A2 := sd_ A20
 clear A20
 by_cases c3 : t424 = true
 ·subst c3
  have H1 : (some (mn 4 (wrap64 (a0_0 + 2)))) = some r := by rw [if_pos rfl] at H; exact H
  clear H; have H := H1; clear H1
  obtain ⟨ji4, hji4⟩ : ∃ j_ : Int, (mn 4 (wrap64 (a0_0 + 2))) = j_ := ⟨_, rfl⟩
  replace H : (some ji4) = some r := by first | (rw [hji4] at H; exact H) | (simp only [hji4] at H ⊢; exact H)
  (try rw [hji4] at A2)
  (try (have hji4h : ji4 ≤ 4 := by (rw [← hji4]; unfold mn; (repeat' split) <;> omega)))
  (try (have hji4g : ji4 ≤ 64 := by omega))
  have hji4_ : (if (wrap64 (a0_0 + 2)) < 4 then (wrap64 (a0_0 + 2)) else 4) = ji4 := hji4
  obtain rfl := Option.some.inj H
  go_enter Tryz.func20, Tryz.ntmps20
  go_wp2_with (first | ((with_reducible refine gate_dst (N := 1) rfl ?_); refine box_event ?hg (N := 1) ?hd (cs := #[.int .i64 a0_0, .int .i64 a0_1]) (t := 23) ?hr ?_; (case hd => rfl); (case hg => rfl); (case hr => first | (go_simp; done) | (go_simp; rfl)); intro gb423 hg w5 hbox hb; have BK423 := sd_ hbox; have GW423 := gw_ HB e0_ hg; have GE423 := GW423; replace HB := hb_ HB e0_ hb; clear hb hbox hg; have hcz6_0 : w5.cell? ⟨gb423, 0, none⟩ = some (.int .i64 a0_0) := (kc_ BK423.out 0).trans rfl; have hcz6_1 : w5.cell? ⟨gb423, 1, none⟩ = some (.int .i64 a0_1) := (kc_ BK423.out 1).trans rfl; have hfz6_0 := kf_ BK423.out 0; have hfz6_1 := kf_ BK423.out 1) | ((with_reducible refine gate_callee (f := 16) rfl ?_); refine goesL_ (some 4) rfl rfl Tryz.func16 (by kernel_rfl) rfl #[.agg #[.int .i64 a0_0, .int .i64 a0_1]] rfl (by (try simp only [lm_, lq_, lx_]); first | done | rfl | (simp only [ld_, lt_]; rfl)) ?_; (with_reducible refine (neumeref07_Check.calls a0_0 a0_1 true _ A2.out).mono ?_); rintro e w7 ⟨rfl, hb⟩; refine ⟨_, rfl, ?_⟩; replace BK423 := kb_ BK423 hb; replace HB := hb_ HB (e_ GE423 e0_) hb; (try clear hb); (try clear hb2); (try clear hk); (try clear hi); have hcz8_0 : w7.cell? ⟨gb423, 0, none⟩ = some (.int .i64 a0_0) := (kc_ BK423.out 0).trans rfl; have hcz8_1 : w7.cell? ⟨gb423, 1, none⟩ = some (.int .i64 a0_1) := (kc_ BK423.out 1).trans rfl; have hfz8_0 := kf_ BK423.out 0; have hfz8_1 := kf_ BK423.out 1))
  go_ret
  exact ⟨by first | rfl | (simp [errW_none, errW_some] <;> rfl) | (simp only [← hji4]; first | rfl | (simp [errW_none, errW_some] <;> rfl)) | (simp [*, errW_none, errW_some] <;> rfl), by repeat (first | (with_reducible first | exact HB.out | apply ba_ | apply pd_ | apply d1_ | refine bs_ ?_ GE423.out) | exact HB.out)⟩
 ·replace c3 := bf_ c3
  subst c3
  have H1 : (some 0) = some r := by rw [if_neg (show ¬ (false = true) by decide)] at H; exact H
  clear H; have H := H1; clear H1
  obtain rfl := Option.some.inj H
  go_enter Tryz.func20, Tryz.ntmps20
  go_wp2_with (first | ((with_reducible refine gate_dst (N := 1) rfl ?_); refine box_event ?hg (N := 1) ?hd (cs := #[.int .i64 a0_0, .int .i64 a0_1]) (t := 23) ?hr ?_; (case hd => rfl); (case hg => rfl); (case hr => first | (go_simp; done) | (go_simp; rfl)); intro gb423 hg w9 hbox hb; have BK423 := sd_ hbox; have GW423 := gw_ HB e0_ hg; have GE423 := GW423; replace HB := hb_ HB e0_ hb; clear hb hbox hg; have hcz10_0 : w9.cell? ⟨gb423, 0, none⟩ = some (.int .i64 a0_0) := (kc_ BK423.out 0).trans rfl; have hcz10_1 : w9.cell? ⟨gb423, 1, none⟩ = some (.int .i64 a0_1) := (kc_ BK423.out 1).trans rfl; have hfz10_0 := kf_ BK423.out 0; have hfz10_1 := kf_ BK423.out 1) | ((with_reducible refine gate_callee (f := 16) rfl ?_); refine goesL_ (some 4) rfl rfl Tryz.func16 (by kernel_rfl) rfl #[.agg #[.int .i64 a0_0, .int .i64 a0_1]] rfl (by (try simp only [lm_, lq_, lx_]); first | done | rfl | (simp only [ld_, lt_]; rfl)) ?_; (with_reducible refine (neumeref07_Check.calls a0_0 a0_1 false _ A2.out).mono ?_); rintro e w11 ⟨rfl, hb⟩; refine ⟨_, rfl, ?_⟩; replace BK423 := kb_ BK423 hb; replace HB := hb_ HB (e_ GE423 e0_) hb; (try clear hb); (try clear hb2); (try clear hk); (try clear hi)))
  go_ret
  exact ⟨by first | rfl | (simp [errW_none, errW_some] <;> rfl) | (simp [*, errW_none, errW_some] <;> rfl), by repeat (first | (with_reducible first | exact HB.out | apply ba_ | apply pd_ | apply d1_ | refine bs_ ?_ GE423.out) | exact HB.out)⟩

/-! ### neumeref07_Rest: function 22 -/
def neumeref07_Rest.f (a0_0 : Int) (a0_1 : Int) : Option (Int) := (neumeref07_Check.f a0_0 a0_1).bind fun t426 => (if t426 = true then (some (wrap64 (5 + (wrap64 (a0_0 + 1))))) else (some 0))
set_option maxHeartbeats 8000000 in
set_option maxRecDepth 100000 in
theorem neumeref07_Rest.calls (a0_0 : Int) (a0_1 : Int) (r : Int) (w : World) (h : neumeref07_Rest.f a0_0 a0_1 = some r) :
  Calls Tryz.prog 22 #[.agg #[.int .i64 a0_0, .int .i64 a0_1]] w fun e w' => e = .returned (.int .i64 r) ∧ Below w.heap.size w w' := by
 have hu23 := Tryz.underlying23
 have HB := sd_ (Below.refl w.heap.size w)
 have H : ((neumeref07_Check.f a0_0 a0_1).bind fun t426 => (if t426 = true then (some (wrap64 (5 + (wrap64 (a0_0 + 1))))) else (some 0))) = some r := h
 clear h
 replace H := ob_ H
 obtain ⟨t426, A20, H⟩ := H
 replace H : (if t426 = true then (some (wrap64 (5 + (wrap64 (a0_0 + 1))))) else (some 0)) = some r := H
 have A2 := sd_ A20
 clear A20
 by_cases c3 : t426 = true
 ·subst c3
  have H1 : (some (wrap64 (5 + (wrap64 (a0_0 + 1))))) = some r := by rw [if_pos rfl] at H; exact H
  clear H; have H := H1; clear H1
  obtain rfl := Option.some.inj H
  go_enter Tryz.func22, Tryz.ntmps22
  go_wp2_with (first | ((with_reducible refine gate_dst (N := 1) rfl ?_); refine box_event ?hg (N := 1) ?hd (cs := #[.int .i64 a0_0, .int .i64 a0_1]) (t := 23) ?hr ?_; (case hd => rfl); (case hg => rfl); (case hr => first | (go_simp; done) | (go_simp; rfl)); intro gb425 hg w4 hbox hb; have BK425 := sd_ hbox; have GW425 := gw_ HB e0_ hg; have GE425 := GW425; replace HB := hb_ HB e0_ hb; clear hb hbox hg; have hcz5_0 : w4.cell? ⟨gb425, 0, none⟩ = some (.int .i64 a0_0) := (kc_ BK425.out 0).trans rfl; have hcz5_1 : w4.cell? ⟨gb425, 1, none⟩ = some (.int .i64 a0_1) := (kc_ BK425.out 1).trans rfl; have hfz5_0 := kf_ BK425.out 0; have hfz5_1 := kf_ BK425.out 1) | ((with_reducible refine gate_callee (f := 16) rfl ?_); refine goesL_ (some 4) rfl rfl Tryz.func16 (by kernel_rfl) rfl #[.agg #[.int .i64 a0_0, .int .i64 a0_1]] rfl (by (try simp only [lm_, lq_, lx_]); first | done | rfl | (simp only [ld_, lt_]; rfl)) ?_; (with_reducible refine (neumeref07_Check.calls a0_0 a0_1 true _ A2.out).mono ?_); rintro e w6 ⟨rfl, hb⟩; refine ⟨_, rfl, ?_⟩; replace BK425 := kb_ BK425 hb; replace HB := hb_ HB (e_ GE425 e0_) hb; (try clear hb); (try clear hb2); (try clear hk); (try clear hi); have hcz7_0 : w6.cell? ⟨gb425, 0, none⟩ = some (.int .i64 a0_0) := (kc_ BK425.out 0).trans rfl; have hcz7_1 : w6.cell? ⟨gb425, 1, none⟩ = some (.int .i64 a0_1) := (kc_ BK425.out 1).trans rfl; have hfz7_0 := kf_ BK425.out 0; have hfz7_1 := kf_ BK425.out 1))
  go_ret
  exact ⟨by first | rfl | (simp [errW_none, errW_some] <;> rfl) | (simp [*, errW_none, errW_some] <;> rfl), by repeat (first | (with_reducible first | exact HB.out | apply ba_ | apply pd_ | apply d1_ | refine bs_ ?_ GE425.out) | exact HB.out)⟩
 ·replace c3 := bf_ c3
  subst c3
  have H1 : (some 0) = some r := by rw [if_neg (show ¬ (false = true) by decide)] at H; exact H
  clear H; have H := H1; clear H1
  obtain rfl := Option.some.inj H
  go_enter Tryz.func22, Tryz.ntmps22
  go_wp2_with (first | ((with_reducible refine gate_dst (N := 1) rfl ?_); refine box_event ?hg (N := 1) ?hd (cs := #[.int .i64 a0_0, .int .i64 a0_1]) (t := 23) ?hr ?_; (case hd => rfl); (case hg => rfl); (case hr => first | (go_simp; done) | (go_simp; rfl)); intro gb425 hg w8 hbox hb; have BK425 := sd_ hbox; have GW425 := gw_ HB e0_ hg; have GE425 := GW425; replace HB := hb_ HB e0_ hb; clear hb hbox hg; have hcz9_0 : w8.cell? ⟨gb425, 0, none⟩ = some (.int .i64 a0_0) := (kc_ BK425.out 0).trans rfl; have hcz9_1 : w8.cell? ⟨gb425, 1, none⟩ = some (.int .i64 a0_1) := (kc_ BK425.out 1).trans rfl; have hfz9_0 := kf_ BK425.out 0; have hfz9_1 := kf_ BK425.out 1) | ((with_reducible refine gate_callee (f := 16) rfl ?_); refine goesL_ (some 4) rfl rfl Tryz.func16 (by kernel_rfl) rfl #[.agg #[.int .i64 a0_0, .int .i64 a0_1]] rfl (by (try simp only [lm_, lq_, lx_]); first | done | rfl | (simp only [ld_, lt_]; rfl)) ?_; (with_reducible refine (neumeref07_Check.calls a0_0 a0_1 false _ A2.out).mono ?_); rintro e w10 ⟨rfl, hb⟩; refine ⟨_, rfl, ?_⟩; replace BK425 := kb_ BK425 hb; replace HB := hb_ HB (e_ GE425 e0_) hb; (try clear hb); (try clear hb2); (try clear hk); (try clear hi)))
  go_ret
  exact ⟨by first | rfl | (simp [errW_none, errW_some] <;> rfl) | (simp [*, errW_none, errW_some] <;> rfl), by repeat (first | (with_reducible first | exact HB.out | apply ba_ | apply pd_ | apply d1_ | refine bs_ ?_ GE425.out) | exact HB.out)⟩

/-! ### neumeref07_Flags: function 24 -/
def neumeref07_Flags.f (a0_0 : Int) (a0_1 : Int) : Option (Int) := (neumeref07_Check.f a0_0 a0_1).bind fun t428 => (if t428 = true then (some (mx 0 (wrap64 (a0_0 - 2)))) else (some 0))
set_option maxHeartbeats 8000000 in
set_option maxRecDepth 100000 in
theorem neumeref07_Flags.calls (a0_0 : Int) (a0_1 : Int) (r : Int) (w : World) (h : neumeref07_Flags.f a0_0 a0_1 = some r) :
  Calls Tryz.prog 24 #[.agg #[.int .i64 a0_0, .int .i64 a0_1]] w fun e w' => e = .returned (.int .i64 r) ∧ Below w.heap.size w w' := by
 have hu23 := Tryz.underlying23
 have HB := sd_ (Below.refl w.heap.size w)
 have H : ((neumeref07_Check.f a0_0 a0_1).bind fun t428 => (if t428 = true then (some (mx 0 (wrap64 (a0_0 - 2)))) else (some 0))) = some r := h
 clear h
 replace H := ob_ H
 obtain ⟨t428, A20, H⟩ := H
 replace H : (if t428 = true then (some (mx 0 (wrap64 (a0_0 - 2)))) else (some 0)) = some r := H
 have A2 := sd_ A20
 clear A20
 by_cases c3 : t428 = true
 ·subst c3
  have H1 : (some (mx 0 (wrap64 (a0_0 - 2)))) = some r := by rw [if_pos rfl] at H; exact H
  clear H; have H := H1; clear H1
  obtain ⟨ji4, hji4⟩ : ∃ j_ : Int, (mx 0 (wrap64 (a0_0 - 2))) = j_ := ⟨_, rfl⟩
  replace H : (some ji4) = some r := by first | (rw [hji4] at H; exact H) | (simp only [hji4] at H ⊢; exact H)
  (try rw [hji4] at A2)
  (try (have hji4l : 0 ≤ ji4 := by (rw [← hji4]; unfold mx; (repeat' split) <;> omega)))
  (try (have hji4m : 0 ≤ ji4 := by omega))
  have hji4_ : (if 0 < (wrap64 (a0_0 - 2)) then (wrap64 (a0_0 - 2)) else 0) = ji4 := hji4
  obtain rfl := Option.some.inj H
  go_enter Tryz.func24, Tryz.ntmps24
  go_wp2_with (first | ((with_reducible refine gate_dst (N := 1) rfl ?_); refine box_event ?hg (N := 1) ?hd (cs := #[.int .i64 a0_0, .int .i64 a0_1]) (t := 23) ?hr ?_; (case hd => rfl); (case hg => rfl); (case hr => first | (go_simp; done) | (go_simp; rfl)); intro gb427 hg w5 hbox hb; have BK427 := sd_ hbox; have GW427 := gw_ HB e0_ hg; have GE427 := GW427; replace HB := hb_ HB e0_ hb; clear hb hbox hg; have hcz6_0 : w5.cell? ⟨gb427, 0, none⟩ = some (.int .i64 a0_0) := (kc_ BK427.out 0).trans rfl; have hcz6_1 : w5.cell? ⟨gb427, 1, none⟩ = some (.int .i64 a0_1) := (kc_ BK427.out 1).trans rfl; have hfz6_0 := kf_ BK427.out 0; have hfz6_1 := kf_ BK427.out 1) | ((with_reducible refine gate_callee (f := 16) rfl ?_); refine goesL_ (some 4) rfl rfl Tryz.func16 (by kernel_rfl) rfl #[.agg #[.int .i64 a0_0, .int .i64 a0_1]] rfl (by (try simp only [lm_, lq_, lx_]); first | done | rfl | (simp only [ld_, lt_]; rfl)) ?_; (with_reducible refine (neumeref07_Check.calls a0_0 a0_1 true _ A2.out).mono ?_); rintro e w7 ⟨rfl, hb⟩; refine ⟨_, rfl, ?_⟩; replace BK427 := kb_ BK427 hb; replace HB := hb_ HB (e_ GE427 e0_) hb; (try clear hb); (try clear hb2); (try clear hk); (try clear hi); have hcz8_0 : w7.cell? ⟨gb427, 0, none⟩ = some (.int .i64 a0_0) := (kc_ BK427.out 0).trans rfl; have hcz8_1 : w7.cell? ⟨gb427, 1, none⟩ = some (.int .i64 a0_1) := (kc_ BK427.out 1).trans rfl; have hfz8_0 := kf_ BK427.out 0; have hfz8_1 := kf_ BK427.out 1))
  go_ret
  exact ⟨by first | rfl | (simp [errW_none, errW_some] <;> rfl) | (simp only [← hji4]; first | rfl | (simp [errW_none, errW_some] <;> rfl)) | (simp [*, errW_none, errW_some] <;> rfl), by repeat (first | (with_reducible first | exact HB.out | apply ba_ | apply pd_ | apply d1_ | refine bs_ ?_ GE427.out) | exact HB.out)⟩
 ·replace c3 := bf_ c3
  subst c3
  have H1 : (some 0) = some r := by rw [if_neg (show ¬ (false = true) by decide)] at H; exact H
  clear H; have H := H1; clear H1
  obtain rfl := Option.some.inj H
  go_enter Tryz.func24, Tryz.ntmps24
  go_wp2_with (first | ((with_reducible refine gate_dst (N := 1) rfl ?_); refine box_event ?hg (N := 1) ?hd (cs := #[.int .i64 a0_0, .int .i64 a0_1]) (t := 23) ?hr ?_; (case hd => rfl); (case hg => rfl); (case hr => first | (go_simp; done) | (go_simp; rfl)); intro gb427 hg w9 hbox hb; have BK427 := sd_ hbox; have GW427 := gw_ HB e0_ hg; have GE427 := GW427; replace HB := hb_ HB e0_ hb; clear hb hbox hg; have hcz10_0 : w9.cell? ⟨gb427, 0, none⟩ = some (.int .i64 a0_0) := (kc_ BK427.out 0).trans rfl; have hcz10_1 : w9.cell? ⟨gb427, 1, none⟩ = some (.int .i64 a0_1) := (kc_ BK427.out 1).trans rfl; have hfz10_0 := kf_ BK427.out 0; have hfz10_1 := kf_ BK427.out 1) | ((with_reducible refine gate_callee (f := 16) rfl ?_); refine goesL_ (some 4) rfl rfl Tryz.func16 (by kernel_rfl) rfl #[.agg #[.int .i64 a0_0, .int .i64 a0_1]] rfl (by (try simp only [lm_, lq_, lx_]); first | done | rfl | (simp only [ld_, lt_]; rfl)) ?_; (with_reducible refine (neumeref07_Check.calls a0_0 a0_1 false _ A2.out).mono ?_); rintro e w11 ⟨rfl, hb⟩; refine ⟨_, rfl, ?_⟩; replace BK427 := kb_ BK427 hb; replace HB := hb_ HB (e_ GE427 e0_) hb; (try clear hb); (try clear hb2); (try clear hk); (try clear hi)))
  go_ret
  exact ⟨by first | rfl | (simp [errW_none, errW_some] <;> rfl) | (simp [*, errW_none, errW_some] <;> rfl), by repeat (first | (with_reducible first | exact HB.out | apply ba_ | apply pd_ | apply d1_ | refine bs_ ?_ GE427.out) | exact HB.out)⟩

end Go.Proofs.YtdiccfonlojlfaaGreatDoor.P
