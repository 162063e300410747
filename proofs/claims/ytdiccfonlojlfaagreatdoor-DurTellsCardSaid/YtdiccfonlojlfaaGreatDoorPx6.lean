-- Written by a program of this session (wip/tools/xprint.py, over the kit's print): Lean checks it.
import Derived.Test.YtdiccfonlojlfaaGreatDoorPx0
import Derived.Test.YtdiccfonlojlfaaGreatDoorPx1
import Derived.Test.YtdiccfonlojlfaaGreatDoorPx3
import Derived.Test.YtdiccfonlojlfaaGreatDoorPx4
import Derived.Test.YtdiccfonlojlfaaGreatDoorPx5
namespace Go.Proofs.YtdiccfonlojlfaaGreatDoor.P
open Go.RowKit Go.Proofs.YtdiccfonlojlfaaGreatDoorW.PrintWords Go.Proofs.YtdiccfonlojlfaaGreatDoorW.PrintLast Go.Proofs.YtdiccfonlojlfaaGreatDoorW.PrintMore
attribute [local go_sem] max2_int min2_int max_two min_two max_three min_three max_four min_four   -- for this text's walks alone
set_option linter.unusedVariables false
set_option linter.unusedSimpArgs false

attribute [local go_sem high] eqA23
/-! ### dur_Split: function 12 -/
mutual
def dur_Split.j0 : Nat → Bool → Int → Int → Option ((List (S23)) × Bool)
 | 0, _, _, _ => none
 | k + 1, x17, x200000, x200001 => if x17 = true then (some (([] : List (S23)), false)) else (dur_Split.l0 k ([] : List (S23)) x200000 x200001)
def dur_Split.l0 : Nat → List (S23) → Int → Int → Option ((List (S23)) × Bool)
 | 0, _, _, _ => none
 | k + 1, x4, x200000, x200001 => if x200000 > 0 then ((dur_longestIn.f k x200000 x200001).bind fun bt201 => ((rat_Sub.f k x200000 x200001 bt201.2.2.1 bt201.2.2.2.1).bind fun bt208 => (if bt201.2.2.2.2 = true then (if bt208.2.2 = 0 then (if (x4.length : Int) = 64 then (some (([] : List (S23)), false)) else (if x4.length < 8796093022208 then (dur_Split.l0 k (x4 ++ [(⟨bt201.1, bt201.2.1⟩ : S23)]) bt208.1 bt208.2.1) else (none))) else (some (([] : List (S23)), false))) else (some (([] : List (S23)), false))))) else (some (x4, true))
end
def dur_Split.f (k : Nat) (a0_0 : Int) (a0_1 : Int) : Option ((List (S23)) × Bool) := (rat_Check.f k a0_0 a0_1).bind fun t200 => (if t200 = true then (dur_Split.j0 k (decide (a0_0 ≤ 0)) a0_0 a0_1) else (dur_Split.j0 k true a0_0 a0_1))
theorem dur_Split.mono_l : ∀ k, (∀ y0 y1 y2, LeO (dur_Split.j0 k y0 y1 y2) (dur_Split.j0 (k + 1) y0 y1 y2)) ∧ (∀ y0 y1 y2, LeO (dur_Split.l0 k y0 y1 y2) (dur_Split.l0 (k + 1) y0 y1 y2))
 | 0 => ⟨fun _ _ _ r h => by simp [dur_Split.j0] at h, fun _ _ _ r h => by simp [dur_Split.l0] at h⟩
 | k + 1 => by
  obtain ⟨ih0, ih1⟩ := dur_Split.mono_l k
  refine ⟨?_, ?_⟩
  ·intro y0 y1 y2
   unfold dur_Split.j0
   repeat' first
   | (with_reducible exact ih0 _ _ _)
   | (with_reducible exact ih1 _ _ _)
   | (with_reducible exact dur_longestIn.mono _ _ _)
   | (with_reducible exact rat_Check.mono _ _ _)
   | (with_reducible exact rat_Sub.mono _ _ _ _ _)
   | (with_reducible exact LeO.refl _)
   | (with_reducible exact LeO.none _)
   | (with_reducible refine LeO.ite ?_ ?_)
   | (with_reducible refine LeO.bind ?_ (fun _ => ?_))
   | exact ih0 _ _ _
   | exact ih1 _ _ _
   | exact dur_longestIn.mono _ _ _
   | exact rat_Check.mono _ _ _
   | exact rat_Sub.mono _ _ _ _ _
   | exact LeO.none _
   | refine LeO.ite ?_ ?_
   | refine LeO.bind ?_ (fun _ => ?_)
  ·intro y0 y1 y2
   unfold dur_Split.l0
   repeat' first
   | (with_reducible exact ih0 _ _ _)
   | (with_reducible exact ih1 _ _ _)
   | (with_reducible exact dur_longestIn.mono _ _ _)
   | (with_reducible exact rat_Check.mono _ _ _)
   | (with_reducible exact rat_Sub.mono _ _ _ _ _)
   | (with_reducible exact LeO.refl _)
   | (with_reducible exact LeO.none _)
   | (with_reducible refine LeO.ite ?_ ?_)
   | (with_reducible refine LeO.bind ?_ (fun _ => ?_))
   | exact ih0 _ _ _
   | exact ih1 _ _ _
   | exact dur_longestIn.mono _ _ _
   | exact rat_Check.mono _ _ _
   | exact rat_Sub.mono _ _ _ _ _
   | exact LeO.none _
   | refine LeO.ite ?_ ?_
   | refine LeO.bind ?_ (fun _ => ?_)
theorem dur_Split.mono : ∀ a0 a1 k, LeO (dur_Split.f k a0 a1) (dur_Split.f (k + 1) a0 a1) := by
 intro a0 a1 k
 obtain ⟨ih0, ih1⟩ := dur_Split.mono_l k
 unfold dur_Split.f
 repeat' first
   | (with_reducible exact ih0 _ _ _)
   | (with_reducible exact ih1 _ _ _)
   | (with_reducible exact dur_longestIn.mono _ _ _)
   | (with_reducible exact rat_Check.mono _ _ _)
   | (with_reducible exact rat_Sub.mono _ _ _ _ _)
   | (with_reducible exact LeO.refl _)
   | (with_reducible exact LeO.none _)
   | (with_reducible refine LeO.ite ?_ ?_)
   | (with_reducible refine LeO.bind ?_ (fun _ => ?_))
   | exact ih0 _ _ _
   | exact ih1 _ _ _
   | exact dur_longestIn.mono _ _ _
   | exact rat_Check.mono _ _ _
   | exact rat_Sub.mono _ _ _ _ _
   | exact LeO.none _
   | refine LeO.ite ?_ ?_
   | refine LeO.bind ?_ (fun _ => ?_)
set_option maxHeartbeats 8000000 in
set_option maxRecDepth 100000 in
theorem dur_Split.calls (k : Nat) (a0_0 : Int) (a0_1 : Int) (r1 : List (S23)) (r2 : Bool) (w : World) (hE : Aside0 (LaidE w)) (h : dur_Split.f k a0_0 a0_1 = some (r1, r2)) :
  Calls Tryz.prog 12 #[.agg #[.int .i64 a0_0, .int .i64 a0_1]] w fun e w' => ∃ v0_ : Value, e = .returned (.tuple #[v0_, .bool r2]) ∧ Kd.R k23 23 w' w.heap.size (fun _ => True) v0_ r1 ∧ Below w.heap.size w w' := by
 have hu25 := Tryz.underlying25
 have hu23 := Tryz.underlying23
 have HB := sd_ (Below.refl w.heap.size w)
 have H : ((rat_Check.f k a0_0 a0_1).bind fun t200 => (if t200 = true then (dur_Split.j0 k (decide (a0_0 ≤ 0)) a0_0 a0_1) else (dur_Split.j0 k true a0_0 a0_1))) = some (r1, r2) := h
 clear h
 have HC2 := sd_ H
 clear H
 go_enter Tryz.func12, Tryz.ntmps12
 go_upto_region 1 with (first | ((with_reducible refine gate_dst (N := 1) rfl ?_); (try (refine gate_guard (by rfl) ?_; dsimp only)); refine box_event ?hg (N := 1) ?hd (cs := #[.int .i64 a0_0, .int .i64 a0_1]) (t := 25) ?hr ?_; (case hd => rfl); (case hg => rfl); (case hr => first | (go_simp; done) | (go_simp; rfl)); intro gb199 hg w3 hbox hb; have BK199 := sd_ hbox; have GW199 := gw_ HB e0_ hg; have GE199 := GW199; replace HB := hb_ HB e0_ hb; clear hb hbox hg))
 (try simp only [Act.put, ls_, lz_, lc_])
 go_cut [17] (fun v17 wc => ∃ (kq : Nat) (x17_1 : Bool), v17 = .bool x17_1 ∧ Aside0 (dur_Split.j0 kq x17_1 a0_0 a0_1 = some (r1, r2)) ∧ Aside0 (kq ≤ k) ∧ Aside0 (wc.heap[gb199]? = some (.cells #[.int .i64 a0_0, .int .i64 a0_1] 25 (0, 0))) ∧ Aside0 (Below w.heap.size w wc))
 case first =>
  have H := HC2.out
  clear HC2
  replace H := ob_ H
  obtain ⟨t200, A40, H⟩ := H
  replace H : (if t200 = true then (dur_Split.j0 k (decide (a0_0 ≤ 0)) a0_0 a0_1) else (dur_Split.j0 k true a0_0 a0_1)) = some (r1, r2) := H
  have A4 := sd_ A40
  clear A40
  by_cases c5 : t200 = true
  ·subst c5
   have H1 : (dur_Split.j0 k (decide (a0_0 ≤ 0)) a0_0 a0_1) = some (r1, r2) := by rw [if_pos rfl] at H; exact H
   clear H; have H := H1; clear H1
   have H' := sd_ H
   clear H
   have hcz6_0 : w3.cell? ⟨gb199, 0, none⟩ = some (.int .i64 a0_0) := (kc_ BK199.out 0).trans rfl
   have hcz6_1 : w3.cell? ⟨gb199, 1, none⟩ = some (.int .i64 a0_1) := (kc_ BK199.out 1).trans rfl
   have hfz6_0 := kf_ BK199.out 0
   have hfz6_1 := kf_ BK199.out 1
   go_wp2_with (first | ((with_reducible refine gate_callee (f := 44) rfl ?_); refine goesL_ (some 11) rfl rfl Tryz.func44 (by kernel_rfl) rfl #[.agg #[.int .i64 a0_0, .int .i64 a0_1]] rfl (by (try simp only [lm_, lq_, lx_]); first | done | rfl | (simp only [ld_, lt_]; rfl)) ?_; (with_reducible refine (rat_Check.calls k a0_0 a0_1 true _ A4.out).mono ?_); rintro e w7 ⟨rfl, hb⟩; refine ⟨_, rfl, ?_⟩; replace BK199 := kb_ BK199 hb; replace HB := hb_ HB (e_ GE199 e0_) hb; (try clear hb); (try clear hb2); (try clear hk); (try clear hi); have hcz8_0 : w7.cell? ⟨gb199, 0, none⟩ = some (.int .i64 a0_0) := (kc_ BK199.out 0).trans rfl; have hcz8_1 : w7.cell? ⟨gb199, 1, none⟩ = some (.int .i64 a0_1) := (kc_ BK199.out 1).trans rfl; have hfz8_0 := kf_ BK199.out 0; have hfz8_1 := kf_ BK199.out 1))
   go_meet
   case rel => exact ⟨_, (decide (a0_0 ≤ 0)), (by first | rfl | (simp; done) | (simp [*]; done) | (simp [bne]; done)), H', ⟨by first | omega | exact Nat.le_refl _⟩, ⟨by (with_reducible repeat first | apply kn_ | apply kd_ | apply ka_); exact BK199.out⟩, ⟨by repeat (first | (with_reducible first | exact HB.out | apply ba_ | apply pd_ | apply d1_ | refine bs_ ?_ GE199.out) | exact HB.out)⟩⟩
  ·replace c5 := bf_ c5
   subst c5
   have H1 : (dur_Split.j0 k true a0_0 a0_1) = some (r1, r2) := by rw [if_neg (show ¬ (false = true) by decide)] at H; exact H
   clear H; have H := H1; clear H1
   have H' := sd_ H
   clear H
   have hcz9_0 : w3.cell? ⟨gb199, 0, none⟩ = some (.int .i64 a0_0) := (kc_ BK199.out 0).trans rfl
   have hcz9_1 : w3.cell? ⟨gb199, 1, none⟩ = some (.int .i64 a0_1) := (kc_ BK199.out 1).trans rfl
   have hfz9_0 := kf_ BK199.out 0
   have hfz9_1 := kf_ BK199.out 1
   go_wp2_with (first | ((with_reducible refine gate_callee (f := 44) rfl ?_); refine goesL_ (some 11) rfl rfl Tryz.func44 (by kernel_rfl) rfl #[.agg #[.int .i64 a0_0, .int .i64 a0_1]] rfl (by (try simp only [lm_, lq_, lx_]); first | done | rfl | (simp only [ld_, lt_]; rfl)) ?_; (with_reducible refine (rat_Check.calls k a0_0 a0_1 false _ A4.out).mono ?_); rintro e w10 ⟨rfl, hb⟩; refine ⟨_, rfl, ?_⟩; replace BK199 := kb_ BK199 hb; replace HB := hb_ HB (e_ GE199 e0_) hb; (try clear hb); (try clear hb2); (try clear hk); (try clear hi)))
   go_meet
   case rel => exact ⟨_, (true), (by first | rfl | (simp; done) | (simp [*]; done) | (simp [bne]; done)), H', ⟨by first | omega | exact Nat.le_refl _⟩, ⟨by (with_reducible repeat first | apply kn_ | apply kd_ | apply ka_); exact BK199.out⟩, ⟨by repeat (first | (with_reducible first | exact HB.out | apply ba_ | apply pd_ | apply d1_ | refine bs_ ?_ GE199.out) | exact HB.out)⟩⟩
 case rest =>
  clear HC2
  try clear c1; try clear p2; try clear c4; try clear c5; try clear hcz6_0; try clear hcz6_1; try clear hcz8_0; try clear hcz8_1; try clear hcz9_0; try clear hcz9_1; try clear hfz6_0; try clear hfz6_1; try clear hfz8_0; try clear hfz8_1; try clear hfz9_0; try clear hfz9_1
  obtain ⟨kq, x17_1, rfl, HA, HJ1, BK199, HB⟩ := hcut
  cases kq with
  | zero => exact absurd HA.out (by simp [dur_Split.j0])
  | succ kj1 =>
   have H := HA.out
   clear HA
   simp only [dur_Split.j0] at H
   by_cases c11 : x17_1 = true
   ·subst c11
    have H1 : (some (([] : List (S23)), false)) = some (r1, r2) := by rw [if_pos rfl] at H; exact H
    clear H; have H := H1; clear H1
    simp only [Option.some.injEq, Prod.mk.injEq] at H
    obtain ⟨rfl, rfl⟩ := H
    go_wp2
    go_ret2
    exact ⟨_, by first | rfl | (simp [errW_none, errW_some] <;> rfl) | (simp [*, errW_none, errW_some] <;> rfl), by first | exact Kd.R_nil _ _ _ _ _ | exact Kd.N_nil _ _ _ _ _ | exact Kd.V_nil _ _ _ _ _ | exact Kd.Q_nil _ _ _ _ _ | exact Kd.S_nil _ _ _ _ _, by repeat (first | (with_reducible first | exact HB.out | apply ba_ | apply pd_ | apply d1_ | refine bs_ ?_ GE199.out) | exact HB.out)⟩
   ·replace c11 := bf_ c11
    subst c11
    have H1 : (dur_Split.l0 kj1 ([] : List (S23)) a0_0 a0_1) = some (r1, r2) := by rw [if_neg (show ¬ (false = true) by decide)] at H; exact H
    clear H; have H := H1; clear H1
    have H' := sd_ H
    clear H
    go_wp2
    go_loopg [4] kj1 (fun kq v4 w' => ∃ (x4_2 : List (S23)) (x200000_2 : Int) (x200001_2 : Int), Aside0 (dur_Split.l0 kq x4_2 x200000_2 x200001_2 = some (r1, r2)) ∧ Aside0 (kq ≤ kj1) ∧ Aside0 (Kd.R k23 23 w' w.heap.size (fun _ => True) v4 x4_2) ∧ Aside0 (w'.heap[gb199]? = some (.cells #[.int .i64 x200000_2, .int .i64 x200001_2] 25 (0, 0))) ∧ Aside0 (Below w.heap.size w w'))
    case atStart => exact ⟨(([] : List (S23))), (a0_0), (a0_1), H', ⟨Nat.le_refl _⟩, ⟨by first | exact Kd.R_nil _ _ _ _ _ | exact Kd.N_nil _ _ _ _ _ | exact Kd.V_nil _ _ _ _ _ | exact Kd.Q_nil _ _ _ _ _ | exact Kd.S_nil _ _ _ _ _⟩, ⟨by (with_reducible repeat first | apply kn_ | apply kd_ | apply ka_); exact BK199.out⟩, ⟨by repeat (first | (with_reducible first | exact HB.out | apply ba_ | apply pd_ | apply d1_ | refine bs_ ?_ GE199.out) | exact HB.out)⟩⟩
    case round =>
     clear H'
     try clear c1; try clear p2; try clear c4; try clear c5; try clear c11; try clear hcz6_0; try clear hcz6_1; try clear hcz8_0; try clear hcz8_1; try clear hcz9_0; try clear hcz9_1; try clear hfz6_0; try clear hfz6_1; try clear hfz8_0; try clear hfz8_1; try clear hfz9_0; try clear hfz9_1; try clear p2
     obtain ⟨x4_2, x200000_2, x200001_2, HA, HK2, HO_4, BK199, HB⟩ := hrel
     cases gk with
     | zero => exact absurd HA.out (by simp [dur_Split.l0])
     | succ k2 =>
      have H := HA.out
      clear HA
      simp only [dur_Split.l0] at H
      by_cases c12 : x200000_2 > 0
      ·rw [if_pos c12] at H
       have c12b0 : decide (0 < x200000_2) = true := dt_ c12
       clear c12
       replace H := ob_ H
       obtain ⟨⟨t201, t202, t203, t204, t205⟩, A130, H⟩ := H
       replace H : ((rat_Sub.f k2 x200000_2 x200001_2 t203 t204).bind fun bt208 => (if t205 = true then (if bt208.2.2 = 0 then (if (x4_2.length : Int) = 64 then (some (([] : List (S23)), false)) else (if x4_2.length < 8796093022208 then (dur_Split.l0 k2 (x4_2 ++ [(⟨t201, t202⟩ : S23)]) bt208.1 bt208.2.1) else (none))) else (some (([] : List (S23)), false))) else (some (([] : List (S23)), false)))) = some (r1, r2) := H
       have A13 := sd_ A130
       clear A130
       replace H := ob_ H
       obtain ⟨⟨t208, t209, t210⟩, A140, H⟩ := H
       replace H : (if t205 = true then (if t210 = 0 then (if (x4_2.length : Int) = 64 then (some (([] : List (S23)), false)) else (if x4_2.length < 8796093022208 then (dur_Split.l0 k2 (x4_2 ++ [(⟨t201, t202⟩ : S23)]) t208 t209) else (none))) else (some (([] : List (S23)), false))) else (some (([] : List (S23)), false))) = some (r1, r2) := H
       have A14 := sd_ A140
       clear A140
       by_cases c15 : t205 = true
       ·subst c15
        have H1 : (if t210 = 0 then (if (x4_2.length : Int) = 64 then (some (([] : List (S23)), false)) else (if x4_2.length < 8796093022208 then (dur_Split.l0 k2 (x4_2 ++ [(⟨t201, t202⟩ : S23)]) t208 t209) else (none))) else (some (([] : List (S23)), false))) = some (r1, r2) := by rw [if_pos rfl] at H; exact H
        clear H; have H := H1; clear H1
        by_cases c16 : t210 = 0
        ·rw [if_pos c16] at H
         have c16b0 : (t210 == 0) = true := beq_iff_eq.mpr c16
         have c16b1 : (t210 != 0) = false := bne_eq_false_iff_eq.mpr c16
         clear c16
         by_cases c17 : (x4_2.length : Int) = 64
         ·rw [if_pos c17] at H
          have c17b0 : ((x4_2.length : Int) == 64) = true := beq_iff_eq.mpr c17
          have c17b1 : ((x4_2.length : Int) != 64) = false := bne_eq_false_iff_eq.mpr c17
          clear c17
          simp only [Option.some.injEq, Prod.mk.injEq] at H
          obtain ⟨rfl, rfl⟩ := H
          have hcz18_0 : wr.cell? ⟨gb199, 0, none⟩ = some (.int .i64 x200000_2) := (kc_ BK199.out 0).trans rfl
          have hcz18_1 : wr.cell? ⟨gb199, 1, none⟩ = some (.int .i64 x200001_2) := (kc_ BK199.out 1).trans rfl
          have hfz18_0 := kf_ BK199.out 0
          have hfz18_1 := kf_ BK199.out 1
          go_wp2_with (first | ((with_reducible refine gate_callee (f := 45) rfl ?_); refine goesL_ (some 23) rfl rfl Tryz.func45 (by kernel_rfl) rfl #[.agg #[.int .i64 x200000_2, .int .i64 x200001_2]] rfl (by (try simp only [lm_, lq_, lx_]); first | done | rfl | (simp only [ld_, lt_]; rfl)) ?_; (with_reducible refine (dur_longestIn.calls k2 x200000_2 x200001_2 t201 t202 t203 t204 true _ ?side1 A13.out).mono ?_); (case side1 => first | (with_reducible exact hE) | exact sd_ (LaidE.below hE.out (bb_ HB.out (e_ GE199 e0_)))); rintro e w19 ⟨rfl, hb⟩; refine ⟨_, rfl, ?_⟩; replace HO_4 := sd_ (Kd.R_below (by (with_reducible repeat (first | apply Kd.R_alloc | apply Kd.R_drewN | apply Kd.R_drew)); exact HO_4.out) hb); replace BK199 := kb_ BK199 hb; replace HB := hb_ HB (e_ GE199 e0_) hb; (try clear hb); (try clear hb2); (try clear hk); (try clear hi)) | ((with_reducible refine gate_dst (N := 5) rfl ?_); (try (refine gate_guard (by rfl) ?_; dsimp only)); refine box_event ?hg (N := 5) ?hd (cs := #[.int .i64 0, .int .i64 0]) (t := 23) ?hr ?_; (case hd => rfl); (case hg => rfl); (case hr => first | (go_simp; done) | (go_simp; rfl)); intro gb206 hg w20 hbox hb; have BK206 := sd_ hbox; have GW206 := gw_ HB (e_ GE199 e0_) hg; have GE206 := GW206; have NB199_206 := nb_ BK199 hg; have NB206_199 := sy_ NB199_206; replace HO_4 := sd_ (Kd.R_below (Kd.R_elderB (by (with_reducible repeat (first | apply Kd.R_alloc | apply Kd.R_drewN | apply Kd.R_drew)); exact HO_4.out) gb206 (Nat.le_of_eq hg.symm)) hb); replace BK199 := kb_ BK199 hb; replace HB := hb_ HB (e_ GE199 e0_) hb; clear hb hbox hg) | ((with_reducible refine gate_dst (N := 6) rfl ?_); (try (refine gate_guard (by rfl) ?_; dsimp only)); refine box_event ?hg (N := 6) ?hd (cs := #[.int .i64 0, .int .i64 0]) (t := 25) ?hr ?_; (case hd => rfl); (case hg => rfl); (case hr => first | (go_simp; done) | (go_simp; rfl)); intro gb207 hg w21 hbox hb; have BK207 := sd_ hbox; have GW207 := gw_ HB (e_ GE199 (e_ GE206 e0_)) hg; have GE207 := GW207; have NB199_207 := nb_ BK199 hg; have NB207_199 := sy_ NB199_207; have NB206_207 := nb_ BK206 hg; have NB207_206 := sy_ NB206_207; replace HO_4 := sd_ (Kd.R_below (by (with_reducible repeat (first | apply Kd.R_alloc | apply Kd.R_drewN | apply Kd.R_drew)); exact HO_4.out) hb); replace BK199 := kb_ BK199 hb; replace BK206 := kb_ BK206 hb; replace HB := hb_ HB (e_ GE199 (e_ GE206 e0_)) hb; clear hb hbox hg; have hnb22 := NB206_199.out; have hnc22 := NB199_206.out; have hnb23 := NB206_207.out; have hnc23 := NB207_206.out; have hcz24_0 : w21.cell? ⟨gb206, 0, none⟩ = some (.int .i64 0) := (kc_ BK206.out 0).trans rfl; have hcz24_1 : w21.cell? ⟨gb206, 1, none⟩ = some (.int .i64 0) := (kc_ BK206.out 1).trans rfl; have hfz24_0 := kf_ BK206.out 0; have hfz24_1 := kf_ BK206.out 1; have hnb25 := NB207_199.out; have hnc25 := NB199_207.out; have hcz26_0 : w21.cell? ⟨gb207, 0, none⟩ = some (.int .i64 0) := (kc_ BK207.out 0).trans rfl; have hcz26_1 : w21.cell? ⟨gb207, 1, none⟩ = some (.int .i64 0) := (kc_ BK207.out 1).trans rfl; have hfz26_0 := kf_ BK207.out 0; have hfz26_1 := kf_ BK207.out 1; have hcz27_0 : w21.cell? ⟨gb199, 0, none⟩ = some (.int .i64 x200000_2) := (kc_ BK199.out 0).trans rfl; have hcz27_1 : w21.cell? ⟨gb199, 1, none⟩ = some (.int .i64 x200001_2) := (kc_ BK199.out 1).trans rfl; have hfz27_0 := kf_ BK199.out 0; have hfz27_1 := kf_ BK199.out 1) | ((with_reducible refine gate_callee (f := 46) rfl ?_); refine goesL_ (some 30) rfl rfl Tryz.func46 (by kernel_rfl) rfl #[.agg #[.int .i64 x200000_2, .int .i64 x200001_2], .agg #[.int .i64 t203, .int .i64 t204]] rfl (by (try simp only [lm_, lq_, lx_]); first | done | rfl | (simp only [ld_, lt_]; rfl)) ?_; (with_reducible refine (rat_Sub.calls k2 x200000_2 x200001_2 t203 t204 t208 t209 t210 _ A14.out).mono ?_); rintro e w28 ⟨rfl, hb⟩; refine ⟨_, rfl, ?_⟩; have n0_ := sd_ (Kd.R_below (by (with_reducible repeat (first | apply Kd.R_alloc | apply Kd.R_drewN | apply Kd.R_drew)); exact (Kd.R_mono (Kd.R_mono (Kd.R_far (p := ⟨gb207, 1, none⟩) (Kd.R_far (p := ⟨gb207, 0, none⟩) (Kd.R_far (p := ⟨gb206, 1, none⟩) (Kd.R_far (p := ⟨gb206, 0, none⟩) (Kd.R_types (Kd.R_mono HO_4.out (fun k_ hk => (⟨hk, hk.2⟩ : _ ∧ k_ ≠ gb206))) BK207.out (by decide)) (fun _ hk => hk.1.2) (.int .i64 t201)) (fun _ hk => hk.1.2) (.int .i64 t202)) (fun _ hk => hk.2) (.int .i64 t203)) (fun _ hk => hk.2) (.int .i64 t204)) (fun _ h_ => h_.1)) (fun _ h_ => h_.1))) hb); have n1_ := sd_ (blk_below (g := gb199) (o := .cells #[.int .i64 x200000_2, .int .i64 x200001_2] 25 (0, 0)) (by (with_reducible repeat first | apply kn_ | apply kd_ | apply ka_); refine blk_far ?_ NB199_207.out _; (with_reducible repeat first | apply kn_ | apply kd_ | apply ka_); refine blk_far ?_ NB199_207.out _; (with_reducible repeat first | apply kn_ | apply kd_ | apply ka_); refine blk_far ?_ NB199_206.out _; (with_reducible repeat first | apply kn_ | apply kd_ | apply ka_); refine blk_far ?_ NB199_206.out _; (with_reducible repeat first | apply kn_ | apply kd_ | apply ka_); exact BK199.out) hb); have n2_ := sd_ (blk_below (g := gb206) (o := .cells #[.int .i64 t201, .int .i64 t202] 23 (0, 0)) (by (with_reducible repeat first | apply kn_ | apply kd_ | apply ka_); refine blk_far ?_ NB206_207.out _; (with_reducible repeat first | apply kn_ | apply kd_ | apply ka_); refine blk_far ?_ NB206_207.out _; (with_reducible repeat first | apply kn_ | apply kd_ | apply ka_); refine blk_put (cs := #[.int .i64 t201, .int .i64 0]) ?_ 1 _ rfl; (with_reducible repeat first | apply kn_ | apply kd_ | apply ka_); refine blk_put (cs := #[.int .i64 0, .int .i64 0]) ?_ 0 _ rfl; (with_reducible repeat first | apply kn_ | apply kd_ | apply ka_); exact BK206.out) hb); have n3_ := sd_ (blk_below (g := gb207) (o := .cells #[.int .i64 t203, .int .i64 t204] 25 (0, 0)) (by (with_reducible repeat first | apply kn_ | apply kd_ | apply ka_); refine blk_put (cs := #[.int .i64 t203, .int .i64 0]) ?_ 1 _ rfl; (with_reducible repeat first | apply kn_ | apply kd_ | apply ka_); refine blk_put (cs := #[.int .i64 0, .int .i64 0]) ?_ 0 _ rfl; (with_reducible repeat first | apply kn_ | apply kd_ | apply ka_); refine blk_far ?_ NB207_206.out _; (with_reducible repeat first | apply kn_ | apply kd_ | apply ka_); refine blk_far ?_ NB207_206.out _; (with_reducible repeat first | apply kn_ | apply kd_ | apply ka_); exact BK207.out) hb); have n4_ := hb_ HB (e_ GE199 (e_ GE206 (e_ GE207 e0_))) hb; clear HO_4; clear BK199; clear BK206; clear BK207; clear HB; have HO_4 := n0_; have BK199 := n1_; have BK206 := n2_; have BK207 := n3_; have HB := n4_; clear n0_ n1_ n2_ n3_ n4_; (try clear hb); (try clear hb2); (try clear hk); (try clear hi)) | ((with_reducible refine gate_dst (N := 8) rfl ?_); (try (refine gate_guard (by rfl) ?_; dsimp only)); refine box_event ?hg (N := 8) ?hd (cs := #[.int .i64 0, .int .i64 0]) (t := 25) ?hr ?_; (case hd => rfl); (case hg => rfl); (case hr => first | (go_simp; done) | (go_simp; rfl)); intro gb211 hg w29 hbox hb; have BK211 := sd_ hbox; have GW211 := gw_ HB (e_ GE199 (e_ GE206 (e_ GE207 e0_))) hg; have GE211 := GW211; have NB199_211 := nb_ BK199 hg; have NB211_199 := sy_ NB199_211; have NB206_211 := nb_ BK206 hg; have NB211_206 := sy_ NB206_211; have NB207_211 := nb_ BK207 hg; have NB211_207 := sy_ NB207_211; replace HO_4 := sd_ (Kd.R_below (by (with_reducible repeat (first | apply Kd.R_alloc | apply Kd.R_drewN | apply Kd.R_drew)); exact HO_4.out) hb); replace BK199 := kb_ BK199 hb; replace BK206 := kb_ BK206 hb; replace BK207 := kb_ BK207 hb; replace HB := hb_ HB (e_ GE199 (e_ GE206 (e_ GE207 e0_))) hb; clear hb hbox hg; have hnb30 := NB211_199.out; have hnc30 := NB199_211.out; have hnb31 := NB211_206.out; have hnc31 := NB206_211.out; have hnb32 := NB211_207.out; have hnc32 := NB207_211.out; have hcz33_0 : w29.cell? ⟨gb211, 0, none⟩ = some (.int .i64 0) := (kc_ BK211.out 0).trans rfl; have hcz33_1 : w29.cell? ⟨gb211, 1, none⟩ = some (.int .i64 0) := (kc_ BK211.out 1).trans rfl; have hfz33_0 := kf_ BK211.out 0; have hfz33_1 := kf_ BK211.out 1; obtain ⟨Ao34, co34, eo34⟩ := Kd.R_slice HO_4.out; subst eo34))
          go_ret2
          exact ⟨_, by first | rfl | (simp [errW_none, errW_some] <;> rfl) | (simp [*, errW_none, errW_some] <;> rfl), by first | exact Kd.R_nil _ _ _ _ _ | exact Kd.N_nil _ _ _ _ _ | exact Kd.V_nil _ _ _ _ _ | exact Kd.Q_nil _ _ _ _ _ | exact Kd.S_nil _ _ _ _ _, by repeat (first | (with_reducible first | exact HB.out | apply ba_ | apply pd_ | apply d1_ | refine bs_ ?_ GE199.out | refine bs_ ?_ GE206.out | refine bs_ ?_ GE207.out | refine bs_ ?_ GE211.out) | exact HB.out)⟩
         ·rw [if_neg c17] at H
          have c17b0 : ((x4_2.length : Int) == 64) = false := beq_eq_false_iff_ne.mpr c17
          have c17b1 : ((x4_2.length : Int) != 64) = true := bne_iff_ne.mpr c17
          by_cases c35 : x4_2.length < 8796093022208
          ·rw [if_pos c35] at H
           have LMc35 := sd_ c35
           clear c35
           obtain ⟨y212, hy212⟩ : ∃ y_ : List (S23), y_ = (x4_2 ++ [(⟨t201, t202⟩ : S23)]) := ⟨_, rfl⟩
           replace H : (dur_Split.l0 k2 y212 t208 t209) = some (r1, r2) := by first | (rw [hy212]; with_reducible exact H) | (have H2_ := (Option.bind_some _ _).symm.trans H; rw [hy212]; with_reducible exact H2_) | (have H2_ := (Option.bind_some _ _).symm.trans H; with_reducible exact H2_) | with_reducible exact H | (rw [hy212]; exact H) | exact H
           have Ny212 := sd_ hy212
           clear hy212
           have H' := sd_ H
           clear H
           have hcz36_0 : wr.cell? ⟨gb199, 0, none⟩ = some (.int .i64 x200000_2) := (kc_ BK199.out 0).trans rfl
           have hcz36_1 : wr.cell? ⟨gb199, 1, none⟩ = some (.int .i64 x200001_2) := (kc_ BK199.out 1).trans rfl
           have hfz36_0 := kf_ BK199.out 0
           have hfz36_1 := kf_ BK199.out 1
           go_wp2_with (first | ((with_reducible refine gate_callee (f := 45) rfl ?_); refine goesL_ (some 23) rfl rfl Tryz.func45 (by kernel_rfl) rfl #[.agg #[.int .i64 x200000_2, .int .i64 x200001_2]] rfl (by (try simp only [lm_, lq_, lx_]); first | done | rfl | (simp only [ld_, lt_]; rfl)) ?_; (with_reducible refine (dur_longestIn.calls k2 x200000_2 x200001_2 t201 t202 t203 t204 true _ ?side1 A13.out).mono ?_); (case side1 => first | (with_reducible exact hE) | exact sd_ (LaidE.below hE.out (bb_ HB.out (e_ GE199 e0_)))); rintro e w37 ⟨rfl, hb⟩; refine ⟨_, rfl, ?_⟩; replace HO_4 := sd_ (Kd.R_below (by (with_reducible repeat (first | apply Kd.R_alloc | apply Kd.R_drewN | apply Kd.R_drew)); exact HO_4.out) hb); replace BK199 := kb_ BK199 hb; replace HB := hb_ HB (e_ GE199 e0_) hb; (try clear hb); (try clear hb2); (try clear hk); (try clear hi)) | ((with_reducible refine gate_dst (N := 5) rfl ?_); (try (refine gate_guard (by rfl) ?_; dsimp only)); refine box_event ?hg (N := 5) ?hd (cs := #[.int .i64 0, .int .i64 0]) (t := 23) ?hr ?_; (case hd => rfl); (case hg => rfl); (case hr => first | (go_simp; done) | (go_simp; rfl)); intro gb206 hg w38 hbox hb; have BK206 := sd_ hbox; have GW206 := gw_ HB (e_ GE199 e0_) hg; have GE206 := GW206; have NB199_206 := nb_ BK199 hg; have NB206_199 := sy_ NB199_206; replace HO_4 := sd_ (Kd.R_below (Kd.R_elderB (by (with_reducible repeat (first | apply Kd.R_alloc | apply Kd.R_drewN | apply Kd.R_drew)); exact HO_4.out) gb206 (Nat.le_of_eq hg.symm)) hb); replace BK199 := kb_ BK199 hb; replace HB := hb_ HB (e_ GE199 e0_) hb; clear hb hbox hg) | ((with_reducible refine gate_dst (N := 6) rfl ?_); (try (refine gate_guard (by rfl) ?_; dsimp only)); refine box_event ?hg (N := 6) ?hd (cs := #[.int .i64 0, .int .i64 0]) (t := 25) ?hr ?_; (case hd => rfl); (case hg => rfl); (case hr => first | (go_simp; done) | (go_simp; rfl)); intro gb207 hg w39 hbox hb; have BK207 := sd_ hbox; have GW207 := gw_ HB (e_ GE199 (e_ GE206 e0_)) hg; have GE207 := GW207; have NB199_207 := nb_ BK199 hg; have NB207_199 := sy_ NB199_207; have NB206_207 := nb_ BK206 hg; have NB207_206 := sy_ NB206_207; replace HO_4 := sd_ (Kd.R_below (by (with_reducible repeat (first | apply Kd.R_alloc | apply Kd.R_drewN | apply Kd.R_drew)); exact HO_4.out) hb); replace BK199 := kb_ BK199 hb; replace BK206 := kb_ BK206 hb; replace HB := hb_ HB (e_ GE199 (e_ GE206 e0_)) hb; clear hb hbox hg; have hnb40 := NB206_199.out; have hnc40 := NB199_206.out; have hnb41 := NB206_207.out; have hnc41 := NB207_206.out; have hcz42_0 : w39.cell? ⟨gb206, 0, none⟩ = some (.int .i64 0) := (kc_ BK206.out 0).trans rfl; have hcz42_1 : w39.cell? ⟨gb206, 1, none⟩ = some (.int .i64 0) := (kc_ BK206.out 1).trans rfl; have hfz42_0 := kf_ BK206.out 0; have hfz42_1 := kf_ BK206.out 1; have hnb43 := NB207_199.out; have hnc43 := NB199_207.out; have hcz44_0 : w39.cell? ⟨gb207, 0, none⟩ = some (.int .i64 0) := (kc_ BK207.out 0).trans rfl; have hcz44_1 : w39.cell? ⟨gb207, 1, none⟩ = some (.int .i64 0) := (kc_ BK207.out 1).trans rfl; have hfz44_0 := kf_ BK207.out 0; have hfz44_1 := kf_ BK207.out 1; have hcz45_0 : w39.cell? ⟨gb199, 0, none⟩ = some (.int .i64 x200000_2) := (kc_ BK199.out 0).trans rfl; have hcz45_1 : w39.cell? ⟨gb199, 1, none⟩ = some (.int .i64 x200001_2) := (kc_ BK199.out 1).trans rfl; have hfz45_0 := kf_ BK199.out 0; have hfz45_1 := kf_ BK199.out 1) | ((with_reducible refine gate_callee (f := 46) rfl ?_); refine goesL_ (some 30) rfl rfl Tryz.func46 (by kernel_rfl) rfl #[.agg #[.int .i64 x200000_2, .int .i64 x200001_2], .agg #[.int .i64 t203, .int .i64 t204]] rfl (by (try simp only [lm_, lq_, lx_]); first | done | rfl | (simp only [ld_, lt_]; rfl)) ?_; (with_reducible refine (rat_Sub.calls k2 x200000_2 x200001_2 t203 t204 t208 t209 t210 _ A14.out).mono ?_); rintro e w46 ⟨rfl, hb⟩; refine ⟨_, rfl, ?_⟩; have n0_ := sd_ (Kd.R_below (by (with_reducible repeat (first | apply Kd.R_alloc | apply Kd.R_drewN | apply Kd.R_drew)); exact (Kd.R_mono (Kd.R_mono (Kd.R_far (p := ⟨gb207, 1, none⟩) (Kd.R_far (p := ⟨gb207, 0, none⟩) (Kd.R_far (p := ⟨gb206, 1, none⟩) (Kd.R_far (p := ⟨gb206, 0, none⟩) (Kd.R_types (Kd.R_mono HO_4.out (fun k_ hk => (⟨hk, hk.2⟩ : _ ∧ k_ ≠ gb206))) BK207.out (by decide)) (fun _ hk => hk.1.2) (.int .i64 t201)) (fun _ hk => hk.1.2) (.int .i64 t202)) (fun _ hk => hk.2) (.int .i64 t203)) (fun _ hk => hk.2) (.int .i64 t204)) (fun _ h_ => h_.1)) (fun _ h_ => h_.1))) hb); have n1_ := sd_ (blk_below (g := gb199) (o := .cells #[.int .i64 x200000_2, .int .i64 x200001_2] 25 (0, 0)) (by (with_reducible repeat first | apply kn_ | apply kd_ | apply ka_); refine blk_far ?_ NB199_207.out _; (with_reducible repeat first | apply kn_ | apply kd_ | apply ka_); refine blk_far ?_ NB199_207.out _; (with_reducible repeat first | apply kn_ | apply kd_ | apply ka_); refine blk_far ?_ NB199_206.out _; (with_reducible repeat first | apply kn_ | apply kd_ | apply ka_); refine blk_far ?_ NB199_206.out _; (with_reducible repeat first | apply kn_ | apply kd_ | apply ka_); exact BK199.out) hb); have n2_ := sd_ (blk_below (g := gb206) (o := .cells #[.int .i64 t201, .int .i64 t202] 23 (0, 0)) (by (with_reducible repeat first | apply kn_ | apply kd_ | apply ka_); refine blk_far ?_ NB206_207.out _; (with_reducible repeat first | apply kn_ | apply kd_ | apply ka_); refine blk_far ?_ NB206_207.out _; (with_reducible repeat first | apply kn_ | apply kd_ | apply ka_); refine blk_put (cs := #[.int .i64 t201, .int .i64 0]) ?_ 1 _ rfl; (with_reducible repeat first | apply kn_ | apply kd_ | apply ka_); refine blk_put (cs := #[.int .i64 0, .int .i64 0]) ?_ 0 _ rfl; (with_reducible repeat first | apply kn_ | apply kd_ | apply ka_); exact BK206.out) hb); have n3_ := sd_ (blk_below (g := gb207) (o := .cells #[.int .i64 t203, .int .i64 t204] 25 (0, 0)) (by (with_reducible repeat first | apply kn_ | apply kd_ | apply ka_); refine blk_put (cs := #[.int .i64 t203, .int .i64 0]) ?_ 1 _ rfl; (with_reducible repeat first | apply kn_ | apply kd_ | apply ka_); refine blk_put (cs := #[.int .i64 0, .int .i64 0]) ?_ 0 _ rfl; (with_reducible repeat first | apply kn_ | apply kd_ | apply ka_); refine blk_far ?_ NB207_206.out _; (with_reducible repeat first | apply kn_ | apply kd_ | apply ka_); refine blk_far ?_ NB207_206.out _; (with_reducible repeat first | apply kn_ | apply kd_ | apply ka_); exact BK207.out) hb); have n4_ := hb_ HB (e_ GE199 (e_ GE206 (e_ GE207 e0_))) hb; clear HO_4; clear BK199; clear BK206; clear BK207; clear HB; have HO_4 := n0_; have BK199 := n1_; have BK206 := n2_; have BK207 := n3_; have HB := n4_; clear n0_ n1_ n2_ n3_ n4_; (try clear hb); (try clear hb2); (try clear hk); (try clear hi)) | ((with_reducible refine gate_dst (N := 8) rfl ?_); (try (refine gate_guard (by rfl) ?_; dsimp only)); refine box_event ?hg (N := 8) ?hd (cs := #[.int .i64 0, .int .i64 0]) (t := 25) ?hr ?_; (case hd => rfl); (case hg => rfl); (case hr => first | (go_simp; done) | (go_simp; rfl)); intro gb211 hg w47 hbox hb; have BK211 := sd_ hbox; have GW211 := gw_ HB (e_ GE199 (e_ GE206 (e_ GE207 e0_))) hg; have GE211 := GW211; have NB199_211 := nb_ BK199 hg; have NB211_199 := sy_ NB199_211; have NB206_211 := nb_ BK206 hg; have NB211_206 := sy_ NB206_211; have NB207_211 := nb_ BK207 hg; have NB211_207 := sy_ NB207_211; replace HO_4 := sd_ (Kd.R_below (by (with_reducible repeat (first | apply Kd.R_alloc | apply Kd.R_drewN | apply Kd.R_drew)); exact HO_4.out) hb); replace BK199 := kb_ BK199 hb; replace BK206 := kb_ BK206 hb; replace BK207 := kb_ BK207 hb; replace HB := hb_ HB (e_ GE199 (e_ GE206 (e_ GE207 e0_))) hb; clear hb hbox hg; have hnb48 := NB211_199.out; have hnc48 := NB199_211.out; have hnb49 := NB211_206.out; have hnc49 := NB206_211.out; have hnb50 := NB211_207.out; have hnc50 := NB207_211.out; have hcz51_0 : w47.cell? ⟨gb211, 0, none⟩ = some (.int .i64 0) := (kc_ BK211.out 0).trans rfl; have hcz51_1 : w47.cell? ⟨gb211, 1, none⟩ = some (.int .i64 0) := (kc_ BK211.out 1).trans rfl; have hfz51_0 := kf_ BK211.out 0; have hfz51_1 := kf_ BK211.out 1; obtain ⟨Ao52, co52, eo52⟩ := Kd.R_slice HO_4.out; subst eo52; have hcz53_0 : w47.cell? ⟨gb206, 0, none⟩ = some (.int .i64 t201) := (kc_ BK206.out 0).trans rfl; have hcz53_1 : w47.cell? ⟨gb206, 1, none⟩ = some (.int .i64 t202) := (kc_ BK206.out 1).trans rfl; have hfz53_0 := kf_ BK206.out 0; have hfz53_1 := kf_ BK206.out 1) | ((with_reducible refine gate_builtin (b := .append) (xs := #[.tmp 44, .tmp 46]) rfl ?_); (try (refine gate_guard (by rfl) ?_; dsimp only)); at_builtin; refine Kd.R_append k23 (w0 := w) w.heap.size rfl (.tmp 44) (.tmp 46) 35 23 (.agg #[(.int .i64 0), (.int .i64 0)]) 16 rfl Tryz.underlying35 info23 rfl (by decide) (by omega) (.slice Ao52 x4_2.length co52) x4_2 (⟨t201, t202⟩ : S23) [.int .i64 t201, .int .i64 t202] (fun k_ => k_ ≠ gb206) (fun _ => False) rfl (by first | (go_simp; done) | (go_simp; rfl)) ?aP (fun _ hk => hk.elim) ?aF ?aO ?aB ?aS ?aL ?_; (case aP => exact k23_mkM _ _ _ (⟨t201, t202⟩ : S23)); (case aB => exact (bb_ HB.out (e_ GE199 (e_ GE206 (e_ GE207 (e_ GE211 e0_)))))); (case aF => exact (fun k_ hk => Kd.freshB (g := gb206) (o := .cells #[.int .i64 t201, .int .i64 t202] 23 (0, 0)) (by (with_reducible repeat first | apply kn_ | apply kd_ | apply ka_); refine blk_far ?_ NB206_211.out _; (with_reducible repeat first | apply kn_ | apply kd_ | apply ka_); refine blk_far ?_ NB206_211.out _; (with_reducible repeat first | apply kn_ | apply kd_ | apply ka_); exact BK206.out) k_ hk)); (case aO => exact (by (with_reducible repeat (first | apply Kd.R_alloc | apply Kd.R_drewN | apply Kd.R_drew)); exact Kd.R_mono (Kd.R_far (p := ⟨gb211, 1, none⟩) (Kd.R_far (p := ⟨gb211, 0, none⟩) (Kd.R_types HO_4.out BK211.out (by decide)) (fun _ hk => hk.2) (.int .i64 t208)) (fun _ hk => hk.2) (.int .i64 t209)) (fun _ hk => hk.1.2))); (case aS => exact (bz_ (bb_ HB.out (e_ GE199 (e_ GE206 (e_ GE207 (e_ GE211 e0_))))))); (case aL => have := LMc35.out; omega); intro v213 w54 ho hb hg hat; rw [← Ny212.out] at ho; have n0_ := sd_ (blk_grown (g := gb199) (o := .cells #[.int .i64 x200000_2, .int .i64 x200001_2] 25 (0, 0)) (by (with_reducible repeat first | apply kn_ | apply kd_ | apply ka_); refine blk_far ?_ NB199_211.out _; (with_reducible repeat first | apply kn_ | apply kd_ | apply ka_); refine blk_far ?_ NB199_211.out _; (with_reducible repeat first | apply kn_ | apply kd_ | apply ka_); exact BK199.out) hg (Kd.R_ne HO_4.out BK199.out (by decide))); have n1_ := sd_ (blk_grown (g := gb206) (o := .cells #[.int .i64 t201, .int .i64 t202] 23 (0, 0)) (by (with_reducible repeat first | apply kn_ | apply kd_ | apply ka_); refine blk_far ?_ NB206_211.out _; (with_reducible repeat first | apply kn_ | apply kd_ | apply ka_); refine blk_far ?_ NB206_211.out _; (with_reducible repeat first | apply kn_ | apply kd_ | apply ka_); exact BK206.out) hg (Kd.R_away HO_4.out (fun _ hk => hk.2))); have n2_ := sd_ (blk_grown (g := gb207) (o := .cells #[.int .i64 t203, .int .i64 t204] 25 (0, 0)) (by (with_reducible repeat first | apply kn_ | apply kd_ | apply ka_); refine blk_far ?_ NB207_211.out _; (with_reducible repeat first | apply kn_ | apply kd_ | apply ka_); refine blk_far ?_ NB207_211.out _; (with_reducible repeat first | apply kn_ | apply kd_ | apply ka_); exact BK207.out) hg (Kd.R_ne HO_4.out BK207.out (by decide))); have n3_ := sd_ (blk_grown (g := gb211) (o := .cells #[.int .i64 t208, .int .i64 t209] 25 (0, 0)) (by (with_reducible repeat first | apply kn_ | apply kd_ | apply ka_); refine blk_put (cs := #[.int .i64 t208, .int .i64 0]) ?_ 1 _ rfl; (with_reducible repeat first | apply kn_ | apply kd_ | apply ka_); refine blk_put (cs := #[.int .i64 0, .int .i64 0]) ?_ 0 _ rfl; (with_reducible repeat first | apply kn_ | apply kd_ | apply ka_); exact BK211.out) hg (Kd.R_ne HO_4.out BK211.out (by decide))); have n4_ := sd_ (hb); have n5_ := sd_ (ho); clear BK199; clear BK206; clear BK207; clear BK211; clear HB; clear HO_4; have BK199 := n0_; have BK206 := n1_; have BK207 := n2_; have BK211 := n3_; have HB := n4_; have HO214 := n5_; clear n0_ n1_ n2_ n3_ n4_ n5_; clear ho hb hg hat; have hcz55_0 : w54.cell? ⟨gb211, 0, none⟩ = some (.int .i64 t208) := (kc_ BK211.out 0).trans rfl; have hcz55_1 : w54.cell? ⟨gb211, 1, none⟩ = some (.int .i64 t209) := (kc_ BK211.out 1).trans rfl; have hfz55_0 := kf_ BK211.out 0; have hfz55_1 := kf_ BK211.out 1; have hcz56_0 : w54.cell? ⟨gb199, 0, none⟩ = some (.int .i64 x200000_2) := (kc_ BK199.out 0).trans rfl; have hcz56_1 : w54.cell? ⟨gb199, 1, none⟩ = some (.int .i64 x200001_2) := (kc_ BK199.out 1).trans rfl; have hfz56_0 := kf_ BK199.out 0; have hfz56_1 := kf_ BK199.out 1))
           go_roundg k2
           case measure => have := HJ1.out; have := HK2.out; omega
           case rel => exact ⟨(y212), (t208), (t209), H', ⟨by have := HJ1.out; have := HK2.out; omega⟩, ⟨by (with_reducible repeat (first | apply Kd.R_alloc | apply Kd.R_drewN | apply Kd.R_drew)); exact Kd.R_mono (Kd.R_far (p := ⟨gb199, 1, none⟩) (Kd.R_far (p := ⟨gb199, 0, none⟩) (Kd.R_types HO214.out BK199.out (by decide)) (fun _ hk => hk.2) (.int .i64 t208)) (fun _ hk => hk.2) (.int .i64 t209)) (fun _ hk => trivial)⟩, ⟨by (with_reducible repeat first | apply kn_ | apply kd_ | apply ka_); refine blk_put (cs := #[.int .i64 t208, .int .i64 x200001_2]) ?_ 1 _ rfl; (with_reducible repeat first | apply kn_ | apply kd_ | apply ka_); refine blk_put (cs := #[.int .i64 x200000_2, .int .i64 x200001_2]) ?_ 0 _ rfl; (with_reducible repeat first | apply kn_ | apply kd_ | apply ka_); exact BK199.out⟩, ⟨by repeat (first | (with_reducible first | exact HB.out | apply ba_ | apply pd_ | apply d1_ | refine bs_ ?_ GE199.out | refine bs_ ?_ GE206.out | refine bs_ ?_ GE207.out | refine bs_ ?_ GE211.out) | exact HB.out)⟩⟩
          ·rw [if_neg c35] at H
           exact absurd H (by simp)
        ·rw [if_neg c16] at H
         have c16b0 : (t210 == 0) = false := beq_eq_false_iff_ne.mpr c16
         have c16b1 : (t210 != 0) = true := bne_iff_ne.mpr c16
         simp only [Option.some.injEq, Prod.mk.injEq] at H
         obtain ⟨rfl, rfl⟩ := H
         have hcz57_0 : wr.cell? ⟨gb199, 0, none⟩ = some (.int .i64 x200000_2) := (kc_ BK199.out 0).trans rfl
         have hcz57_1 : wr.cell? ⟨gb199, 1, none⟩ = some (.int .i64 x200001_2) := (kc_ BK199.out 1).trans rfl
         have hfz57_0 := kf_ BK199.out 0
         have hfz57_1 := kf_ BK199.out 1
         go_wp2_with (first | ((with_reducible refine gate_callee (f := 45) rfl ?_); refine goesL_ (some 23) rfl rfl Tryz.func45 (by kernel_rfl) rfl #[.agg #[.int .i64 x200000_2, .int .i64 x200001_2]] rfl (by (try simp only [lm_, lq_, lx_]); first | done | rfl | (simp only [ld_, lt_]; rfl)) ?_; (with_reducible refine (dur_longestIn.calls k2 x200000_2 x200001_2 t201 t202 t203 t204 true _ ?side1 A13.out).mono ?_); (case side1 => first | (with_reducible exact hE) | exact sd_ (LaidE.below hE.out (bb_ HB.out (e_ GE199 e0_)))); rintro e w58 ⟨rfl, hb⟩; refine ⟨_, rfl, ?_⟩; replace HO_4 := sd_ (Kd.R_below (by (with_reducible repeat (first | apply Kd.R_alloc | apply Kd.R_drewN | apply Kd.R_drew)); exact HO_4.out) hb); replace BK199 := kb_ BK199 hb; replace HB := hb_ HB (e_ GE199 e0_) hb; (try clear hb); (try clear hb2); (try clear hk); (try clear hi)) | ((with_reducible refine gate_dst (N := 5) rfl ?_); (try (refine gate_guard (by rfl) ?_; dsimp only)); refine box_event ?hg (N := 5) ?hd (cs := #[.int .i64 0, .int .i64 0]) (t := 23) ?hr ?_; (case hd => rfl); (case hg => rfl); (case hr => first | (go_simp; done) | (go_simp; rfl)); intro gb206 hg w59 hbox hb; have BK206 := sd_ hbox; have GW206 := gw_ HB (e_ GE199 e0_) hg; have GE206 := GW206; have NB199_206 := nb_ BK199 hg; have NB206_199 := sy_ NB199_206; replace HO_4 := sd_ (Kd.R_below (Kd.R_elderB (by (with_reducible repeat (first | apply Kd.R_alloc | apply Kd.R_drewN | apply Kd.R_drew)); exact HO_4.out) gb206 (Nat.le_of_eq hg.symm)) hb); replace BK199 := kb_ BK199 hb; replace HB := hb_ HB (e_ GE199 e0_) hb; clear hb hbox hg) | ((with_reducible refine gate_dst (N := 6) rfl ?_); (try (refine gate_guard (by rfl) ?_; dsimp only)); refine box_event ?hg (N := 6) ?hd (cs := #[.int .i64 0, .int .i64 0]) (t := 25) ?hr ?_; (case hd => rfl); (case hg => rfl); (case hr => first | (go_simp; done) | (go_simp; rfl)); intro gb207 hg w60 hbox hb; have BK207 := sd_ hbox; have GW207 := gw_ HB (e_ GE199 (e_ GE206 e0_)) hg; have GE207 := GW207; have NB199_207 := nb_ BK199 hg; have NB207_199 := sy_ NB199_207; have NB206_207 := nb_ BK206 hg; have NB207_206 := sy_ NB206_207; replace HO_4 := sd_ (Kd.R_below (by (with_reducible repeat (first | apply Kd.R_alloc | apply Kd.R_drewN | apply Kd.R_drew)); exact HO_4.out) hb); replace BK199 := kb_ BK199 hb; replace BK206 := kb_ BK206 hb; replace HB := hb_ HB (e_ GE199 (e_ GE206 e0_)) hb; clear hb hbox hg; have hnb61 := NB206_199.out; have hnc61 := NB199_206.out; have hnb62 := NB206_207.out; have hnc62 := NB207_206.out; have hcz63_0 : w60.cell? ⟨gb206, 0, none⟩ = some (.int .i64 0) := (kc_ BK206.out 0).trans rfl; have hcz63_1 : w60.cell? ⟨gb206, 1, none⟩ = some (.int .i64 0) := (kc_ BK206.out 1).trans rfl; have hfz63_0 := kf_ BK206.out 0; have hfz63_1 := kf_ BK206.out 1; have hnb64 := NB207_199.out; have hnc64 := NB199_207.out; have hcz65_0 : w60.cell? ⟨gb207, 0, none⟩ = some (.int .i64 0) := (kc_ BK207.out 0).trans rfl; have hcz65_1 : w60.cell? ⟨gb207, 1, none⟩ = some (.int .i64 0) := (kc_ BK207.out 1).trans rfl; have hfz65_0 := kf_ BK207.out 0; have hfz65_1 := kf_ BK207.out 1; have hcz66_0 : w60.cell? ⟨gb199, 0, none⟩ = some (.int .i64 x200000_2) := (kc_ BK199.out 0).trans rfl; have hcz66_1 : w60.cell? ⟨gb199, 1, none⟩ = some (.int .i64 x200001_2) := (kc_ BK199.out 1).trans rfl; have hfz66_0 := kf_ BK199.out 0; have hfz66_1 := kf_ BK199.out 1) | ((with_reducible refine gate_callee (f := 46) rfl ?_); refine goesL_ (some 30) rfl rfl Tryz.func46 (by kernel_rfl) rfl #[.agg #[.int .i64 x200000_2, .int .i64 x200001_2], .agg #[.int .i64 t203, .int .i64 t204]] rfl (by (try simp only [lm_, lq_, lx_]); first | done | rfl | (simp only [ld_, lt_]; rfl)) ?_; (with_reducible refine (rat_Sub.calls k2 x200000_2 x200001_2 t203 t204 t208 t209 t210 _ A14.out).mono ?_); rintro e w67 ⟨rfl, hb⟩; refine ⟨_, rfl, ?_⟩; have n0_ := sd_ (Kd.R_below (by (with_reducible repeat (first | apply Kd.R_alloc | apply Kd.R_drewN | apply Kd.R_drew)); exact (Kd.R_mono (Kd.R_mono (Kd.R_far (p := ⟨gb207, 1, none⟩) (Kd.R_far (p := ⟨gb207, 0, none⟩) (Kd.R_far (p := ⟨gb206, 1, none⟩) (Kd.R_far (p := ⟨gb206, 0, none⟩) (Kd.R_types (Kd.R_mono HO_4.out (fun k_ hk => (⟨hk, hk.2⟩ : _ ∧ k_ ≠ gb206))) BK207.out (by decide)) (fun _ hk => hk.1.2) (.int .i64 t201)) (fun _ hk => hk.1.2) (.int .i64 t202)) (fun _ hk => hk.2) (.int .i64 t203)) (fun _ hk => hk.2) (.int .i64 t204)) (fun _ h_ => h_.1)) (fun _ h_ => h_.1))) hb); have n1_ := sd_ (blk_below (g := gb199) (o := .cells #[.int .i64 x200000_2, .int .i64 x200001_2] 25 (0, 0)) (by (with_reducible repeat first | apply kn_ | apply kd_ | apply ka_); refine blk_far ?_ NB199_207.out _; (with_reducible repeat first | apply kn_ | apply kd_ | apply ka_); refine blk_far ?_ NB199_207.out _; (with_reducible repeat first | apply kn_ | apply kd_ | apply ka_); refine blk_far ?_ NB199_206.out _; (with_reducible repeat first | apply kn_ | apply kd_ | apply ka_); refine blk_far ?_ NB199_206.out _; (with_reducible repeat first | apply kn_ | apply kd_ | apply ka_); exact BK199.out) hb); have n2_ := sd_ (blk_below (g := gb206) (o := .cells #[.int .i64 t201, .int .i64 t202] 23 (0, 0)) (by (with_reducible repeat first | apply kn_ | apply kd_ | apply ka_); refine blk_far ?_ NB206_207.out _; (with_reducible repeat first | apply kn_ | apply kd_ | apply ka_); refine blk_far ?_ NB206_207.out _; (with_reducible repeat first | apply kn_ | apply kd_ | apply ka_); refine blk_put (cs := #[.int .i64 t201, .int .i64 0]) ?_ 1 _ rfl; (with_reducible repeat first | apply kn_ | apply kd_ | apply ka_); refine blk_put (cs := #[.int .i64 0, .int .i64 0]) ?_ 0 _ rfl; (with_reducible repeat first | apply kn_ | apply kd_ | apply ka_); exact BK206.out) hb); have n3_ := sd_ (blk_below (g := gb207) (o := .cells #[.int .i64 t203, .int .i64 t204] 25 (0, 0)) (by (with_reducible repeat first | apply kn_ | apply kd_ | apply ka_); refine blk_put (cs := #[.int .i64 t203, .int .i64 0]) ?_ 1 _ rfl; (with_reducible repeat first | apply kn_ | apply kd_ | apply ka_); refine blk_put (cs := #[.int .i64 0, .int .i64 0]) ?_ 0 _ rfl; (with_reducible repeat first | apply kn_ | apply kd_ | apply ka_); refine blk_far ?_ NB207_206.out _; (with_reducible repeat first | apply kn_ | apply kd_ | apply ka_); refine blk_far ?_ NB207_206.out _; (with_reducible repeat first | apply kn_ | apply kd_ | apply ka_); exact BK207.out) hb); have n4_ := hb_ HB (e_ GE199 (e_ GE206 (e_ GE207 e0_))) hb; clear HO_4; clear BK199; clear BK206; clear BK207; clear HB; have HO_4 := n0_; have BK199 := n1_; have BK206 := n2_; have BK207 := n3_; have HB := n4_; clear n0_ n1_ n2_ n3_ n4_; (try clear hb); (try clear hb2); (try clear hk); (try clear hi)) | ((with_reducible refine gate_dst (N := 8) rfl ?_); (try (refine gate_guard (by rfl) ?_; dsimp only)); refine box_event ?hg (N := 8) ?hd (cs := #[.int .i64 0, .int .i64 0]) (t := 25) ?hr ?_; (case hd => rfl); (case hg => rfl); (case hr => first | (go_simp; done) | (go_simp; rfl)); intro gb211 hg w68 hbox hb; have BK211 := sd_ hbox; have GW211 := gw_ HB (e_ GE199 (e_ GE206 (e_ GE207 e0_))) hg; have GE211 := GW211; have NB199_211 := nb_ BK199 hg; have NB211_199 := sy_ NB199_211; have NB206_211 := nb_ BK206 hg; have NB211_206 := sy_ NB206_211; have NB207_211 := nb_ BK207 hg; have NB211_207 := sy_ NB207_211; replace HO_4 := sd_ (Kd.R_below (by (with_reducible repeat (first | apply Kd.R_alloc | apply Kd.R_drewN | apply Kd.R_drew)); exact HO_4.out) hb); replace BK199 := kb_ BK199 hb; replace BK206 := kb_ BK206 hb; replace BK207 := kb_ BK207 hb; replace HB := hb_ HB (e_ GE199 (e_ GE206 (e_ GE207 e0_))) hb; clear hb hbox hg; have hnb69 := NB211_199.out; have hnc69 := NB199_211.out; have hnb70 := NB211_206.out; have hnc70 := NB206_211.out; have hnb71 := NB211_207.out; have hnc71 := NB207_211.out; have hcz72_0 : w68.cell? ⟨gb211, 0, none⟩ = some (.int .i64 0) := (kc_ BK211.out 0).trans rfl; have hcz72_1 : w68.cell? ⟨gb211, 1, none⟩ = some (.int .i64 0) := (kc_ BK211.out 1).trans rfl; have hfz72_0 := kf_ BK211.out 0; have hfz72_1 := kf_ BK211.out 1))
         go_ret2
         exact ⟨_, by first | rfl | (simp [errW_none, errW_some] <;> rfl) | (simp [*, errW_none, errW_some] <;> rfl), by first | exact Kd.R_nil _ _ _ _ _ | exact Kd.N_nil _ _ _ _ _ | exact Kd.V_nil _ _ _ _ _ | exact Kd.Q_nil _ _ _ _ _ | exact Kd.S_nil _ _ _ _ _, by repeat (first | (with_reducible first | exact HB.out | apply ba_ | apply pd_ | apply d1_ | refine bs_ ?_ GE199.out | refine bs_ ?_ GE206.out | refine bs_ ?_ GE207.out | refine bs_ ?_ GE211.out) | exact HB.out)⟩
       ·replace c15 := bf_ c15
        subst c15
        have H1 : (some (([] : List (S23)), false)) = some (r1, r2) := by rw [if_neg (show ¬ (false = true) by decide)] at H; exact H
        clear H; have H := H1; clear H1
        simp only [Option.some.injEq, Prod.mk.injEq] at H
        obtain ⟨rfl, rfl⟩ := H
        have hcz73_0 : wr.cell? ⟨gb199, 0, none⟩ = some (.int .i64 x200000_2) := (kc_ BK199.out 0).trans rfl
        have hcz73_1 : wr.cell? ⟨gb199, 1, none⟩ = some (.int .i64 x200001_2) := (kc_ BK199.out 1).trans rfl
        have hfz73_0 := kf_ BK199.out 0
        have hfz73_1 := kf_ BK199.out 1
        go_wp2_with (first | ((with_reducible refine gate_callee (f := 45) rfl ?_); refine goesL_ (some 23) rfl rfl Tryz.func45 (by kernel_rfl) rfl #[.agg #[.int .i64 x200000_2, .int .i64 x200001_2]] rfl (by (try simp only [lm_, lq_, lx_]); first | done | rfl | (simp only [ld_, lt_]; rfl)) ?_; (with_reducible refine (dur_longestIn.calls k2 x200000_2 x200001_2 t201 t202 t203 t204 false _ ?side1 A13.out).mono ?_); (case side1 => first | (with_reducible exact hE) | exact sd_ (LaidE.below hE.out (bb_ HB.out (e_ GE199 e0_)))); rintro e w74 ⟨rfl, hb⟩; refine ⟨_, rfl, ?_⟩; replace HO_4 := sd_ (Kd.R_below (by (with_reducible repeat (first | apply Kd.R_alloc | apply Kd.R_drewN | apply Kd.R_drew)); exact HO_4.out) hb); replace BK199 := kb_ BK199 hb; replace HB := hb_ HB (e_ GE199 e0_) hb; (try clear hb); (try clear hb2); (try clear hk); (try clear hi)) | ((with_reducible refine gate_dst (N := 5) rfl ?_); (try (refine gate_guard (by rfl) ?_; dsimp only)); refine box_event ?hg (N := 5) ?hd (cs := #[.int .i64 0, .int .i64 0]) (t := 23) ?hr ?_; (case hd => rfl); (case hg => rfl); (case hr => first | (go_simp; done) | (go_simp; rfl)); intro gb206 hg w75 hbox hb; have BK206 := sd_ hbox; have GW206 := gw_ HB (e_ GE199 e0_) hg; have GE206 := GW206; have NB199_206 := nb_ BK199 hg; have NB206_199 := sy_ NB199_206; replace HO_4 := sd_ (Kd.R_below (Kd.R_elderB (by (with_reducible repeat (first | apply Kd.R_alloc | apply Kd.R_drewN | apply Kd.R_drew)); exact HO_4.out) gb206 (Nat.le_of_eq hg.symm)) hb); replace BK199 := kb_ BK199 hb; replace HB := hb_ HB (e_ GE199 e0_) hb; clear hb hbox hg) | ((with_reducible refine gate_dst (N := 6) rfl ?_); (try (refine gate_guard (by rfl) ?_; dsimp only)); refine box_event ?hg (N := 6) ?hd (cs := #[.int .i64 0, .int .i64 0]) (t := 25) ?hr ?_; (case hd => rfl); (case hg => rfl); (case hr => first | (go_simp; done) | (go_simp; rfl)); intro gb207 hg w76 hbox hb; have BK207 := sd_ hbox; have GW207 := gw_ HB (e_ GE199 (e_ GE206 e0_)) hg; have GE207 := GW207; have NB199_207 := nb_ BK199 hg; have NB207_199 := sy_ NB199_207; have NB206_207 := nb_ BK206 hg; have NB207_206 := sy_ NB206_207; replace HO_4 := sd_ (Kd.R_below (by (with_reducible repeat (first | apply Kd.R_alloc | apply Kd.R_drewN | apply Kd.R_drew)); exact HO_4.out) hb); replace BK199 := kb_ BK199 hb; replace BK206 := kb_ BK206 hb; replace HB := hb_ HB (e_ GE199 (e_ GE206 e0_)) hb; clear hb hbox hg; have hnb77 := NB206_199.out; have hnc77 := NB199_206.out; have hnb78 := NB206_207.out; have hnc78 := NB207_206.out; have hcz79_0 : w76.cell? ⟨gb206, 0, none⟩ = some (.int .i64 0) := (kc_ BK206.out 0).trans rfl; have hcz79_1 : w76.cell? ⟨gb206, 1, none⟩ = some (.int .i64 0) := (kc_ BK206.out 1).trans rfl; have hfz79_0 := kf_ BK206.out 0; have hfz79_1 := kf_ BK206.out 1; have hnb80 := NB207_199.out; have hnc80 := NB199_207.out; have hcz81_0 : w76.cell? ⟨gb207, 0, none⟩ = some (.int .i64 0) := (kc_ BK207.out 0).trans rfl; have hcz81_1 : w76.cell? ⟨gb207, 1, none⟩ = some (.int .i64 0) := (kc_ BK207.out 1).trans rfl; have hfz81_0 := kf_ BK207.out 0; have hfz81_1 := kf_ BK207.out 1; have hcz82_0 : w76.cell? ⟨gb199, 0, none⟩ = some (.int .i64 x200000_2) := (kc_ BK199.out 0).trans rfl; have hcz82_1 : w76.cell? ⟨gb199, 1, none⟩ = some (.int .i64 x200001_2) := (kc_ BK199.out 1).trans rfl; have hfz82_0 := kf_ BK199.out 0; have hfz82_1 := kf_ BK199.out 1) | ((with_reducible refine gate_callee (f := 46) rfl ?_); refine goesL_ (some 30) rfl rfl Tryz.func46 (by kernel_rfl) rfl #[.agg #[.int .i64 x200000_2, .int .i64 x200001_2], .agg #[.int .i64 t203, .int .i64 t204]] rfl (by (try simp only [lm_, lq_, lx_]); first | done | rfl | (simp only [ld_, lt_]; rfl)) ?_; (with_reducible refine (rat_Sub.calls k2 x200000_2 x200001_2 t203 t204 t208 t209 t210 _ A14.out).mono ?_); rintro e w83 ⟨rfl, hb⟩; refine ⟨_, rfl, ?_⟩; have n0_ := sd_ (Kd.R_below (by (with_reducible repeat (first | apply Kd.R_alloc | apply Kd.R_drewN | apply Kd.R_drew)); exact (Kd.R_mono (Kd.R_mono (Kd.R_far (p := ⟨gb207, 1, none⟩) (Kd.R_far (p := ⟨gb207, 0, none⟩) (Kd.R_far (p := ⟨gb206, 1, none⟩) (Kd.R_far (p := ⟨gb206, 0, none⟩) (Kd.R_types (Kd.R_mono HO_4.out (fun k_ hk => (⟨hk, hk.2⟩ : _ ∧ k_ ≠ gb206))) BK207.out (by decide)) (fun _ hk => hk.1.2) (.int .i64 t201)) (fun _ hk => hk.1.2) (.int .i64 t202)) (fun _ hk => hk.2) (.int .i64 t203)) (fun _ hk => hk.2) (.int .i64 t204)) (fun _ h_ => h_.1)) (fun _ h_ => h_.1))) hb); have n1_ := sd_ (blk_below (g := gb199) (o := .cells #[.int .i64 x200000_2, .int .i64 x200001_2] 25 (0, 0)) (by (with_reducible repeat first | apply kn_ | apply kd_ | apply ka_); refine blk_far ?_ NB199_207.out _; (with_reducible repeat first | apply kn_ | apply kd_ | apply ka_); refine blk_far ?_ NB199_207.out _; (with_reducible repeat first | apply kn_ | apply kd_ | apply ka_); refine blk_far ?_ NB199_206.out _; (with_reducible repeat first | apply kn_ | apply kd_ | apply ka_); refine blk_far ?_ NB199_206.out _; (with_reducible repeat first | apply kn_ | apply kd_ | apply ka_); exact BK199.out) hb); have n2_ := sd_ (blk_below (g := gb206) (o := .cells #[.int .i64 t201, .int .i64 t202] 23 (0, 0)) (by (with_reducible repeat first | apply kn_ | apply kd_ | apply ka_); refine blk_far ?_ NB206_207.out _; (with_reducible repeat first | apply kn_ | apply kd_ | apply ka_); refine blk_far ?_ NB206_207.out _; (with_reducible repeat first | apply kn_ | apply kd_ | apply ka_); refine blk_put (cs := #[.int .i64 t201, .int .i64 0]) ?_ 1 _ rfl; (with_reducible repeat first | apply kn_ | apply kd_ | apply ka_); refine blk_put (cs := #[.int .i64 0, .int .i64 0]) ?_ 0 _ rfl; (with_reducible repeat first | apply kn_ | apply kd_ | apply ka_); exact BK206.out) hb); have n3_ := sd_ (blk_below (g := gb207) (o := .cells #[.int .i64 t203, .int .i64 t204] 25 (0, 0)) (by (with_reducible repeat first | apply kn_ | apply kd_ | apply ka_); refine blk_put (cs := #[.int .i64 t203, .int .i64 0]) ?_ 1 _ rfl; (with_reducible repeat first | apply kn_ | apply kd_ | apply ka_); refine blk_put (cs := #[.int .i64 0, .int .i64 0]) ?_ 0 _ rfl; (with_reducible repeat first | apply kn_ | apply kd_ | apply ka_); refine blk_far ?_ NB207_206.out _; (with_reducible repeat first | apply kn_ | apply kd_ | apply ka_); refine blk_far ?_ NB207_206.out _; (with_reducible repeat first | apply kn_ | apply kd_ | apply ka_); exact BK207.out) hb); have n4_ := hb_ HB (e_ GE199 (e_ GE206 (e_ GE207 e0_))) hb; clear HO_4; clear BK199; clear BK206; clear BK207; clear HB; have HO_4 := n0_; have BK199 := n1_; have BK206 := n2_; have BK207 := n3_; have HB := n4_; clear n0_ n1_ n2_ n3_ n4_; (try clear hb); (try clear hb2); (try clear hk); (try clear hi)) | ((with_reducible refine gate_dst (N := 8) rfl ?_); (try (refine gate_guard (by rfl) ?_; dsimp only)); refine box_event ?hg (N := 8) ?hd (cs := #[.int .i64 0, .int .i64 0]) (t := 25) ?hr ?_; (case hd => rfl); (case hg => rfl); (case hr => first | (go_simp; done) | (go_simp; rfl)); intro gb211 hg w84 hbox hb; have BK211 := sd_ hbox; have GW211 := gw_ HB (e_ GE199 (e_ GE206 (e_ GE207 e0_))) hg; have GE211 := GW211; have NB199_211 := nb_ BK199 hg; have NB211_199 := sy_ NB199_211; have NB206_211 := nb_ BK206 hg; have NB211_206 := sy_ NB206_211; have NB207_211 := nb_ BK207 hg; have NB211_207 := sy_ NB207_211; replace HO_4 := sd_ (Kd.R_below (by (with_reducible repeat (first | apply Kd.R_alloc | apply Kd.R_drewN | apply Kd.R_drew)); exact HO_4.out) hb); replace BK199 := kb_ BK199 hb; replace BK206 := kb_ BK206 hb; replace BK207 := kb_ BK207 hb; replace HB := hb_ HB (e_ GE199 (e_ GE206 (e_ GE207 e0_))) hb; clear hb hbox hg; have hnb85 := NB211_199.out; have hnc85 := NB199_211.out; have hnb86 := NB211_206.out; have hnc86 := NB206_211.out; have hnb87 := NB211_207.out; have hnc87 := NB207_211.out; have hcz88_0 : w84.cell? ⟨gb211, 0, none⟩ = some (.int .i64 0) := (kc_ BK211.out 0).trans rfl; have hcz88_1 : w84.cell? ⟨gb211, 1, none⟩ = some (.int .i64 0) := (kc_ BK211.out 1).trans rfl; have hfz88_0 := kf_ BK211.out 0; have hfz88_1 := kf_ BK211.out 1))
        go_ret2
        exact ⟨_, by first | rfl | (simp [errW_none, errW_some] <;> rfl) | (simp [*, errW_none, errW_some] <;> rfl), by first | exact Kd.R_nil _ _ _ _ _ | exact Kd.N_nil _ _ _ _ _ | exact Kd.V_nil _ _ _ _ _ | exact Kd.Q_nil _ _ _ _ _ | exact Kd.S_nil _ _ _ _ _, by repeat (first | (with_reducible first | exact HB.out | apply ba_ | apply pd_ | apply d1_ | refine bs_ ?_ GE199.out | refine bs_ ?_ GE206.out | refine bs_ ?_ GE207.out | refine bs_ ?_ GE211.out) | exact HB.out)⟩
      ·rw [if_neg c12] at H
       have c12b0 : decide (0 < x200000_2) = false := df_ c12
       clear c12
       simp only [Option.some.injEq, Prod.mk.injEq] at H
       obtain ⟨rfl, rfl⟩ := H
       have hcz89_0 : wr.cell? ⟨gb199, 0, none⟩ = some (.int .i64 x200000_2) := (kc_ BK199.out 0).trans rfl
       have hcz89_1 : wr.cell? ⟨gb199, 1, none⟩ = some (.int .i64 x200001_2) := (kc_ BK199.out 1).trans rfl
       have hfz89_0 := kf_ BK199.out 0
       have hfz89_1 := kf_ BK199.out 1
       go_wp2
       go_ret2
       exact ⟨_, by first | rfl | (simp [errW_none, errW_some] <;> rfl) | (simp [*, errW_none, errW_some] <;> rfl), by (with_reducible repeat (first | apply Kd.R_alloc | apply Kd.R_drewN | apply Kd.R_drew)); exact HO_4.out, by repeat (first | (with_reducible first | exact HB.out | apply ba_ | apply pd_ | apply d1_ | refine bs_ ?_ GE199.out) | exact HB.out)⟩

/-! ### neumeref07_Same: function 14 -/
def neumeref07_Same.l0 : Nat → List (S23) → List (S23) → Int → Option (Bool)
 | 0, _, _, _ => none
 | k + 1, x0, x1, x5 => if x5 < (x0.length : Int) then (if 0 ≤ x5 then (if x5 < (x1.length : Int) then (if (!(((rd_T23 x0 x5).f0) == ((rd_T23 x1 x5).f0)) || (!(((rd_T23 x0 x5).f1) == ((rd_T23 x1 x5).f1)))) = true then (some false) else (neumeref07_Same.l0 k x0 x1 (wrap64 (x5 + 1)))) else (none)) else (none)) else (some true)
def neumeref07_Same.f (k : Nat) (l0 : List (S23)) (l1 : List (S23)) : Option (Bool) := if (l0.length : Int) = (l1.length : Int) then (neumeref07_Same.l0 k l0 l1 0) else (some false)
theorem neumeref07_Same.mono_l : ∀ k, (∀ y0 y1 y2, LeO (neumeref07_Same.l0 k y0 y1 y2) (neumeref07_Same.l0 (k + 1) y0 y1 y2))
 | 0 => fun _ _ _ r h => by simp [neumeref07_Same.l0] at h
 | k + 1 => by
  have ih0 := neumeref07_Same.mono_l k
  ·intro y0 y1 y2
   unfold neumeref07_Same.l0
   repeat' first
   | (with_reducible exact ih0 _ _ _)
   | (with_reducible exact LeO.refl _)
   | (with_reducible exact LeO.none _)
   | (with_reducible refine LeO.ite ?_ ?_)
   | (with_reducible refine LeO.bind ?_ (fun _ => ?_))
   | exact ih0 _ _ _
   | exact LeO.none _
   | refine LeO.ite ?_ ?_
   | refine LeO.bind ?_ (fun _ => ?_)
theorem neumeref07_Same.mono : ∀ a0 a1 k, LeO (neumeref07_Same.f k a0 a1) (neumeref07_Same.f (k + 1) a0 a1) := by
 intro a0 a1 k
 have ih0 := neumeref07_Same.mono_l k
 unfold neumeref07_Same.f
 repeat' first
   | (with_reducible exact ih0 _ _ _)
   | (with_reducible exact LeO.refl _)
   | (with_reducible exact LeO.none _)
   | (with_reducible refine LeO.ite ?_ ?_)
   | (with_reducible refine LeO.bind ?_ (fun _ => ?_))
   | exact ih0 _ _ _
   | exact LeO.none _
   | refine LeO.ite ?_ ?_
   | refine LeO.bind ?_ (fun _ => ?_)
set_option maxHeartbeats 8000000 in
set_option maxRecDepth 100000 in
theorem neumeref07_Same.calls (k : Nat) (A0 : Option Addr) (c0 : Nat) (l0 : List (S23)) (A1 : Option Addr) (c1 : Nat) (l1 : List (S23)) (r : Bool) (w : World) (hr0 : Kd.C k23 w A0 l0.length l0) (hc0 : l0.length ≤ c0) (hr1 : Kd.C k23 w A1 l1.length l1) (hc1 : l1.length ≤ c1) (h : neumeref07_Same.f k l0 l1 = some r) :
  Calls Tryz.prog 14 #[.slice A0 l0.length c0, .slice A1 l1.length c1] w fun e w' => e = .returned (.bool r) ∧ Drawn0 w w' := by
 have hu23 := Tryz.underlying23
 have HR0 := sd_ hr0
 have HC0 := sd_ hc0
 clear hr0 hc0
 have HR1 := sd_ hr1
 have HC1 := sd_ hc1
 clear hr1 hc1
 have H : (if (l0.length : Int) = (l1.length : Int) then (neumeref07_Same.l0 k l0 l1 0) else (some false)) = some r := h
 clear h
 by_cases c3 : (l0.length : Int) = (l1.length : Int)
 ·rw [if_pos c3] at H
  have c3b0 : ((l0.length : Int) == (l1.length : Int)) = true := beq_iff_eq.mpr c3
  have c3b1 : ((l0.length : Int) != (l1.length : Int)) = false := bne_eq_false_iff_eq.mpr c3
  have c3b2 : (l0.length == l1.length) = true := by first | simpa using c3 | (simp at c3 ⊢; omega)
  clear c3
  have H' := sd_ H
  clear H
  go_enter Tryz.func14, Tryz.ntmps14
  go_wp2
  repeat (go_quiet (fail); try go_wp2)
  go_loopg [5] k (fun kq v5 w' => ∃ (x5_1 : Int), v5 = .int .i64 x5_1 ∧ Aside0 (neumeref07_Same.l0 kq l0 l1 x5_1 = some r) ∧ Aside0 (kq ≤ k) ∧ Drawn0 w w')
  case atStart => exact ⟨(0), (by first | rfl | (simp; done) | (simp [*]; done) | (simp [bne]; done)), H', ⟨Nat.le_refl _⟩, by repeat (first | exact Drawn0.refl _ | apply Drawn0.step)⟩
  case round =>
   clear H'
   try clear c1; try clear p2; try clear c3; try clear c3b0; try clear c3b1; try clear c3b2
   obtain ⟨x5_1, rfl, HA, HK1, ⟨m1, rfl⟩⟩ := hrel
   cases gk with
   | zero => exact absurd HA.out (by simp [neumeref07_Same.l0])
   | succ k1 =>
    have H := HA.out
    clear HA
    simp only [neumeref07_Same.l0] at H
    by_cases c4 : x5_1 < (l0.length : Int)
    ·rw [if_pos c4] at H
     have c4b0 : decide (x5_1 < (l0.length : Int)) = true := dt_ c4
     clear c4
     by_cases c5 : 0 ≤ x5_1
     ·rw [if_pos c5] at H
      have c5b0 : decide (0 ≤ x5_1) = true := dt_ c5
      clear c5
      by_cases c6 : x5_1 < (l1.length : Int)
      ·rw [if_pos c6] at H
       have c6b0 : decide (x5_1 < (l1.length : Int)) = true := dt_ c6
       clear c6
       by_cases c7 : (!(((rd_T23 l0 x5_1).f0) == ((rd_T23 l1 x5_1).f0)) || (!(((rd_T23 l0 x5_1).f1) == ((rd_T23 l1 x5_1).f1)))) = true
       ·rw [if_pos c7] at H
        have c7b0 : (!(((rd_T23 l0 x5_1).f0) == ((rd_T23 l1 x5_1).f0)) || (!(((rd_T23 l0 x5_1).f1) == ((rd_T23 l1 x5_1).f1)))) = true := c7
        clear c7
        obtain rfl := Option.some.inj H
        have p215 : 0 ≤ (x5_1 : Int) := od_ (by first | (with_reducible assumption) | assumption)
        have q215 : x5_1 < (l0.length : Int) := od_ (by first | (with_reducible assumption) | assumption)
        obtain ⟨ad215, e215, hx215_0, hx215_1⟩ := at_T23 HR0.out x5_1 p215 q215
        cases e215
        replace p215 := eq_true p215
        replace q215 := eq_true q215
        have p216 : 0 ≤ (x5_1 : Int) := od_ (by first | (with_reducible assumption) | assumption)
        have q216 : x5_1 < (l1.length : Int) := od_ (by first | (with_reducible assumption) | assumption)
        obtain ⟨ad216, e216, hx216_0, hx216_1⟩ := at_T23 HR1.out x5_1 p216 q216
        cases e216
        replace p216 := eq_true p216
        replace q216 := eq_true q216
        go_wp2
        repeat (go_quiet (fail); try go_wp2)
        go_ret
        exact ⟨by first | rfl | (simp; done) | (simp [*]; done), by repeat (first | exact Drawn0.refl _ | apply Drawn0.step)⟩
       ·rw [if_neg c7] at H
        have c7b0 : (!(((rd_T23 l0 x5_1).f0) == ((rd_T23 l1 x5_1).f0)) || (!(((rd_T23 l0 x5_1).f1) == ((rd_T23 l1 x5_1).f1)))) = false := by simpa using c7
        clear c7
        have H' := sd_ H
        clear H
        have p215 : 0 ≤ (x5_1 : Int) := od_ (by first | (with_reducible assumption) | assumption)
        have q215 : x5_1 < (l0.length : Int) := od_ (by first | (with_reducible assumption) | assumption)
        obtain ⟨ad215, e215, hx215_0, hx215_1⟩ := at_T23 HR0.out x5_1 p215 q215
        cases e215
        replace p215 := eq_true p215
        replace q215 := eq_true q215
        have p216 : 0 ≤ (x5_1 : Int) := od_ (by first | (with_reducible assumption) | assumption)
        have q216 : x5_1 < (l1.length : Int) := od_ (by first | (with_reducible assumption) | assumption)
        obtain ⟨ad216, e216, hx216_0, hx216_1⟩ := at_T23 HR1.out x5_1 p216 q216
        cases e216
        replace p216 := eq_true p216
        replace q216 := eq_true q216
        go_wp2
        repeat (go_quiet (fail); try go_wp2)
        go_roundg k1
        case measure => have := HK1.out; omega
        case rel => exact ⟨(wrap64 (x5_1 + 1)), (by first | rfl | (simp; done) | (simp [*]; done) | (simp [bne]; done)), H', ⟨by have := HK1.out; omega⟩, by repeat (first | exact Drawn0.refl _ | apply Drawn0.step)⟩
      ·rw [if_neg c6] at H
       exact absurd H (by simp)
     ·rw [if_neg c5] at H
      exact absurd H (by simp)
    ·rw [if_neg c4] at H
     have c4b0 : decide (x5_1 < (l0.length : Int)) = false := df_ c4
     clear c4
     obtain rfl := Option.some.inj H
     go_wp2
     repeat (go_quiet (fail); try go_wp2)
     go_ret
     exact ⟨by first | rfl | (simp; done) | (simp [*]; done), by repeat (first | exact Drawn0.refl _ | apply Drawn0.step)⟩
 ·rw [if_neg c3] at H
  have c3b0 : ((l0.length : Int) == (l1.length : Int)) = false := beq_eq_false_iff_ne.mpr c3
  have c3b1 : ((l0.length : Int) != (l1.length : Int)) = true := bne_iff_ne.mpr c3
  have c3b2 : (l0.length == l1.length) = false := by first | simpa using c3 | (simp at c3 ⊢; omega)
  obtain rfl := Option.some.inj H
  go_enter Tryz.func14, Tryz.ntmps14
  go_wp2
  repeat (go_quiet (fail); try go_wp2)
  go_ret
  exact ⟨by first | rfl | (simp; done) | (simp [*]; done), by repeat (first | exact Drawn0.refl _ | apply Drawn0.step)⟩

/-! ### strings_Repeat: function 50 -/
def strings_Repeat.f (a0 : ByteArray) (a1 : Int) : Option ByteArray := if 0 ≤ a1 then (if a1 ≤ 9223372036854775807 then (if a0.size * a1.toNat ≤ 140737488355328 then some ⟨(Lib.repeatL a0.data.toList a1.toNat).toArray⟩ else none) else none) else none
theorem strings_Repeat.calls (a0 : ByteArray) (a1 : Int) (r : ByteArray) (w : World) (h : strings_Repeat.f a0 a1 = some r) :
  Calls Tryz.prog 50 #[.string a0, .int .i64 a1] w fun e w' => e = .returned (.string r) ∧ Below w.heap.size w w' := by
 unfold strings_Repeat.f at h
 split at h
 ·split at h
  ·split at h
   ·rename_i h1 h2 h3
    obtain rfl := Option.some.inj h
    have := Tryz.strings_Repeat a0 a1.toNat w (by omega) h3
    rw [Int.toNat_of_nonneg h1] at this
    exact this
   ·cases h
  ·cases h
 ·cases h

/-! ### dur_Name: function 17 -/
structure Nm0 (w W : World) (g1 : Nat) (a0 a1 : Int) : Prop where
 bel : Below w.heap.size w W
 box : W.heap[g1]? = some (.cells #[.int .i64 a0, .int .i64 a1] 23 (0, 0))
theorem Nm0.c0 {w W : World} {g1 : Nat} {a0 a1 : Int} (h : Nm0 w W g1 a0 a1) : W.cell? ⟨g1, 0, none⟩ = some (.int .i64 a0) := (kc_ h.box 0).trans rfl
theorem Nm0.c1 {w W : World} {g1 : Nat} {a0 a1 : Int} (h : Nm0 w W g1 a0 a1) : W.cell? ⟨g1, 1, none⟩ = some (.int .i64 a1) := (kc_ h.box 1).trans rfl
theorem Nm0.step {w W W' : World} {g1 : Nat} {a0 a1 : Int} (h : Nm0 w W g1 a0 a1) (hb : Below W.heap.size W W') : Nm0 w W' g1 a0 a1 := ⟨bt_ h.bel hb, blk_below h.box hb⟩
theorem Nm0.drew {w W : World} {g1 : Nat} {a0 a1 : Int} (h : Nm0 w W g1 a0 a1) : Nm0 w W.drew g1 a0 a1 := ⟨d1_ h.bel, kd_ h.box⟩
structure NmB (w W : World) (g1 : Nat) (a0 a1 : Int) (ad : Addr) (s : ByteArray) : Prop where
 bs : Nm0 w W g1 a0 a1
 el : W.cell? ad = some (.string s)
theorem NmB.c0 {w W : World} {g1 : Nat} {a0 a1 : Int} {ad : Addr} {s : ByteArray} (h : NmB w W g1 a0 a1 ad s) : W.cell? ⟨g1, 0, none⟩ = some (.int .i64 a0) := h.bs.c0
theorem NmB.c1 {w W : World} {g1 : Nat} {a0 a1 : Int} {ad : Addr} {s : ByteArray} (h : NmB w W g1 a0 a1 ad s) : W.cell? ⟨g1, 1, none⟩ = some (.int .i64 a1) := h.bs.c1
theorem NmB.step {w W W' : World} {g1 : Nat} {a0 a1 : Int} {ad : Addr} {s : ByteArray} (h : NmB w W g1 a0 a1 ad s) (hb : Below W.heap.size W W') : NmB w W' g1 a0 a1 ad s := ⟨h.bs.step hb, pw_cell_below hb h.el⟩
theorem NmB.start {w W W' : World} {g1 : Nat} {a0 a1 : Int} {ad : Addr} {s : ByteArray} (h : Nm0 w W g1 a0 a1) (hb : Below W.heap.size W W') (hx : W'.cell? ad = some (.string s)) : NmB w W' g1 a0 a1 ad s := ⟨h.step hb, hx⟩
set_option maxHeartbeats 4000000 in
set_option maxRecDepth 100000 in
theorem durname_no (a0 a1 : Int) (w : World) (AC : Aside0 (dur_Check.f a0 a1 = some false)) :
  Calls Tryz.prog 17 #[.agg #[.int .i64 a0, .int .i64 a1]] w fun e w' => e = .returned (.string ⟨#[]⟩) ∧ Below w.heap.size w w' := by
 go_enter Tryz.func17, Tryz.ntmps17
 go_wp2_with (first | ((with_reducible refine gate_dst (N := 1) rfl ?_); refine box_event ?hg (N := 1) ?hd (cs := #[.int .i64 a0, .int .i64 a1]) (t := 23) ?hr ?_; (case hd => rfl); (case hg => rfl); (case hr => first | (go_simp; done) | (go_simp; rfl)); intro g1 hg w6 hbox hb; have HS := sd_ (Nm0.mk hb hbox); have hz0 := HS.out.c0; have hz1 := HS.out.c1; clear hb hbox hg) | ((with_reducible refine gate_callee (f := 15) rfl ?_); refine goesL_ (some 4) rfl rfl Tryz.func15 (by kernel_rfl) rfl #[.agg #[.int .i64 a0, .int .i64 a1]] rfl (by (try simp only [lm_, lq_, lx_]); first | done | rfl | (simp only [ld_, lt_]; rfl)) ?_; (with_reducible refine (dur_Check.calls a0 a1 false _ AC.out).mono ?_); rintro e w7 ⟨rfl, hb⟩; refine ⟨_, rfl, ?_⟩; have HS' := sd_ (HS.out.step hb); clear HS hb hz0 hz1; have HS := HS'; clear HS'))
 go_ret
 exact ⟨rfl, HS.out.bel⟩
set_option maxHeartbeats 8000000 in
set_option maxRecDepth 100000 in
theorem durname_yes (a0 a1 : Int) (L : List ByteArray) (t : ByteArray) (w : World) (AC : Aside0 (dur_Check.f a0 a1 = some true)) (AN : Aside0 (dur_names.f = some L)) (AR : Aside0 (strings_Repeat.f (⟨#[46]⟩ : ByteArray) a1 = some t)) (q0 : 0 ≤ a0 + 1) (q1 : a0 + 1 < (L.length : Int)) (q2 : a0 ≤ 1000) (hs : (rdOf ByteArray.empty L (a0 + 1)).size + t.size ≤ 9223372036854775807) :
  Calls Tryz.prog 17 #[.agg #[.int .i64 a0, .int .i64 a1]] w fun e w' => e = .returned (.string (rdOf ByteArray.empty L (a0 + 1) ++ t)) ∧ Below w.heap.size w w' := by
 go_enter Tryz.func17, Tryz.ntmps17
 go_upto_region 3 with (first | ((with_reducible refine gate_dst (N := 1) rfl ?_); refine box_event ?hg (N := 1) ?hd (cs := #[.int .i64 a0, .int .i64 a1]) (t := 23) ?hr ?_; (case hd => rfl); (case hg => rfl); (case hr => first | (go_simp; done) | (go_simp; rfl)); intro g1 hg w6 hbox hb; have HS := sd_ (Nm0.mk hb hbox); have hz0 := HS.out.c0; have hz1 := HS.out.c1; clear hb hbox hg) | ((with_reducible refine gate_callee (f := 15) rfl ?_); refine goesL_ (some 4) rfl rfl Tryz.func15 (by kernel_rfl) rfl #[.agg #[.int .i64 a0, .int .i64 a1]] rfl (by (try simp only [lm_, lq_, lx_]); first | done | rfl | (simp only [ld_, lt_]; rfl)) ?_; (with_reducible refine (dur_Check.calls a0 a1 true _ AC.out).mono ?_); rintro e w7 ⟨rfl, hb⟩; refine ⟨_, rfl, ?_⟩; have HS' := sd_ (HS.out.step hb); clear HS hb hz0 hz1; have HS := HS'; clear HS'))
 generalize w7 = W1 at HS ⊢
 obtain ⟨j, hj⟩ : ∃ j, j = a0 + 1 := ⟨_, rfl⟩
 have p0 : 0 ≤ j := by omega
 have p1 : j < (L.length : Int) := by omega
 have hjw : IntKind.i64.wrap (a0 + 1) = j := by rw [hj, i64_w]; unfold wrap64; omega
 rw [← hj] at hs
 have HJ := sd_ hj
 have hs2 : (9223372036854775807 < (rdOf ByteArray.empty L j).size + t.size) = False := eq_false (Nat.not_lt.2 hs)
 clear hj q0 q1 q2 hs
 have HS0 := sd_ HS.out.drew
 clear HS
 have HS := HS0
 refine start_ (n := 11) (S := fun w' => w'.cell? ⟨g1, 0, none⟩ = some (.int .i64 a0) ∧ w'.cell? ⟨g1, 1, none⟩ = some (.int .i64 a1)) (ds := []) #[false, false, false, false, false, false, false, false, false, false, false] (by kernel_rfl) rfl rfl ⟨HS0.out.c0, HS0.out.c1⟩ (fun hHeld => ?_)
 generalize W1.drew = W2 at *
 refine pure_ (i := 1) (N := some 7) (v := ?_) (a' := ?_) #[false, true, false, false, false, false, false, false, false, false, false] rfl rfl (by kernel_rfl) (fun _ _ _ h => h) (Or.inl ⟨by rfl, ?_⟩) ?_ ?_
 rotate_left; (intro w'; go_simp; with_reducible rfl); rotate_left; (simp only [Act.put, ls_, lz_, lc_, i64_w, i32_w]; rfl)
 refine pure_ (i := 6) (N := some 12) (v := ?_) (a' := ?_) #[false, true, false, false, false, false, true, false, false, false, false] rfl rfl (by kernel_rfl) (fun _ _ _ h => h) (Or.inl ⟨by rfl, ?_⟩) ?_ ?_
 rotate_left; (intro w'; go_simp; with_reducible rfl); rotate_left; (simp only [Act.put, ls_, lz_, lc_, i64_w, i32_w]; rfl)
 refine take_ (i := 2) (N := some 8) (v := ?_) (a' := ?_) #[false, true, true, false, false, false, true, false, false, false, false] rfl rfl (by kernel_rfl) (fun _ _ _ h => h) (Or.inl ⟨by rfl, ?_⟩) hHeld ?_ ?_
 rotate_left
 ·rintro w' ⟨s0, s1⟩
  go_simp
  with_reducible rfl
 rotate_left
 ·simp only [Act.put, ls_, lz_, lc_, i64_w, i32_w]
  rfl
 refine pure_ (i := 3) (N := some 9) (v := ?_) (a' := ?_) #[false, true, true, true, false, false, true, false, false, false, false] rfl rfl (by kernel_rfl) (fun _ _ _ h => h) (Or.inl ⟨by rfl, ?_⟩) ?_ ?_
 rotate_left; (intro w'; go_simp; with_reducible rfl); rotate_left; (simp only [Act.put, ls_, lz_, lc_, i64_w, i32_w]; rfl)
 refine take_ (i := 7) (N := some 13) (v := ?_) (a' := ?_) #[false, true, true, true, false, false, true, true, false, false, false] rfl rfl (by kernel_rfl) (fun _ _ _ h => h) (Or.inl ⟨by rfl, ?_⟩) hHeld ?_ ?_
 rotate_left
 ·rintro w' ⟨s0, s1⟩
  go_simp
  with_reducible rfl
 rotate_left
 ·simp only [Act.put, ls_, lz_, lc_, i64_w, i32_w]
  rfl
 refine one_ (i := 0) (N := some 6) #[true, true, true, true, false, false, true, true, false, false, false] rfl rfl (by kernel_rfl) (by decide) (fun K hK => ?_)
 refine goes_ Tryz.func42 (by kernel_rfl) rfl #[] (by rfl) rfl rfl (by first | done | rfl | simp) ?_
 with_reducible refine (dur_names.calls L _ AN.out).mono ?_
 rintro e w14 ⟨v0, rfl, ho0, hb⟩
 refine ⟨_, rfl, ?_⟩
 obtain ⟨Ao, co, eo⟩ := Kd.R_slice ho0
 subst eo
 obtain ⟨ad, e1, hx⟩ := Kd.at_string (Kd.R_reads' ho0).2.2 j p0 p1
 cases e1
 have HS' := sd_ (NmB.start HS.out hb hx)
 clear HS hb hx ho0
 have HS := HS'
 clear HS'
 replace p0 := eq_true p0
 replace p1 := eq_true p1
 refine hK.out _ _ ⟨HS.out.c0, HS.out.c1⟩ (fun hHeld => ?_)
 clear hK K
 refine norm_ (a' := ?_) ?_ ?_
 rotate_left
 ·show Act.put _ (some 6) _ = _
  simp only [Act.put, ls_, lz_, lc_, i64_w, i32_w]
  rfl
 refine pure_ (i := 4) (N := some 10) (v := ?_) (a' := ?_) #[true, true, true, true, true, false, true, true, false, false, false] rfl rfl (by kernel_rfl) (fun _ _ _ h => h) (Or.inl ⟨by rfl, ?_⟩) ?_ ?_
 rotate_left; (intro w'; go_simp; with_reducible rfl); rotate_left; (simp only [Act.put, ls_, lz_, lc_, i64_w, i32_w]; rfl)
 refine join_ (σ := Unit) 2 #[true, true, true, true, true, true, true, true, true, false, false] (fun (_s : Unit) => [(11, .string (rdOf ByteArray.empty L j)), (14, .string t)]) (fun _s w' => NmB w w' g1 a0 a1 (ad.add j.toNat) (rdOf ByteArray.empty L j)) ?_ ?_
 rotate_left
 ·intro hCont
  refine two_ (i := 5) (j := 8) (Ni := some 11) (Nj := some 14) #[true, true, true, true, true, true, true, true, false, false, false] #[true, true, true, true, true, false, true, true, true, false, false] rfl rfl rfl rfl (by kernel_rfl) (by decide) (by decide) (fun K hK => ?_) (fun K hK => ?_)
  ·skip
   have hel := HS.out.el
   refine value_ (w1 := ?_) (v := ?_) (by rfl) rfl ?_ ?_
   rotate_left 2
   ·go_simp
    constructor
    ·rfl
    ·rfl
   clear hel
   refine hK.out _ _ ⟨HS.out.c0, HS.out.c1⟩ (fun hHeld => ?_)
   clear hK K
   refine norm_ (a' := ?_) ?_ ?_
   rotate_left
   ·show Act.put _ (some 11) _ = _
    simp only [Act.put, ls_, lz_, lc_, i64_w, i32_w]
    rfl
   refine one_ (i := 8) (N := some 14) #[true, true, true, true, true, true, true, true, true, false, false] rfl rfl (by kernel_rfl) (by decide) (fun K hK => ?_)
   refine goes_ Tryz.func50 (by kernel_rfl) rfl #[.string (⟨#[46]⟩ : ByteArray), .int .i64 a1] (by rfl) rfl rfl (by first | done | rfl | (simp only [lm_, lq_, lx_]; rfl)) ?_
   with_reducible refine (strings_Repeat.calls (⟨#[46]⟩ : ByteArray) a1 t _ AR.out).mono ?_
   rintro e w15 ⟨rfl, hb⟩
   refine ⟨_, rfl, ?_⟩
   have HS' := sd_ (HS.out.step hb)
   clear HS hb
   have HS := HS'
   clear HS'
   refine hK.out _ _ ⟨HS.out.c0, HS.out.c1⟩ (fun hHeld => ?_)
   clear hK K
   refine norm_ (a' := ?_) ?_ ?_
   rotate_left
   ·show Act.put _ (some 14) _ = _
    simp only [Act.put, ls_, lz_, lc_, i64_w, i32_w]
    rfl
   exact norm_ (by simp only [putAll, Act.put, ls_, lz_, lc_]) (hCont () _ HS.out)
  ·skip
   refine goes_ Tryz.func50 (by kernel_rfl) rfl #[.string (⟨#[46]⟩ : ByteArray), .int .i64 a1] (by rfl) rfl rfl (by first | done | rfl | (simp only [lm_, lq_, lx_]; rfl)) ?_
   with_reducible refine (strings_Repeat.calls (⟨#[46]⟩ : ByteArray) a1 t _ AR.out).mono ?_
   rintro e w15 ⟨rfl, hb⟩
   refine ⟨_, rfl, ?_⟩
   have HS' := sd_ (HS.out.step hb)
   clear HS hb
   have HS := HS'
   clear HS'
   refine hK.out _ _ ⟨HS.out.c0, HS.out.c1⟩ (fun hHeld => ?_)
   clear hK K
   refine norm_ (a' := ?_) ?_ ?_
   rotate_left
   ·show Act.put _ (some 14) _ = _
    simp only [Act.put, ls_, lz_, lc_, i64_w, i32_w]
    rfl
   refine one_ (i := 5) (N := some 11) #[true, true, true, true, true, true, true, true, true, false, false] rfl rfl (by kernel_rfl) (by decide) (fun K hK => ?_)
   have hel := HS.out.el
   refine value_ (w1 := ?_) (v := ?_) (by rfl) rfl ?_ ?_
   rotate_left 2
   ·go_simp
    constructor
    ·rfl
    ·rfl
   clear hel
   refine hK.out _ _ ⟨HS.out.c0, HS.out.c1⟩ (fun hHeld => ?_)
   clear hK K
   refine norm_ (a' := ?_) ?_ ?_
   rotate_left
   ·show Act.put _ (some 11) _ = _
    simp only [Act.put, ls_, lz_, lc_, i64_w, i32_w]
    rfl
   exact norm_ (by simp only [putAll, Act.put, ls_, lz_, lc_]) (hCont () _ HS.out)
 rintro _ W3 hs
 have HS := sd_ hs
 clear hs
 have hHeld := (⟨HS.out.c0, HS.out.c1⟩ : _ ∧ _)
 refine norm_ (a' := ?_) ?_ ?_
 rotate_left
 ·simp only [putAll, Act.put, ls_, lz_, lc_]
  rfl
 refine pure_ (i := 9) (N := some 15) (v := ?_) (a' := ?_) #[true, true, true, true, true, true, true, true, true, true, false] rfl rfl (by kernel_rfl) (fun _ _ _ h => h) (Or.inl ⟨by rfl, ?_⟩) ?_ ?_
 rotate_left; (intro w'; go_simp; with_reducible rfl); rotate_left; (simp only [Act.put, ls_, lz_, lc_, i64_w, i32_w]; rfl)
 refine pure_ (i := 10) (N := some 2) (v := ?_) (a' := ?_) #[true, true, true, true, true, true, true, true, true, true, true] rfl rfl (by kernel_rfl) (fun _ _ _ h => h) (Or.inl ⟨by rfl, ?_⟩) ?_ ?_
 rotate_left; (intro w'; go_simp; with_reducible rfl); rotate_left; (simp only [Act.put, ls_, lz_, lc_, i64_w, i32_w]; rfl)
 refine done_ (by kernel_rfl) ?_

 go_wp2
 go_ret
 exact ⟨by rw [← HJ.out]; rfl, HS.out.bs.bel⟩
def dur_Name.f (a0 a1 : Int) : Option ByteArray := (dur_Check.f a0 a1).bind fun c => if c = true then (dur_names.f.bind fun L => (strings_Repeat.f (⟨#[46]⟩ : ByteArray) a1).bind fun t => if 0 ≤ a0 + 1 ∧ a0 + 1 < (L.length : Int) ∧ a0 ≤ 1000 ∧ (rdOf ByteArray.empty L (a0 + 1)).size + t.size ≤ 9223372036854775807 then some (rdOf ByteArray.empty L (a0 + 1) ++ t) else none) else some ⟨#[]⟩
theorem dur_Name.calls (a0 a1 : Int) (r : ByteArray) (w : World) (h : dur_Name.f a0 a1 = some r) :
  Calls Tryz.prog 17 #[.agg #[.int .i64 a0, .int .i64 a1]] w fun e w' => e = .returned (.string r) ∧ Below w.heap.size w w' := by
 unfold dur_Name.f at h
 obtain ⟨c, hc, h⟩ := Option.bind_eq_some_iff.1 h
 cases c with
 | false =>
  rw [if_neg (by simp)] at h
  obtain rfl := Option.some.inj h
  exact durname_no a0 a1 w ⟨hc⟩
 | true =>
  rw [if_pos rfl] at h
  obtain ⟨L, hL, h⟩ := Option.bind_eq_some_iff.1 h
  obtain ⟨t, ht, h⟩ := Option.bind_eq_some_iff.1 h
  split at h
  ·rename_i q
   obtain rfl := Option.some.inj h
   exact durname_yes a0 a1 L t w ⟨hc⟩ ⟨hL⟩ ⟨ht⟩ q.1 q.2.1 q.2.2.1 q.2.2.2
  ·cases h

/-! ### dur_Head: function 19 -/
def dur_Head.f (a0_0 : Int) (a0_1 : Int) : Option (Int) := (dur_Check.f a0_0 a0_1).bind fun t218 => (if t218 = true then (some (mn 4 (wrap64 (2 + a0_0)))) else (some 0))
set_option maxHeartbeats 8000000 in
set_option maxRecDepth 100000 in
theorem dur_Head.calls (a0_0 : Int) (a0_1 : Int) (r : Int) (w : World) (h : dur_Head.f a0_0 a0_1 = some r) :
  Calls Tryz.prog 19 #[.agg #[.int .i64 a0_0, .int .i64 a0_1]] w fun e w' => e = .returned (.int .i64 r) ∧ Below w.heap.size w w' := by
 have hu23 := Tryz.underlying23
 have HB := sd_ (Below.refl w.heap.size w)
 have H : ((dur_Check.f a0_0 a0_1).bind fun t218 => (if t218 = true then (some (mn 4 (wrap64 (2 + a0_0)))) else (some 0))) = some r := h
 clear h
 replace H := ob_ H
 obtain ⟨t218, A20, H⟩ := H
 replace H : (if t218 = true then (some (mn 4 (wrap64 (2 + a0_0)))) else (some 0)) = some r := H
 have A2 := sd_ A20
 clear A20
 by_cases c3 : t218 = true
 ·subst c3
  have H1 : (some (mn 4 (wrap64 (2 + a0_0)))) = some r := by rw [if_pos rfl] at H; exact H
  clear H; have H := H1; clear H1
  obtain ⟨ji4, hji4⟩ : ∃ j_ : Int, (mn 4 (wrap64 (2 + a0_0))) = j_ := ⟨_, rfl⟩
  replace H : (some ji4) = some r := by first | (rw [hji4] at H; exact H) | (simp only [hji4] at H ⊢; exact H)
  (try rw [hji4] at A2)
  (try (have hji4h : ji4 ≤ 4 := by (rw [← hji4]; unfold mn; (repeat' split) <;> omega)))
  (try (have hji4g : ji4 ≤ 64 := by omega))
  have hji4_ : (if (wrap64 (2 + a0_0)) < 4 then (wrap64 (2 + a0_0)) else 4) = ji4 := hji4
  obtain rfl := Option.some.inj H
  go_enter Tryz.func19, Tryz.ntmps19
  go_wp2_with (first | ((with_reducible refine gate_dst (N := 1) rfl ?_); refine box_event ?hg (N := 1) ?hd (cs := #[.int .i64 a0_0, .int .i64 a0_1]) (t := 23) ?hr ?_; (case hd => rfl); (case hg => rfl); (case hr => first | (go_simp; done) | (go_simp; rfl)); intro gb217 hg w5 hbox hb; have BK217 := sd_ hbox; have GW217 := gw_ HB e0_ hg; have GE217 := GW217; replace HB := hb_ HB e0_ hb; clear hb hbox hg; have hcz6_0 : w5.cell? ⟨gb217, 0, none⟩ = some (.int .i64 a0_0) := (kc_ BK217.out 0).trans rfl; have hcz6_1 : w5.cell? ⟨gb217, 1, none⟩ = some (.int .i64 a0_1) := (kc_ BK217.out 1).trans rfl; have hfz6_0 := kf_ BK217.out 0; have hfz6_1 := kf_ BK217.out 1) | ((with_reducible refine gate_callee (f := 15) rfl ?_); refine goesL_ (some 4) rfl rfl Tryz.func15 (by kernel_rfl) rfl #[.agg #[.int .i64 a0_0, .int .i64 a0_1]] rfl (by (try simp only [lm_, lq_, lx_]); first | done | rfl | (simp only [ld_, lt_]; rfl)) ?_; (with_reducible refine (dur_Check.calls a0_0 a0_1 true _ A2.out).mono ?_); rintro e w7 ⟨rfl, hb⟩; refine ⟨_, rfl, ?_⟩; replace BK217 := kb_ BK217 hb; replace HB := hb_ HB (e_ GE217 e0_) hb; (try clear hb); (try clear hb2); (try clear hk); (try clear hi); have hcz8_0 : w7.cell? ⟨gb217, 0, none⟩ = some (.int .i64 a0_0) := (kc_ BK217.out 0).trans rfl; have hcz8_1 : w7.cell? ⟨gb217, 1, none⟩ = some (.int .i64 a0_1) := (kc_ BK217.out 1).trans rfl; have hfz8_0 := kf_ BK217.out 0; have hfz8_1 := kf_ BK217.out 1))
  go_ret
  exact ⟨by first | rfl | (simp [errW_none, errW_some] <;> rfl) | (simp only [← hji4]; first | rfl | (simp [errW_none, errW_some] <;> rfl)) | (simp [*, errW_none, errW_some] <;> rfl), by repeat (first | (with_reducible first | exact HB.out | apply ba_ | apply pd_ | apply d1_ | refine bs_ ?_ GE217.out) | exact HB.out)⟩
 ·replace c3 := bf_ c3
  subst c3
  have H1 : (some 0) = some r := by rw [if_neg (show ¬ (false = true) by decide)] at H; exact H
  clear H; have H := H1; clear H1
  obtain rfl := Option.some.inj H
  go_enter Tryz.func19, Tryz.ntmps19
  go_wp2_with (first | ((with_reducible refine gate_dst (N := 1) rfl ?_); refine box_event ?hg (N := 1) ?hd (cs := #[.int .i64 a0_0, .int .i64 a0_1]) (t := 23) ?hr ?_; (case hd => rfl); (case hg => rfl); (case hr => first | (go_simp; done) | (go_simp; rfl)); intro gb217 hg w9 hbox hb; have BK217 := sd_ hbox; have GW217 := gw_ HB e0_ hg; have GE217 := GW217; replace HB := hb_ HB e0_ hb; clear hb hbox hg; have hcz10_0 : w9.cell? ⟨gb217, 0, none⟩ = some (.int .i64 a0_0) := (kc_ BK217.out 0).trans rfl; have hcz10_1 : w9.cell? ⟨gb217, 1, none⟩ = some (.int .i64 a0_1) := (kc_ BK217.out 1).trans rfl; have hfz10_0 := kf_ BK217.out 0; have hfz10_1 := kf_ BK217.out 1) | ((with_reducible refine gate_callee (f := 15) rfl ?_); refine goesL_ (some 4) rfl rfl Tryz.func15 (by kernel_rfl) rfl #[.agg #[.int .i64 a0_0, .int .i64 a0_1]] rfl (by (try simp only [lm_, lq_, lx_]); first | done | rfl | (simp only [ld_, lt_]; rfl)) ?_; (with_reducible refine (dur_Check.calls a0_0 a0_1 false _ A2.out).mono ?_); rintro e w11 ⟨rfl, hb⟩; refine ⟨_, rfl, ?_⟩; replace BK217 := kb_ BK217 hb; replace HB := hb_ HB (e_ GE217 e0_) hb; (try clear hb); (try clear hb2); (try clear hk); (try clear hi)))
  go_ret
  exact ⟨by first | rfl | (simp [errW_none, errW_some] <;> rfl) | (simp [*, errW_none, errW_some] <;> rfl), by repeat (first | (with_reducible first | exact HB.out | apply ba_ | apply pd_ | apply d1_ | refine bs_ ?_ GE217.out) | exact HB.out)⟩

/-! ### dur_Rest: function 21 -/
def dur_Rest.f (a0_0 : Int) (a0_1 : Int) : Option (Int) := (dur_Check.f a0_0 a0_1).bind fun t220 => (if t220 = true then (some (wrap64 (6 + a0_0))) else (some 0))
set_option maxHeartbeats 8000000 in
set_option maxRecDepth 100000 in
theorem dur_Rest.calls (a0_0 : Int) (a0_1 : Int) (r : Int) (w : World) (h : dur_Rest.f a0_0 a0_1 = some r) :
  Calls Tryz.prog 21 #[.agg #[.int .i64 a0_0, .int .i64 a0_1]] w fun e w' => e = .returned (.int .i64 r) ∧ Below w.heap.size w w' := by
 have hu23 := Tryz.underlying23
 have HB := sd_ (Below.refl w.heap.size w)
 have H : ((dur_Check.f a0_0 a0_1).bind fun t220 => (if t220 = true then (some (wrap64 (6 + a0_0))) else (some 0))) = some r := h
 clear h
 replace H := ob_ H
 obtain ⟨t220, A20, H⟩ := H
 replace H : (if t220 = true then (some (wrap64 (6 + a0_0))) else (some 0)) = some r := H
 have A2 := sd_ A20
 clear A20
 by_cases c3 : t220 = true
 ·subst c3
  have H1 : (some (wrap64 (6 + a0_0))) = some r := by rw [if_pos rfl] at H; exact H
  clear H; have H := H1; clear H1
  obtain rfl := Option.some.inj H
  go_enter Tryz.func21, Tryz.ntmps21
  go_wp2_with (first | ((with_reducible refine gate_dst (N := 1) rfl ?_); refine box_event ?hg (N := 1) ?hd (cs := #[.int .i64 a0_0, .int .i64 a0_1]) (t := 23) ?hr ?_; (case hd => rfl); (case hg => rfl); (case hr => first | (go_simp; done) | (go_simp; rfl)); intro gb219 hg w4 hbox hb; have BK219 := sd_ hbox; have GW219 := gw_ HB e0_ hg; have GE219 := GW219; replace HB := hb_ HB e0_ hb; clear hb hbox hg; have hcz5_0 : w4.cell? ⟨gb219, 0, none⟩ = some (.int .i64 a0_0) := (kc_ BK219.out 0).trans rfl; have hcz5_1 : w4.cell? ⟨gb219, 1, none⟩ = some (.int .i64 a0_1) := (kc_ BK219.out 1).trans rfl; have hfz5_0 := kf_ BK219.out 0; have hfz5_1 := kf_ BK219.out 1) | ((with_reducible refine gate_callee (f := 15) rfl ?_); refine goesL_ (some 4) rfl rfl Tryz.func15 (by kernel_rfl) rfl #[.agg #[.int .i64 a0_0, .int .i64 a0_1]] rfl (by (try simp only [lm_, lq_, lx_]); first | done | rfl | (simp only [ld_, lt_]; rfl)) ?_; (with_reducible refine (dur_Check.calls a0_0 a0_1 true _ A2.out).mono ?_); rintro e w6 ⟨rfl, hb⟩; refine ⟨_, rfl, ?_⟩; replace BK219 := kb_ BK219 hb; replace HB := hb_ HB (e_ GE219 e0_) hb; (try clear hb); (try clear hb2); (try clear hk); (try clear hi); have hcz7_0 : w6.cell? ⟨gb219, 0, none⟩ = some (.int .i64 a0_0) := (kc_ BK219.out 0).trans rfl; have hcz7_1 : w6.cell? ⟨gb219, 1, none⟩ = some (.int .i64 a0_1) := (kc_ BK219.out 1).trans rfl; have hfz7_0 := kf_ BK219.out 0; have hfz7_1 := kf_ BK219.out 1))
  go_ret
  exact ⟨by first | rfl | (simp [errW_none, errW_some] <;> rfl) | (simp [*, errW_none, errW_some] <;> rfl), by repeat (first | (with_reducible first | exact HB.out | apply ba_ | apply pd_ | apply d1_ | refine bs_ ?_ GE219.out) | exact HB.out)⟩
 ·replace c3 := bf_ c3
  subst c3
  have H1 : (some 0) = some r := by rw [if_neg (show ¬ (false = true) by decide)] at H; exact H
  clear H; have H := H1; clear H1
  obtain rfl := Option.some.inj H
  go_enter Tryz.func21, Tryz.ntmps21
  go_wp2_with (first | ((with_reducible refine gate_dst (N := 1) rfl ?_); refine box_event ?hg (N := 1) ?hd (cs := #[.int .i64 a0_0, .int .i64 a0_1]) (t := 23) ?hr ?_; (case hd => rfl); (case hg => rfl); (case hr => first | (go_simp; done) | (go_simp; rfl)); intro gb219 hg w8 hbox hb; have BK219 := sd_ hbox; have GW219 := gw_ HB e0_ hg; have GE219 := GW219; replace HB := hb_ HB e0_ hb; clear hb hbox hg; have hcz9_0 : w8.cell? ⟨gb219, 0, none⟩ = some (.int .i64 a0_0) := (kc_ BK219.out 0).trans rfl; have hcz9_1 : w8.cell? ⟨gb219, 1, none⟩ = some (.int .i64 a0_1) := (kc_ BK219.out 1).trans rfl; have hfz9_0 := kf_ BK219.out 0; have hfz9_1 := kf_ BK219.out 1) | ((with_reducible refine gate_callee (f := 15) rfl ?_); refine goesL_ (some 4) rfl rfl Tryz.func15 (by kernel_rfl) rfl #[.agg #[.int .i64 a0_0, .int .i64 a0_1]] rfl (by (try simp only [lm_, lq_, lx_]); first | done | rfl | (simp only [ld_, lt_]; rfl)) ?_; (with_reducible refine (dur_Check.calls a0_0 a0_1 false _ A2.out).mono ?_); rintro e w10 ⟨rfl, hb⟩; refine ⟨_, rfl, ?_⟩; replace BK219 := kb_ BK219 hb; replace HB := hb_ HB (e_ GE219 e0_) hb; (try clear hb); (try clear hb2); (try clear hk); (try clear hi)))
  go_ret
  exact ⟨by first | rfl | (simp [errW_none, errW_some] <;> rfl) | (simp [*, errW_none, errW_some] <;> rfl), by repeat (first | (with_reducible first | exact HB.out | apply ba_ | apply pd_ | apply d1_ | refine bs_ ?_ GE219.out) | exact HB.out)⟩

/-! ### dur_Flags: function 23 -/
def dur_Flags.f (a0_0 : Int) (a0_1 : Int) : Option (Int) := (dur_Check.f a0_0 a0_1).bind fun t222 => (if t222 = true then (some (mx 0 (wrap64 (a0_0 - 2)))) else (some 0))
set_option maxHeartbeats 8000000 in
set_option maxRecDepth 100000 in
theorem dur_Flags.calls (a0_0 : Int) (a0_1 : Int) (r : Int) (w : World) (h : dur_Flags.f a0_0 a0_1 = some r) :
  Calls Tryz.prog 23 #[.agg #[.int .i64 a0_0, .int .i64 a0_1]] w fun e w' => e = .returned (.int .i64 r) ∧ Below w.heap.size w w' := by
 have hu23 := Tryz.underlying23
 have HB := sd_ (Below.refl w.heap.size w)
 have H : ((dur_Check.f a0_0 a0_1).bind fun t222 => (if t222 = true then (some (mx 0 (wrap64 (a0_0 - 2)))) else (some 0))) = some r := h
 clear h
 replace H := ob_ H
 obtain ⟨t222, A20, H⟩ := H
 replace H : (if t222 = true then (some (mx 0 (wrap64 (a0_0 - 2)))) else (some 0)) = some r := H
 have A2 := sd_ A20
 clear A20
 by_cases c3 : t222 = true
 ·subst c3
  have H1 : (some (mx 0 (wrap64 (a0_0 - 2)))) = some r := by rw [if_pos rfl] at H; exact H
  clear H; have H := H1; clear H1
  obtain ⟨ji4, hji4⟩ : ∃ j_ : Int, (mx 0 (wrap64 (a0_0 - 2))) = j_ := ⟨_, rfl⟩
  replace H : (some ji4) = some r := by first | (rw [hji4] at H; exact H) | (simp only [hji4] at H ⊢; exact H)
  (try rw [hji4] at A2)
  (try (have hji4l : 0 ≤ ji4 := by (rw [← hji4]; unfold mx; (repeat' split) <;> omega)))
  (try (have hji4m : 0 ≤ ji4 := by omega))
  have hji4_ : (if 0 < (wrap64 (a0_0 - 2)) then (wrap64 (a0_0 - 2)) else 0) = ji4 := hji4
  obtain rfl := Option.some.inj H
  go_enter Tryz.func23, Tryz.ntmps23
  go_wp2_with (first | ((with_reducible refine gate_dst (N := 1) rfl ?_); refine box_event ?hg (N := 1) ?hd (cs := #[.int .i64 a0_0, .int .i64 a0_1]) (t := 23) ?hr ?_; (case hd => rfl); (case hg => rfl); (case hr => first | (go_simp; done) | (go_simp; rfl)); intro gb221 hg w5 hbox hb; have BK221 := sd_ hbox; have GW221 := gw_ HB e0_ hg; have GE221 := GW221; replace HB := hb_ HB e0_ hb; clear hb hbox hg; have hcz6_0 : w5.cell? ⟨gb221, 0, none⟩ = some (.int .i64 a0_0) := (kc_ BK221.out 0).trans rfl; have hcz6_1 : w5.cell? ⟨gb221, 1, none⟩ = some (.int .i64 a0_1) := (kc_ BK221.out 1).trans rfl; have hfz6_0 := kf_ BK221.out 0; have hfz6_1 := kf_ BK221.out 1) | ((with_reducible refine gate_callee (f := 15) rfl ?_); refine goesL_ (some 4) rfl rfl Tryz.func15 (by kernel_rfl) rfl #[.agg #[.int .i64 a0_0, .int .i64 a0_1]] rfl (by (try simp only [lm_, lq_, lx_]); first | done | rfl | (simp only [ld_, lt_]; rfl)) ?_; (with_reducible refine (dur_Check.calls a0_0 a0_1 true _ A2.out).mono ?_); rintro e w7 ⟨rfl, hb⟩; refine ⟨_, rfl, ?_⟩; replace BK221 := kb_ BK221 hb; replace HB := hb_ HB (e_ GE221 e0_) hb; (try clear hb); (try clear hb2); (try clear hk); (try clear hi); have hcz8_0 : w7.cell? ⟨gb221, 0, none⟩ = some (.int .i64 a0_0) := (kc_ BK221.out 0).trans rfl; have hcz8_1 : w7.cell? ⟨gb221, 1, none⟩ = some (.int .i64 a0_1) := (kc_ BK221.out 1).trans rfl; have hfz8_0 := kf_ BK221.out 0; have hfz8_1 := kf_ BK221.out 1))
  go_ret
  exact ⟨by first | rfl | (simp [errW_none, errW_some] <;> rfl) | (simp only [← hji4]; first | rfl | (simp [errW_none, errW_some] <;> rfl)) | (simp [*, errW_none, errW_some] <;> rfl), by repeat (first | (with_reducible first | exact HB.out | apply ba_ | apply pd_ | apply d1_ | refine bs_ ?_ GE221.out) | exact HB.out)⟩
 ·replace c3 := bf_ c3
  subst c3
  have H1 : (some 0) = some r := by rw [if_neg (show ¬ (false = true) by decide)] at H; exact H
  clear H; have H := H1; clear H1
  obtain rfl := Option.some.inj H
  go_enter Tryz.func23, Tryz.ntmps23
  go_wp2_with (first | ((with_reducible refine gate_dst (N := 1) rfl ?_); refine box_event ?hg (N := 1) ?hd (cs := #[.int .i64 a0_0, .int .i64 a0_1]) (t := 23) ?hr ?_; (case hd => rfl); (case hg => rfl); (case hr => first | (go_simp; done) | (go_simp; rfl)); intro gb221 hg w9 hbox hb; have BK221 := sd_ hbox; have GW221 := gw_ HB e0_ hg; have GE221 := GW221; replace HB := hb_ HB e0_ hb; clear hb hbox hg; have hcz10_0 : w9.cell? ⟨gb221, 0, none⟩ = some (.int .i64 a0_0) := (kc_ BK221.out 0).trans rfl; have hcz10_1 : w9.cell? ⟨gb221, 1, none⟩ = some (.int .i64 a0_1) := (kc_ BK221.out 1).trans rfl; have hfz10_0 := kf_ BK221.out 0; have hfz10_1 := kf_ BK221.out 1) | ((with_reducible refine gate_callee (f := 15) rfl ?_); refine goesL_ (some 4) rfl rfl Tryz.func15 (by kernel_rfl) rfl #[.agg #[.int .i64 a0_0, .int .i64 a0_1]] rfl (by (try simp only [lm_, lq_, lx_]); first | done | rfl | (simp only [ld_, lt_]; rfl)) ?_; (with_reducible refine (dur_Check.calls a0_0 a0_1 false _ A2.out).mono ?_); rintro e w11 ⟨rfl, hb⟩; refine ⟨_, rfl, ?_⟩; replace BK221 := kb_ BK221 hb; replace HB := hb_ HB (e_ GE221 e0_) hb; (try clear hb); (try clear hb2); (try clear hk); (try clear hi)))
  go_ret
  exact ⟨by first | rfl | (simp [errW_none, errW_some] <;> rfl) | (simp [*, errW_none, errW_some] <;> rfl), by repeat (first | (with_reducible first | exact HB.out | apply ba_ | apply pd_ | apply d1_ | refine bs_ ?_ GE221.out) | exact HB.out)⟩

/-! ### dur_Meter: function 32 -/
def dur_Meter.f (a0_0 : Int) (a0_1 : Int) : Option (Bool) := if a0_1 ≥ 1 then (if a0_1 ≤ 32 then (if (Go.bits .and .i64 a0_1 (wrap64 (a0_1 - 1))) = 0 then (if a0_0 ≥ 1 then (some (decide (a0_0 ≤ 32))) else (some false)) else (some false)) else (some false)) else (some false)
set_option maxHeartbeats 8000000 in
set_option maxRecDepth 100000 in
theorem dur_Meter.calls (a0_0 : Int) (a0_1 : Int) (r : Bool) (w : World) (h : dur_Meter.f a0_0 a0_1 = some r) :
  Calls Tryz.prog 32 #[.agg #[.int .i64 a0_0, .int .i64 a0_1]] w fun e w' => e = .returned (.bool r) ∧ Below w.heap.size w w' := by
 have hu45 := Tryz.underlying45
 have HB := sd_ (Below.refl w.heap.size w)
 have H : (if a0_1 ≥ 1 then (if a0_1 ≤ 32 then (if (Go.bits .and .i64 a0_1 (wrap64 (a0_1 - 1))) = 0 then (if a0_0 ≥ 1 then (some (decide (a0_0 ≤ 32))) else (some false)) else (some false)) else (some false)) else (some false)) = some r := h
 clear h
 by_cases c2 : a0_1 ≥ 1
 ·rw [if_pos c2] at H
  have c2b0 : decide (1 ≤ a0_1) = true := dt_ c2
  clear c2
  by_cases c3 : a0_1 ≤ 32
  ·rw [if_pos c3] at H
   have c3b0 : decide (a0_1 ≤ 32) = true := dt_ c3
   clear c3
   by_cases c4 : (Go.bits .and .i64 a0_1 (wrap64 (a0_1 - 1))) = 0
   ·rw [if_pos c4] at H
    have c4b0 : ((Go.bits .and .i64 a0_1 (wrap64 (a0_1 - 1))) == 0) = true := beq_iff_eq.mpr c4
    have c4b1 : ((Go.bits .and .i64 a0_1 (wrap64 (a0_1 - 1))) != 0) = false := bne_eq_false_iff_eq.mpr c4
    clear c4
    by_cases c5 : a0_0 ≥ 1
    ·rw [if_pos c5] at H
     have c5b0 : decide (1 ≤ a0_0) = true := dt_ c5
     clear c5
     obtain rfl := Option.some.inj H
     go_enter Tryz.func32, Tryz.ntmps32
     go_wp2_with (first | ((with_reducible refine gate_dst (N := 1) rfl ?_); refine box_event ?hg (N := 1) ?hd (cs := #[.int .i64 a0_0, .int .i64 a0_1]) (t := 45) ?hr ?_; (case hd => rfl); (case hg => rfl); (case hr => first | (go_simp; done) | (go_simp; rfl)); intro gb223 hg w6 hbox hb; have BK223 := sd_ hbox; have GW223 := gw_ HB e0_ hg; have GE223 := GW223; replace HB := hb_ HB e0_ hb; clear hb hbox hg; have hcz7_0 : w6.cell? ⟨gb223, 0, none⟩ = some (.int .i64 a0_0) := (kc_ BK223.out 0).trans rfl; have hcz7_1 : w6.cell? ⟨gb223, 1, none⟩ = some (.int .i64 a0_1) := (kc_ BK223.out 1).trans rfl; have hfz7_0 := kf_ BK223.out 0; have hfz7_1 := kf_ BK223.out 1))
     go_ret
     exact ⟨by first | rfl | (simp [errW_none, errW_some] <;> rfl) | (simp [*, errW_none, errW_some] <;> rfl), by repeat (first | (with_reducible first | exact HB.out | apply ba_ | apply pd_ | apply d1_ | refine bs_ ?_ GE223.out) | exact HB.out)⟩
    ·rw [if_neg c5] at H
     have c5b0 : decide (1 ≤ a0_0) = false := df_ c5
     clear c5
     obtain rfl := Option.some.inj H
     go_enter Tryz.func32, Tryz.ntmps32
     go_wp2_with (first | ((with_reducible refine gate_dst (N := 1) rfl ?_); refine box_event ?hg (N := 1) ?hd (cs := #[.int .i64 a0_0, .int .i64 a0_1]) (t := 45) ?hr ?_; (case hd => rfl); (case hg => rfl); (case hr => first | (go_simp; done) | (go_simp; rfl)); intro gb223 hg w8 hbox hb; have BK223 := sd_ hbox; have GW223 := gw_ HB e0_ hg; have GE223 := GW223; replace HB := hb_ HB e0_ hb; clear hb hbox hg; have hcz9_0 : w8.cell? ⟨gb223, 0, none⟩ = some (.int .i64 a0_0) := (kc_ BK223.out 0).trans rfl; have hcz9_1 : w8.cell? ⟨gb223, 1, none⟩ = some (.int .i64 a0_1) := (kc_ BK223.out 1).trans rfl; have hfz9_0 := kf_ BK223.out 0; have hfz9_1 := kf_ BK223.out 1))
     go_ret
     exact ⟨by first | rfl | (simp [errW_none, errW_some] <;> rfl) | (simp [*, errW_none, errW_some] <;> rfl), by repeat (first | (with_reducible first | exact HB.out | apply ba_ | apply pd_ | apply d1_ | refine bs_ ?_ GE223.out) | exact HB.out)⟩
   ·rw [if_neg c4] at H
    have c4b0 : ((Go.bits .and .i64 a0_1 (wrap64 (a0_1 - 1))) == 0) = false := beq_eq_false_iff_ne.mpr c4
    have c4b1 : ((Go.bits .and .i64 a0_1 (wrap64 (a0_1 - 1))) != 0) = true := bne_iff_ne.mpr c4
    obtain rfl := Option.some.inj H
    go_enter Tryz.func32, Tryz.ntmps32
    go_wp2_with (first | ((with_reducible refine gate_dst (N := 1) rfl ?_); refine box_event ?hg (N := 1) ?hd (cs := #[.int .i64 a0_0, .int .i64 a0_1]) (t := 45) ?hr ?_; (case hd => rfl); (case hg => rfl); (case hr => first | (go_simp; done) | (go_simp; rfl)); intro gb223 hg w10 hbox hb; have BK223 := sd_ hbox; have GW223 := gw_ HB e0_ hg; have GE223 := GW223; replace HB := hb_ HB e0_ hb; clear hb hbox hg; have hcz11_0 : w10.cell? ⟨gb223, 0, none⟩ = some (.int .i64 a0_0) := (kc_ BK223.out 0).trans rfl; have hcz11_1 : w10.cell? ⟨gb223, 1, none⟩ = some (.int .i64 a0_1) := (kc_ BK223.out 1).trans rfl; have hfz11_0 := kf_ BK223.out 0; have hfz11_1 := kf_ BK223.out 1))
    go_ret
    exact ⟨by first | rfl | (simp [errW_none, errW_some] <;> rfl) | (simp [*, errW_none, errW_some] <;> rfl), by repeat (first | (with_reducible first | exact HB.out | apply ba_ | apply pd_ | apply d1_ | refine bs_ ?_ GE223.out) | exact HB.out)⟩
  ·rw [if_neg c3] at H
   have c3b0 : decide (a0_1 ≤ 32) = false := df_ c3
   clear c3
   obtain rfl := Option.some.inj H
   go_enter Tryz.func32, Tryz.ntmps32
   go_wp2_with (first | ((with_reducible refine gate_dst (N := 1) rfl ?_); refine box_event ?hg (N := 1) ?hd (cs := #[.int .i64 a0_0, .int .i64 a0_1]) (t := 45) ?hr ?_; (case hd => rfl); (case hg => rfl); (case hr => first | (go_simp; done) | (go_simp; rfl)); intro gb223 hg w12 hbox hb; have BK223 := sd_ hbox; have GW223 := gw_ HB e0_ hg; have GE223 := GW223; replace HB := hb_ HB e0_ hb; clear hb hbox hg; have hcz13_0 : w12.cell? ⟨gb223, 0, none⟩ = some (.int .i64 a0_0) := (kc_ BK223.out 0).trans rfl; have hcz13_1 : w12.cell? ⟨gb223, 1, none⟩ = some (.int .i64 a0_1) := (kc_ BK223.out 1).trans rfl; have hfz13_0 := kf_ BK223.out 0; have hfz13_1 := kf_ BK223.out 1))
   go_ret
   exact ⟨by first | rfl | (simp [errW_none, errW_some] <;> rfl) | (simp [*, errW_none, errW_some] <;> rfl), by repeat (first | (with_reducible first | exact HB.out | apply ba_ | apply pd_ | apply d1_ | refine bs_ ?_ GE223.out) | exact HB.out)⟩
 ·rw [if_neg c2] at H
  have c2b0 : decide (1 ≤ a0_1) = false := df_ c2
  clear c2
  obtain rfl := Option.some.inj H
  go_enter Tryz.func32, Tryz.ntmps32
  go_wp2_with (first | ((with_reducible refine gate_dst (N := 1) rfl ?_); refine box_event ?hg (N := 1) ?hd (cs := #[.int .i64 a0_0, .int .i64 a0_1]) (t := 45) ?hr ?_; (case hd => rfl); (case hg => rfl); (case hr => first | (go_simp; done) | (go_simp; rfl)); intro gb223 hg w14 hbox hb; have BK223 := sd_ hbox; have GW223 := gw_ HB e0_ hg; have GE223 := GW223; replace HB := hb_ HB e0_ hb; clear hb hbox hg; have hcz15_0 : w14.cell? ⟨gb223, 0, none⟩ = some (.int .i64 a0_0) := (kc_ BK223.out 0).trans rfl; have hcz15_1 : w14.cell? ⟨gb223, 1, none⟩ = some (.int .i64 a0_1) := (kc_ BK223.out 1).trans rfl; have hfz15_0 := kf_ BK223.out 0; have hfz15_1 := kf_ BK223.out 1))
  go_ret
  exact ⟨by first | rfl | (simp [errW_none, errW_some] <;> rfl) | (simp [*, errW_none, errW_some] <;> rfl), by repeat (first | (with_reducible first | exact HB.out | apply ba_ | apply pd_ | apply d1_ | refine bs_ ?_ GE223.out) | exact HB.out)⟩

end Go.Proofs.YtdiccfonlojlfaaGreatDoor.P
