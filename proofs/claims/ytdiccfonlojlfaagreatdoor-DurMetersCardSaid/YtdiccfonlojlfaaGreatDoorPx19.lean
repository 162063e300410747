-- Written by a program of this session (wip/tools/xprint.py, over the kit's print): Lean checks it.
import Derived.Test.YtdiccfonlojlfaaGreatDoorPx0
import Derived.Test.YtdiccfonlojlfaaGreatDoorPx12
import Derived.Test.YtdiccfonlojlfaaGreatDoorPx13
import Derived.Test.YtdiccfonlojlfaaGreatDoorPx18
namespace Go.Proofs.YtdiccfonlojlfaaGreatDoor.P
open Go.RowKit Go.Proofs.YtdiccfonlojlfaaGreatDoorW.PrintWords Go.Proofs.YtdiccfonlojlfaaGreatDoorW.PrintLast Go.Proofs.YtdiccfonlojlfaaGreatDoorW.PrintMore
attribute [local go_sem] max2_int min2_int max_two min_two max_three min_three max_four min_four   -- for this text's walks alone
set_option linter.unusedVariables false
set_option linter.unusedSimpArgs false

/-! ### neumeref07_Beat: function 30 -/
mutual
def neumeref07_Beat.j0 : Nat → List (S25) → Bool → Int → Int → Option (Int × Int)
 | 0, _, _, _, _ => none
 | k + 1, x6, x39, x494000, x494001 => if x39 = true then (some (0, 2)) else (neumeref07_Beat.l0 k x6 0 0 x494000 x494001)
def neumeref07_Beat.l0 : Nat → List (S25) → Int → Int → Int → Int → Option (Int × Int)
 | 0, _, _, _, _, _ => none
 | k + 1, x6, x10, x11, x494000, x494001 => if x11 < (x6.length : Int) then (if 0 ≤ x11 then ((neumeref02_Cmp.f k ((rd_T25 x6 x11).f0) ((rd_T25 x6 x11).f1) x494000 x494001).bind fun t505 => (if t505 ≤ 0 then (neumeref07_Beat.l0 k x6 x11 (wrap64 (x11 + 1)) x494000 x494001) else (neumeref07_Beat.l0 k x6 x10 (wrap64 (x11 + 1)) x494000 x494001))) else (none)) else (some (x10, 0))
end
def neumeref07_Beat.f (k : Nat) (a0_0 : Int) (a0_1 : Int) (a1_0 : Int) (a1_1 : Int) : Option (Int × Int) := (neumeref07_Beats.f k a0_0 a0_1).bind fun bt494 => ((neumeref07_Bar.f k a0_0 a0_1).bind fun bt498 => (if bt494.2 = 0 then ((neumeref02_Check.f k a1_0 a1_1).bind fun t502 => (if t502 = true then (if a1_0 < 0 then (neumeref07_Beat.j0 k bt494.1 true a1_0 a1_1) else ((neumeref02_Cmp.f k a1_0 a1_1 bt498.1 bt498.2.1).bind fun t503 => (neumeref07_Beat.j0 k bt494.1 (decide (t503 ≥ 0)) a1_0 a1_1))) else (neumeref07_Beat.j0 k bt494.1 true a1_0 a1_1))) else (neumeref07_Beat.j0 k bt494.1 true a1_0 a1_1)))
theorem neumeref07_Beat.mono_l : ∀ k, (∀ y0 y1 y2 y3, LeO (neumeref07_Beat.j0 k y0 y1 y2 y3) (neumeref07_Beat.j0 (k + 1) y0 y1 y2 y3)) ∧ (∀ y0 y1 y2 y3 y4, LeO (neumeref07_Beat.l0 k y0 y1 y2 y3 y4) (neumeref07_Beat.l0 (k + 1) y0 y1 y2 y3 y4))
 | 0 => ⟨fun _ _ _ _ r h => by simp [neumeref07_Beat.j0] at h, fun _ _ _ _ _ r h => by simp [neumeref07_Beat.l0] at h⟩
 | k + 1 => by
  obtain ⟨ih0, ih1⟩ := neumeref07_Beat.mono_l k
  refine ⟨?_, ?_⟩
  ·intro y0 y1 y2 y3
   unfold neumeref07_Beat.j0
   repeat' first
   | (with_reducible exact ih0 _ _ _ _)
   | (with_reducible exact ih1 _ _ _ _ _)
   | (with_reducible exact neumeref02_Check.mono _ _ _)
   | (with_reducible exact neumeref02_Cmp.mono _ _ _ _ _)
   | (with_reducible exact neumeref07_Bar.mono _ _ _)
   | (with_reducible exact neumeref07_Beats.mono _ _ _)
   | (with_reducible exact LeO.refl _)
   | (with_reducible exact LeO.none _)
   | (with_reducible refine LeO.ite ?_ ?_)
   | (with_reducible refine LeO.bind ?_ (fun _ => ?_))
   | exact ih0 _ _ _ _
   | exact ih1 _ _ _ _ _
   | exact neumeref02_Check.mono _ _ _
   | exact neumeref02_Cmp.mono _ _ _ _ _
   | exact neumeref07_Bar.mono _ _ _
   | exact neumeref07_Beats.mono _ _ _
   | exact LeO.none _
   | refine LeO.ite ?_ ?_
   | refine LeO.bind ?_ (fun _ => ?_)
  ·intro y0 y1 y2 y3 y4
   unfold neumeref07_Beat.l0
   repeat' first
   | (with_reducible exact ih0 _ _ _ _)
   | (with_reducible exact ih1 _ _ _ _ _)
   | (with_reducible exact neumeref02_Check.mono _ _ _)
   | (with_reducible exact neumeref02_Cmp.mono _ _ _ _ _)
   | (with_reducible exact neumeref07_Bar.mono _ _ _)
   | (with_reducible exact neumeref07_Beats.mono _ _ _)
   | (with_reducible exact LeO.refl _)
   | (with_reducible exact LeO.none _)
   | (with_reducible refine LeO.ite ?_ ?_)
   | (with_reducible refine LeO.bind ?_ (fun _ => ?_))
   | exact ih0 _ _ _ _
   | exact ih1 _ _ _ _ _
   | exact neumeref02_Check.mono _ _ _
   | exact neumeref02_Cmp.mono _ _ _ _ _
   | exact neumeref07_Bar.mono _ _ _
   | exact neumeref07_Beats.mono _ _ _
   | exact LeO.none _
   | refine LeO.ite ?_ ?_
   | refine LeO.bind ?_ (fun _ => ?_)
theorem neumeref07_Beat.mono : ∀ a0 a1 a2 a3 k, LeO (neumeref07_Beat.f k a0 a1 a2 a3) (neumeref07_Beat.f (k + 1) a0 a1 a2 a3) := by
 intro a0 a1 a2 a3 k
 obtain ⟨ih0, ih1⟩ := neumeref07_Beat.mono_l k
 unfold neumeref07_Beat.f
 repeat' first
   | (with_reducible exact ih0 _ _ _ _)
   | (with_reducible exact ih1 _ _ _ _ _)
   | (with_reducible exact neumeref02_Check.mono _ _ _)
   | (with_reducible exact neumeref02_Cmp.mono _ _ _ _ _)
   | (with_reducible exact neumeref07_Bar.mono _ _ _)
   | (with_reducible exact neumeref07_Beats.mono _ _ _)
   | (with_reducible exact LeO.refl _)
   | (with_reducible exact LeO.none _)
   | (with_reducible refine LeO.ite ?_ ?_)
   | (with_reducible refine LeO.bind ?_ (fun _ => ?_))
   | exact ih0 _ _ _ _
   | exact ih1 _ _ _ _ _
   | exact neumeref02_Check.mono _ _ _
   | exact neumeref02_Cmp.mono _ _ _ _ _
   | exact neumeref07_Bar.mono _ _ _
   | exact neumeref07_Beats.mono _ _ _
   | exact LeO.none _
   | refine LeO.ite ?_ ?_
   | refine LeO.bind ?_ (fun _ => ?_)
set_option maxHeartbeats 8000000 in
set_option maxRecDepth 100000 in
theorem neumeref07_Beat.calls (k : Nat) (a0_0 : Int) (a0_1 : Int) (a1_0 : Int) (a1_1 : Int) (r1 : Int) (r2 : Int) (w : World) (h : neumeref07_Beat.f k a0_0 a0_1 a1_0 a1_1 = some (r1, r2)) :
  Calls Tryz.prog 30 #[.agg #[.int .i64 a0_0, .int .i64 a0_1], .agg #[.int .i64 a1_0, .int .i64 a1_1]] w fun e w' => e = .returned (.tuple #[.int .i64 r1, .int .i64 r2]) ∧ Below w.heap.size w w' := by
 have hu45 := Tryz.underlying45
 have hu25 := Tryz.underlying25
 have HB := sd_ (Below.refl w.heap.size w)
 have H : ((neumeref07_Beats.f k a0_0 a0_1).bind fun bt494 => ((neumeref07_Bar.f k a0_0 a0_1).bind fun bt498 => (if bt494.2 = 0 then ((neumeref02_Check.f k a1_0 a1_1).bind fun t502 => (if t502 = true then (if a1_0 < 0 then (neumeref07_Beat.j0 k bt494.1 true a1_0 a1_1) else ((neumeref02_Cmp.f k a1_0 a1_1 bt498.1 bt498.2.1).bind fun t503 => (neumeref07_Beat.j0 k bt494.1 (decide (t503 ≥ 0)) a1_0 a1_1))) else (neumeref07_Beat.j0 k bt494.1 true a1_0 a1_1))) else (neumeref07_Beat.j0 k bt494.1 true a1_0 a1_1)))) = some (r1, r2) := h
 clear h
 replace H := ob_ H
 obtain ⟨⟨t494, t497⟩, A30, H⟩ := H
 replace H : ((neumeref07_Bar.f k a0_0 a0_1).bind fun bt498 => (if t497 = 0 then ((neumeref02_Check.f k a1_0 a1_1).bind fun t502 => (if t502 = true then (if a1_0 < 0 then (neumeref07_Beat.j0 k t494 true a1_0 a1_1) else ((neumeref02_Cmp.f k a1_0 a1_1 bt498.1 bt498.2.1).bind fun t503 => (neumeref07_Beat.j0 k t494 (decide (t503 ≥ 0)) a1_0 a1_1))) else (neumeref07_Beat.j0 k t494 true a1_0 a1_1))) else (neumeref07_Beat.j0 k t494 true a1_0 a1_1))) = some (r1, r2) := H
 have A3 := sd_ A30
 clear A30
 replace H := ob_ H
 obtain ⟨⟨t498, t499, t500⟩, A40, H⟩ := H
 replace H : (if t497 = 0 then ((neumeref02_Check.f k a1_0 a1_1).bind fun t502 => (if t502 = true then (if a1_0 < 0 then (neumeref07_Beat.j0 k t494 true a1_0 a1_1) else ((neumeref02_Cmp.f k a1_0 a1_1 t498 t499).bind fun t503 => (neumeref07_Beat.j0 k t494 (decide (t503 ≥ 0)) a1_0 a1_1))) else (neumeref07_Beat.j0 k t494 true a1_0 a1_1))) else (neumeref07_Beat.j0 k t494 true a1_0 a1_1)) = some (r1, r2) := H
 have A4 := sd_ A40
 clear A40
 have HC5 := sd_ H
 clear H
 go_enter Tryz.func30, Tryz.ntmps30
 go_upto_region 3 with (first | ((with_reducible refine gate_dst (N := 2) rfl ?_); refine box_event ?hg (N := 2) ?hd (cs := #[.int .i64 a0_0, .int .i64 a0_1]) (t := 45) ?hr ?_; (case hd => rfl); (case hg => rfl); (case hr => first | (go_simp; done) | (go_simp; rfl)); intro gb492 hg w6 hbox hb; have BK492 := sd_ hbox; have GW492 := gw_ HB e0_ hg; have GE492 := GW492; replace HB := hb_ HB e0_ hb; clear hb hbox hg) | ((with_reducible refine gate_dst (N := 3) rfl ?_); refine box_event ?hg (N := 3) ?hd (cs := #[.int .i64 a1_0, .int .i64 a1_1]) (t := 25) ?hr ?_; (case hd => rfl); (case hg => rfl); (case hr => first | (go_simp; done) | (go_simp; rfl)); intro gb493 hg w7 hbox hb; have BK493 := sd_ hbox; have GW493 := gw_ HB (e_ GE492 e0_) hg; have GE493 := GW493; have NB492_493 := nb_ BK492 hg; have NB493_492 := sy_ NB492_493; replace BK492 := kb_ BK492 hb; replace HB := hb_ HB (e_ GE492 e0_) hb; clear hb hbox hg; have hnb8 := NB492_493.out; have hnc8 := NB493_492.out; have hcz9_0 : w7.cell? ⟨gb492, 0, none⟩ = some (.int .i64 a0_0) := (kc_ BK492.out 0).trans rfl; have hcz9_1 : w7.cell? ⟨gb492, 1, none⟩ = some (.int .i64 a0_1) := (kc_ BK492.out 1).trans rfl; have hfz9_0 := kf_ BK492.out 0; have hfz9_1 := kf_ BK492.out 1) | ((with_reducible refine gate_callee (f := 28) rfl ?_); refine goesL_ (some 14) rfl rfl Tryz.func28 (by kernel_rfl) rfl #[.agg #[.int .i64 a0_0, .int .i64 a0_1]] rfl (by (try simp only [lm_, lq_, lx_]); first | done | rfl | (simp only [ld_, lt_]; rfl)) ?_; (with_reducible refine (neumeref07_Beats.calls k a0_0 a0_1 t494 t497 _ A3.out).mono ?_); rintro e w10 ⟨v495, rfl, ho0, hb⟩; refine ⟨_, rfl, ?_⟩; have HO496 := sd_ (Kd.R_lower (Kd.R_newB ho0 (kk_ BK493.out)) (bz_ (bb_ HB.out (e_ GE492 (e_ GE493 e0_))))); replace BK492 := kb_ BK492 hb; replace BK493 := kb_ BK493 hb; replace HB := hb_ HB (e_ GE492 (e_ GE493 e0_)) hb; (try clear hb); (try clear hb2); (try clear hk); (try clear hi); (try clear ho0); have hcz11_0 : w10.cell? ⟨gb492, 0, none⟩ = some (.int .i64 a0_0) := (kc_ BK492.out 0).trans rfl; have hcz11_1 : w10.cell? ⟨gb492, 1, none⟩ = some (.int .i64 a0_1) := (kc_ BK492.out 1).trans rfl; have hfz11_0 := kf_ BK492.out 0; have hfz11_1 := kf_ BK492.out 1) | ((with_reducible refine gate_callee (f := 26) rfl ?_); refine goesL_ (some 19) rfl rfl Tryz.func26 (by kernel_rfl) rfl #[.agg #[.int .i64 a0_0, .int .i64 a0_1]] rfl (by (try simp only [lm_, lq_, lx_]); first | done | rfl | (simp only [ld_, lt_]; rfl)) ?_; (with_reducible refine (neumeref07_Bar.calls k a0_0 a0_1 t498 t499 t500 _ A4.out).mono ?_); rintro e w12 ⟨rfl, hb⟩; refine ⟨_, rfl, ?_⟩; replace HO496 := sd_ (Kd.R_below (by (with_reducible repeat (first | apply Kd.R_alloc | apply Kd.R_drewN | apply Kd.R_drew)); exact HO496.out) hb); replace BK492 := kb_ BK492 hb; replace BK493 := kb_ BK493 hb; replace HB := hb_ HB (e_ GE492 (e_ GE493 e0_)) hb; (try clear hb); (try clear hb2); (try clear hk); (try clear hi)) | ((with_reducible refine gate_dst (N := 8) rfl ?_); refine box_event ?hg (N := 8) ?hd (cs := #[.int .i64 0, .int .i64 0]) (t := 25) ?hr ?_; (case hd => rfl); (case hg => rfl); (case hr => first | (go_simp; done) | (go_simp; rfl)); intro gb501 hg w13 hbox hb; have BK501 := sd_ hbox; have GW501 := gw_ HB (e_ GE492 (e_ GE493 e0_)) hg; have GE501 := GW501; have NB492_501 := nb_ BK492 hg; have NB501_492 := sy_ NB492_501; have NB493_501 := nb_ BK493 hg; have NB501_493 := sy_ NB493_501; replace HO496 := sd_ (Kd.R_below (Kd.R_elderB (by (with_reducible repeat (first | apply Kd.R_alloc | apply Kd.R_drewN | apply Kd.R_drew)); exact HO496.out) gb501 (Nat.le_of_eq hg.symm)) hb); replace BK492 := kb_ BK492 hb; replace BK493 := kb_ BK493 hb; replace HB := hb_ HB (e_ GE492 (e_ GE493 e0_)) hb; clear hb hbox hg; have hnb14 := NB501_492.out; have hnc14 := NB492_501.out; have hnb15 := NB501_493.out; have hnc15 := NB493_501.out; have hcz16_0 : w13.cell? ⟨gb501, 0, none⟩ = some (.int .i64 0) := (kc_ BK501.out 0).trans rfl; have hcz16_1 : w13.cell? ⟨gb501, 1, none⟩ = some (.int .i64 0) := (kc_ BK501.out 1).trans rfl; have hfz16_0 := kf_ BK501.out 0; have hfz16_1 := kf_ BK501.out 1))
 (try simp only [Act.put, ls_, lz_, lc_])
 go_cut [39] (fun v39 wc => ∃ (kq : Nat) (x39_4 : Bool), v39 = .bool x39_4 ∧ Aside0 (neumeref07_Beat.j0 kq t494 x39_4 a1_0 a1_1 = some (r1, r2)) ∧ Aside0 (kq ≤ k) ∧ Aside0 (Kd.R k25 25 wc w.heap.size (fun k_ => k_ ≠ gb493 ∧ k_ ≠ gb501) v495 t494) ∧ Aside0 (wc.heap[gb492]? = some (.cells #[.int .i64 a0_0, .int .i64 a0_1] 45 (0, 0))) ∧ Aside0 (wc.heap[gb493]? = some (.cells #[.int .i64 a1_0, .int .i64 a1_1] 25 (0, 0))) ∧ Aside0 (wc.heap[gb501]? = some (.cells #[.int .i64 t498, .int .i64 t499] 25 (0, 0))) ∧ Aside0 (Below w.heap.size w wc))
 case first =>
  have H := HC5.out
  clear HC5
  by_cases c17 : t497 = 0
  ·rw [if_pos c17] at H
   have c17b0 : (t497 == 0) = true := beq_iff_eq.mpr c17
   have c17b1 : (t497 != 0) = false := bne_eq_false_iff_eq.mpr c17
   clear c17
   (first | rw [c17b0] | (simp only [i64_w, i32_w]; rw [c17b0]) | skip)
   replace H := ob_ H
   obtain ⟨t502, A180, H⟩ := H
   replace H : (if t502 = true then (if a1_0 < 0 then (neumeref07_Beat.j0 k t494 true a1_0 a1_1) else ((neumeref02_Cmp.f k a1_0 a1_1 t498 t499).bind fun t503 => (neumeref07_Beat.j0 k t494 (decide (t503 ≥ 0)) a1_0 a1_1))) else (neumeref07_Beat.j0 k t494 true a1_0 a1_1)) = some (r1, r2) := H
   have A18 := sd_ A180
   clear A180
   by_cases c19 : t502 = true
   ·subst c19
    have H1 : (if a1_0 < 0 then (neumeref07_Beat.j0 k t494 true a1_0 a1_1) else ((neumeref02_Cmp.f k a1_0 a1_1 t498 t499).bind fun t503 => (neumeref07_Beat.j0 k t494 (decide (t503 ≥ 0)) a1_0 a1_1))) = some (r1, r2) := by rw [if_pos rfl] at H; exact H
    clear H; have H := H1; clear H1
    by_cases c20 : a1_0 < 0
    ·rw [if_pos c20] at H
     have c20b0 : decide (a1_0 < 0) = true := dt_ c20
     clear c20
     have H' := sd_ H
     clear H
     have hnb21 := NB493_492.out
     have hnc21 := NB492_493.out
     have hnb22 := NB493_501.out
     have hnc22 := NB501_493.out
     have hcz23_0 : w13.cell? ⟨gb493, 0, none⟩ = some (.int .i64 a1_0) := (kc_ BK493.out 0).trans rfl
     have hcz23_1 : w13.cell? ⟨gb493, 1, none⟩ = some (.int .i64 a1_1) := (kc_ BK493.out 1).trans rfl
     have hfz23_0 := kf_ BK493.out 0
     have hfz23_1 := kf_ BK493.out 1
     go_wp2_with (first | (go_at_call 47; (with_reducible refine (neumeref02_Check.calls k a1_0 a1_1 true _ A18.out).mono ?_); rintro e w24 ⟨rfl, hb⟩; replace HO496 := sd_ (Kd.R_below (by (with_reducible repeat (first | apply Kd.R_alloc | apply Kd.R_drewN | apply Kd.R_drew)); exact (Kd.R_mono (Kd.R_far (p := ⟨gb501, 1, none⟩) (Kd.R_far (p := ⟨gb501, 0, none⟩) (Kd.R_mono HO496.out (fun k_ hk => (⟨hk, hk.2⟩ : _ ∧ k_ ≠ gb501))) (fun _ hk => hk.2) (.int .i64 t498)) (fun _ hk => hk.2) (.int .i64 t499)) (fun _ h_ => h_.1))) hb); replace BK492 := sd_ (blk_below (g := gb492) (o := .cells #[.int .i64 a0_0, .int .i64 a0_1] 45 (0, 0)) (by (with_reducible repeat first | apply kn_ | apply kd_ | apply ka_); refine blk_far ?_ NB492_501.out _; (with_reducible repeat first | apply kn_ | apply kd_ | apply ka_); refine blk_far ?_ NB492_501.out _; (with_reducible repeat first | apply kn_ | apply kd_ | apply ka_); exact BK492.out) hb); replace BK493 := sd_ (blk_below (g := gb493) (o := .cells #[.int .i64 a1_0, .int .i64 a1_1] 25 (0, 0)) (by (with_reducible repeat first | apply kn_ | apply kd_ | apply ka_); refine blk_far ?_ NB493_501.out _; (with_reducible repeat first | apply kn_ | apply kd_ | apply ka_); refine blk_far ?_ NB493_501.out _; (with_reducible repeat first | apply kn_ | apply kd_ | apply ka_); exact BK493.out) hb); replace BK501 := sd_ (blk_below (g := gb501) (o := .cells #[.int .i64 t498, .int .i64 t499] 25 (0, 0)) (by (with_reducible repeat first | apply kn_ | apply kd_ | apply ka_); refine blk_put (cs := #[.int .i64 t498, .int .i64 0]) ?_ 1 _ rfl; (with_reducible repeat first | apply kn_ | apply kd_ | apply ka_); refine blk_put (cs := #[.int .i64 0, .int .i64 0]) ?_ 0 _ rfl; (with_reducible repeat first | apply kn_ | apply kd_ | apply ka_); exact BK501.out) hb); replace HB := hb_ HB (e_ GE492 (e_ GE493 (e_ GE501 e0_))) hb; (try clear hb); (try clear hb2); (try clear hk); (try clear hi); have hcz25_0 : w24.cell? ⟨gb493, 0, none⟩ = some (.int .i64 a1_0) := (kc_ BK493.out 0).trans rfl; have hcz25_1 : w24.cell? ⟨gb493, 1, none⟩ = some (.int .i64 a1_1) := (kc_ BK493.out 1).trans rfl; have hfz25_0 := kf_ BK493.out 0; have hfz25_1 := kf_ BK493.out 1))
     go_meet
     case rel => exact ⟨_, (true), (by first | rfl | (simp; done) | (simp [*]; done) | (simp [bne]; done)), H', ⟨by first | omega | exact Nat.le_refl _⟩, ⟨by (with_reducible repeat (first | apply Kd.R_alloc | apply Kd.R_drewN | apply Kd.R_drew)); exact Kd.R_mono HO496.out (fun _ hk => ⟨hk.1.2, hk.2⟩)⟩, ⟨by (with_reducible repeat first | apply kn_ | apply kd_ | apply ka_); exact BK492.out⟩, ⟨by (with_reducible repeat first | apply kn_ | apply kd_ | apply ka_); exact BK493.out⟩, ⟨by (with_reducible repeat first | apply kn_ | apply kd_ | apply ka_); exact BK501.out⟩, ⟨by repeat (first | (with_reducible first | exact HB.out | apply ba_ | apply pd_ | apply d1_ | refine bs_ ?_ GE492.out | refine bs_ ?_ GE493.out | refine bs_ ?_ GE501.out) | exact HB.out)⟩⟩
    ·rw [if_neg c20] at H
     have c20b0 : decide (a1_0 < 0) = false := df_ c20
     clear c20
     replace H := ob_ H
     obtain ⟨t503, A260, H⟩ := H
     replace H : (neumeref07_Beat.j0 k t494 (decide (t503 ≥ 0)) a1_0 a1_1) = some (r1, r2) := H
     have A26 := sd_ A260
     clear A260
     have H' := sd_ H
     clear H
     have hnb27 := NB493_492.out
     have hnc27 := NB492_493.out
     have hnb28 := NB493_501.out
     have hnc28 := NB501_493.out
     have hcz29_0 : w13.cell? ⟨gb493, 0, none⟩ = some (.int .i64 a1_0) := (kc_ BK493.out 0).trans rfl
     have hcz29_1 : w13.cell? ⟨gb493, 1, none⟩ = some (.int .i64 a1_1) := (kc_ BK493.out 1).trans rfl
     have hfz29_0 := kf_ BK493.out 0
     have hfz29_1 := kf_ BK493.out 1
     go_wp2_with (first | (go_at_call 47; (with_reducible refine (neumeref02_Check.calls k a1_0 a1_1 true _ A18.out).mono ?_); rintro e w30 ⟨rfl, hb⟩; replace HO496 := sd_ (Kd.R_below (by (with_reducible repeat (first | apply Kd.R_alloc | apply Kd.R_drewN | apply Kd.R_drew)); exact (Kd.R_mono (Kd.R_far (p := ⟨gb501, 1, none⟩) (Kd.R_far (p := ⟨gb501, 0, none⟩) (Kd.R_mono HO496.out (fun k_ hk => (⟨hk, hk.2⟩ : _ ∧ k_ ≠ gb501))) (fun _ hk => hk.2) (.int .i64 t498)) (fun _ hk => hk.2) (.int .i64 t499)) (fun _ h_ => h_.1))) hb); replace BK492 := sd_ (blk_below (g := gb492) (o := .cells #[.int .i64 a0_0, .int .i64 a0_1] 45 (0, 0)) (by (with_reducible repeat first | apply kn_ | apply kd_ | apply ka_); refine blk_far ?_ NB492_501.out _; (with_reducible repeat first | apply kn_ | apply kd_ | apply ka_); refine blk_far ?_ NB492_501.out _; (with_reducible repeat first | apply kn_ | apply kd_ | apply ka_); exact BK492.out) hb); replace BK493 := sd_ (blk_below (g := gb493) (o := .cells #[.int .i64 a1_0, .int .i64 a1_1] 25 (0, 0)) (by (with_reducible repeat first | apply kn_ | apply kd_ | apply ka_); refine blk_far ?_ NB493_501.out _; (with_reducible repeat first | apply kn_ | apply kd_ | apply ka_); refine blk_far ?_ NB493_501.out _; (with_reducible repeat first | apply kn_ | apply kd_ | apply ka_); exact BK493.out) hb); replace BK501 := sd_ (blk_below (g := gb501) (o := .cells #[.int .i64 t498, .int .i64 t499] 25 (0, 0)) (by (with_reducible repeat first | apply kn_ | apply kd_ | apply ka_); refine blk_put (cs := #[.int .i64 t498, .int .i64 0]) ?_ 1 _ rfl; (with_reducible repeat first | apply kn_ | apply kd_ | apply ka_); refine blk_put (cs := #[.int .i64 0, .int .i64 0]) ?_ 0 _ rfl; (with_reducible repeat first | apply kn_ | apply kd_ | apply ka_); exact BK501.out) hb); replace HB := hb_ HB (e_ GE492 (e_ GE493 (e_ GE501 e0_))) hb; (try clear hb); (try clear hb2); (try clear hk); (try clear hi); have hcz31_0 : w30.cell? ⟨gb493, 0, none⟩ = some (.int .i64 a1_0) := (kc_ BK493.out 0).trans rfl; have hcz31_1 : w30.cell? ⟨gb493, 1, none⟩ = some (.int .i64 a1_1) := (kc_ BK493.out 1).trans rfl; have hfz31_0 := kf_ BK493.out 0; have hfz31_1 := kf_ BK493.out 1; have hnb32 := NB501_492.out; have hnc32 := NB492_501.out; have hcz33_0 : w30.cell? ⟨gb501, 0, none⟩ = some (.int .i64 t498) := (kc_ BK501.out 0).trans rfl; have hcz33_1 : w30.cell? ⟨gb501, 1, none⟩ = some (.int .i64 t499) := (kc_ BK501.out 1).trans rfl; have hfz33_0 := kf_ BK501.out 0; have hfz33_1 := kf_ BK501.out 1) | (go_at_call 48; (with_reducible refine (neumeref02_Cmp.calls k a1_0 a1_1 t498 t499 t503 _ A26.out).mono ?_); rintro e w34 ⟨rfl, hb⟩; replace HO496 := sd_ (Kd.R_below (by (with_reducible repeat (first | apply Kd.R_alloc | apply Kd.R_drewN | apply Kd.R_drew)); exact HO496.out) hb); replace BK492 := kb_ BK492 hb; replace BK493 := kb_ BK493 hb; replace BK501 := kb_ BK501 hb; replace HB := hb_ HB (e_ GE492 (e_ GE493 (e_ GE501 e0_))) hb; (try clear hb); (try clear hb2); (try clear hk); (try clear hi)))
     go_meet
     case rel => exact ⟨_, (decide (t503 ≥ 0)), (by first | rfl | (simp; done) | (simp [*]; done) | (simp [bne]; done)), H', ⟨by first | omega | exact Nat.le_refl _⟩, ⟨by (with_reducible repeat (first | apply Kd.R_alloc | apply Kd.R_drewN | apply Kd.R_drew)); exact Kd.R_mono HO496.out (fun _ hk => ⟨hk.1.2, hk.2⟩)⟩, ⟨by (with_reducible repeat first | apply kn_ | apply kd_ | apply ka_); exact BK492.out⟩, ⟨by (with_reducible repeat first | apply kn_ | apply kd_ | apply ka_); exact BK493.out⟩, ⟨by (with_reducible repeat first | apply kn_ | apply kd_ | apply ka_); exact BK501.out⟩, ⟨by repeat (first | (with_reducible first | exact HB.out | apply ba_ | apply pd_ | apply d1_ | refine bs_ ?_ GE492.out | refine bs_ ?_ GE493.out | refine bs_ ?_ GE501.out) | exact HB.out)⟩⟩
   ·replace c19 := bf_ c19
    subst c19
    have H1 : (neumeref07_Beat.j0 k t494 true a1_0 a1_1) = some (r1, r2) := by rw [if_neg (show ¬ (false = true) by decide)] at H; exact H
    clear H; have H := H1; clear H1
    have H' := sd_ H
    clear H
    have hnb35 := NB493_492.out
    have hnc35 := NB492_493.out
    have hnb36 := NB493_501.out
    have hnc36 := NB501_493.out
    have hcz37_0 : w13.cell? ⟨gb493, 0, none⟩ = some (.int .i64 a1_0) := (kc_ BK493.out 0).trans rfl
    have hcz37_1 : w13.cell? ⟨gb493, 1, none⟩ = some (.int .i64 a1_1) := (kc_ BK493.out 1).trans rfl
    have hfz37_0 := kf_ BK493.out 0
    have hfz37_1 := kf_ BK493.out 1
    go_wp2_with (first | (go_at_call 47; (with_reducible refine (neumeref02_Check.calls k a1_0 a1_1 false _ A18.out).mono ?_); rintro e w38 ⟨rfl, hb⟩; replace HO496 := sd_ (Kd.R_below (by (with_reducible repeat (first | apply Kd.R_alloc | apply Kd.R_drewN | apply Kd.R_drew)); exact (Kd.R_mono (Kd.R_far (p := ⟨gb501, 1, none⟩) (Kd.R_far (p := ⟨gb501, 0, none⟩) (Kd.R_mono HO496.out (fun k_ hk => (⟨hk, hk.2⟩ : _ ∧ k_ ≠ gb501))) (fun _ hk => hk.2) (.int .i64 t498)) (fun _ hk => hk.2) (.int .i64 t499)) (fun _ h_ => h_.1))) hb); replace BK492 := sd_ (blk_below (g := gb492) (o := .cells #[.int .i64 a0_0, .int .i64 a0_1] 45 (0, 0)) (by (with_reducible repeat first | apply kn_ | apply kd_ | apply ka_); refine blk_far ?_ NB492_501.out _; (with_reducible repeat first | apply kn_ | apply kd_ | apply ka_); refine blk_far ?_ NB492_501.out _; (with_reducible repeat first | apply kn_ | apply kd_ | apply ka_); exact BK492.out) hb); replace BK493 := sd_ (blk_below (g := gb493) (o := .cells #[.int .i64 a1_0, .int .i64 a1_1] 25 (0, 0)) (by (with_reducible repeat first | apply kn_ | apply kd_ | apply ka_); refine blk_far ?_ NB493_501.out _; (with_reducible repeat first | apply kn_ | apply kd_ | apply ka_); refine blk_far ?_ NB493_501.out _; (with_reducible repeat first | apply kn_ | apply kd_ | apply ka_); exact BK493.out) hb); replace BK501 := sd_ (blk_below (g := gb501) (o := .cells #[.int .i64 t498, .int .i64 t499] 25 (0, 0)) (by (with_reducible repeat first | apply kn_ | apply kd_ | apply ka_); refine blk_put (cs := #[.int .i64 t498, .int .i64 0]) ?_ 1 _ rfl; (with_reducible repeat first | apply kn_ | apply kd_ | apply ka_); refine blk_put (cs := #[.int .i64 0, .int .i64 0]) ?_ 0 _ rfl; (with_reducible repeat first | apply kn_ | apply kd_ | apply ka_); exact BK501.out) hb); replace HB := hb_ HB (e_ GE492 (e_ GE493 (e_ GE501 e0_))) hb; (try clear hb); (try clear hb2); (try clear hk); (try clear hi)))
    go_meet
    case rel => exact ⟨_, (true), (by first | rfl | (simp; done) | (simp [*]; done) | (simp [bne]; done)), H', ⟨by first | omega | exact Nat.le_refl _⟩, ⟨by (with_reducible repeat (first | apply Kd.R_alloc | apply Kd.R_drewN | apply Kd.R_drew)); exact Kd.R_mono HO496.out (fun _ hk => ⟨hk.1.2, hk.2⟩)⟩, ⟨by (with_reducible repeat first | apply kn_ | apply kd_ | apply ka_); exact BK492.out⟩, ⟨by (with_reducible repeat first | apply kn_ | apply kd_ | apply ka_); exact BK493.out⟩, ⟨by (with_reducible repeat first | apply kn_ | apply kd_ | apply ka_); exact BK501.out⟩, ⟨by repeat (first | (with_reducible first | exact HB.out | apply ba_ | apply pd_ | apply d1_ | refine bs_ ?_ GE492.out | refine bs_ ?_ GE493.out | refine bs_ ?_ GE501.out) | exact HB.out)⟩⟩
  ·rw [if_neg c17] at H
   have c17b0 : (t497 == 0) = false := beq_eq_false_iff_ne.mpr c17
   have c17b1 : (t497 != 0) = true := bne_iff_ne.mpr c17
   (first | rw [c17b0] | (simp only [i64_w, i32_w]; rw [c17b0]) | skip)
   have H' := sd_ H
   clear H
   go_wp2
   go_meet
   case rel => exact ⟨_, (true), (by first | rfl | (simp; done) | (simp [*]; done) | (simp [bne]; done)), H', ⟨by first | omega | exact Nat.le_refl _⟩, ⟨by (with_reducible repeat (first | apply Kd.R_alloc | apply Kd.R_drewN | apply Kd.R_drew)); exact Kd.R_mono (Kd.R_far (p := ⟨gb501, 1, none⟩) (Kd.R_far (p := ⟨gb501, 0, none⟩) (Kd.R_mono HO496.out (fun k_ hk => (⟨hk, hk.2⟩ : _ ∧ k_ ≠ gb501))) (fun _ hk => hk.2) (.int .i64 t498)) (fun _ hk => hk.2) (.int .i64 t499)) (fun _ hk => ⟨hk.1.1.2, hk.1.2⟩)⟩, ⟨by (with_reducible repeat first | apply kn_ | apply kd_ | apply ka_); refine blk_far ?_ NB492_501.out _; (with_reducible repeat first | apply kn_ | apply kd_ | apply ka_); refine blk_far ?_ NB492_501.out _; (with_reducible repeat first | apply kn_ | apply kd_ | apply ka_); exact BK492.out⟩, ⟨by (with_reducible repeat first | apply kn_ | apply kd_ | apply ka_); refine blk_far ?_ NB493_501.out _; (with_reducible repeat first | apply kn_ | apply kd_ | apply ka_); refine blk_far ?_ NB493_501.out _; (with_reducible repeat first | apply kn_ | apply kd_ | apply ka_); exact BK493.out⟩, ⟨by (with_reducible repeat first | apply kn_ | apply kd_ | apply ka_); refine blk_put (cs := #[.int .i64 t498, .int .i64 0]) ?_ 1 _ rfl; (with_reducible repeat first | apply kn_ | apply kd_ | apply ka_); refine blk_put (cs := #[.int .i64 0, .int .i64 0]) ?_ 0 _ rfl; (with_reducible repeat first | apply kn_ | apply kd_ | apply ka_); exact BK501.out⟩, ⟨by repeat (first | (with_reducible first | exact HB.out | apply ba_ | apply pd_ | apply d1_ | refine bs_ ?_ GE492.out | refine bs_ ?_ GE493.out | refine bs_ ?_ GE501.out) | exact HB.out)⟩⟩
 case rest =>
  clear HC5
  try clear c1; try clear c2; try clear p2; try clear c3; try clear c8; try clear c14; try clear c15; try clear c17; try clear c17b0; try clear c17b1; try clear c19; try clear c20; try clear c20b0; try clear c21; try clear c22; try clear c26; try clear c27; try clear c28; try clear c30; try clear c32; try clear c35; try clear c36; try clear hcz11_0; try clear hcz11_1; try clear hcz16_0; try clear hcz16_1; try clear hcz23_0; try clear hcz23_1; try clear hcz25_0; try clear hcz25_1; try clear hcz29_0; try clear hcz29_1; try clear hcz31_0; try clear hcz31_1; try clear hcz33_0; try clear hcz33_1; try clear hcz37_0; try clear hcz37_1; try clear hcz9_0; try clear hcz9_1; try clear hfz11_0; try clear hfz11_1; try clear hfz16_0; try clear hfz16_1; try clear hfz23_0; try clear hfz23_1; try clear hfz25_0; try clear hfz25_1; try clear hfz29_0; try clear hfz29_1; try clear hfz31_0; try clear hfz31_1; try clear hfz33_0; try clear hfz33_1; try clear hfz37_0; try clear hfz37_1; try clear hfz9_0; try clear hfz9_1
  obtain ⟨kq, x39_4, rfl, HA, HJ4, HO_6, BK492, BK493, BK501, HB⟩ := hcut
  cases kq with
  | zero => exact absurd HA.out (by simp [neumeref07_Beat.j0])
  | succ kj4 =>
   have H := HA.out
   clear HA
   simp only [neumeref07_Beat.j0] at H
   by_cases c39 : x39_4 = true
   ·subst c39
    have H1 : (some (0, 2)) = some (r1, r2) := by rw [if_pos rfl] at H; exact H
    clear H; have H := H1; clear H1
    simp only [Option.some.injEq, Prod.mk.injEq] at H
    obtain ⟨rfl, rfl⟩ := H
    go_wp2
    go_ret2
    exact ⟨by first | rfl | (simp [errW_none, errW_some] <;> rfl) | (simp [*, errW_none, errW_some] <;> rfl), by repeat (first | (with_reducible first | exact HB.out | apply ba_ | apply pd_ | apply d1_ | refine bs_ ?_ GE492.out | refine bs_ ?_ GE493.out | refine bs_ ?_ GE501.out) | exact HB.out)⟩
   ·replace c39 := bf_ c39
    subst c39
    have H1 : (neumeref07_Beat.l0 kj4 t494 0 0 a1_0 a1_1) = some (r1, r2) := by rw [if_neg (show ¬ (false = true) by decide)] at H; exact H
    clear H; have H := H1; clear H1
    have H' := sd_ H
    clear H
    go_wp2
    go_loopg [10, 11] kj4 (fun kq v10 v11 w' => ∃ (x10_2 : Int) (x11_2 : Int), v10 = .int .i64 x10_2 ∧ v11 = .int .i64 x11_2 ∧ Aside0 (neumeref07_Beat.l0 kq t494 x10_2 x11_2 a1_0 a1_1 = some (r1, r2)) ∧ Aside0 (kq ≤ kj4) ∧ Aside0 (Kd.R k25 25 w' w.heap.size (fun k_ => k_ ≠ gb493 ∧ k_ ≠ gb501) v495 t494) ∧ Aside0 (w'.heap[gb492]? = some (.cells #[.int .i64 a0_0, .int .i64 a0_1] 45 (0, 0))) ∧ Aside0 (w'.heap[gb493]? = some (.cells #[.int .i64 a1_0, .int .i64 a1_1] 25 (0, 0))) ∧ Aside0 (w'.heap[gb501]? = some (.cells #[.int .i64 t498, .int .i64 t499] 25 (0, 0))) ∧ Aside0 (Below w.heap.size w w'))
    case atStart => exact ⟨(0), (0), (by first | rfl | (simp; done) | (simp [*]; done) | (simp [bne]; done)), (by first | rfl | (simp; done) | (simp [*]; done) | (simp [bne]; done)), H', ⟨Nat.le_refl _⟩, ⟨by (with_reducible repeat (first | apply Kd.R_alloc | apply Kd.R_drewN | apply Kd.R_drew)); exact HO_6.out⟩, ⟨by (with_reducible repeat first | apply kn_ | apply kd_ | apply ka_); exact BK492.out⟩, ⟨by (with_reducible repeat first | apply kn_ | apply kd_ | apply ka_); exact BK493.out⟩, ⟨by (with_reducible repeat first | apply kn_ | apply kd_ | apply ka_); exact BK501.out⟩, ⟨by repeat (first | (with_reducible first | exact HB.out | apply ba_ | apply pd_ | apply d1_ | refine bs_ ?_ GE492.out | refine bs_ ?_ GE493.out | refine bs_ ?_ GE501.out) | exact HB.out)⟩⟩
    case round =>
     clear H'
     try clear c1; try clear c2; try clear p2; try clear c3; try clear c8; try clear c14; try clear c15; try clear c17; try clear c17b0; try clear c17b1; try clear c19; try clear c20; try clear c20b0; try clear c21; try clear c22; try clear c26; try clear c27; try clear c28; try clear c30; try clear c32; try clear c35; try clear c36; try clear c39; try clear hcz11_0; try clear hcz11_1; try clear hcz16_0; try clear hcz16_1; try clear hcz23_0; try clear hcz23_1; try clear hcz25_0; try clear hcz25_1; try clear hcz29_0; try clear hcz29_1; try clear hcz31_0; try clear hcz31_1; try clear hcz33_0; try clear hcz33_1; try clear hcz37_0; try clear hcz37_1; try clear hcz9_0; try clear hcz9_1; try clear hfz11_0; try clear hfz11_1; try clear hfz16_0; try clear hfz16_1; try clear hfz23_0; try clear hfz23_1; try clear hfz25_0; try clear hfz25_1; try clear hfz29_0; try clear hfz29_1; try clear hfz31_0; try clear hfz31_1; try clear hfz33_0; try clear hfz33_1; try clear hfz37_0; try clear hfz37_1; try clear hfz9_0; try clear hfz9_1; try clear p2
     obtain ⟨x10_2, x11_2, rfl, rfl, HA, HK2, HO_6, BK492, BK493, BK501, HB⟩ := hrel
     cases gk with
     | zero => exact absurd HA.out (by simp [neumeref07_Beat.l0])
     | succ k2 =>
      have H := HA.out
      clear HA
      simp only [neumeref07_Beat.l0] at H
      by_cases c40 : x11_2 < (t494.length : Int)
      ·rw [if_pos c40] at H
       have c40b0 : decide (x11_2 < (t494.length : Int)) = true := dt_ c40
       clear c40
       by_cases c41 : 0 ≤ x11_2
       ·rw [if_pos c41] at H
        have c41b0 : decide (0 ≤ x11_2) = true := dt_ c41
        clear c41
        replace H := ob_ H
        obtain ⟨t505, A420, H⟩ := H
        replace H : (if t505 ≤ 0 then (neumeref07_Beat.l0 k2 t494 x11_2 (wrap64 (x11_2 + 1)) a1_0 a1_1) else (neumeref07_Beat.l0 k2 t494 x10_2 (wrap64 (x11_2 + 1)) a1_0 a1_1)) = some (r1, r2) := H
        have A42 := sd_ A420
        clear A420
        by_cases c43 : t505 ≤ 0
        ·rw [if_pos c43] at H
         have c43b0 : decide (t505 ≤ 0) = true := dt_ c43
         clear c43
         have H' := sd_ H
         clear H
         obtain ⟨Ao44, co44, eo44⟩ := Kd.R_slice HO_6.out
         subst eo44
         try go_wp2
         replace HO_6 := sd_ (Kd.R_drew HO_6.out)
         replace BK492 := sd_ (kd_ BK492.out)
         replace BK493 := sd_ (kd_ BK493.out)
         replace BK501 := sd_ (kd_ BK501.out)
         replace HB := sd_ (d1_ HB.out)
         have p504 : 0 ≤ (x11_2 : Int) := od_ (by first | (with_reducible assumption) | assumption)
         have q504 : x11_2 < (t494.length : Int) := od_ (by first | (with_reducible assumption) | assumption)
         obtain ⟨ad504, e504, hx504_0, hx504_1⟩ := at_T25 (Kd.R_reads' HO_6.out).2.2 x11_2 p504 q504
         cases e504
         replace p504 := eq_true p504
         replace q504 := eq_true q504
         refine start_ (n := 7) (S := fun w' => w'.cell? ⟨gb493, 0, none⟩ = some (.int .i64 a1_0) ∧ w'.cell? ⟨gb493, 1, none⟩ = some (.int .i64 a1_1) ∧ w'.cell? (ad504.add ((x11_2).toNat * 2)) = some (.int .i64 ((rd_T25 t494 x11_2).f0)) ∧ w'.cell? ⟨(ad504.add ((x11_2).toNat * 2)).block, (ad504.add ((x11_2).toNat * 2)).off + 1, none⟩ = some (.int .i64 ((rd_T25 t494 x11_2).f1))) (ds := []) #[false, false, false, false, false, false, false] (by kernel_rfl) rfl rfl ⟨(kc_ BK493.out 0).trans rfl, (kc_ BK493.out 1).trans rfl, hx504_0, hx504_1⟩ (fun hHeld => ?_)
         generalize wr.drew = w45 at HO_6 BK492 BK493 BK501 HB hx504_0 hx504_1 hHeld ⊢
         refine pure_ (i := 0) (N := some 46) (v := ?_) (a' := ?_) #[true, false, false, false, false, false, false] rfl rfl (by kernel_rfl) (fun _ _ _ h => h) (Or.inl ⟨by rfl, ?_⟩) ?_ ?_
         rotate_left; (intro w'; go_simp; with_reducible rfl); rotate_left; (simp only [Act.put, ls_, lz_, lc_, i64_w, i32_w]; rfl)
         refine pure_ (i := 1) (N := some 47) (v := ?_) (a' := ?_) #[true, true, false, false, false, false, false] rfl rfl (by kernel_rfl) (fun _ _ _ h => h) (Or.inl ⟨by rfl, ?_⟩) ?_ ?_
         rotate_left; (intro w'; go_simp; with_reducible rfl); rotate_left; (simp only [Act.put, ls_, lz_, lc_, i64_w, i32_w]; rfl)
         refine pure_ (i := 2) (N := some 48) (v := ?_) (a' := ?_) #[true, true, true, false, false, false, false] rfl rfl (by kernel_rfl) (fun _ _ _ h => h) (Or.inl ⟨by rfl, ?_⟩) ?_ ?_
         rotate_left; (intro w'; go_simp; with_reducible rfl); rotate_left; (simp only [Act.put, ls_, lz_, lc_, i64_w, i32_w]; rfl)
         refine take_ (i := 3) (N := some 49) (v := ?_) (a' := ?_) #[true, true, true, true, false, false, false] rfl rfl (by kernel_rfl) (fun _ _ _ h => h) (Or.inl ⟨by rfl, ?_⟩) hHeld ?_ ?_
         rotate_left
         ·rintro w' ⟨s0, s1, s2, s3⟩
          go_simp
          with_reducible rfl
         rotate_left
         ·simp only [Act.put, ls_, lz_, lc_, i64_w, i32_w]
          rfl
         refine take_ (i := 4) (N := some 50) (v := ?_) (a' := ?_) #[true, true, true, true, true, false, false] rfl rfl (by kernel_rfl) (fun _ _ _ h => h) (Or.inl ⟨by rfl, ?_⟩) hHeld ?_ ?_
         rotate_left
         ·rintro w' ⟨s0, s1, s2, s3⟩
          go_simp
          with_reducible rfl
         rotate_left
         ·simp only [Act.put, ls_, lz_, lc_, i64_w, i32_w]
          rfl
         refine one_ (i := 5) (N := some 51) #[true, true, true, true, true, true, false] rfl rfl (by kernel_rfl) (by decide) (fun K hK => ?_)
         refine goes_ Tryz.func48 (by kernel_rfl) rfl #[.agg #[.int .i64 ((rd_T25 t494 x11_2).f0), .int .i64 ((rd_T25 t494 x11_2).f1)], .agg #[.int .i64 a1_0, .int .i64 a1_1]] (by rfl) rfl rfl (by (try simp only [lm_, lq_, lx_]); first | done | rfl | (simp only [ld_, lt_]; rfl)) ?_
         with_reducible refine (neumeref02_Cmp.calls k2 ((rd_T25 t494 x11_2).f0) ((rd_T25 t494 x11_2).f1) a1_0 a1_1 t505 _ A42.out).mono ?_
         rintro e w46 ⟨rfl, hb⟩
         have HS2_ := (hb.cell (wb_ _ _ (hHeld.2.2.1))).trans (hHeld.2.2.1)
         have HS3_ := (hb.cell (wb_ _ _ (hHeld.2.2.2))).trans (hHeld.2.2.2)
         refine ⟨_, rfl, ?_⟩
         replace HO_6 := sd_ (Kd.R_below (by (with_reducible repeat (first | apply Kd.R_alloc | apply Kd.R_drewN | apply Kd.R_drew)); exact HO_6.out) hb)
         replace BK492 := kb_ BK492 hb
         replace BK493 := kb_ BK493 hb
         replace BK501 := kb_ BK501 hb
         replace HB := hb_ HB (e_ GE492 (e_ GE493 (e_ GE501 e0_))) hb
         (try clear hb)
         (try clear hb2)
         (try clear hk)
         (try clear hi)
         refine hK.out _ _ ⟨(kc_ BK493.out 0).trans rfl, (kc_ BK493.out 1).trans rfl, HS2_, HS3_⟩ (fun hHeld => ?_)
         clear hK K
         refine norm_ (a' := ?_) ?_ ?_
         rotate_left
         ·show Act.put _ (some 51) _ = _
          simp only [Act.put, ls_, lz_, lc_, i64_w, i32_w]
          rfl
         refine pure_ (i := 6) (N := some 52) (v := ?_) (a' := ?_) #[true, true, true, true, true, true, true] rfl rfl (by kernel_rfl) (fun _ _ _ h => h) (Or.inl ⟨by rfl, ?_⟩) ?_ ?_
         rotate_left; (intro w'; go_simp; with_reducible rfl); rotate_left; (simp only [Act.put, ls_, lz_, lc_, i64_w, i32_w]; rfl)
         refine done_ (by kernel_rfl) ?_
         try go_wp2
         go_roundg k2
         case measure => have := HJ4.out; have := HK2.out; omega
         case rel => exact ⟨(x11_2), (wrap64 (x11_2 + 1)), (by first | rfl | (simp; done) | (simp [*]; done) | (simp [bne]; done)), (by first | rfl | (simp; done) | (simp [*]; done) | (simp [bne]; done)), H', ⟨by have := HJ4.out; have := HK2.out; omega⟩, ⟨by (with_reducible repeat (first | apply Kd.R_alloc | apply Kd.R_drewN | apply Kd.R_drew)); exact HO_6.out⟩, ⟨by (with_reducible repeat first | apply kn_ | apply kd_ | apply ka_); exact BK492.out⟩, ⟨by (with_reducible repeat first | apply kn_ | apply kd_ | apply ka_); exact BK493.out⟩, ⟨by (with_reducible repeat first | apply kn_ | apply kd_ | apply ka_); exact BK501.out⟩, ⟨by repeat (first | (with_reducible first | exact HB.out | apply ba_ | apply pd_ | apply d1_ | refine bs_ ?_ GE492.out | refine bs_ ?_ GE493.out | refine bs_ ?_ GE501.out) | exact HB.out)⟩⟩
        ·rw [if_neg c43] at H
         have c43b0 : decide (t505 ≤ 0) = false := df_ c43
         clear c43
         have H' := sd_ H
         clear H
         obtain ⟨Ao47, co47, eo47⟩ := Kd.R_slice HO_6.out
         subst eo47
         try go_wp2
         replace HO_6 := sd_ (Kd.R_drew HO_6.out)
         replace BK492 := sd_ (kd_ BK492.out)
         replace BK493 := sd_ (kd_ BK493.out)
         replace BK501 := sd_ (kd_ BK501.out)
         replace HB := sd_ (d1_ HB.out)
         have p504 : 0 ≤ (x11_2 : Int) := od_ (by first | (with_reducible assumption) | assumption)
         have q504 : x11_2 < (t494.length : Int) := od_ (by first | (with_reducible assumption) | assumption)
         obtain ⟨ad504, e504, hx504_0, hx504_1⟩ := at_T25 (Kd.R_reads' HO_6.out).2.2 x11_2 p504 q504
         cases e504
         replace p504 := eq_true p504
         replace q504 := eq_true q504
         refine start_ (n := 7) (S := fun w' => w'.cell? ⟨gb493, 0, none⟩ = some (.int .i64 a1_0) ∧ w'.cell? ⟨gb493, 1, none⟩ = some (.int .i64 a1_1) ∧ w'.cell? (ad504.add ((x11_2).toNat * 2)) = some (.int .i64 ((rd_T25 t494 x11_2).f0)) ∧ w'.cell? ⟨(ad504.add ((x11_2).toNat * 2)).block, (ad504.add ((x11_2).toNat * 2)).off + 1, none⟩ = some (.int .i64 ((rd_T25 t494 x11_2).f1))) (ds := []) #[false, false, false, false, false, false, false] (by kernel_rfl) rfl rfl ⟨(kc_ BK493.out 0).trans rfl, (kc_ BK493.out 1).trans rfl, hx504_0, hx504_1⟩ (fun hHeld => ?_)
         generalize wr.drew = w48 at HO_6 BK492 BK493 BK501 HB hx504_0 hx504_1 hHeld ⊢
         refine pure_ (i := 0) (N := some 46) (v := ?_) (a' := ?_) #[true, false, false, false, false, false, false] rfl rfl (by kernel_rfl) (fun _ _ _ h => h) (Or.inl ⟨by rfl, ?_⟩) ?_ ?_
         rotate_left; (intro w'; go_simp; with_reducible rfl); rotate_left; (simp only [Act.put, ls_, lz_, lc_, i64_w, i32_w]; rfl)
         refine pure_ (i := 1) (N := some 47) (v := ?_) (a' := ?_) #[true, true, false, false, false, false, false] rfl rfl (by kernel_rfl) (fun _ _ _ h => h) (Or.inl ⟨by rfl, ?_⟩) ?_ ?_
         rotate_left; (intro w'; go_simp; with_reducible rfl); rotate_left; (simp only [Act.put, ls_, lz_, lc_, i64_w, i32_w]; rfl)
         refine pure_ (i := 2) (N := some 48) (v := ?_) (a' := ?_) #[true, true, true, false, false, false, false] rfl rfl (by kernel_rfl) (fun _ _ _ h => h) (Or.inl ⟨by rfl, ?_⟩) ?_ ?_
         rotate_left; (intro w'; go_simp; with_reducible rfl); rotate_left; (simp only [Act.put, ls_, lz_, lc_, i64_w, i32_w]; rfl)
         refine take_ (i := 3) (N := some 49) (v := ?_) (a' := ?_) #[true, true, true, true, false, false, false] rfl rfl (by kernel_rfl) (fun _ _ _ h => h) (Or.inl ⟨by rfl, ?_⟩) hHeld ?_ ?_
         rotate_left
         ·rintro w' ⟨s0, s1, s2, s3⟩
          go_simp
          with_reducible rfl
         rotate_left
         ·simp only [Act.put, ls_, lz_, lc_, i64_w, i32_w]
          rfl
         refine take_ (i := 4) (N := some 50) (v := ?_) (a' := ?_) #[true, true, true, true, true, false, false] rfl rfl (by kernel_rfl) (fun _ _ _ h => h) (Or.inl ⟨by rfl, ?_⟩) hHeld ?_ ?_
         rotate_left
         ·rintro w' ⟨s0, s1, s2, s3⟩
          go_simp
          with_reducible rfl
         rotate_left
         ·simp only [Act.put, ls_, lz_, lc_, i64_w, i32_w]
          rfl
         refine one_ (i := 5) (N := some 51) #[true, true, true, true, true, true, false] rfl rfl (by kernel_rfl) (by decide) (fun K hK => ?_)
         refine goes_ Tryz.func48 (by kernel_rfl) rfl #[.agg #[.int .i64 ((rd_T25 t494 x11_2).f0), .int .i64 ((rd_T25 t494 x11_2).f1)], .agg #[.int .i64 a1_0, .int .i64 a1_1]] (by rfl) rfl rfl (by (try simp only [lm_, lq_, lx_]); first | done | rfl | (simp only [ld_, lt_]; rfl)) ?_
         with_reducible refine (neumeref02_Cmp.calls k2 ((rd_T25 t494 x11_2).f0) ((rd_T25 t494 x11_2).f1) a1_0 a1_1 t505 _ A42.out).mono ?_
         rintro e w49 ⟨rfl, hb⟩
         have HS2_ := (hb.cell (wb_ _ _ (hHeld.2.2.1))).trans (hHeld.2.2.1)
         have HS3_ := (hb.cell (wb_ _ _ (hHeld.2.2.2))).trans (hHeld.2.2.2)
         refine ⟨_, rfl, ?_⟩
         replace HO_6 := sd_ (Kd.R_below (by (with_reducible repeat (first | apply Kd.R_alloc | apply Kd.R_drewN | apply Kd.R_drew)); exact HO_6.out) hb)
         replace BK492 := kb_ BK492 hb
         replace BK493 := kb_ BK493 hb
         replace BK501 := kb_ BK501 hb
         replace HB := hb_ HB (e_ GE492 (e_ GE493 (e_ GE501 e0_))) hb
         (try clear hb)
         (try clear hb2)
         (try clear hk)
         (try clear hi)
         refine hK.out _ _ ⟨(kc_ BK493.out 0).trans rfl, (kc_ BK493.out 1).trans rfl, HS2_, HS3_⟩ (fun hHeld => ?_)
         clear hK K
         refine norm_ (a' := ?_) ?_ ?_
         rotate_left
         ·show Act.put _ (some 51) _ = _
          simp only [Act.put, ls_, lz_, lc_, i64_w, i32_w]
          rfl
         refine pure_ (i := 6) (N := some 52) (v := ?_) (a' := ?_) #[true, true, true, true, true, true, true] rfl rfl (by kernel_rfl) (fun _ _ _ h => h) (Or.inl ⟨by rfl, ?_⟩) ?_ ?_
         rotate_left; (intro w'; go_simp; with_reducible rfl); rotate_left; (simp only [Act.put, ls_, lz_, lc_, i64_w, i32_w]; rfl)
         refine done_ (by kernel_rfl) ?_
         try go_wp2
         go_roundg k2
         case measure => have := HJ4.out; have := HK2.out; omega
         case rel => exact ⟨(x10_2), (wrap64 (x11_2 + 1)), (by first | rfl | (simp; done) | (simp [*]; done) | (simp [bne]; done)), (by first | rfl | (simp; done) | (simp [*]; done) | (simp [bne]; done)), H', ⟨by have := HJ4.out; have := HK2.out; omega⟩, ⟨by (with_reducible repeat (first | apply Kd.R_alloc | apply Kd.R_drewN | apply Kd.R_drew)); exact HO_6.out⟩, ⟨by (with_reducible repeat first | apply kn_ | apply kd_ | apply ka_); exact BK492.out⟩, ⟨by (with_reducible repeat first | apply kn_ | apply kd_ | apply ka_); exact BK493.out⟩, ⟨by (with_reducible repeat first | apply kn_ | apply kd_ | apply ka_); exact BK501.out⟩, ⟨by repeat (first | (with_reducible first | exact HB.out | apply ba_ | apply pd_ | apply d1_ | refine bs_ ?_ GE492.out | refine bs_ ?_ GE493.out | refine bs_ ?_ GE501.out) | exact HB.out)⟩⟩
       ·rw [if_neg c41] at H
        exact absurd H (by simp)
      ·rw [if_neg c40] at H
       have c40b0 : decide (x11_2 < (t494.length : Int)) = false := df_ c40
       clear c40
       simp only [Option.some.injEq, Prod.mk.injEq] at H
       obtain ⟨rfl, rfl⟩ := H
       obtain ⟨Ao50, co50, eo50⟩ := Kd.R_slice HO_6.out
       subst eo50
       go_wp2
       go_ret2
       exact ⟨by first | rfl | (simp [errW_none, errW_some] <;> rfl) | (simp [*, errW_none, errW_some] <;> rfl), by repeat (first | (with_reducible first | exact HB.out | apply ba_ | apply pd_ | apply d1_ | refine bs_ ?_ GE492.out | refine bs_ ?_ GE493.out | refine bs_ ?_ GE501.out) | exact HB.out)⟩

end Go.Proofs.YtdiccfonlojlfaaGreatDoor.P
