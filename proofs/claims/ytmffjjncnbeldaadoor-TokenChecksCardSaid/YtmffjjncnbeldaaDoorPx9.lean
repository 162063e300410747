-- Written by a program of this session (wip/tools/xprint.py, over the kit's print): Lean checks it.
import Derived.Test.YtmffjjncnbeldaaDoorPx0
import Derived.Test.YtmffjjncnbeldaaDoorPx7
import Derived.Test.YtmffjjncnbeldaaDoorPx8
namespace Go.Proofs.YtmffjjncnbeldaaDoor.P
open Go.RowKit Go.Proofs.YtmffjjncnbeldaaDoorW.PrintWords Go.Proofs.YtmffjjncnbeldaaDoorW.PrintLast Go.Proofs.YtmffjjncnbeldaaDoorW.PrintMore
attribute [local go_sem] max2_int min2_int max_two min_two max_three min_three max_four min_four   -- for this text's walks alone
set_option linter.unusedVariables false
set_option linter.unusedSimpArgs false

/-! ### neumeref08_next: function 24 -/
mutual
def neumeref08_next.j0 : Nat → ByteArray → Int → Int → Int → Bool → Option (Int × Int × Int × Int)
 | 0, _, _, _, _, _ => none
 | k + 1, x0, x1, x7, x8, x19 => if x19 = true then (some (3, wrap64 (x1 + 1), 0, 0)) else ((neumeref08_sign.f k x7).bind fun t212 => (if t212 = true then (some (4, wrap64 (x1 + 1), 0, 0)) else (if x7 = 34 then ((neumeref08_quoted.f k x0 x1).bind fun bt213 => (some (5, bt213.1, bt213.2.1, bt213.2.2))) else (if x7 = 45 then ((neumeref08_double.f x0 x1).bind fun bt217 => (some (6, bt217.1, bt217.2.1, bt217.2.2))) else (if x7 = 95 then ((neumeref08_double.f x0 x1).bind fun bt221 => (some (7, bt221.1, bt221.2.1, bt221.2.2))) else ((neumeref08_digit.f x7).bind fun t225 => (if t225 = true then (neumeref08_next.l0 k x0 x8) else (neumeref08_next.l1 k x0 x1 x8))))))))
def neumeref08_next.l0 : Nat → ByteArray → Int → Option (Int × Int × Int × Int)
 | 0, _, _ => none
 | k + 1, x0, x8 => if x8 < (x0.size : Int) then (if 0 ≤ x8 then ((neumeref08_digit.f (bt x0 x8)).bind fun t226 => (if t226 = true then (neumeref08_next.l0 k x0 (wrap64 (x8 + 1))) else (some (2, x8, 0, 0)))) else (none)) else (some (2, x8, 0, 0))
def neumeref08_next.l1 : Nat → ByteArray → Int → Int → Option (Int × Int × Int × Int)
 | 0, _, _, _ => none
 | k + 1, x0, x1, x8 => if x8 < (x0.size : Int) then ((neumeref08_letter.f k x0 x8).bind fun t227 => (if t227 > 0 then ((neumeref08_letter.f k x0 x8).bind fun t228 => (neumeref08_next.l1 k x0 x1 (wrap64 (x8 + t228)))) else (if x8 = x1 then ((neumeref08_fault.f 10 x1).bind fun bt229 => (some (0, 0, bt229.1, bt229.2))) else (some (1, x8, 0, 0))))) else (if x8 = x1 then ((neumeref08_fault.f 10 x1).bind fun bt231 => (some (0, 0, bt231.1, bt231.2))) else (some (1, x8, 0, 0)))
end
def neumeref08_next.f (k : Nat) (a0 : ByteArray) (a1 : Int) : Option (Int × Int × Int × Int) := if 0 ≤ a1 then (if a1 < (a0.size : Int) then (if (bt a0 a1) = 39 then (neumeref08_next.j0 k a0 a1 (bt a0 a1) a1 true) else (neumeref08_next.j0 k a0 a1 (bt a0 a1) a1 ((bt a0 a1) == 44))) else (none)) else (none)
theorem neumeref08_next.mono_l : ∀ k, (∀ y0 y1 y2 y3 y4, LeO (neumeref08_next.j0 k y0 y1 y2 y3 y4) (neumeref08_next.j0 (k + 1) y0 y1 y2 y3 y4)) ∧ (∀ y0 y1, LeO (neumeref08_next.l0 k y0 y1) (neumeref08_next.l0 (k + 1) y0 y1)) ∧ (∀ y0 y1 y2, LeO (neumeref08_next.l1 k y0 y1 y2) (neumeref08_next.l1 (k + 1) y0 y1 y2))
 | 0 => ⟨fun _ _ _ _ _ r h => by simp [neumeref08_next.j0] at h, fun _ _ r h => by simp [neumeref08_next.l0] at h, fun _ _ _ r h => by simp [neumeref08_next.l1] at h⟩
 | k + 1 => by
  obtain ⟨ih0, ih1, ih2⟩ := neumeref08_next.mono_l k
  refine ⟨?_, ?_, ?_⟩
  ·intro y0 y1 y2 y3 y4
   unfold neumeref08_next.j0
   repeat' first
   | (with_reducible exact ih0 _ _ _ _ _)
   | (with_reducible exact ih1 _ _)
   | (with_reducible exact ih2 _ _ _)
   | (with_reducible exact neumeref08_letter.mono _ _ _)
   | (with_reducible exact neumeref08_quoted.mono _ _ _)
   | (with_reducible exact neumeref08_sign.mono _ _)
   | (with_reducible exact LeO.refl _)
   | (with_reducible exact LeO.none _)
   | (with_reducible refine LeO.ite ?_ ?_)
   | (with_reducible refine LeO.bind ?_ (fun _ => ?_))
   | exact ih0 _ _ _ _ _
   | exact ih1 _ _
   | exact ih2 _ _ _
   | exact neumeref08_letter.mono _ _ _
   | exact neumeref08_quoted.mono _ _ _
   | exact neumeref08_sign.mono _ _
   | exact LeO.none _
   | refine LeO.ite ?_ ?_
   | refine LeO.bind ?_ (fun _ => ?_)
  ·intro y0 y1
   unfold neumeref08_next.l0
   repeat' first
   | (with_reducible exact ih0 _ _ _ _ _)
   | (with_reducible exact ih1 _ _)
   | (with_reducible exact ih2 _ _ _)
   | (with_reducible exact neumeref08_letter.mono _ _ _)
   | (with_reducible exact neumeref08_quoted.mono _ _ _)
   | (with_reducible exact neumeref08_sign.mono _ _)
   | (with_reducible exact LeO.refl _)
   | (with_reducible exact LeO.none _)
   | (with_reducible refine LeO.ite ?_ ?_)
   | (with_reducible refine LeO.bind ?_ (fun _ => ?_))
   | exact ih0 _ _ _ _ _
   | exact ih1 _ _
   | exact ih2 _ _ _
   | exact neumeref08_letter.mono _ _ _
   | exact neumeref08_quoted.mono _ _ _
   | exact neumeref08_sign.mono _ _
   | exact LeO.none _
   | refine LeO.ite ?_ ?_
   | refine LeO.bind ?_ (fun _ => ?_)
  ·intro y0 y1 y2
   unfold neumeref08_next.l1
   repeat' first
   | (with_reducible exact ih0 _ _ _ _ _)
   | (with_reducible exact ih1 _ _)
   | (with_reducible exact ih2 _ _ _)
   | (with_reducible exact neumeref08_letter.mono _ _ _)
   | (with_reducible exact neumeref08_quoted.mono _ _ _)
   | (with_reducible exact neumeref08_sign.mono _ _)
   | (with_reducible exact LeO.refl _)
   | (with_reducible exact LeO.none _)
   | (with_reducible refine LeO.ite ?_ ?_)
   | (with_reducible refine LeO.bind ?_ (fun _ => ?_))
   | exact ih0 _ _ _ _ _
   | exact ih1 _ _
   | exact ih2 _ _ _
   | exact neumeref08_letter.mono _ _ _
   | exact neumeref08_quoted.mono _ _ _
   | exact neumeref08_sign.mono _ _
   | exact LeO.none _
   | refine LeO.ite ?_ ?_
   | refine LeO.bind ?_ (fun _ => ?_)
theorem neumeref08_next.mono : ∀ a0 a1 k, LeO (neumeref08_next.f k a0 a1) (neumeref08_next.f (k + 1) a0 a1) := by
 intro a0 a1 k
 obtain ⟨ih0, ih1, ih2⟩ := neumeref08_next.mono_l k
 unfold neumeref08_next.f
 repeat' first
   | (with_reducible exact ih0 _ _ _ _ _)
   | (with_reducible exact ih1 _ _)
   | (with_reducible exact ih2 _ _ _)
   | (with_reducible exact neumeref08_letter.mono _ _ _)
   | (with_reducible exact neumeref08_quoted.mono _ _ _)
   | (with_reducible exact neumeref08_sign.mono _ _)
   | (with_reducible exact LeO.refl _)
   | (with_reducible exact LeO.none _)
   | (with_reducible refine LeO.ite ?_ ?_)
   | (with_reducible refine LeO.bind ?_ (fun _ => ?_))
   | exact ih0 _ _ _ _ _
   | exact ih1 _ _
   | exact ih2 _ _ _
   | exact neumeref08_letter.mono _ _ _
   | exact neumeref08_quoted.mono _ _ _
   | exact neumeref08_sign.mono _ _
   | exact LeO.none _
   | refine LeO.ite ?_ ?_
   | refine LeO.bind ?_ (fun _ => ?_)
set_option maxHeartbeats 8000000 in
set_option maxRecDepth 100000 in
theorem neumeref08_next.calls (k : Nat) (a0 : ByteArray) (a1 : Int) (r1 : Int) (r2 : Int) (r3 : Int) (r4 : Int) (w : World) (h : neumeref08_next.f k a0 a1 = some (r1, r2, r3, r4)) :
  Calls Tryd.prog 24 #[.string a0, .int .i64 a1] w fun e w' => e = .returned (.tuple #[.int .i64 r1, .int .i64 r2, .agg #[.int .i64 r3, .int .i64 r4]]) ∧ Below w.heap.size w w' := by
 have hu26 := Tryd.underlying26
 have HB := sd_ (Below.refl w.heap.size w)
 have H : (if 0 ≤ a1 then (if a1 < (a0.size : Int) then (if (bt a0 a1) = 39 then (neumeref08_next.j0 k a0 a1 (bt a0 a1) a1 true) else (neumeref08_next.j0 k a0 a1 (bt a0 a1) a1 ((bt a0 a1) == 44))) else (none)) else (none)) = some (r1, r2, r3, r4) := h
 clear h
 by_cases c3 : 0 ≤ a1
 ·rw [if_pos c3] at H
  have c3b0 : decide (0 ≤ a1) = true := dt_ c3
  clear c3
  by_cases c4 : a1 < (a0.size : Int)
  ·rw [if_pos c4] at H
   have c4b0 : decide (a1 < (a0.size : Int)) = true := dt_ c4
   clear c4
   have HC6 := sd_ H
   clear H
   go_enter Tryd.func24, Tryd.ntmps24
   go_upto_region 3 with (first | ((with_reducible refine gate_dst (N := 6) rfl ?_); refine box_event ?hg (N := 6) ?hd (cs := #[.int .i64 0, .int .i64 0]) (t := 26) ?hr ?_; (case hd => rfl); (case hg => rfl); (case hr => first | (go_simp; done) | (go_simp; rfl)); intro gb211 hg w7 hbox hb; have BK211 := sd_ hbox; have GW211 := gw_ HB e0_ hg; have GE211 := GW211; replace HB := hb_ HB e0_ hb; clear hb hbox hg; have p5 : 0 ≤ (a1 : Int) := od_ (by first | (with_reducible assumption) | assumption); have q5 : a1 < (a0.size : Int) := od_ (by first | (with_reducible assumption) | assumption); have hx5 := bt_at a0 a1; replace p5 := eq_true p5; replace q5 := eq_true q5))
   (try simp only [Act.put, ls_, lz_, lc_])
   go_cut [19] (fun v19 wc => ∃ (kq : Nat) (x19_5 : Bool), v19 = .bool x19_5 ∧ Aside0 (neumeref08_next.j0 kq a0 a1 (bt a0 a1) a1 x19_5 = some (r1, r2, r3, r4)) ∧ Aside0 (kq ≤ k) ∧ Aside0 (wc.heap[gb211]? = some (.cells #[.int .i64 0, .int .i64 0] 26 (0, 0))) ∧ Aside0 (Below w.heap.size w wc))
   case first =>
    have H := HC6.out
    clear HC6
    by_cases c8 : (bt a0 a1) = 39
    ·rw [if_pos c8] at H
     have c8b0 : ((bt a0 a1) == 39) = true := beq_iff_eq.mpr c8
     have c8b1 : ((bt a0 a1) != 39) = false := bne_eq_false_iff_eq.mpr c8
     clear c8
     (first | rw [c8b0] | (simp only [i64_w, i32_w]; rw [c8b0]) | skip)
     have H' := sd_ H
     clear H
     go_wp2
     go_meet
     case rel => exact ⟨_, (true), (by first | rfl | (simp; done) | (simp [*]; done) | (simp [bne]; done)), H', ⟨by first | omega | exact Nat.le_refl _⟩, ⟨by (with_reducible repeat first | apply kn_ | apply kd_ | apply ka_); exact BK211.out⟩, ⟨by repeat (first | (with_reducible first | exact HB.out | apply ba_ | apply pd_ | apply d1_ | refine bs_ ?_ GE211.out) | exact HB.out)⟩⟩
    ·rw [if_neg c8] at H
     have c8b0 : ((bt a0 a1) == 39) = false := beq_eq_false_iff_ne.mpr c8
     have c8b1 : ((bt a0 a1) != 39) = true := bne_iff_ne.mpr c8
     (first | rw [c8b0] | (simp only [i64_w, i32_w]; rw [c8b0]) | skip)
     have H' := sd_ H
     clear H
     go_wp2
     go_meet
     case rel => exact ⟨_, (((bt a0 a1) == 44)), (by first | rfl | (simp; done) | (simp [*]; done) | (simp [bne]; done)), H', ⟨by first | omega | exact Nat.le_refl _⟩, ⟨by (with_reducible repeat first | apply kn_ | apply kd_ | apply ka_); exact BK211.out⟩, ⟨by repeat (first | (with_reducible first | exact HB.out | apply ba_ | apply pd_ | apply d1_ | refine bs_ ?_ GE211.out) | exact HB.out)⟩⟩
   case rest =>
    clear HC6
    try clear c2; try clear p2; try clear c3; try clear c3b0; try clear c4; try clear c4b0; try clear p5; try clear q5; try clear hx5; try clear c8; try clear c8b0; try clear c8b1; try clear p5; try clear q5
    obtain ⟨kq, x19_5, rfl, HA, HJ5, BK211, HB⟩ := hcut
    cases kq with
    | zero => exact absurd HA.out (by simp [neumeref08_next.j0])
    | succ kj5 =>
     have H := HA.out
     clear HA
     simp only [neumeref08_next.j0] at H
     by_cases c9 : x19_5 = true
     ·subst c9
      have H1 : (some (3, wrap64 (a1 + 1), 0, 0)) = some (r1, r2, r3, r4) := by rw [if_pos rfl] at H; exact H
      clear H; have H := H1; clear H1
      simp only [Option.some.injEq, Prod.mk.injEq] at H
      obtain ⟨rfl, rfl, rfl, rfl⟩ := H
      have hcz10_0 : wc.cell? ⟨gb211, 0, none⟩ = some (.int .i64 0) := (kc_ BK211.out 0).trans rfl
      have hcz10_1 : wc.cell? ⟨gb211, 1, none⟩ = some (.int .i64 0) := (kc_ BK211.out 1).trans rfl
      have hfz10_0 := kf_ BK211.out 0
      have hfz10_1 := kf_ BK211.out 1
      go_wp2
      refine bodyPost_ret (results_list (rs := [.tmp 4, .tmp 5, .cell 6 26]) rfl (by simp) (.tmp (.tmp (.cell gb211 26 #[.int .i64 0, .int .i64 0] (0, 0) _ rfl (by (with_reducible repeat first | apply kn_ | apply kd_ | apply ka_); refine blk_put (cs := #[.int .i64 0, .int .i64 0]) ?_ 1 _ rfl; (with_reducible repeat first | apply kn_ | apply kd_ | apply ka_); refine blk_put (cs := #[.int .i64 0, .int .i64 0]) ?_ 0 _ rfl; (with_reducible repeat first | apply kn_ | apply kd_ | apply ka_); exact BK211.out) Tryd.underlying26 rfl (by kernel_rfl) .nil)))) rfl ?_
      exact ⟨by first | rfl | (simp [errW_none, errW_some] <;> rfl) | (simp [*, errW_none, errW_some] <;> rfl), by repeat (first | (with_reducible first | exact HB.out | apply ba_ | apply pd_ | apply d1_ | refine bs_ ?_ GE211.out) | exact HB.out)⟩
     ·replace c9 := bf_ c9
      subst c9
      have H1 : ((neumeref08_sign.f kj5 (bt a0 a1)).bind fun t212 => (if t212 = true then (some (4, wrap64 (a1 + 1), 0, 0)) else (if (bt a0 a1) = 34 then ((neumeref08_quoted.f kj5 a0 a1).bind fun bt213 => (some (5, bt213.1, bt213.2.1, bt213.2.2))) else (if (bt a0 a1) = 45 then ((neumeref08_double.f a0 a1).bind fun bt217 => (some (6, bt217.1, bt217.2.1, bt217.2.2))) else (if (bt a0 a1) = 95 then ((neumeref08_double.f a0 a1).bind fun bt221 => (some (7, bt221.1, bt221.2.1, bt221.2.2))) else ((neumeref08_digit.f (bt a0 a1)).bind fun t225 => (if t225 = true then (neumeref08_next.l0 kj5 a0 a1) else (neumeref08_next.l1 kj5 a0 a1 a1)))))))) = some (r1, r2, r3, r4) := by rw [if_neg (show ¬ (false = true) by decide)] at H; exact H
      clear H; have H := H1; clear H1
      replace H := ob_ H
      obtain ⟨t212, A110, H⟩ := H
      replace H : (if t212 = true then (some (4, wrap64 (a1 + 1), 0, 0)) else (if (bt a0 a1) = 34 then ((neumeref08_quoted.f kj5 a0 a1).bind fun bt213 => (some (5, bt213.1, bt213.2.1, bt213.2.2))) else (if (bt a0 a1) = 45 then ((neumeref08_double.f a0 a1).bind fun bt217 => (some (6, bt217.1, bt217.2.1, bt217.2.2))) else (if (bt a0 a1) = 95 then ((neumeref08_double.f a0 a1).bind fun bt221 => (some (7, bt221.1, bt221.2.1, bt221.2.2))) else ((neumeref08_digit.f (bt a0 a1)).bind fun t225 => (if t225 = true then (neumeref08_next.l0 kj5 a0 a1) else (neumeref08_next.l1 kj5 a0 a1 a1))))))) = some (r1, r2, r3, r4) := H
      have A11 := sd_ A110
      clear A110
      by_cases c12 : t212 = true
      ·subst c12
       have H1 : (some (4, wrap64 (a1 + 1), 0, 0)) = some (r1, r2, r3, r4) := by rw [if_pos rfl] at H; exact H
       clear H; have H := H1; clear H1
       simp only [Option.some.injEq, Prod.mk.injEq] at H
       obtain ⟨rfl, rfl, rfl, rfl⟩ := H
       go_wp2_with (first | ((with_reducible refine gate_callee (f := 37) rfl ?_); refine goesL_ (some 31) rfl rfl Tryd.func37 (by kernel_rfl) rfl #[.int .u8 (bt a0 a1)] rfl (by (try simp only [lm_, lq_, lx_]); first | done | rfl | (simp only [ld_, lt_]; rfl)) ?_; (with_reducible refine (neumeref08_sign.calls kj5 (bt a0 a1) true _ A11.out).mono ?_); rintro e w' ⟨rfl, ⟨nd, rfl⟩⟩; refine ⟨_, rfl, ?_⟩; (repeat (rw [drewN_self wc]; generalize hq_ : World.drewN wc _ = wc; have n0_ : Aside0 (wc.heap[gb211]? = some (.cells #[.int .i64 0, .int .i64 0] 26 (0, 0))) := ⟨by rw [← hq_]; exact (kk_ BK211.out)⟩; have n1_ : Aside0 (Below w.heap.size w wc) := ⟨by rw [← hq_]; exact (bb_ HB.out (e_ GE211 e0_))⟩; clear BK211 HB hq_; have BK211 := n0_; have HB := n1_; clear n0_ n1_)); have hcz13_0 : wc.cell? ⟨gb211, 0, none⟩ = some (.int .i64 0) := (kc_ BK211.out 0).trans rfl; have hcz13_1 : wc.cell? ⟨gb211, 1, none⟩ = some (.int .i64 0) := (kc_ BK211.out 1).trans rfl; have hfz13_0 := kf_ BK211.out 0; have hfz13_1 := kf_ BK211.out 1))
       refine bodyPost_ret (results_list (rs := [.tmp 4, .tmp 5, .cell 6 26]) rfl (by simp) (.tmp (.tmp (.cell gb211 26 #[.int .i64 0, .int .i64 0] (0, 0) _ rfl (by (with_reducible repeat first | apply kn_ | apply kd_ | apply ka_); refine blk_put (cs := #[.int .i64 0, .int .i64 0]) ?_ 1 _ rfl; (with_reducible repeat first | apply kn_ | apply kd_ | apply ka_); refine blk_put (cs := #[.int .i64 0, .int .i64 0]) ?_ 0 _ rfl; (with_reducible repeat first | apply kn_ | apply kd_ | apply ka_); exact BK211.out) Tryd.underlying26 rfl (by kernel_rfl) .nil)))) rfl ?_
       exact ⟨by first | rfl | (simp [errW_none, errW_some] <;> rfl) | (simp [*, errW_none, errW_some] <;> rfl), by repeat (first | (with_reducible first | exact HB.out | apply ba_ | apply pd_ | apply d1_ | refine bs_ ?_ GE211.out) | exact HB.out)⟩
      ·replace c12 := bf_ c12
       subst c12
       have H1 : (if (bt a0 a1) = 34 then ((neumeref08_quoted.f kj5 a0 a1).bind fun bt213 => (some (5, bt213.1, bt213.2.1, bt213.2.2))) else (if (bt a0 a1) = 45 then ((neumeref08_double.f a0 a1).bind fun bt217 => (some (6, bt217.1, bt217.2.1, bt217.2.2))) else (if (bt a0 a1) = 95 then ((neumeref08_double.f a0 a1).bind fun bt221 => (some (7, bt221.1, bt221.2.1, bt221.2.2))) else ((neumeref08_digit.f (bt a0 a1)).bind fun t225 => (if t225 = true then (neumeref08_next.l0 kj5 a0 a1) else (neumeref08_next.l1 kj5 a0 a1 a1)))))) = some (r1, r2, r3, r4) := by rw [if_neg (show ¬ (false = true) by decide)] at H; exact H
       clear H; have H := H1; clear H1
       by_cases c14 : (bt a0 a1) = 34
       ·rw [if_pos c14] at H
        have c14b0 : ((bt a0 a1) == 34) = true := beq_iff_eq.mpr c14
        have c14b1 : ((bt a0 a1) != 34) = false := bne_eq_false_iff_eq.mpr c14
        clear c14
        replace H := ob_ H
        obtain ⟨⟨t213, t214, t215⟩, A150, H⟩ := H
        replace H : (some (5, t213, t214, t215)) = some (r1, r2, r3, r4) := H
        have A15 := sd_ A150
        clear A150
        simp only [Option.some.injEq, Prod.mk.injEq] at H
        obtain ⟨rfl, rfl, rfl, rfl⟩ := H
        try go_wp2_with (first | ((with_reducible refine gate_callee (f := 37) rfl ?_); refine goesL_ (some 31) rfl rfl Tryd.func37 (by kernel_rfl) rfl #[.int .u8 (bt a0 a1)] rfl (by (try simp only [lm_, lq_, lx_]); first | done | rfl | (simp only [ld_, lt_]; rfl)) ?_; (with_reducible refine (neumeref08_sign.calls kj5 (bt a0 a1) false _ A11.out).mono ?_); rintro e w' ⟨rfl, ⟨nd, rfl⟩⟩; refine ⟨_, rfl, ?_⟩; (repeat (rw [drewN_self wc]; generalize hq_ : World.drewN wc _ = wc; have n0_ : Aside0 (wc.heap[gb211]? = some (.cells #[.int .i64 0, .int .i64 0] 26 (0, 0))) := ⟨by rw [← hq_]; exact (kk_ BK211.out)⟩; have n1_ : Aside0 (Below w.heap.size w wc) := ⟨by rw [← hq_]; exact (bb_ HB.out (e_ GE211 e0_))⟩; clear BK211 HB hq_; have BK211 := n0_; have HB := n1_; clear n0_ n1_))) | ((with_reducible refine gate_callee (f := 38) rfl ?_); refine goesL_ (some 41) rfl rfl Tryd.func38 (by kernel_rfl) rfl #[.string a0, .int .i64 a1] rfl (by (try simp only [lm_, lq_, lx_]); first | done | rfl | (simp only [ld_, lt_]; rfl)) ?_; (with_reducible refine (neumeref08_quoted.calls kj5 a0 a1 t213 t214 t215 _ A15.out).mono ?_); rintro e w16 ⟨rfl, hb⟩; refine ⟨_, rfl, ?_⟩; replace BK211 := kb_ BK211 hb; replace HB := hb_ HB (e_ GE211 e0_) hb; (try clear hb); (try clear hb2); (try clear hk); (try clear hi)) | ((with_reducible refine gate_dst (N := 10) rfl ?_); refine box_event ?hg (N := 10) ?hd (cs := #[.int .i64 0, .int .i64 0]) (t := 26) ?hr ?_; (case hd => rfl); (case hg => rfl); (case hr => first | (go_simp; done) | (go_simp; rfl)); intro gb216 hg w17 hbox hb; have BK216 := sd_ hbox; have GW216 := gw_ HB (e_ GE211 e0_) hg; have GE216 := GW216; have NB211_216 := nb_ BK211 hg; have NB216_211 := sy_ NB211_216; replace BK211 := kb_ BK211 hb; replace HB := hb_ HB (e_ GE211 e0_) hb; clear hb hbox hg; have hnb18 := NB216_211.out; have hnc18 := NB211_216.out; have hcz19_0 : w17.cell? ⟨gb216, 0, none⟩ = some (.int .i64 0) := (kc_ BK216.out 0).trans rfl; have hcz19_1 : w17.cell? ⟨gb216, 1, none⟩ = some (.int .i64 0) := (kc_ BK216.out 1).trans rfl; have hfz19_0 := kf_ BK216.out 0; have hfz19_1 := kf_ BK216.out 1))
        have n0_ : Aside0 (((w17.setCell ⟨gb216, 0, none⟩ (.int .i64 t214)).setCell ⟨gb216, 1, none⟩ (.int .i64 t215)).heap[gb211]? = some (.cells #[.int .i64 0, .int .i64 0] 26 (0, 0))) := ⟨by (with_reducible repeat first | apply kn_ | apply kd_ | apply ka_); refine blk_far ?_ NB211_216.out _; (with_reducible repeat first | apply kn_ | apply kd_ | apply ka_); refine blk_far ?_ NB211_216.out _; (with_reducible repeat first | apply kn_ | apply kd_ | apply ka_); exact BK211.out⟩
        have n1_ : Aside0 (((w17.setCell ⟨gb216, 0, none⟩ (.int .i64 t214)).setCell ⟨gb216, 1, none⟩ (.int .i64 t215)).heap[gb216]? = some (.cells #[.int .i64 t214, .int .i64 t215] 26 (0, 0))) := ⟨by (with_reducible repeat first | apply kn_ | apply kd_ | apply ka_); refine blk_put (cs := #[.int .i64 t214, .int .i64 0]) ?_ 1 _ rfl; (with_reducible repeat first | apply kn_ | apply kd_ | apply ka_); refine blk_put (cs := #[.int .i64 0, .int .i64 0]) ?_ 0 _ rfl; (with_reducible repeat first | apply kn_ | apply kd_ | apply ka_); exact BK216.out⟩
        have n2_ : Aside0 (Below w.heap.size w ((w17.setCell ⟨gb216, 0, none⟩ (.int .i64 t214)).setCell ⟨gb216, 1, none⟩ (.int .i64 t215))) := ⟨by repeat (first | (with_reducible first | exact HB.out | apply ba_ | apply pd_ | apply d1_ | refine bs_ ?_ GE211.out | refine bs_ ?_ GE216.out) | exact HB.out)⟩
        (try clear BK211)
        (try clear BK216)
        (try clear HB)
        generalize ((w17.setCell ⟨gb216, 0, none⟩ (.int .i64 t214)).setCell ⟨gb216, 1, none⟩ (.int .i64 t215)) = w20 at n0_ n1_ n2_ ⊢
        have BK211 := n0_
        have BK216 := n1_
        have HB := n2_
        clear n0_ n1_ n2_
        replace BK211 := sd_ (kd_ BK211.out)
        replace BK216 := sd_ (kd_ BK216.out)
        replace HB := sd_ (d1_ HB.out)
        refine start_ (n := 5) (S := fun w' => w'.cell? ⟨gb216, 0, none⟩ = some (.int .i64 t214) ∧ w'.cell? ⟨gb216, 1, none⟩ = some (.int .i64 t215)) (ds := []) #[false, false, false, false, false] (by kernel_rfl) rfl rfl ⟨(kc_ BK216.out 0).trans rfl, (kc_ BK216.out 1).trans rfl⟩ (fun hHeld => ?_)
        generalize w20.drew = w21 at BK211 BK216 HB hHeld ⊢
        refine pure_ (i := 0) (N := some 44) (v := ?_) (a' := ?_) #[true, false, false, false, false] rfl rfl (by kernel_rfl) (fun _ _ _ h => h) (Or.inl ⟨by rfl, ?_⟩) ?_ ?_
        rotate_left; (intro w'; go_simp; with_reducible rfl); rotate_left; (simp only [Act.put, ls_, lz_, lc_, i64_w, i32_w]; rfl)
        refine pure_ (i := 2) (N := some 4) (v := ?_) (a' := ?_) #[true, false, true, false, false] rfl rfl (by kernel_rfl) (fun _ _ _ h => h) (Or.inl ⟨by rfl, ?_⟩) ?_ ?_
        rotate_left; (intro w'; go_simp; with_reducible rfl); rotate_left; (simp only [Act.put, ls_, lz_, lc_, i64_w, i32_w]; rfl)
        refine pure_ (i := 3) (N := some 5) (v := ?_) (a' := ?_) #[true, false, true, true, false] rfl rfl (by kernel_rfl) (fun _ _ _ h => h) (Or.inl ⟨by rfl, ?_⟩) ?_ ?_
        rotate_left; (intro w'; go_simp; with_reducible rfl); rotate_left; (simp only [Act.put, ls_, lz_, lc_, i64_w, i32_w]; rfl)
        refine take_ (i := 1) (N := some 45) (v := ?_) (a' := ?_) #[true, true, true, true, false] rfl rfl (by kernel_rfl) (fun _ _ _ h => h) (Or.inl ⟨by rfl, ?_⟩) hHeld ?_ ?_
        rotate_left
        ·rintro w' ⟨s0, s1⟩
         go_simp
         with_reducible rfl
        rotate_left
        ·simp only [Act.put, ls_, lz_, lc_, i64_w, i32_w]
         rfl
        refine one_ (i := 4) (N := none) #[true, true, true, true, true] rfl rfl (by kernel_rfl) (by decide) (fun K hK => ?_)
        have hs22 : w21.cell? ⟨gb211, 0, none⟩ = some (.int .i64 0) := (kc_ BK211.out 0).trans rfl
        have hfs22 := kf_ BK211.out 0
        have hns22_1 := NB216_211.out
        have hms22_1 := NB211_216.out
        have hs23 : w21.cell? ⟨gb211, 1, none⟩ = some (.int .i64 0) := (kc_ BK211.out 1).trans rfl
        have hfs23 := kf_ BK211.out 1
        have hns23_1 := NB216_211.out
        have hms23_1 := NB211_216.out
        refine skip_ (w1 := ?_) (by rfl) rfl ?_ ?_
        rotate_left
        ·go_simp
         rfl
        refine hK.out _ _ ⟨((cell_far (p := ⟨gb211, _, none⟩) NB216_211.out _).trans (((cell_far (p := ⟨gb211, _, none⟩) NB216_211.out _).trans (hHeld.1)))), ((cell_far (p := ⟨gb211, _, none⟩) NB216_211.out _).trans (((cell_far (p := ⟨gb211, _, none⟩) NB216_211.out _).trans (hHeld.2))))⟩ (fun hHeld => ?_)
        clear hK K
        refine done_ (by kernel_rfl) ?_
        try go_wp2
        refine bodyPost_ret (results_list (rs := [.tmp 4, .tmp 5, .cell 6 26]) rfl (by simp) (.tmp (.tmp (.cell gb211 26 #[.int .i64 t214, .int .i64 t215] (0, 0) _ rfl (by (with_reducible repeat first | apply kn_ | apply kd_ | apply ka_); refine blk_put (cs := #[.int .i64 t214, .int .i64 0]) ?_ 1 _ rfl; (with_reducible repeat first | apply kn_ | apply kd_ | apply ka_); refine blk_put (cs := #[.int .i64 0, .int .i64 0]) ?_ 0 _ rfl; (with_reducible repeat first | apply kn_ | apply kd_ | apply ka_); exact BK211.out) Tryd.underlying26 rfl (by kernel_rfl) .nil)))) rfl ?_
        exact ⟨by first | rfl | (simp [errW_none, errW_some] <;> rfl) | (simp [*, errW_none, errW_some] <;> rfl), by repeat (first | (with_reducible first | exact HB.out | apply ba_ | apply pd_ | apply d1_ | refine bs_ ?_ GE211.out | refine bs_ ?_ GE216.out) | exact HB.out)⟩
       ·rw [if_neg c14] at H
        have c14b0 : ((bt a0 a1) == 34) = false := beq_eq_false_iff_ne.mpr c14
        have c14b1 : ((bt a0 a1) != 34) = true := bne_iff_ne.mpr c14
        by_cases c24 : (bt a0 a1) = 45
        ·rw [if_pos c24] at H
         have c24b0 : ((bt a0 a1) == 45) = true := beq_iff_eq.mpr c24
         have c24b1 : ((bt a0 a1) != 45) = false := bne_eq_false_iff_eq.mpr c24
         clear c24
         replace H := ob_ H
         obtain ⟨⟨t217, t218, t219⟩, A250, H⟩ := H
         replace H : (some (6, t217, t218, t219)) = some (r1, r2, r3, r4) := H
         have A25 := sd_ A250
         clear A250
         simp only [Option.some.injEq, Prod.mk.injEq] at H
         obtain ⟨rfl, rfl, rfl, rfl⟩ := H
         try go_wp2_with (first | ((with_reducible refine gate_callee (f := 37) rfl ?_); refine goesL_ (some 31) rfl rfl Tryd.func37 (by kernel_rfl) rfl #[.int .u8 (bt a0 a1)] rfl (by (try simp only [lm_, lq_, lx_]); first | done | rfl | (simp only [ld_, lt_]; rfl)) ?_; (with_reducible refine (neumeref08_sign.calls kj5 (bt a0 a1) false _ A11.out).mono ?_); rintro e w' ⟨rfl, ⟨nd, rfl⟩⟩; refine ⟨_, rfl, ?_⟩; (repeat (rw [drewN_self wc]; generalize hq_ : World.drewN wc _ = wc; have n0_ : Aside0 (wc.heap[gb211]? = some (.cells #[.int .i64 0, .int .i64 0] 26 (0, 0))) := ⟨by rw [← hq_]; exact (kk_ BK211.out)⟩; have n1_ : Aside0 (Below w.heap.size w wc) := ⟨by rw [← hq_]; exact (bb_ HB.out (e_ GE211 e0_))⟩; clear BK211 HB hq_; have BK211 := n0_; have HB := n1_; clear n0_ n1_))) | ((with_reducible refine gate_callee (f := 39) rfl ?_); refine goesL_ (some 52) rfl rfl Tryd.func39 (by kernel_rfl) rfl #[.string a0, .int .i64 a1] rfl (by (try simp only [lm_, lq_, lx_]); first | done | rfl | (simp only [ld_, lt_]; rfl)) ?_; (with_reducible refine (neumeref08_double.calls a0 a1 t217 t218 t219 _ A25.out).mono ?_); rintro e w26 ⟨rfl, hb⟩; refine ⟨_, rfl, ?_⟩; replace BK211 := kb_ BK211 hb; replace HB := hb_ HB (e_ GE211 e0_) hb; (try clear hb); (try clear hb2); (try clear hk); (try clear hi)) | ((with_reducible refine gate_dst (N := 12) rfl ?_); refine box_event ?hg (N := 12) ?hd (cs := #[.int .i64 0, .int .i64 0]) (t := 26) ?hr ?_; (case hd => rfl); (case hg => rfl); (case hr => first | (go_simp; done) | (go_simp; rfl)); intro gb220 hg w27 hbox hb; have BK220 := sd_ hbox; have GW220 := gw_ HB (e_ GE211 e0_) hg; have GE220 := GW220; have NB211_220 := nb_ BK211 hg; have NB220_211 := sy_ NB211_220; replace BK211 := kb_ BK211 hb; replace HB := hb_ HB (e_ GE211 e0_) hb; clear hb hbox hg; have hnb28 := NB220_211.out; have hnc28 := NB211_220.out; have hcz29_0 : w27.cell? ⟨gb220, 0, none⟩ = some (.int .i64 0) := (kc_ BK220.out 0).trans rfl; have hcz29_1 : w27.cell? ⟨gb220, 1, none⟩ = some (.int .i64 0) := (kc_ BK220.out 1).trans rfl; have hfz29_0 := kf_ BK220.out 0; have hfz29_1 := kf_ BK220.out 1))
         have n0_ : Aside0 (((w27.setCell ⟨gb220, 0, none⟩ (.int .i64 t218)).setCell ⟨gb220, 1, none⟩ (.int .i64 t219)).heap[gb211]? = some (.cells #[.int .i64 0, .int .i64 0] 26 (0, 0))) := ⟨by (with_reducible repeat first | apply kn_ | apply kd_ | apply ka_); refine blk_far ?_ NB211_220.out _; (with_reducible repeat first | apply kn_ | apply kd_ | apply ka_); refine blk_far ?_ NB211_220.out _; (with_reducible repeat first | apply kn_ | apply kd_ | apply ka_); exact BK211.out⟩
         have n1_ : Aside0 (((w27.setCell ⟨gb220, 0, none⟩ (.int .i64 t218)).setCell ⟨gb220, 1, none⟩ (.int .i64 t219)).heap[gb220]? = some (.cells #[.int .i64 t218, .int .i64 t219] 26 (0, 0))) := ⟨by (with_reducible repeat first | apply kn_ | apply kd_ | apply ka_); refine blk_put (cs := #[.int .i64 t218, .int .i64 0]) ?_ 1 _ rfl; (with_reducible repeat first | apply kn_ | apply kd_ | apply ka_); refine blk_put (cs := #[.int .i64 0, .int .i64 0]) ?_ 0 _ rfl; (with_reducible repeat first | apply kn_ | apply kd_ | apply ka_); exact BK220.out⟩
         have n2_ : Aside0 (Below w.heap.size w ((w27.setCell ⟨gb220, 0, none⟩ (.int .i64 t218)).setCell ⟨gb220, 1, none⟩ (.int .i64 t219))) := ⟨by repeat (first | (with_reducible first | exact HB.out | apply ba_ | apply pd_ | apply d1_ | refine bs_ ?_ GE211.out | refine bs_ ?_ GE220.out) | exact HB.out)⟩
         (try clear BK211)
         (try clear BK220)
         (try clear HB)
         generalize ((w27.setCell ⟨gb220, 0, none⟩ (.int .i64 t218)).setCell ⟨gb220, 1, none⟩ (.int .i64 t219)) = w30 at n0_ n1_ n2_ ⊢
         have BK211 := n0_
         have BK220 := n1_
         have HB := n2_
         clear n0_ n1_ n2_
         replace BK211 := sd_ (kd_ BK211.out)
         replace BK220 := sd_ (kd_ BK220.out)
         replace HB := sd_ (d1_ HB.out)
         refine start_ (n := 5) (S := fun w' => w'.cell? ⟨gb220, 0, none⟩ = some (.int .i64 t218) ∧ w'.cell? ⟨gb220, 1, none⟩ = some (.int .i64 t219)) (ds := []) #[false, false, false, false, false] (by kernel_rfl) rfl rfl ⟨(kc_ BK220.out 0).trans rfl, (kc_ BK220.out 1).trans rfl⟩ (fun hHeld => ?_)
         generalize w30.drew = w31 at BK211 BK220 HB hHeld ⊢
         refine pure_ (i := 0) (N := some 55) (v := ?_) (a' := ?_) #[true, false, false, false, false] rfl rfl (by kernel_rfl) (fun _ _ _ h => h) (Or.inl ⟨by rfl, ?_⟩) ?_ ?_
         rotate_left; (intro w'; go_simp; with_reducible rfl); rotate_left; (simp only [Act.put, ls_, lz_, lc_, i64_w, i32_w]; rfl)
         refine pure_ (i := 2) (N := some 4) (v := ?_) (a' := ?_) #[true, false, true, false, false] rfl rfl (by kernel_rfl) (fun _ _ _ h => h) (Or.inl ⟨by rfl, ?_⟩) ?_ ?_
         rotate_left; (intro w'; go_simp; with_reducible rfl); rotate_left; (simp only [Act.put, ls_, lz_, lc_, i64_w, i32_w]; rfl)
         refine pure_ (i := 3) (N := some 5) (v := ?_) (a' := ?_) #[true, false, true, true, false] rfl rfl (by kernel_rfl) (fun _ _ _ h => h) (Or.inl ⟨by rfl, ?_⟩) ?_ ?_
         rotate_left; (intro w'; go_simp; with_reducible rfl); rotate_left; (simp only [Act.put, ls_, lz_, lc_, i64_w, i32_w]; rfl)
         refine take_ (i := 1) (N := some 56) (v := ?_) (a' := ?_) #[true, true, true, true, false] rfl rfl (by kernel_rfl) (fun _ _ _ h => h) (Or.inl ⟨by rfl, ?_⟩) hHeld ?_ ?_
         rotate_left
         ·rintro w' ⟨s0, s1⟩
          go_simp
          with_reducible rfl
         rotate_left
         ·simp only [Act.put, ls_, lz_, lc_, i64_w, i32_w]
          rfl
         refine one_ (i := 4) (N := none) #[true, true, true, true, true] rfl rfl (by kernel_rfl) (by decide) (fun K hK => ?_)
         have hs32 : w31.cell? ⟨gb211, 0, none⟩ = some (.int .i64 0) := (kc_ BK211.out 0).trans rfl
         have hfs32 := kf_ BK211.out 0
         have hns32_1 := NB220_211.out
         have hms32_1 := NB211_220.out
         have hs33 : w31.cell? ⟨gb211, 1, none⟩ = some (.int .i64 0) := (kc_ BK211.out 1).trans rfl
         have hfs33 := kf_ BK211.out 1
         have hns33_1 := NB220_211.out
         have hms33_1 := NB211_220.out
         refine skip_ (w1 := ?_) (by rfl) rfl ?_ ?_
         rotate_left
         ·go_simp
          rfl
         refine hK.out _ _ ⟨((cell_far (p := ⟨gb211, _, none⟩) NB220_211.out _).trans (((cell_far (p := ⟨gb211, _, none⟩) NB220_211.out _).trans (hHeld.1)))), ((cell_far (p := ⟨gb211, _, none⟩) NB220_211.out _).trans (((cell_far (p := ⟨gb211, _, none⟩) NB220_211.out _).trans (hHeld.2))))⟩ (fun hHeld => ?_)
         clear hK K
         refine done_ (by kernel_rfl) ?_
         try go_wp2
         refine bodyPost_ret (results_list (rs := [.tmp 4, .tmp 5, .cell 6 26]) rfl (by simp) (.tmp (.tmp (.cell gb211 26 #[.int .i64 t218, .int .i64 t219] (0, 0) _ rfl (by (with_reducible repeat first | apply kn_ | apply kd_ | apply ka_); refine blk_put (cs := #[.int .i64 t218, .int .i64 0]) ?_ 1 _ rfl; (with_reducible repeat first | apply kn_ | apply kd_ | apply ka_); refine blk_put (cs := #[.int .i64 0, .int .i64 0]) ?_ 0 _ rfl; (with_reducible repeat first | apply kn_ | apply kd_ | apply ka_); exact BK211.out) Tryd.underlying26 rfl (by kernel_rfl) .nil)))) rfl ?_
         exact ⟨by first | rfl | (simp [errW_none, errW_some] <;> rfl) | (simp [*, errW_none, errW_some] <;> rfl), by repeat (first | (with_reducible first | exact HB.out | apply ba_ | apply pd_ | apply d1_ | refine bs_ ?_ GE211.out | refine bs_ ?_ GE220.out) | exact HB.out)⟩
        ·rw [if_neg c24] at H
         have c24b0 : ((bt a0 a1) == 45) = false := beq_eq_false_iff_ne.mpr c24
         have c24b1 : ((bt a0 a1) != 45) = true := bne_iff_ne.mpr c24
         by_cases c34 : (bt a0 a1) = 95
         ·rw [if_pos c34] at H
          have c34b0 : ((bt a0 a1) == 95) = true := beq_iff_eq.mpr c34
          have c34b1 : ((bt a0 a1) != 95) = false := bne_eq_false_iff_eq.mpr c34
          clear c34
          replace H := ob_ H
          obtain ⟨⟨t221, t222, t223⟩, A350, H⟩ := H
          replace H : (some (7, t221, t222, t223)) = some (r1, r2, r3, r4) := H
          have A35 := sd_ A350
          clear A350
          simp only [Option.some.injEq, Prod.mk.injEq] at H
          obtain ⟨rfl, rfl, rfl, rfl⟩ := H
          try go_wp2_with (first | ((with_reducible refine gate_callee (f := 37) rfl ?_); refine goesL_ (some 31) rfl rfl Tryd.func37 (by kernel_rfl) rfl #[.int .u8 (bt a0 a1)] rfl (by (try simp only [lm_, lq_, lx_]); first | done | rfl | (simp only [ld_, lt_]; rfl)) ?_; (with_reducible refine (neumeref08_sign.calls kj5 (bt a0 a1) false _ A11.out).mono ?_); rintro e w' ⟨rfl, ⟨nd, rfl⟩⟩; refine ⟨_, rfl, ?_⟩; (repeat (rw [drewN_self wc]; generalize hq_ : World.drewN wc _ = wc; have n0_ : Aside0 (wc.heap[gb211]? = some (.cells #[.int .i64 0, .int .i64 0] 26 (0, 0))) := ⟨by rw [← hq_]; exact (kk_ BK211.out)⟩; have n1_ : Aside0 (Below w.heap.size w wc) := ⟨by rw [← hq_]; exact (bb_ HB.out (e_ GE211 e0_))⟩; clear BK211 HB hq_; have BK211 := n0_; have HB := n1_; clear n0_ n1_))) | ((with_reducible refine gate_callee (f := 39) rfl ?_); refine goesL_ (some 63) rfl rfl Tryd.func39 (by kernel_rfl) rfl #[.string a0, .int .i64 a1] rfl (by (try simp only [lm_, lq_, lx_]); first | done | rfl | (simp only [ld_, lt_]; rfl)) ?_; (with_reducible refine (neumeref08_double.calls a0 a1 t221 t222 t223 _ A35.out).mono ?_); rintro e w36 ⟨rfl, hb⟩; refine ⟨_, rfl, ?_⟩; replace BK211 := kb_ BK211 hb; replace HB := hb_ HB (e_ GE211 e0_) hb; (try clear hb); (try clear hb2); (try clear hk); (try clear hi)) | ((with_reducible refine gate_dst (N := 14) rfl ?_); refine box_event ?hg (N := 14) ?hd (cs := #[.int .i64 0, .int .i64 0]) (t := 26) ?hr ?_; (case hd => rfl); (case hg => rfl); (case hr => first | (go_simp; done) | (go_simp; rfl)); intro gb224 hg w37 hbox hb; have BK224 := sd_ hbox; have GW224 := gw_ HB (e_ GE211 e0_) hg; have GE224 := GW224; have NB211_224 := nb_ BK211 hg; have NB224_211 := sy_ NB211_224; replace BK211 := kb_ BK211 hb; replace HB := hb_ HB (e_ GE211 e0_) hb; clear hb hbox hg; have hnb38 := NB224_211.out; have hnc38 := NB211_224.out; have hcz39_0 : w37.cell? ⟨gb224, 0, none⟩ = some (.int .i64 0) := (kc_ BK224.out 0).trans rfl; have hcz39_1 : w37.cell? ⟨gb224, 1, none⟩ = some (.int .i64 0) := (kc_ BK224.out 1).trans rfl; have hfz39_0 := kf_ BK224.out 0; have hfz39_1 := kf_ BK224.out 1))
          have n0_ : Aside0 (((w37.setCell ⟨gb224, 0, none⟩ (.int .i64 t222)).setCell ⟨gb224, 1, none⟩ (.int .i64 t223)).heap[gb211]? = some (.cells #[.int .i64 0, .int .i64 0] 26 (0, 0))) := ⟨by (with_reducible repeat first | apply kn_ | apply kd_ | apply ka_); refine blk_far ?_ NB211_224.out _; (with_reducible repeat first | apply kn_ | apply kd_ | apply ka_); refine blk_far ?_ NB211_224.out _; (with_reducible repeat first | apply kn_ | apply kd_ | apply ka_); exact BK211.out⟩
          have n1_ : Aside0 (((w37.setCell ⟨gb224, 0, none⟩ (.int .i64 t222)).setCell ⟨gb224, 1, none⟩ (.int .i64 t223)).heap[gb224]? = some (.cells #[.int .i64 t222, .int .i64 t223] 26 (0, 0))) := ⟨by (with_reducible repeat first | apply kn_ | apply kd_ | apply ka_); refine blk_put (cs := #[.int .i64 t222, .int .i64 0]) ?_ 1 _ rfl; (with_reducible repeat first | apply kn_ | apply kd_ | apply ka_); refine blk_put (cs := #[.int .i64 0, .int .i64 0]) ?_ 0 _ rfl; (with_reducible repeat first | apply kn_ | apply kd_ | apply ka_); exact BK224.out⟩
          have n2_ : Aside0 (Below w.heap.size w ((w37.setCell ⟨gb224, 0, none⟩ (.int .i64 t222)).setCell ⟨gb224, 1, none⟩ (.int .i64 t223))) := ⟨by repeat (first | (with_reducible first | exact HB.out | apply ba_ | apply pd_ | apply d1_ | refine bs_ ?_ GE211.out | refine bs_ ?_ GE224.out) | exact HB.out)⟩
          (try clear BK211)
          (try clear BK224)
          (try clear HB)
          generalize ((w37.setCell ⟨gb224, 0, none⟩ (.int .i64 t222)).setCell ⟨gb224, 1, none⟩ (.int .i64 t223)) = w40 at n0_ n1_ n2_ ⊢
          have BK211 := n0_
          have BK224 := n1_
          have HB := n2_
          clear n0_ n1_ n2_
          replace BK211 := sd_ (kd_ BK211.out)
          replace BK224 := sd_ (kd_ BK224.out)
          replace HB := sd_ (d1_ HB.out)
          refine start_ (n := 5) (S := fun w' => w'.cell? ⟨gb224, 0, none⟩ = some (.int .i64 t222) ∧ w'.cell? ⟨gb224, 1, none⟩ = some (.int .i64 t223)) (ds := []) #[false, false, false, false, false] (by kernel_rfl) rfl rfl ⟨(kc_ BK224.out 0).trans rfl, (kc_ BK224.out 1).trans rfl⟩ (fun hHeld => ?_)
          generalize w40.drew = w41 at BK211 BK224 HB hHeld ⊢
          refine pure_ (i := 0) (N := some 66) (v := ?_) (a' := ?_) #[true, false, false, false, false] rfl rfl (by kernel_rfl) (fun _ _ _ h => h) (Or.inl ⟨by rfl, ?_⟩) ?_ ?_
          rotate_left; (intro w'; go_simp; with_reducible rfl); rotate_left; (simp only [Act.put, ls_, lz_, lc_, i64_w, i32_w]; rfl)
          refine pure_ (i := 2) (N := some 4) (v := ?_) (a' := ?_) #[true, false, true, false, false] rfl rfl (by kernel_rfl) (fun _ _ _ h => h) (Or.inl ⟨by rfl, ?_⟩) ?_ ?_
          rotate_left; (intro w'; go_simp; with_reducible rfl); rotate_left; (simp only [Act.put, ls_, lz_, lc_, i64_w, i32_w]; rfl)
          refine pure_ (i := 3) (N := some 5) (v := ?_) (a' := ?_) #[true, false, true, true, false] rfl rfl (by kernel_rfl) (fun _ _ _ h => h) (Or.inl ⟨by rfl, ?_⟩) ?_ ?_
          rotate_left; (intro w'; go_simp; with_reducible rfl); rotate_left; (simp only [Act.put, ls_, lz_, lc_, i64_w, i32_w]; rfl)
          refine take_ (i := 1) (N := some 67) (v := ?_) (a' := ?_) #[true, true, true, true, false] rfl rfl (by kernel_rfl) (fun _ _ _ h => h) (Or.inl ⟨by rfl, ?_⟩) hHeld ?_ ?_
          rotate_left
          ·rintro w' ⟨s0, s1⟩
           go_simp
           with_reducible rfl
          rotate_left
          ·simp only [Act.put, ls_, lz_, lc_, i64_w, i32_w]
           rfl
          refine one_ (i := 4) (N := none) #[true, true, true, true, true] rfl rfl (by kernel_rfl) (by decide) (fun K hK => ?_)
          have hs42 : w41.cell? ⟨gb211, 0, none⟩ = some (.int .i64 0) := (kc_ BK211.out 0).trans rfl
          have hfs42 := kf_ BK211.out 0
          have hns42_1 := NB224_211.out
          have hms42_1 := NB211_224.out
          have hs43 : w41.cell? ⟨gb211, 1, none⟩ = some (.int .i64 0) := (kc_ BK211.out 1).trans rfl
          have hfs43 := kf_ BK211.out 1
          have hns43_1 := NB224_211.out
          have hms43_1 := NB211_224.out
          refine skip_ (w1 := ?_) (by rfl) rfl ?_ ?_
          rotate_left
          ·go_simp
           rfl
          refine hK.out _ _ ⟨((cell_far (p := ⟨gb211, _, none⟩) NB224_211.out _).trans (((cell_far (p := ⟨gb211, _, none⟩) NB224_211.out _).trans (hHeld.1)))), ((cell_far (p := ⟨gb211, _, none⟩) NB224_211.out _).trans (((cell_far (p := ⟨gb211, _, none⟩) NB224_211.out _).trans (hHeld.2))))⟩ (fun hHeld => ?_)
          clear hK K
          refine done_ (by kernel_rfl) ?_
          try go_wp2
          refine bodyPost_ret (results_list (rs := [.tmp 4, .tmp 5, .cell 6 26]) rfl (by simp) (.tmp (.tmp (.cell gb211 26 #[.int .i64 t222, .int .i64 t223] (0, 0) _ rfl (by (with_reducible repeat first | apply kn_ | apply kd_ | apply ka_); refine blk_put (cs := #[.int .i64 t222, .int .i64 0]) ?_ 1 _ rfl; (with_reducible repeat first | apply kn_ | apply kd_ | apply ka_); refine blk_put (cs := #[.int .i64 0, .int .i64 0]) ?_ 0 _ rfl; (with_reducible repeat first | apply kn_ | apply kd_ | apply ka_); exact BK211.out) Tryd.underlying26 rfl (by kernel_rfl) .nil)))) rfl ?_
          exact ⟨by first | rfl | (simp [errW_none, errW_some] <;> rfl) | (simp [*, errW_none, errW_some] <;> rfl), by repeat (first | (with_reducible first | exact HB.out | apply ba_ | apply pd_ | apply d1_ | refine bs_ ?_ GE211.out | refine bs_ ?_ GE224.out) | exact HB.out)⟩
         ·rw [if_neg c34] at H
          have c34b0 : ((bt a0 a1) == 95) = false := beq_eq_false_iff_ne.mpr c34
          have c34b1 : ((bt a0 a1) != 95) = true := bne_iff_ne.mpr c34
          replace H := ob_ H
          obtain ⟨t225, A440, H⟩ := H
          replace H : (if t225 = true then (neumeref08_next.l0 kj5 a0 a1) else (neumeref08_next.l1 kj5 a0 a1 a1)) = some (r1, r2, r3, r4) := H
          have A44 := sd_ A440
          clear A440
          by_cases c45 : t225 = true
          ·subst c45
           have H1 : (neumeref08_next.l0 kj5 a0 a1) = some (r1, r2, r3, r4) := by rw [if_pos rfl] at H; exact H
           clear H; have H := H1; clear H1
           have H' := sd_ H
           clear H
           go_wp2_with (first | ((with_reducible refine gate_callee (f := 37) rfl ?_); refine goesL_ (some 31) rfl rfl Tryd.func37 (by kernel_rfl) rfl #[.int .u8 (bt a0 a1)] rfl (by (try simp only [lm_, lq_, lx_]); first | done | rfl | (simp only [ld_, lt_]; rfl)) ?_; (with_reducible refine (neumeref08_sign.calls kj5 (bt a0 a1) false _ A11.out).mono ?_); rintro e w' ⟨rfl, ⟨nd, rfl⟩⟩; refine ⟨_, rfl, ?_⟩) | ((with_reducible refine gate_callee (f := 40) rfl ?_); refine goesL_ (some 70) rfl rfl Tryd.func40 (by kernel_rfl) rfl #[.int .u8 (bt a0 a1)] rfl (by (try simp only [lm_, lq_, lx_]); first | done | rfl | (simp only [ld_, lt_]; rfl)) ?_; (with_reducible refine (neumeref08_digit.calls (bt a0 a1) true _ A44.out).mono ?_); rintro e w' ⟨rfl, ⟨nd, rfl⟩⟩; refine ⟨_, rfl, ?_⟩))
           go_loopg [8] kj5 (fun kq v8 w' => ∃ (x8_2 : Int), v8 = .int .i64 x8_2 ∧ Aside0 (neumeref08_next.l0 kq a0 x8_2 = some (r1, r2, r3, r4)) ∧ Aside0 (kq ≤ kj5) ∧ Aside0 (w'.heap[gb211]? = some (.cells #[.int .i64 0, .int .i64 0] 26 (0, 0))) ∧ Aside0 (Below w.heap.size w w'))
           case atStart => exact ⟨(a1), (by first | rfl | (simp; done) | (simp [*]; done) | (simp [bne]; done)), H', ⟨Nat.le_refl _⟩, ⟨by (with_reducible repeat first | apply kn_ | apply kd_ | apply ka_); exact BK211.out⟩, ⟨by repeat (first | (with_reducible first | exact HB.out | apply ba_ | apply pd_ | apply d1_ | refine bs_ ?_ GE211.out) | exact HB.out)⟩⟩
           case round =>
            clear H'
            try clear c1; try clear c2; try clear p2; try clear c3; try clear c3b0; try clear c4; try clear c4b0; try clear p5; try clear q5; try clear hx5; try clear p6; try clear c8; try clear c8b0; try clear c8b1; try clear c9; try clear c12; try clear c14; try clear c14b0; try clear c14b1; try clear c18; try clear c24; try clear c24b0; try clear c24b1; try clear c28; try clear c34; try clear c34b0; try clear c34b1; try clear c37; try clear c38; try clear c39; try clear c40; try clear c45; try clear hcz10_0; try clear hcz10_1; try clear hcz13_0; try clear hcz13_1; try clear hcz19_0; try clear hcz19_1; try clear hcz29_0; try clear hcz29_1; try clear hcz39_0; try clear hcz39_1; try clear hfz10_0; try clear hfz10_1; try clear hfz13_0; try clear hfz13_1; try clear hfz19_0; try clear hfz19_1; try clear hfz29_0; try clear hfz29_1; try clear hfz39_0; try clear hfz39_1; try clear p2; try clear p5; try clear q5
            obtain ⟨x8_2, rfl, HA, HK2, BK211, HB⟩ := hrel
            cases gk with
            | zero => exact absurd HA.out (by simp [neumeref08_next.l0])
            | succ k2 =>
             have H := HA.out
             clear HA
             simp only [neumeref08_next.l0] at H
             by_cases c46 : x8_2 < (a0.size : Int)
             ·rw [if_pos c46] at H
              have c46b0 : decide (x8_2 < (a0.size : Int)) = true := dt_ c46
              clear c46
              by_cases c47 : 0 ≤ x8_2
              ·rw [if_pos c47] at H
               have c47b0 : decide (0 ≤ x8_2) = true := dt_ c47
               clear c47
               replace H := ob_ H
               obtain ⟨t226, A490, H⟩ := H
               replace H : (if t226 = true then (neumeref08_next.l0 k2 a0 (wrap64 (x8_2 + 1))) else (some (2, x8_2, 0, 0))) = some (r1, r2, r3, r4) := H
               have A49 := sd_ A490
               clear A490
               by_cases c50 : t226 = true
               ·subst c50
                have H1 : (neumeref08_next.l0 k2 a0 (wrap64 (x8_2 + 1))) = some (r1, r2, r3, r4) := by rw [if_pos rfl] at H; exact H
                clear H; have H := H1; clear H1
                have H' := sd_ H
                clear H
                have p48 : 0 ≤ (x8_2 : Int) := od_ (by first | (with_reducible assumption) | assumption)
                have q48 : x8_2 < (a0.size : Int) := od_ (by first | (with_reducible assumption) | assumption)
                have hx48 := bt_at a0 x8_2
                replace p48 := eq_true p48
                replace q48 := eq_true q48
                go_wp2_with (first | (go_at_call 40; (with_reducible refine (neumeref08_digit.calls (bt a0 x8_2) true _ A49.out).mono ?_); rintro e w' ⟨rfl, ⟨nd, rfl⟩⟩))
                go_roundg k2
                case measure => have := HJ5.out; have := HK2.out; omega
                case rel => exact ⟨(wrap64 (x8_2 + 1)), (by first | rfl | (simp; done) | (simp [*]; done) | (simp [bne]; done)), H', ⟨by have := HJ5.out; have := HK2.out; omega⟩, ⟨by (with_reducible repeat first | apply kn_ | apply kd_ | apply ka_); exact BK211.out⟩, ⟨by repeat (first | (with_reducible first | exact HB.out | apply ba_ | apply pd_ | apply d1_ | refine bs_ ?_ GE211.out) | exact HB.out)⟩⟩
               ·replace c50 := bf_ c50
                subst c50
                have H1 : (some (2, x8_2, 0, 0)) = some (r1, r2, r3, r4) := by rw [if_neg (show ¬ (false = true) by decide)] at H; exact H
                clear H; have H := H1; clear H1
                simp only [Option.some.injEq, Prod.mk.injEq] at H
                obtain ⟨rfl, rfl, rfl, rfl⟩ := H
                have p48 : 0 ≤ (x8_2 : Int) := od_ (by first | (with_reducible assumption) | assumption)
                have q48 : x8_2 < (a0.size : Int) := od_ (by first | (with_reducible assumption) | assumption)
                have hx48 := bt_at a0 x8_2
                replace p48 := eq_true p48
                replace q48 := eq_true q48
                go_wp2_with (first | (go_at_call 40; (with_reducible refine (neumeref08_digit.calls (bt a0 x8_2) false _ A49.out).mono ?_); rintro e w' ⟨rfl, ⟨nd, rfl⟩⟩; (repeat (rw [drewN_self wr]; generalize hq_ : World.drewN wr _ = wr; have n0_ : Aside0 (wr.heap[gb211]? = some (.cells #[.int .i64 0, .int .i64 0] 26 (0, 0))) := ⟨by rw [← hq_]; exact (kk_ BK211.out)⟩; have n1_ : Aside0 (Below w.heap.size w wr) := ⟨by rw [← hq_]; exact (bb_ HB.out (e_ GE211 e0_))⟩; clear BK211 HB hq_; have BK211 := n0_; have HB := n1_; clear n0_ n1_)); have hcz51_0 : wr.cell? ⟨gb211, 0, none⟩ = some (.int .i64 0) := (kc_ BK211.out 0).trans rfl; have hcz51_1 : wr.cell? ⟨gb211, 1, none⟩ = some (.int .i64 0) := (kc_ BK211.out 1).trans rfl; have hfz51_0 := kf_ BK211.out 0; have hfz51_1 := kf_ BK211.out 1))
                refine bodyPost_ret (results_list (rs := [.tmp 4, .tmp 5, .cell 6 26]) rfl (by simp) (.tmp (.tmp (.cell gb211 26 #[.int .i64 0, .int .i64 0] (0, 0) _ rfl (by (with_reducible repeat first | apply kn_ | apply kd_ | apply ka_); refine blk_put (cs := #[.int .i64 0, .int .i64 0]) ?_ 1 _ rfl; (with_reducible repeat first | apply kn_ | apply kd_ | apply ka_); refine blk_put (cs := #[.int .i64 0, .int .i64 0]) ?_ 0 _ rfl; (with_reducible repeat first | apply kn_ | apply kd_ | apply ka_); exact BK211.out) Tryd.underlying26 rfl (by kernel_rfl) .nil)))) rfl ?_
                exact ⟨by first | rfl | (simp [errW_none, errW_some] <;> rfl) | (simp [*, errW_none, errW_some] <;> rfl), by repeat (first | (with_reducible first | exact HB.out | apply ba_ | apply pd_ | apply d1_ | refine bs_ ?_ GE211.out) | exact HB.out)⟩
              ·rw [if_neg c47] at H
               exact absurd H (by simp)
             ·rw [if_neg c46] at H
              have c46b0 : decide (x8_2 < (a0.size : Int)) = false := df_ c46
              clear c46
              simp only [Option.some.injEq, Prod.mk.injEq] at H
              obtain ⟨rfl, rfl, rfl, rfl⟩ := H
              have hcz52_0 : wr.cell? ⟨gb211, 0, none⟩ = some (.int .i64 0) := (kc_ BK211.out 0).trans rfl
              have hcz52_1 : wr.cell? ⟨gb211, 1, none⟩ = some (.int .i64 0) := (kc_ BK211.out 1).trans rfl
              have hfz52_0 := kf_ BK211.out 0
              have hfz52_1 := kf_ BK211.out 1
              go_wp2
              refine bodyPost_ret (results_list (rs := [.tmp 4, .tmp 5, .cell 6 26]) rfl (by simp) (.tmp (.tmp (.cell gb211 26 #[.int .i64 0, .int .i64 0] (0, 0) _ rfl (by (with_reducible repeat first | apply kn_ | apply kd_ | apply ka_); refine blk_put (cs := #[.int .i64 0, .int .i64 0]) ?_ 1 _ rfl; (with_reducible repeat first | apply kn_ | apply kd_ | apply ka_); refine blk_put (cs := #[.int .i64 0, .int .i64 0]) ?_ 0 _ rfl; (with_reducible repeat first | apply kn_ | apply kd_ | apply ka_); exact BK211.out) Tryd.underlying26 rfl (by kernel_rfl) .nil)))) rfl ?_
              exact ⟨by first | rfl | (simp [errW_none, errW_some] <;> rfl) | (simp [*, errW_none, errW_some] <;> rfl), by repeat (first | (with_reducible first | exact HB.out | apply ba_ | apply pd_ | apply d1_ | refine bs_ ?_ GE211.out) | exact HB.out)⟩
          ·replace c45 := bf_ c45
           subst c45
           have H1 : (neumeref08_next.l1 kj5 a0 a1 a1) = some (r1, r2, r3, r4) := by rw [if_neg (show ¬ (false = true) by decide)] at H; exact H
           clear H; have H := H1; clear H1
           have H' := sd_ H
           clear H
           go_wp2_with (first | ((with_reducible refine gate_callee (f := 37) rfl ?_); refine goesL_ (some 31) rfl rfl Tryd.func37 (by kernel_rfl) rfl #[.int .u8 (bt a0 a1)] rfl (by (try simp only [lm_, lq_, lx_]); first | done | rfl | (simp only [ld_, lt_]; rfl)) ?_; (with_reducible refine (neumeref08_sign.calls kj5 (bt a0 a1) false _ A11.out).mono ?_); rintro e w' ⟨rfl, ⟨nd, rfl⟩⟩; refine ⟨_, rfl, ?_⟩) | ((with_reducible refine gate_callee (f := 40) rfl ?_); refine goesL_ (some 70) rfl rfl Tryd.func40 (by kernel_rfl) rfl #[.int .u8 (bt a0 a1)] rfl (by (try simp only [lm_, lq_, lx_]); first | done | rfl | (simp only [ld_, lt_]; rfl)) ?_; (with_reducible refine (neumeref08_digit.calls (bt a0 a1) false _ A44.out).mono ?_); rintro e w' ⟨rfl, ⟨nd, rfl⟩⟩; refine ⟨_, rfl, ?_⟩))
           go_loopg [8] kj5 (fun kq v8 w' => ∃ (x8_2 : Int), v8 = .int .i64 x8_2 ∧ Aside0 (neumeref08_next.l1 kq a0 a1 x8_2 = some (r1, r2, r3, r4)) ∧ Aside0 (kq ≤ kj5) ∧ Aside0 (w'.heap[gb211]? = some (.cells #[.int .i64 0, .int .i64 0] 26 (0, 0))) ∧ Aside0 (Below w.heap.size w w'))
           case atStart => exact ⟨(a1), (by first | rfl | (simp; done) | (simp [*]; done) | (simp [bne]; done)), H', ⟨Nat.le_refl _⟩, ⟨by (with_reducible repeat first | apply kn_ | apply kd_ | apply ka_); exact BK211.out⟩, ⟨by repeat (first | (with_reducible first | exact HB.out | apply ba_ | apply pd_ | apply d1_ | refine bs_ ?_ GE211.out) | exact HB.out)⟩⟩
           case round =>
            clear H'
            try clear c1; try clear c2; try clear p2; try clear c3; try clear c3b0; try clear c4; try clear c4b0; try clear p4; try clear q4; try clear hx4; try clear c5; try clear p5; try clear q5; try clear hx5; try clear p6; try clear c8; try clear c8b0; try clear c8b1; try clear c9; try clear c12; try clear c14; try clear c14b0; try clear c14b1; try clear c18; try clear c24; try clear c24b0; try clear c24b1; try clear c28; try clear c34; try clear c34b0; try clear c34b1; try clear c37; try clear c38; try clear c39; try clear c40; try clear c45; try clear c46; try clear c46b0; try clear c47; try clear c47b0; try clear p48; try clear q48; try clear hx48; try clear c50; try clear hcz10_0; try clear hcz10_1; try clear hcz13_0; try clear hcz13_1; try clear hcz19_0; try clear hcz19_1; try clear hcz29_0; try clear hcz29_1; try clear hcz39_0; try clear hcz39_1; try clear hcz51_0; try clear hcz51_1; try clear hcz52_0; try clear hcz52_1; try clear hfz10_0; try clear hfz10_1; try clear hfz13_0; try clear hfz13_1; try clear hfz19_0; try clear hfz19_1; try clear hfz29_0; try clear hfz29_1; try clear hfz39_0; try clear hfz39_1; try clear hfz51_0; try clear hfz51_1; try clear hfz52_0; try clear hfz52_1; try clear p2; try clear p48; try clear p5; try clear p6; try clear q48; try clear q5
            obtain ⟨x8_2, rfl, HA, HK2, BK211, HB⟩ := hrel
            cases gk with
            | zero => exact absurd HA.out (by simp [neumeref08_next.l1])
            | succ k2 =>
             have H := HA.out
             clear HA
             simp only [neumeref08_next.l1] at H
             by_cases c53 : x8_2 < (a0.size : Int)
             ·rw [if_pos c53] at H
              have c53b0 : decide (x8_2 < (a0.size : Int)) = true := dt_ c53
              clear c53
              replace H := ob_ H
              obtain ⟨t227, A540, H⟩ := H
              replace H : (if t227 > 0 then ((neumeref08_letter.f k2 a0 x8_2).bind fun t228 => (neumeref08_next.l1 k2 a0 a1 (wrap64 (x8_2 + t228)))) else (if x8_2 = a1 then ((neumeref08_fault.f 10 a1).bind fun bt229 => (some (0, 0, bt229.1, bt229.2))) else (some (1, x8_2, 0, 0)))) = some (r1, r2, r3, r4) := H
              have A54 := sd_ A540
              clear A540
              by_cases c55 : t227 > 0
              ·rw [if_pos c55] at H
               have c55b0 : decide (0 < t227) = true := dt_ c55
               clear c55
               replace H := ob_ H
               obtain ⟨t228, A560, H⟩ := H
               replace H : (neumeref08_next.l1 k2 a0 a1 (wrap64 (x8_2 + t228))) = some (r1, r2, r3, r4) := H
               have A56 := sd_ A560
               clear A560
               have H' := sd_ H
               clear H
               go_wp2_with (first | (go_at_call 41; (with_reducible refine (neumeref08_letter.calls k2 a0 x8_2 t227 _ A54.out).mono ?_); rintro e w57 ⟨rfl, hb⟩; replace BK211 := kb_ BK211 hb; replace HB := hb_ HB (e_ GE211 e0_) hb; (try clear hb); (try clear hb2); (try clear hk); (try clear hi)) | ((with_reducible refine gate_callee (f := 41) rfl ?_); refine goesL_ (some 98) rfl rfl Tryd.func41 (by kernel_rfl) rfl #[.string a0, .int .i64 x8_2] rfl (by (try simp only [lm_, lq_, lx_]); first | done | rfl | (simp only [ld_, lt_]; rfl)) ?_; (with_reducible refine (neumeref08_letter.calls k2 a0 x8_2 t228 _ A56.out).mono ?_); rintro e w58 ⟨rfl, hb⟩; refine ⟨_, rfl, ?_⟩; replace BK211 := kb_ BK211 hb; replace HB := hb_ HB (e_ GE211 e0_) hb; (try clear hb); (try clear hb2); (try clear hk); (try clear hi)))
               go_roundg k2
               case measure => have := HJ5.out; have := HK2.out; omega
               case rel => exact ⟨(wrap64 (x8_2 + t228)), (by first | rfl | (simp; done) | (simp [*]; done) | (simp [bne]; done)), H', ⟨by have := HJ5.out; have := HK2.out; omega⟩, ⟨by (with_reducible repeat first | apply kn_ | apply kd_ | apply ka_); exact BK211.out⟩, ⟨by repeat (first | (with_reducible first | exact HB.out | apply ba_ | apply pd_ | apply d1_ | refine bs_ ?_ GE211.out) | exact HB.out)⟩⟩
              ·rw [if_neg c55] at H
               have c55b0 : decide (0 < t227) = false := df_ c55
               clear c55
               by_cases c59 : x8_2 = a1
               ·rw [if_pos c59] at H
                have c59b0 : (x8_2 == a1) = true := beq_iff_eq.mpr c59
                have c59b1 : (x8_2 != a1) = false := bne_eq_false_iff_eq.mpr c59
                clear c59
                replace H := ob_ H
                obtain ⟨⟨t229, t230⟩, A600, H⟩ := H
                replace H : (some (0, 0, t229, t230)) = some (r1, r2, r3, r4) := H
                have A60 := sd_ A600
                clear A600
                simp only [Option.some.injEq, Prod.mk.injEq] at H
                obtain ⟨rfl, rfl, rfl, rfl⟩ := H
                go_wp2_with (first | (go_at_call 41; (with_reducible refine (neumeref08_letter.calls k2 a0 x8_2 t227 _ A54.out).mono ?_); rintro e w61 ⟨rfl, hb⟩; replace BK211 := kb_ BK211 hb; replace HB := hb_ HB (e_ GE211 e0_) hb; (try clear hb); (try clear hb2); (try clear hk); (try clear hi)) | ((with_reducible refine gate_callee (f := 22) rfl ?_); refine goesL_ (some 104) rfl rfl Tryd.func22 (by kernel_rfl) rfl #[.int .i64 10, .int .i64 a1] rfl (by (try simp only [lm_, lq_, lx_]); first | done | rfl | (simp only [ld_, lt_]; rfl)) ?_; (with_reducible refine (neumeref08_fault.calls 10 a1 t229 t230 _ A60.out).mono ?_); rintro e w62 ⟨rfl, hb⟩; refine ⟨_, rfl, ?_⟩; replace BK211 := kb_ BK211 hb; replace HB := hb_ HB (e_ GE211 e0_) hb; (try clear hb); (try clear hb2); (try clear hk); (try clear hi); have hcz63_0 : w62.cell? ⟨gb211, 0, none⟩ = some (.int .i64 0) := (kc_ BK211.out 0).trans rfl; have hcz63_1 : w62.cell? ⟨gb211, 1, none⟩ = some (.int .i64 0) := (kc_ BK211.out 1).trans rfl; have hfz63_0 := kf_ BK211.out 0; have hfz63_1 := kf_ BK211.out 1))
                refine bodyPost_ret (results_list (rs := [.tmp 4, .tmp 5, .cell 6 26]) rfl (by simp) (.tmp (.tmp (.cell gb211 26 #[.int .i64 t229, .int .i64 t230] (0, 0) _ rfl (by (with_reducible repeat first | apply kn_ | apply kd_ | apply ka_); refine blk_put (cs := #[.int .i64 t229, .int .i64 0]) ?_ 1 _ rfl; (with_reducible repeat first | apply kn_ | apply kd_ | apply ka_); refine blk_put (cs := #[.int .i64 0, .int .i64 0]) ?_ 0 _ rfl; (with_reducible repeat first | apply kn_ | apply kd_ | apply ka_); exact BK211.out) Tryd.underlying26 rfl (by kernel_rfl) .nil)))) rfl ?_
                exact ⟨by first | rfl | (simp [errW_none, errW_some] <;> rfl) | (simp [*, errW_none, errW_some] <;> rfl), by repeat (first | (with_reducible first | exact HB.out | apply ba_ | apply pd_ | apply d1_ | refine bs_ ?_ GE211.out) | exact HB.out)⟩
               ·rw [if_neg c59] at H
                have c59b0 : (x8_2 == a1) = false := beq_eq_false_iff_ne.mpr c59
                have c59b1 : (x8_2 != a1) = true := bne_iff_ne.mpr c59
                simp only [Option.some.injEq, Prod.mk.injEq] at H
                obtain ⟨rfl, rfl, rfl, rfl⟩ := H
                go_wp2_with (first | (go_at_call 41; (with_reducible refine (neumeref08_letter.calls k2 a0 x8_2 t227 _ A54.out).mono ?_); rintro e w64 ⟨rfl, hb⟩; replace BK211 := kb_ BK211 hb; replace HB := hb_ HB (e_ GE211 e0_) hb; (try clear hb); (try clear hb2); (try clear hk); (try clear hi); have hcz65_0 : w64.cell? ⟨gb211, 0, none⟩ = some (.int .i64 0) := (kc_ BK211.out 0).trans rfl; have hcz65_1 : w64.cell? ⟨gb211, 1, none⟩ = some (.int .i64 0) := (kc_ BK211.out 1).trans rfl; have hfz65_0 := kf_ BK211.out 0; have hfz65_1 := kf_ BK211.out 1))
                refine bodyPost_ret (results_list (rs := [.tmp 4, .tmp 5, .cell 6 26]) rfl (by simp) (.tmp (.tmp (.cell gb211 26 #[.int .i64 0, .int .i64 0] (0, 0) _ rfl (by (with_reducible repeat first | apply kn_ | apply kd_ | apply ka_); refine blk_put (cs := #[.int .i64 0, .int .i64 0]) ?_ 1 _ rfl; (with_reducible repeat first | apply kn_ | apply kd_ | apply ka_); refine blk_put (cs := #[.int .i64 0, .int .i64 0]) ?_ 0 _ rfl; (with_reducible repeat first | apply kn_ | apply kd_ | apply ka_); exact BK211.out) Tryd.underlying26 rfl (by kernel_rfl) .nil)))) rfl ?_
                exact ⟨by first | rfl | (simp [errW_none, errW_some] <;> rfl) | (simp [*, errW_none, errW_some] <;> rfl), by repeat (first | (with_reducible first | exact HB.out | apply ba_ | apply pd_ | apply d1_ | refine bs_ ?_ GE211.out) | exact HB.out)⟩
             ·rw [if_neg c53] at H
              have c53b0 : decide (x8_2 < (a0.size : Int)) = false := df_ c53
              clear c53
              by_cases c66 : x8_2 = a1
              ·rw [if_pos c66] at H
               have c66b0 : (x8_2 == a1) = true := beq_iff_eq.mpr c66
               have c66b1 : (x8_2 != a1) = false := bne_eq_false_iff_eq.mpr c66
               clear c66
               replace H := ob_ H
               obtain ⟨⟨t231, t232⟩, A670, H⟩ := H
               replace H : (some (0, 0, t231, t232)) = some (r1, r2, r3, r4) := H
               have A67 := sd_ A670
               clear A670
               simp only [Option.some.injEq, Prod.mk.injEq] at H
               obtain ⟨rfl, rfl, rfl, rfl⟩ := H
               go_wp2_with (first | ((with_reducible refine gate_callee (f := 22) rfl ?_); refine goesL_ (some 104) rfl rfl Tryd.func22 (by kernel_rfl) rfl #[.int .i64 10, .int .i64 a1] rfl (by (try simp only [lm_, lq_, lx_]); first | done | rfl | (simp only [ld_, lt_]; rfl)) ?_; (with_reducible refine (neumeref08_fault.calls 10 a1 t231 t232 _ A67.out).mono ?_); rintro e w68 ⟨rfl, hb⟩; refine ⟨_, rfl, ?_⟩; replace BK211 := kb_ BK211 hb; replace HB := hb_ HB (e_ GE211 e0_) hb; (try clear hb); (try clear hb2); (try clear hk); (try clear hi); have hcz69_0 : w68.cell? ⟨gb211, 0, none⟩ = some (.int .i64 0) := (kc_ BK211.out 0).trans rfl; have hcz69_1 : w68.cell? ⟨gb211, 1, none⟩ = some (.int .i64 0) := (kc_ BK211.out 1).trans rfl; have hfz69_0 := kf_ BK211.out 0; have hfz69_1 := kf_ BK211.out 1))
               refine bodyPost_ret (results_list (rs := [.tmp 4, .tmp 5, .cell 6 26]) rfl (by simp) (.tmp (.tmp (.cell gb211 26 #[.int .i64 t231, .int .i64 t232] (0, 0) _ rfl (by (with_reducible repeat first | apply kn_ | apply kd_ | apply ka_); refine blk_put (cs := #[.int .i64 t231, .int .i64 0]) ?_ 1 _ rfl; (with_reducible repeat first | apply kn_ | apply kd_ | apply ka_); refine blk_put (cs := #[.int .i64 0, .int .i64 0]) ?_ 0 _ rfl; (with_reducible repeat first | apply kn_ | apply kd_ | apply ka_); exact BK211.out) Tryd.underlying26 rfl (by kernel_rfl) .nil)))) rfl ?_
               exact ⟨by first | rfl | (simp [errW_none, errW_some] <;> rfl) | (simp [*, errW_none, errW_some] <;> rfl), by repeat (first | (with_reducible first | exact HB.out | apply ba_ | apply pd_ | apply d1_ | refine bs_ ?_ GE211.out) | exact HB.out)⟩
              ·rw [if_neg c66] at H
               have c66b0 : (x8_2 == a1) = false := beq_eq_false_iff_ne.mpr c66
               have c66b1 : (x8_2 != a1) = true := bne_iff_ne.mpr c66
               simp only [Option.some.injEq, Prod.mk.injEq] at H
               obtain ⟨rfl, rfl, rfl, rfl⟩ := H
               have hcz70_0 : wr.cell? ⟨gb211, 0, none⟩ = some (.int .i64 0) := (kc_ BK211.out 0).trans rfl
               have hcz70_1 : wr.cell? ⟨gb211, 1, none⟩ = some (.int .i64 0) := (kc_ BK211.out 1).trans rfl
               have hfz70_0 := kf_ BK211.out 0
               have hfz70_1 := kf_ BK211.out 1
               go_wp2
               refine bodyPost_ret (results_list (rs := [.tmp 4, .tmp 5, .cell 6 26]) rfl (by simp) (.tmp (.tmp (.cell gb211 26 #[.int .i64 0, .int .i64 0] (0, 0) _ rfl (by (with_reducible repeat first | apply kn_ | apply kd_ | apply ka_); refine blk_put (cs := #[.int .i64 0, .int .i64 0]) ?_ 1 _ rfl; (with_reducible repeat first | apply kn_ | apply kd_ | apply ka_); refine blk_put (cs := #[.int .i64 0, .int .i64 0]) ?_ 0 _ rfl; (with_reducible repeat first | apply kn_ | apply kd_ | apply ka_); exact BK211.out) Tryd.underlying26 rfl (by kernel_rfl) .nil)))) rfl ?_
               exact ⟨by first | rfl | (simp [errW_none, errW_some] <;> rfl) | (simp [*, errW_none, errW_some] <;> rfl), by repeat (first | (with_reducible first | exact HB.out | apply ba_ | apply pd_ | apply d1_ | refine bs_ ?_ GE211.out) | exact HB.out)⟩
  ·rw [if_neg c4] at H
   exact absurd H (by simp)
 ·rw [if_neg c3] at H
  exact absurd H (by simp)

end Go.Proofs.YtmffjjncnbeldaaDoor.P
