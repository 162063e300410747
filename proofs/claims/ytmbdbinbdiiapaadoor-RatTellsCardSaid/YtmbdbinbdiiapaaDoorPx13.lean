-- Written by a program of this session (wip/tools/xprint.py, over the kit's print): Lean checks it.
import Derived.Test.YtmbdbinbdiiapaaDoorPx0
import Derived.Test.YtmbdbinbdiiapaaDoorPx1
import Derived.Test.YtmbdbinbdiiapaaDoorPx3
import Derived.Test.YtmbdbinbdiiapaaDoorPx4
import Derived.Test.YtmbdbinbdiiapaaDoorPx5
import Derived.Test.YtmbdbinbdiiapaaDoorPx6
import Derived.Test.YtmbdbinbdiiapaaDoorPx9
import Derived.Test.YtmbdbinbdiiapaaDoorPx10
import Derived.Test.YtmbdbinbdiiapaaDoorPx11
import Derived.Test.YtmbdbinbdiiapaaDoorPx12
namespace Go.Proofs.YtmbdbinbdiiapaaDoor.P
open Go.RowKit Go.Proofs.YtmbdbinbdiiapaaDoorW.PrintWords Go.Proofs.YtmbdbinbdiiapaaDoorW.PrintLast Go.Proofs.YtmbdbinbdiiapaaDoorW.PrintMore
attribute [local go_sem] max2_int min2_int max_two min_two max_three min_three max_four min_four   -- for this text's walks alone
set_option linter.unusedVariables false
set_option linter.unusedSimpArgs false

attribute [local go_sem high] eqA23
/-! ### neumeref02_Of: function 17 -/
def neumeref02_Of.f (k : Nat) (a0 : Int) (a1 : Int) : Option (Int × Int × Int) := if a1 = 0 then (some (0, 0, 2)) else (if a0 < (-1152921504606846976) then (some (0, 0, 2)) else (if a0 > 1152921504606846976 then (some (0, 0, 2)) else (if a1 < (-1152921504606846976) then (some (0, 0, 2)) else (if a1 > 1152921504606846976 then (some (0, 0, 2)) else ((neumeref02_lowest.f k a0 a1).bind fun bt259 => (some (bt259.1, bt259.2.1, bt259.2.2)))))))
theorem neumeref02_Of.mono : ∀ a0 a1 k, LeO (neumeref02_Of.f k a0 a1) (neumeref02_Of.f (k + 1) a0 a1) := by
 intro a0 a1 k
 unfold neumeref02_Of.f
 repeat' first
   | (with_reducible exact neumeref02_lowest.mono _ _ _)
   | (with_reducible exact LeO.refl _)
   | (with_reducible exact LeO.none _)
   | (with_reducible refine LeO.ite ?_ ?_)
   | (with_reducible refine LeO.bind ?_ (fun _ => ?_))
   | exact neumeref02_lowest.mono _ _ _
   | exact LeO.none _
   | refine LeO.ite ?_ ?_
   | refine LeO.bind ?_ (fun _ => ?_)
set_option maxHeartbeats 8000000 in
set_option maxRecDepth 100000 in
theorem neumeref02_Of.calls (k : Nat) (a0 : Int) (a1 : Int) (r1 : Int) (r2 : Int) (r3 : Int) (w : World) (h : neumeref02_Of.f k a0 a1 = some (r1, r2, r3)) :
  Calls Tryd.prog 17 #[.int .i64 a0,.int .i64 a1] w fun e w' => e = .returned (.tuple #[.agg #[.int .i64 r1,.int .i64 r2],.int .i64 r3]) ∧ Below w.heap.size w w' := by
 have hu23 := Tryd.underlying23
 have HB := sd_ (Below.refl w.heap.size w)
 have H : (if a1 = 0 then (some (0,0,2)) else (if a0 < (-1152921504606846976) then (some (0,0,2)) else (if a0 > 1152921504606846976 then (some (0,0,2)) else (if a1 < (-1152921504606846976) then (some (0,0,2)) else (if a1 > 1152921504606846976 then (some (0,0,2)) else ((neumeref02_lowest.f k a0 a1).bind fun bt259 => (some (bt259.1,bt259.2.1,bt259.2.2)))))))) = some (r1,r2,r3) := h
 clear h
 by_cases c3 : a1 = 0
 ·rw [if_pos c3] at H
  have c3b0 : (a1 == 0) = true := beq_iff_eq.mpr c3
  have c3b1 : (a1 != 0) = false := bne_eq_false_iff_eq.mpr c3
  clear c3
  simp only [Option.some.injEq,Prod.mk.injEq] at H
  obtain ⟨rfl,rfl,rfl⟩ := H
  go_enter Tryd.func17,Tryd.ntmps17
  go_wp2_with (first|((with_reducible refine gate_dst (N := 4) rfl ?_);refine box_event ?hg (N := 4) ?hd (cs := #[.int .i64 0,.int .i64 0]) (t := 23) ?hr ?_;(case hd => rfl);(case hg => rfl);(case hr => first|(go_simp;done)|(go_simp;rfl));intro gb258 hg w4 hbox hb;have BK258 := sd_ hbox;have GW258 := gw_ HB e0_ hg;have GE258 := GW258;replace HB := hb_ HB e0_ hb;clear hb hbox hg;have hcz5_0 : w4.cell? ⟨gb258,0,none⟩ = some (.int .i64 0) := (kc_ BK258.out 0).trans rfl;have hcz5_1 : w4.cell? ⟨gb258,1,none⟩ = some (.int .i64 0) := (kc_ BK258.out 1).trans rfl;have hfz5_0 := kf_ BK258.out 0;have hfz5_1 := kf_ BK258.out 1))
  refine bodyPost_ret (results_ct rfl _ _ gb258 23 #[.int .i64 0,.int .i64 0] (0,0) _ rfl (by (with_reducible repeat first|apply kn_|apply kd_|apply ka_);refine blk_put (cs := #[.int .i64 0,.int .i64 0]) ?_ 1 _ rfl;(with_reducible repeat first|apply kn_|apply kd_|apply ka_);refine blk_put (cs := #[.int .i64 0,.int .i64 0]) ?_ 0 _ rfl;(with_reducible repeat first|apply kn_|apply kd_|apply ka_);exact BK258.out) Tryd.underlying23 rfl (by kernel_rfl)) rfl ?_
  exact ⟨by first|rfl|(simp [errW_none,errW_some] <;> rfl)|(simp [*,errW_none,errW_some] <;> rfl),by repeat (first|(with_reducible first|exact HB.out|apply ba_|apply pd_|apply d1_|refine bs_ ?_ GE258.out)|exact HB.out)⟩
 ·rw [if_neg c3] at H
  have c3b0 : (a1 == 0) = false := beq_eq_false_iff_ne.mpr c3
  have c3b1 : (a1 != 0) = true := bne_iff_ne.mpr c3
  by_cases c6 : a0 < (-1152921504606846976)
  ·rw [if_pos c6] at H
   have c6b0 : decide (a0 < (-1152921504606846976)) = true := dt_ c6
   clear c6
   simp only [Option.some.injEq,Prod.mk.injEq] at H
   obtain ⟨rfl,rfl,rfl⟩ := H
   go_enter Tryd.func17,Tryd.ntmps17
   go_wp2_with (first|((with_reducible refine gate_dst (N := 4) rfl ?_);refine box_event ?hg (N := 4) ?hd (cs := #[.int .i64 0,.int .i64 0]) (t := 23) ?hr ?_;(case hd => rfl);(case hg => rfl);(case hr => first|(go_simp;done)|(go_simp;rfl));intro gb258 hg w7 hbox hb;have BK258 := sd_ hbox;have GW258 := gw_ HB e0_ hg;have GE258 := GW258;replace HB := hb_ HB e0_ hb;clear hb hbox hg;have hcz8_0 : w7.cell? ⟨gb258,0,none⟩ = some (.int .i64 0) := (kc_ BK258.out 0).trans rfl;have hcz8_1 : w7.cell? ⟨gb258,1,none⟩ = some (.int .i64 0) := (kc_ BK258.out 1).trans rfl;have hfz8_0 := kf_ BK258.out 0;have hfz8_1 := kf_ BK258.out 1))
   refine bodyPost_ret (results_ct rfl _ _ gb258 23 #[.int .i64 0,.int .i64 0] (0,0) _ rfl (by (with_reducible repeat first|apply kn_|apply kd_|apply ka_);refine blk_put (cs := #[.int .i64 0,.int .i64 0]) ?_ 1 _ rfl;(with_reducible repeat first|apply kn_|apply kd_|apply ka_);refine blk_put (cs := #[.int .i64 0,.int .i64 0]) ?_ 0 _ rfl;(with_reducible repeat first|apply kn_|apply kd_|apply ka_);exact BK258.out) Tryd.underlying23 rfl (by kernel_rfl)) rfl ?_
   exact ⟨by first|rfl|(simp [errW_none,errW_some] <;> rfl)|(simp [*,errW_none,errW_some] <;> rfl),by repeat (first|(with_reducible first|exact HB.out|apply ba_|apply pd_|apply d1_|refine bs_ ?_ GE258.out)|exact HB.out)⟩
  ·rw [if_neg c6] at H
   have c6b0 : decide (a0 < (-1152921504606846976)) = false := df_ c6
   clear c6
   by_cases c9 : a0 > 1152921504606846976
   ·rw [if_pos c9] at H
    have c9b0 : decide (1152921504606846976 < a0) = true := dt_ c9
    clear c9
    simp only [Option.some.injEq,Prod.mk.injEq] at H
    obtain ⟨rfl,rfl,rfl⟩ := H
    go_enter Tryd.func17,Tryd.ntmps17
    go_wp2_with (first|((with_reducible refine gate_dst (N := 4) rfl ?_);refine box_event ?hg (N := 4) ?hd (cs := #[.int .i64 0,.int .i64 0]) (t := 23) ?hr ?_;(case hd => rfl);(case hg => rfl);(case hr => first|(go_simp;done)|(go_simp;rfl));intro gb258 hg w10 hbox hb;have BK258 := sd_ hbox;have GW258 := gw_ HB e0_ hg;have GE258 := GW258;replace HB := hb_ HB e0_ hb;clear hb hbox hg;have hcz11_0 : w10.cell? ⟨gb258,0,none⟩ = some (.int .i64 0) := (kc_ BK258.out 0).trans rfl;have hcz11_1 : w10.cell? ⟨gb258,1,none⟩ = some (.int .i64 0) := (kc_ BK258.out 1).trans rfl;have hfz11_0 := kf_ BK258.out 0;have hfz11_1 := kf_ BK258.out 1))
    refine bodyPost_ret (results_ct rfl _ _ gb258 23 #[.int .i64 0,.int .i64 0] (0,0) _ rfl (by (with_reducible repeat first|apply kn_|apply kd_|apply ka_);refine blk_put (cs := #[.int .i64 0,.int .i64 0]) ?_ 1 _ rfl;(with_reducible repeat first|apply kn_|apply kd_|apply ka_);refine blk_put (cs := #[.int .i64 0,.int .i64 0]) ?_ 0 _ rfl;(with_reducible repeat first|apply kn_|apply kd_|apply ka_);exact BK258.out) Tryd.underlying23 rfl (by kernel_rfl)) rfl ?_
    exact ⟨by first|rfl|(simp [errW_none,errW_some] <;> rfl)|(simp [*,errW_none,errW_some] <;> rfl),by repeat (first|(with_reducible first|exact HB.out|apply ba_|apply pd_|apply d1_|refine bs_ ?_ GE258.out)|exact HB.out)⟩
   ·rw [if_neg c9] at H
    have c9b0 : decide (1152921504606846976 < a0) = false := df_ c9
    clear c9
    by_cases c12 : a1 < (-1152921504606846976)
    ·rw [if_pos c12] at H
     have c12b0 : decide (a1 < (-1152921504606846976)) = true := dt_ c12
     clear c12
     simp only [Option.some.injEq,Prod.mk.injEq] at H
     obtain ⟨rfl,rfl,rfl⟩ := H
     go_enter Tryd.func17,Tryd.ntmps17
     go_wp2_with (first|((with_reducible refine gate_dst (N := 4) rfl ?_);refine box_event ?hg (N := 4) ?hd (cs := #[.int .i64 0,.int .i64 0]) (t := 23) ?hr ?_;(case hd => rfl);(case hg => rfl);(case hr => first|(go_simp;done)|(go_simp;rfl));intro gb258 hg w13 hbox hb;have BK258 := sd_ hbox;have GW258 := gw_ HB e0_ hg;have GE258 := GW258;replace HB := hb_ HB e0_ hb;clear hb hbox hg;have hcz14_0 : w13.cell? ⟨gb258,0,none⟩ = some (.int .i64 0) := (kc_ BK258.out 0).trans rfl;have hcz14_1 : w13.cell? ⟨gb258,1,none⟩ = some (.int .i64 0) := (kc_ BK258.out 1).trans rfl;have hfz14_0 := kf_ BK258.out 0;have hfz14_1 := kf_ BK258.out 1))
     refine bodyPost_ret (results_ct rfl _ _ gb258 23 #[.int .i64 0,.int .i64 0] (0,0) _ rfl (by (with_reducible repeat first|apply kn_|apply kd_|apply ka_);refine blk_put (cs := #[.int .i64 0,.int .i64 0]) ?_ 1 _ rfl;(with_reducible repeat first|apply kn_|apply kd_|apply ka_);refine blk_put (cs := #[.int .i64 0,.int .i64 0]) ?_ 0 _ rfl;(with_reducible repeat first|apply kn_|apply kd_|apply ka_);exact BK258.out) Tryd.underlying23 rfl (by kernel_rfl)) rfl ?_
     exact ⟨by first|rfl|(simp [errW_none,errW_some] <;> rfl)|(simp [*,errW_none,errW_some] <;> rfl),by repeat (first|(with_reducible first|exact HB.out|apply ba_|apply pd_|apply d1_|refine bs_ ?_ GE258.out)|exact HB.out)⟩
    ·rw [if_neg c12] at H
     have c12b0 : decide (a1 < (-1152921504606846976)) = false := df_ c12
     clear c12
     by_cases c15 : a1 > 1152921504606846976
     ·rw [if_pos c15] at H
      have c15b0 : decide (1152921504606846976 < a1) = true := dt_ c15
      clear c15
      simp only [Option.some.injEq,Prod.mk.injEq] at H
      obtain ⟨rfl,rfl,rfl⟩ := H
      go_enter Tryd.func17,Tryd.ntmps17
      go_wp2_with (first|((with_reducible refine gate_dst (N := 4) rfl ?_);refine box_event ?hg (N := 4) ?hd (cs := #[.int .i64 0,.int .i64 0]) (t := 23) ?hr ?_;(case hd => rfl);(case hg => rfl);(case hr => first|(go_simp;done)|(go_simp;rfl));intro gb258 hg w16 hbox hb;have BK258 := sd_ hbox;have GW258 := gw_ HB e0_ hg;have GE258 := GW258;replace HB := hb_ HB e0_ hb;clear hb hbox hg;have hcz17_0 : w16.cell? ⟨gb258,0,none⟩ = some (.int .i64 0) := (kc_ BK258.out 0).trans rfl;have hcz17_1 : w16.cell? ⟨gb258,1,none⟩ = some (.int .i64 0) := (kc_ BK258.out 1).trans rfl;have hfz17_0 := kf_ BK258.out 0;have hfz17_1 := kf_ BK258.out 1))
      refine bodyPost_ret (results_ct rfl _ _ gb258 23 #[.int .i64 0,.int .i64 0] (0,0) _ rfl (by (with_reducible repeat first|apply kn_|apply kd_|apply ka_);refine blk_put (cs := #[.int .i64 0,.int .i64 0]) ?_ 1 _ rfl;(with_reducible repeat first|apply kn_|apply kd_|apply ka_);refine blk_put (cs := #[.int .i64 0,.int .i64 0]) ?_ 0 _ rfl;(with_reducible repeat first|apply kn_|apply kd_|apply ka_);exact BK258.out) Tryd.underlying23 rfl (by kernel_rfl)) rfl ?_
      exact ⟨by first|rfl|(simp [errW_none,errW_some] <;> rfl)|(simp [*,errW_none,errW_some] <;> rfl),by repeat (first|(with_reducible first|exact HB.out|apply ba_|apply pd_|apply d1_|refine bs_ ?_ GE258.out)|exact HB.out)⟩
     ·rw [if_neg c15] at H
      have c15b0 : decide (1152921504606846976 < a1) = false := df_ c15
      clear c15
      replace H := ob_ H
      obtain ⟨⟨t259,t260,t261⟩,A180,H⟩ := H
      replace H : (some (t259,t260,t261)) = some (r1,r2,r3) := H
      have A18 := sd_ A180
      clear A180
      simp only [Option.some.injEq,Prod.mk.injEq] at H
      obtain ⟨rfl,rfl,rfl⟩ := H
      go_enter Tryd.func17,Tryd.ntmps17
      go_wp2_with (first|((with_reducible refine gate_dst (N := 4) rfl ?_);refine box_event ?hg (N := 4) ?hd (cs := #[.int .i64 0,.int .i64 0]) (t := 23) ?hr ?_;(case hd => rfl);(case hg => rfl);(case hr => first|(go_simp;done)|(go_simp;rfl));intro gb258 hg w19 hbox hb;have BK258 := sd_ hbox;have GW258 := gw_ HB e0_ hg;have GE258 := GW258;replace HB := hb_ HB e0_ hb;clear hb hbox hg)|((with_reducible refine gate_callee (f := 36) rfl ?_);refine goesL_ (some 27) rfl rfl Tryd.func36 (by kernel_rfl) rfl #[.int .i64 a0,.int .i64 a1] rfl (by (try simp only [lm_,lq_,lx_]);first|done|rfl|(simp only [ld_,lt_];rfl)) ?_;(with_reducible refine (neumeref02_lowest.calls k a0 a1 t259 t260 t261 _ A18.out).mono ?_);rintro e w20 ⟨rfl,hb⟩;refine ⟨_,rfl,?_⟩;replace BK258 := kb_ BK258 hb;replace HB := hb_ HB (e_ GE258 e0_) hb;(try clear hb);(try clear hb2);(try clear hk);(try clear hi);have hcz21_0 : w20.cell? ⟨gb258,0,none⟩ = some (.int .i64 0) := (kc_ BK258.out 0).trans rfl;have hcz21_1 : w20.cell? ⟨gb258,1,none⟩ = some (.int .i64 0) := (kc_ BK258.out 1).trans rfl;have hfz21_0 := kf_ BK258.out 0;have hfz21_1 := kf_ BK258.out 1))
      refine bodyPost_ret (results_ct rfl _ _ gb258 23 #[.int .i64 t259,.int .i64 t260] (0,0) _ rfl (by (with_reducible repeat first|apply kn_|apply kd_|apply ka_);refine blk_put (cs := #[.int .i64 t259,.int .i64 0]) ?_ 1 _ rfl;(with_reducible repeat first|apply kn_|apply kd_|apply ka_);refine blk_put (cs := #[.int .i64 0,.int .i64 0]) ?_ 0 _ rfl;(with_reducible repeat first|apply kn_|apply kd_|apply ka_);exact BK258.out) Tryd.underlying23 rfl (by kernel_rfl)) rfl ?_
      exact ⟨by first|rfl|(simp [errW_none,errW_some] <;> rfl)|(simp [*,errW_none,errW_some] <;> rfl),by repeat (first|(with_reducible first|exact HB.out|apply ba_|apply pd_|apply d1_|refine bs_ ?_ GE258.out)|exact HB.out)⟩

/-! ### neumelaw02_RatReckons: function 3 -/
def neumelaw02_RatReckons.j0 : Nat → Int → Int → Bool → Int → Int → Int → Int → Option (Bool)
 | 0, _, _, _, _, _, _, _ => none
 | k + 1, x2, x3, x62, x322000, x322001, x323000, x323001 => if x62 = true then (some false) else ((rat_Mul.f k x322000 x322001 x323000 x323001).bind fun bt339 => ((neumeref02_Mul.f k x322000 x322001 x323000 x323001).bind fun bt342 => ((rat_Div.f k x322000 x322001 x323000 x323001).bind fun bt345 => ((neumeref02_Div.f k x322000 x322001 x323000 x323001).bind fun bt348 => ((rat_Of.f k x2 x3).bind fun bt351 => ((neumeref02_Of.f k x2 x3).bind fun bt355 => (if (bt339.1 == bt342.1 && (bt339.2.1 == bt342.2.1)) = true then (if bt339.2.2 = bt342.2.2 then (if (bt345.1 == bt348.1 && (bt345.2.1 == bt348.2.1)) = true then (if bt345.2.2 = bt348.2.2 then (if (bt351.1 == bt355.1 && (bt351.2.1 == bt355.2.1)) = true then (if bt351.2.2 = bt355.2.2 then ((neumelaw02_heads.f k).bind fun t359 => (some t359)) else (some false)) else (some false)) else (some false)) else (some false)) else (some false)) else (some false))))))))
def neumelaw02_RatReckons.f (k : Nat) (a0_0 : Int) (a0_1 : Int) (a1_0 : Int) (a1_1 : Int) (a2 : Int) (a3 : Int) : Option (Bool) := (rat_Add.f k a0_0 a0_1 a1_0 a1_1).bind fun bt323 => ((neumeref02_Add.f k a0_0 a0_1 a1_0 a1_1).bind fun bt327 => ((rat_Sub.f k a0_0 a0_1 a1_0 a1_1).bind fun bt331 => ((neumeref02_Sub.f k a0_0 a0_1 a1_0 a1_1).bind fun bt335 => (if (!(bt323.1 == bt327.1) || (!(bt323.2.1 == bt327.2.1))) = true then (neumelaw02_RatReckons.j0 k a2 a3 true a0_0 a0_1 a1_0 a1_1) else (if bt323.2.2 = bt327.2.2 then (if (!(bt331.1 == bt335.1) || (!(bt331.2.1 == bt335.2.1))) = true then (neumelaw02_RatReckons.j0 k a2 a3 true a0_0 a0_1 a1_0 a1_1) else (neumelaw02_RatReckons.j0 k a2 a3 (bt331.2.2 != bt335.2.2) a0_0 a0_1 a1_0 a1_1)) else (neumelaw02_RatReckons.j0 k a2 a3 true a0_0 a0_1 a1_0 a1_1))))))
theorem neumelaw02_RatReckons.mono_l : ∀ k, (∀ y0 y1 y2 y3 y4 y5 y6, LeO (neumelaw02_RatReckons.j0 k y0 y1 y2 y3 y4 y5 y6) (neumelaw02_RatReckons.j0 (k + 1) y0 y1 y2 y3 y4 y5 y6))
 | 0 => fun _ _ _ _ _ _ _ r h => by simp [neumelaw02_RatReckons.j0] at h
 | k + 1 => by
  have ih0 := neumelaw02_RatReckons.mono_l k
  ·intro y0 y1 y2 y3 y4 y5 y6
   unfold neumelaw02_RatReckons.j0
   repeat' first
   | (with_reducible exact ih0 _ _ _ _ _ _ _)
   | (with_reducible exact neumelaw02_heads.mono _)
   | (with_reducible exact neumeref02_Add.mono _ _ _ _ _)
   | (with_reducible exact neumeref02_Div.mono _ _ _ _ _)
   | (with_reducible exact neumeref02_Mul.mono _ _ _ _ _)
   | (with_reducible exact neumeref02_Of.mono _ _ _)
   | (with_reducible exact neumeref02_Sub.mono _ _ _ _ _)
   | (with_reducible exact rat_Add.mono _ _ _ _ _)
   | (with_reducible exact rat_Div.mono _ _ _ _ _)
   | (with_reducible exact rat_Mul.mono _ _ _ _ _)
   | (with_reducible exact rat_Of.mono _ _ _)
   | (with_reducible exact rat_Sub.mono _ _ _ _ _)
   | (with_reducible exact LeO.refl _)
   | (with_reducible exact LeO.none _)
   | (with_reducible refine LeO.ite ?_ ?_)
   | (with_reducible refine LeO.bind ?_ (fun _ => ?_))
   | exact ih0 _ _ _ _ _ _ _
   | exact neumelaw02_heads.mono _
   | exact neumeref02_Add.mono _ _ _ _ _
   | exact neumeref02_Div.mono _ _ _ _ _
   | exact neumeref02_Mul.mono _ _ _ _ _
   | exact neumeref02_Of.mono _ _ _
   | exact neumeref02_Sub.mono _ _ _ _ _
   | exact rat_Add.mono _ _ _ _ _
   | exact rat_Div.mono _ _ _ _ _
   | exact rat_Mul.mono _ _ _ _ _
   | exact rat_Of.mono _ _ _
   | exact rat_Sub.mono _ _ _ _ _
   | exact LeO.none _
   | refine LeO.ite ?_ ?_
   | refine LeO.bind ?_ (fun _ => ?_)
theorem neumelaw02_RatReckons.mono : ∀ a0 a1 a2 a3 a4 a5 k, LeO (neumelaw02_RatReckons.f k a0 a1 a2 a3 a4 a5) (neumelaw02_RatReckons.f (k + 1) a0 a1 a2 a3 a4 a5) := by
 intro a0 a1 a2 a3 a4 a5 k
 have ih0 := neumelaw02_RatReckons.mono_l k
 unfold neumelaw02_RatReckons.f
 repeat' first
   | (with_reducible exact ih0 _ _ _ _ _ _ _)
   | (with_reducible exact neumelaw02_heads.mono _)
   | (with_reducible exact neumeref02_Add.mono _ _ _ _ _)
   | (with_reducible exact neumeref02_Div.mono _ _ _ _ _)
   | (with_reducible exact neumeref02_Mul.mono _ _ _ _ _)
   | (with_reducible exact neumeref02_Of.mono _ _ _)
   | (with_reducible exact neumeref02_Sub.mono _ _ _ _ _)
   | (with_reducible exact rat_Add.mono _ _ _ _ _)
   | (with_reducible exact rat_Div.mono _ _ _ _ _)
   | (with_reducible exact rat_Mul.mono _ _ _ _ _)
   | (with_reducible exact rat_Of.mono _ _ _)
   | (with_reducible exact rat_Sub.mono _ _ _ _ _)
   | (with_reducible exact LeO.refl _)
   | (with_reducible exact LeO.none _)
   | (with_reducible refine LeO.ite ?_ ?_)
   | (with_reducible refine LeO.bind ?_ (fun _ => ?_))
   | exact ih0 _ _ _ _ _ _ _
   | exact neumelaw02_heads.mono _
   | exact neumeref02_Add.mono _ _ _ _ _
   | exact neumeref02_Div.mono _ _ _ _ _
   | exact neumeref02_Mul.mono _ _ _ _ _
   | exact neumeref02_Of.mono _ _ _
   | exact neumeref02_Sub.mono _ _ _ _ _
   | exact rat_Add.mono _ _ _ _ _
   | exact rat_Div.mono _ _ _ _ _
   | exact rat_Mul.mono _ _ _ _ _
   | exact rat_Of.mono _ _ _
   | exact rat_Sub.mono _ _ _ _ _
   | exact LeO.none _
   | refine LeO.ite ?_ ?_
   | refine LeO.bind ?_ (fun _ => ?_)
set_option maxHeartbeats 8000000 in
set_option maxRecDepth 100000 in
theorem neumelaw02_RatReckons.calls (k : Nat) (a0_0 : Int) (a0_1 : Int) (a1_0 : Int) (a1_1 : Int) (a2 : Int) (a3 : Int) (r : Bool) (w : World) (hE : Aside0 (LaidE w)) (hxt : Aside0 (r = true)) (h : neumelaw02_RatReckons.f k a0_0 a0_1 a1_0 a1_1 a2 a3 = some r) :
  Calls Tryd.prog 3 #[.agg #[.int .i64 a0_0,.int .i64 a0_1],.agg #[.int .i64 a1_0,.int .i64 a1_1],.int .i64 a2,.int .i64 a3] w fun e w' => e = .returned (.bool r) ∧ Below w.heap.size w w' := by
 have hu23 := Tryd.underlying23
 have HB := sd_ (Below.refl w.heap.size w)
 have H : ((rat_Add.f k a0_0 a0_1 a1_0 a1_1).bind fun bt323 => ((neumeref02_Add.f k a0_0 a0_1 a1_0 a1_1).bind fun bt327 => ((rat_Sub.f k a0_0 a0_1 a1_0 a1_1).bind fun bt331 => ((neumeref02_Sub.f k a0_0 a0_1 a1_0 a1_1).bind fun bt335 => (if (!(bt323.1 == bt327.1) || (!(bt323.2.1 == bt327.2.1))) = true then (neumelaw02_RatReckons.j0 k a2 a3 true a0_0 a0_1 a1_0 a1_1) else (if bt323.2.2 = bt327.2.2 then (if (!(bt331.1 == bt335.1) || (!(bt331.2.1 == bt335.2.1))) = true then (neumelaw02_RatReckons.j0 k a2 a3 true a0_0 a0_1 a1_0 a1_1) else (neumelaw02_RatReckons.j0 k a2 a3 (bt331.2.2 != bt335.2.2) a0_0 a0_1 a1_0 a1_1)) else (neumelaw02_RatReckons.j0 k a2 a3 true a0_0 a0_1 a1_0 a1_1))))))) = some r := h
 clear h
 replace H := ob_ H
 obtain ⟨⟨t323,t324,t325⟩,A50,H⟩ := H
 replace H : ((neumeref02_Add.f k a0_0 a0_1 a1_0 a1_1).bind fun bt327 => ((rat_Sub.f k a0_0 a0_1 a1_0 a1_1).bind fun bt331 => ((neumeref02_Sub.f k a0_0 a0_1 a1_0 a1_1).bind fun bt335 => (if (!(t323 == bt327.1) || (!(t324 == bt327.2.1))) = true then (neumelaw02_RatReckons.j0 k a2 a3 true a0_0 a0_1 a1_0 a1_1) else (if t325 = bt327.2.2 then (if (!(bt331.1 == bt335.1) || (!(bt331.2.1 == bt335.2.1))) = true then (neumelaw02_RatReckons.j0 k a2 a3 true a0_0 a0_1 a1_0 a1_1) else (neumelaw02_RatReckons.j0 k a2 a3 (bt331.2.2 != bt335.2.2) a0_0 a0_1 a1_0 a1_1)) else (neumelaw02_RatReckons.j0 k a2 a3 true a0_0 a0_1 a1_0 a1_1)))))) = some r := H
 have A5 := sd_ A50
 clear A50
 replace H := ob_ H
 obtain ⟨⟨t327,t328,t329⟩,A60,H⟩ := H
 replace H : ((rat_Sub.f k a0_0 a0_1 a1_0 a1_1).bind fun bt331 => ((neumeref02_Sub.f k a0_0 a0_1 a1_0 a1_1).bind fun bt335 => (if (!(t323 == t327) || (!(t324 == t328))) = true then (neumelaw02_RatReckons.j0 k a2 a3 true a0_0 a0_1 a1_0 a1_1) else (if t325 = t329 then (if (!(bt331.1 == bt335.1) || (!(bt331.2.1 == bt335.2.1))) = true then (neumelaw02_RatReckons.j0 k a2 a3 true a0_0 a0_1 a1_0 a1_1) else (neumelaw02_RatReckons.j0 k a2 a3 (bt331.2.2 != bt335.2.2) a0_0 a0_1 a1_0 a1_1)) else (neumelaw02_RatReckons.j0 k a2 a3 true a0_0 a0_1 a1_0 a1_1))))) = some r := H
 have A6 := sd_ A60
 clear A60
 replace H := ob_ H
 obtain ⟨⟨t331,t332,t333⟩,A70,H⟩ := H
 replace H : ((neumeref02_Sub.f k a0_0 a0_1 a1_0 a1_1).bind fun bt335 => (if (!(t323 == t327) || (!(t324 == t328))) = true then (neumelaw02_RatReckons.j0 k a2 a3 true a0_0 a0_1 a1_0 a1_1) else (if t325 = t329 then (if (!(t331 == bt335.1) || (!(t332 == bt335.2.1))) = true then (neumelaw02_RatReckons.j0 k a2 a3 true a0_0 a0_1 a1_0 a1_1) else (neumelaw02_RatReckons.j0 k a2 a3 (t333 != bt335.2.2) a0_0 a0_1 a1_0 a1_1)) else (neumelaw02_RatReckons.j0 k a2 a3 true a0_0 a0_1 a1_0 a1_1)))) = some r := H
 have A7 := sd_ A70
 clear A70
 replace H := ob_ H
 obtain ⟨⟨t335,t336,t337⟩,A80,H⟩ := H
 replace H : (if (!(t323 == t327) || (!(t324 == t328))) = true then (neumelaw02_RatReckons.j0 k a2 a3 true a0_0 a0_1 a1_0 a1_1) else (if t325 = t329 then (if (!(t331 == t335) || (!(t332 == t336))) = true then (neumelaw02_RatReckons.j0 k a2 a3 true a0_0 a0_1 a1_0 a1_1) else (neumelaw02_RatReckons.j0 k a2 a3 (t333 != t337) a0_0 a0_1 a1_0 a1_1)) else (neumelaw02_RatReckons.j0 k a2 a3 true a0_0 a0_1 a1_0 a1_1))) = some r := H
 have A8 := sd_ A80
 clear A80
 have HC9 := sd_ H
 clear H
 go_enter Tryd.func3,Tryd.ntmps3
 go_upto_region 5 with (first|((with_reducible refine gate_dst (N := 4) rfl ?_);refine box_event ?hg (N := 4) ?hd (cs := #[.int .i64 a0_0,.int .i64 a0_1]) (t := 23) ?hr ?_;(case hd => rfl);(case hg => rfl);(case hr => first|(go_simp;done)|(go_simp;rfl));intro gb321 hg w10 hbox hb;have BK321 := sd_ hbox;have GW321 := gw_ HB e0_ hg;have GE321 := GW321;replace HB := hb_ HB e0_ hb;clear hb hbox hg)|((with_reducible refine gate_dst (N := 5) rfl ?_);refine box_event ?hg (N := 5) ?hd (cs := #[.int .i64 a1_0,.int .i64 a1_1]) (t := 23) ?hr ?_;(case hd => rfl);(case hg => rfl);(case hr => first|(go_simp;done)|(go_simp;rfl));intro gb322 hg w11 hbox hb;have BK322 := sd_ hbox;have GW322 := gw_ HB (e_ GE321 e0_) hg;have GE322 := GW322;have NB321_322 := nb_ BK321 hg;have NB322_321 := sy_ NB321_322;replace BK321 := kb_ BK321 hb;replace HB := hb_ HB (e_ GE321 e0_) hb;clear hb hbox hg;have hnb12 := NB321_322.out;have hnc12 := NB322_321.out;have hcz13_0 : w11.cell? ⟨gb321,0,none⟩ = some (.int .i64 a0_0) := (kc_ BK321.out 0).trans rfl;have hcz13_1 : w11.cell? ⟨gb321,1,none⟩ = some (.int .i64 a0_1) := (kc_ BK321.out 1).trans rfl;have hfz13_0 := kf_ BK321.out 0;have hfz13_1 := kf_ BK321.out 1;have hcz14_0 : w11.cell? ⟨gb322,0,none⟩ = some (.int .i64 a1_0) := (kc_ BK322.out 0).trans rfl;have hcz14_1 : w11.cell? ⟨gb322,1,none⟩ = some (.int .i64 a1_1) := (kc_ BK322.out 1).trans rfl;have hfz14_0 := kf_ BK322.out 0;have hfz14_1 := kf_ BK322.out 1)|((with_reducible refine gate_callee (f := 8) rfl ?_);refine goesL_ (some 24) rfl rfl Tryd.func8 (by kernel_rfl) rfl #[.agg #[.int .i64 a0_0,.int .i64 a0_1],.agg #[.int .i64 a1_0,.int .i64 a1_1]] rfl (by (try simp only [lm_,lq_,lx_]);first|done|rfl|(simp only [ld_,lt_];rfl)) ?_;(with_reducible refine (rat_Add.calls k a0_0 a0_1 a1_0 a1_1 t323 t324 t325 _ A5.out).mono ?_);rintro e w15 ⟨rfl,hb⟩;refine ⟨_,rfl,?_⟩;replace BK321 := kb_ BK321 hb;replace BK322 := kb_ BK322 hb;replace HB := hb_ HB (e_ GE321 (e_ GE322 e0_)) hb;(try clear hb);(try clear hb2);(try clear hk);(try clear hi))|((with_reducible refine gate_dst (N := 9) rfl ?_);refine box_event ?hg (N := 9) ?hd (cs := #[.int .i64 0,.int .i64 0]) (t := 23) ?hr ?_;(case hd => rfl);(case hg => rfl);(case hr => first|(go_simp;done)|(go_simp;rfl));intro gb326 hg w16 hbox hb;have BK326 := sd_ hbox;have GW326 := gw_ HB (e_ GE321 (e_ GE322 e0_)) hg;have GE326 := GW326;have NB321_326 := nb_ BK321 hg;have NB326_321 := sy_ NB321_326;have NB322_326 := nb_ BK322 hg;have NB326_322 := sy_ NB322_326;replace BK321 := kb_ BK321 hb;replace BK322 := kb_ BK322 hb;replace HB := hb_ HB (e_ GE321 (e_ GE322 e0_)) hb;clear hb hbox hg;have hnb17 := NB326_321.out;have hnc17 := NB321_326.out;have hnb18 := NB326_322.out;have hnc18 := NB322_326.out;have hcz19_0 : w16.cell? ⟨gb326,0,none⟩ = some (.int .i64 0) := (kc_ BK326.out 0).trans rfl;have hcz19_1 : w16.cell? ⟨gb326,1,none⟩ = some (.int .i64 0) := (kc_ BK326.out 1).trans rfl;have hfz19_0 := kf_ BK326.out 0;have hfz19_1 := kf_ BK326.out 1;have hcz20_0 : w16.cell? ⟨gb321,0,none⟩ = some (.int .i64 a0_0) := (kc_ BK321.out 0).trans rfl;have hcz20_1 : w16.cell? ⟨gb321,1,none⟩ = some (.int .i64 a0_1) := (kc_ BK321.out 1).trans rfl;have hfz20_0 := kf_ BK321.out 0;have hfz20_1 := kf_ BK321.out 1;have hcz21_0 : w16.cell? ⟨gb322,0,none⟩ = some (.int .i64 a1_0) := (kc_ BK322.out 0).trans rfl;have hcz21_1 : w16.cell? ⟨gb322,1,none⟩ = some (.int .i64 a1_1) := (kc_ BK322.out 1).trans rfl;have hfz21_0 := kf_ BK322.out 0;have hfz21_1 := kf_ BK322.out 1)|((with_reducible refine gate_callee (f := 9) rfl ?_);refine goesL_ (some 30) rfl rfl Tryd.func9 (by kernel_rfl) rfl #[.agg #[.int .i64 a0_0,.int .i64 a0_1],.agg #[.int .i64 a1_0,.int .i64 a1_1]] rfl (by (try simp only [lm_,lq_,lx_]);first|done|rfl|(simp only [ld_,lt_];rfl)) ?_;(with_reducible refine (neumeref02_Add.calls k a0_0 a0_1 a1_0 a1_1 t327 t328 t329 _ A6.out).mono ?_);rintro e w22 ⟨rfl,hb⟩;refine ⟨_,rfl,?_⟩;replace BK321 := sd_ (blk_below (g := gb321) (o := .cells #[.int .i64 a0_0,.int .i64 a0_1] 23 (0,0)) (by (with_reducible repeat first|apply kn_|apply kd_|apply ka_);refine blk_far ?_ NB321_326.out _;(with_reducible repeat first|apply kn_|apply kd_|apply ka_);refine blk_far ?_ NB321_326.out _;(with_reducible repeat first|apply kn_|apply kd_|apply ka_);exact BK321.out) hb);replace BK322 := sd_ (blk_below (g := gb322) (o := .cells #[.int .i64 a1_0,.int .i64 a1_1] 23 (0,0)) (by (with_reducible repeat first|apply kn_|apply kd_|apply ka_);refine blk_far ?_ NB322_326.out _;(with_reducible repeat first|apply kn_|apply kd_|apply ka_);refine blk_far ?_ NB322_326.out _;(with_reducible repeat first|apply kn_|apply kd_|apply ka_);exact BK322.out) hb);replace BK326 := sd_ (blk_below (g := gb326) (o := .cells #[.int .i64 t323,.int .i64 t324] 23 (0,0)) (by (with_reducible repeat first|apply kn_|apply kd_|apply ka_);refine blk_put (cs := #[.int .i64 t323,.int .i64 0]) ?_ 1 _ rfl;(with_reducible repeat first|apply kn_|apply kd_|apply ka_);refine blk_put (cs := #[.int .i64 0,.int .i64 0]) ?_ 0 _ rfl;(with_reducible repeat first|apply kn_|apply kd_|apply ka_);exact BK326.out) hb);replace HB := hb_ HB (e_ GE321 (e_ GE322 (e_ GE326 e0_))) hb;(try clear hb);(try clear hb2);(try clear hk);(try clear hi))|((with_reducible refine gate_dst (N := 11) rfl ?_);refine box_event ?hg (N := 11) ?hd (cs := #[.int .i64 0,.int .i64 0]) (t := 23) ?hr ?_;(case hd => rfl);(case hg => rfl);(case hr => first|(go_simp;done)|(go_simp;rfl));intro gb330 hg w23 hbox hb;have BK330 := sd_ hbox;have GW330 := gw_ HB (e_ GE321 (e_ GE322 (e_ GE326 e0_))) hg;have GE330 := GW330;have NB321_330 := nb_ BK321 hg;have NB330_321 := sy_ NB321_330;have NB322_330 := nb_ BK322 hg;have NB330_322 := sy_ NB322_330;have NB326_330 := nb_ BK326 hg;have NB330_326 := sy_ NB326_330;replace BK321 := kb_ BK321 hb;replace BK322 := kb_ BK322 hb;replace BK326 := kb_ BK326 hb;replace HB := hb_ HB (e_ GE321 (e_ GE322 (e_ GE326 e0_))) hb;clear hb hbox hg;have hnb24 := NB330_321.out;have hnc24 := NB321_330.out;have hnb25 := NB330_322.out;have hnc25 := NB322_330.out;have hnb26 := NB330_326.out;have hnc26 := NB326_330.out;have hcz27_0 : w23.cell? ⟨gb330,0,none⟩ = some (.int .i64 0) := (kc_ BK330.out 0).trans rfl;have hcz27_1 : w23.cell? ⟨gb330,1,none⟩ = some (.int .i64 0) := (kc_ BK330.out 1).trans rfl;have hfz27_0 := kf_ BK330.out 0;have hfz27_1 := kf_ BK330.out 1;have hcz28_0 : w23.cell? ⟨gb321,0,none⟩ = some (.int .i64 a0_0) := (kc_ BK321.out 0).trans rfl;have hcz28_1 : w23.cell? ⟨gb321,1,none⟩ = some (.int .i64 a0_1) := (kc_ BK321.out 1).trans rfl;have hfz28_0 := kf_ BK321.out 0;have hfz28_1 := kf_ BK321.out 1;have hcz29_0 : w23.cell? ⟨gb322,0,none⟩ = some (.int .i64 a1_0) := (kc_ BK322.out 0).trans rfl;have hcz29_1 : w23.cell? ⟨gb322,1,none⟩ = some (.int .i64 a1_1) := (kc_ BK322.out 1).trans rfl;have hfz29_0 := kf_ BK322.out 0;have hfz29_1 := kf_ BK322.out 1)|((with_reducible refine gate_callee (f := 10) rfl ?_);refine goesL_ (some 36) rfl rfl Tryd.func10 (by kernel_rfl) rfl #[.agg #[.int .i64 a0_0,.int .i64 a0_1],.agg #[.int .i64 a1_0,.int .i64 a1_1]] rfl (by (try simp only [lm_,lq_,lx_]);first|done|rfl|(simp only [ld_,lt_];rfl)) ?_;(with_reducible refine (rat_Sub.calls k a0_0 a0_1 a1_0 a1_1 t331 t332 t333 _ A7.out).mono ?_);rintro e w30 ⟨rfl,hb⟩;refine ⟨_,rfl,?_⟩;replace BK321 := sd_ (blk_below (g := gb321) (o := .cells #[.int .i64 a0_0,.int .i64 a0_1] 23 (0,0)) (by (with_reducible repeat first|apply kn_|apply kd_|apply ka_);refine blk_far ?_ NB321_330.out _;(with_reducible repeat first|apply kn_|apply kd_|apply ka_);refine blk_far ?_ NB321_330.out _;(with_reducible repeat first|apply kn_|apply kd_|apply ka_);exact BK321.out) hb);replace BK322 := sd_ (blk_below (g := gb322) (o := .cells #[.int .i64 a1_0,.int .i64 a1_1] 23 (0,0)) (by (with_reducible repeat first|apply kn_|apply kd_|apply ka_);refine blk_far ?_ NB322_330.out _;(with_reducible repeat first|apply kn_|apply kd_|apply ka_);refine blk_far ?_ NB322_330.out _;(with_reducible repeat first|apply kn_|apply kd_|apply ka_);exact BK322.out) hb);replace BK326 := sd_ (blk_below (g := gb326) (o := .cells #[.int .i64 t323,.int .i64 t324] 23 (0,0)) (by (with_reducible repeat first|apply kn_|apply kd_|apply ka_);refine blk_far ?_ NB326_330.out _;(with_reducible repeat first|apply kn_|apply kd_|apply ka_);refine blk_far ?_ NB326_330.out _;(with_reducible repeat first|apply kn_|apply kd_|apply ka_);exact BK326.out) hb);replace BK330 := sd_ (blk_below (g := gb330) (o := .cells #[.int .i64 t327,.int .i64 t328] 23 (0,0)) (by (with_reducible repeat first|apply kn_|apply kd_|apply ka_);refine blk_put (cs := #[.int .i64 t327,.int .i64 0]) ?_ 1 _ rfl;(with_reducible repeat first|apply kn_|apply kd_|apply ka_);refine blk_put (cs := #[.int .i64 0,.int .i64 0]) ?_ 0 _ rfl;(with_reducible repeat first|apply kn_|apply kd_|apply ka_);exact BK330.out) hb);replace HB := hb_ HB (e_ GE321 (e_ GE322 (e_ GE326 (e_ GE330 e0_)))) hb;(try clear hb);(try clear hb2);(try clear hk);(try clear hi))|((with_reducible refine gate_dst (N := 13) rfl ?_);refine box_event ?hg (N := 13) ?hd (cs := #[.int .i64 0,.int .i64 0]) (t := 23) ?hr ?_;(case hd => rfl);(case hg => rfl);(case hr => first|(go_simp;done)|(go_simp;rfl));intro gb334 hg w31 hbox hb;have BK334 := sd_ hbox;have GW334 := gw_ HB (e_ GE321 (e_ GE322 (e_ GE326 (e_ GE330 e0_)))) hg;have GE334 := GW334;have NB321_334 := nb_ BK321 hg;have NB334_321 := sy_ NB321_334;have NB322_334 := nb_ BK322 hg;have NB334_322 := sy_ NB322_334;have NB326_334 := nb_ BK326 hg;have NB334_326 := sy_ NB326_334;have NB330_334 := nb_ BK330 hg;have NB334_330 := sy_ NB330_334;replace BK321 := kb_ BK321 hb;replace BK322 := kb_ BK322 hb;replace BK326 := kb_ BK326 hb;replace BK330 := kb_ BK330 hb;replace HB := hb_ HB (e_ GE321 (e_ GE322 (e_ GE326 (e_ GE330 e0_)))) hb;clear hb hbox hg;have hnb32 := NB334_321.out;have hnc32 := NB321_334.out;have hnb33 := NB334_322.out;have hnc33 := NB322_334.out;have hnb34 := NB334_326.out;have hnc34 := NB326_334.out;have hnb35 := NB334_330.out;have hnc35 := NB330_334.out;have hcz36_0 : w31.cell? ⟨gb334,0,none⟩ = some (.int .i64 0) := (kc_ BK334.out 0).trans rfl;have hcz36_1 : w31.cell? ⟨gb334,1,none⟩ = some (.int .i64 0) := (kc_ BK334.out 1).trans rfl;have hfz36_0 := kf_ BK334.out 0;have hfz36_1 := kf_ BK334.out 1;have hcz37_0 : w31.cell? ⟨gb321,0,none⟩ = some (.int .i64 a0_0) := (kc_ BK321.out 0).trans rfl;have hcz37_1 : w31.cell? ⟨gb321,1,none⟩ = some (.int .i64 a0_1) := (kc_ BK321.out 1).trans rfl;have hfz37_0 := kf_ BK321.out 0;have hfz37_1 := kf_ BK321.out 1;have hcz38_0 : w31.cell? ⟨gb322,0,none⟩ = some (.int .i64 a1_0) := (kc_ BK322.out 0).trans rfl;have hcz38_1 : w31.cell? ⟨gb322,1,none⟩ = some (.int .i64 a1_1) := (kc_ BK322.out 1).trans rfl;have hfz38_0 := kf_ BK322.out 0;have hfz38_1 := kf_ BK322.out 1)|((with_reducible refine gate_callee (f := 11) rfl ?_);refine goesL_ (some 42) rfl rfl Tryd.func11 (by kernel_rfl) rfl #[.agg #[.int .i64 a0_0,.int .i64 a0_1],.agg #[.int .i64 a1_0,.int .i64 a1_1]] rfl (by (try simp only [lm_,lq_,lx_]);first|done|rfl|(simp only [ld_,lt_];rfl)) ?_;(with_reducible refine (neumeref02_Sub.calls k a0_0 a0_1 a1_0 a1_1 t335 t336 t337 _ A8.out).mono ?_);rintro e w39 ⟨rfl,hb⟩;refine ⟨_,rfl,?_⟩;replace BK321 := sd_ (blk_below (g := gb321) (o := .cells #[.int .i64 a0_0,.int .i64 a0_1] 23 (0,0)) (by (with_reducible repeat first|apply kn_|apply kd_|apply ka_);refine blk_far ?_ NB321_334.out _;(with_reducible repeat first|apply kn_|apply kd_|apply ka_);refine blk_far ?_ NB321_334.out _;(with_reducible repeat first|apply kn_|apply kd_|apply ka_);exact BK321.out) hb);replace BK322 := sd_ (blk_below (g := gb322) (o := .cells #[.int .i64 a1_0,.int .i64 a1_1] 23 (0,0)) (by (with_reducible repeat first|apply kn_|apply kd_|apply ka_);refine blk_far ?_ NB322_334.out _;(with_reducible repeat first|apply kn_|apply kd_|apply ka_);refine blk_far ?_ NB322_334.out _;(with_reducible repeat first|apply kn_|apply kd_|apply ka_);exact BK322.out) hb);replace BK326 := sd_ (blk_below (g := gb326) (o := .cells #[.int .i64 t323,.int .i64 t324] 23 (0,0)) (by (with_reducible repeat first|apply kn_|apply kd_|apply ka_);refine blk_far ?_ NB326_334.out _;(with_reducible repeat first|apply kn_|apply kd_|apply ka_);refine blk_far ?_ NB326_334.out _;(with_reducible repeat first|apply kn_|apply kd_|apply ka_);exact BK326.out) hb);replace BK330 := sd_ (blk_below (g := gb330) (o := .cells #[.int .i64 t327,.int .i64 t328] 23 (0,0)) (by (with_reducible repeat first|apply kn_|apply kd_|apply ka_);refine blk_far ?_ NB330_334.out _;(with_reducible repeat first|apply kn_|apply kd_|apply ka_);refine blk_far ?_ NB330_334.out _;(with_reducible repeat first|apply kn_|apply kd_|apply ka_);exact BK330.out) hb);replace BK334 := sd_ (blk_below (g := gb334) (o := .cells #[.int .i64 t331,.int .i64 t332] 23 (0,0)) (by (with_reducible repeat first|apply kn_|apply kd_|apply ka_);refine blk_put (cs := #[.int .i64 t331,.int .i64 0]) ?_ 1 _ rfl;(with_reducible repeat first|apply kn_|apply kd_|apply ka_);refine blk_put (cs := #[.int .i64 0,.int .i64 0]) ?_ 0 _ rfl;(with_reducible repeat first|apply kn_|apply kd_|apply ka_);exact BK334.out) hb);replace HB := hb_ HB (e_ GE321 (e_ GE322 (e_ GE326 (e_ GE330 (e_ GE334 e0_))))) hb;(try clear hb);(try clear hb2);(try clear hk);(try clear hi))|((with_reducible refine gate_dst (N := 15) rfl ?_);refine box_event ?hg (N := 15) ?hd (cs := #[.int .i64 0,.int .i64 0]) (t := 23) ?hr ?_;(case hd => rfl);(case hg => rfl);(case hr => first|(go_simp;done)|(go_simp;rfl));intro gb338 hg w40 hbox hb;have BK338 := sd_ hbox;have GW338 := gw_ HB (e_ GE321 (e_ GE322 (e_ GE326 (e_ GE330 (e_ GE334 e0_))))) hg;have GE338 := GW338;have NB321_338 := nb_ BK321 hg;have NB338_321 := sy_ NB321_338;have NB322_338 := nb_ BK322 hg;have NB338_322 := sy_ NB322_338;have NB326_338 := nb_ BK326 hg;have NB338_326 := sy_ NB326_338;have NB330_338 := nb_ BK330 hg;have NB338_330 := sy_ NB330_338;have NB334_338 := nb_ BK334 hg;have NB338_334 := sy_ NB334_338;replace BK321 := kb_ BK321 hb;replace BK322 := kb_ BK322 hb;replace BK326 := kb_ BK326 hb;replace BK330 := kb_ BK330 hb;replace BK334 := kb_ BK334 hb;replace HB := hb_ HB (e_ GE321 (e_ GE322 (e_ GE326 (e_ GE330 (e_ GE334 e0_))))) hb;clear hb hbox hg;have hnb41 := NB338_321.out;have hnc41 := NB321_338.out;have hnb42 := NB338_322.out;have hnc42 := NB322_338.out;have hnb43 := NB338_326.out;have hnc43 := NB326_338.out;have hnb44 := NB338_330.out;have hnc44 := NB330_338.out;have hnb45 := NB338_334.out;have hnc45 := NB334_338.out;have hcz46_0 : w40.cell? ⟨gb338,0,none⟩ = some (.int .i64 0) := (kc_ BK338.out 0).trans rfl;have hcz46_1 : w40.cell? ⟨gb338,1,none⟩ = some (.int .i64 0) := (kc_ BK338.out 1).trans rfl;have hfz46_0 := kf_ BK338.out 0;have hfz46_1 := kf_ BK338.out 1))
 (try simp only [Act.put,ls_,lz_,lc_])
 go_cut [62] (fun v62 wc => ∃ (kq : Nat) (x62_8 : Bool),v62 = .bool x62_8 ∧ Aside0 (neumelaw02_RatReckons.j0 kq a2 a3 x62_8 a0_0 a0_1 a1_0 a1_1 = some r) ∧ Aside0 (kq ≤ k) ∧ Aside0 (wc.heap[gb321]? = some (.cells #[.int .i64 a0_0,.int .i64 a0_1] 23 (0,0))) ∧ Aside0 (wc.heap[gb322]? = some (.cells #[.int .i64 a1_0,.int .i64 a1_1] 23 (0,0))) ∧ Aside0 (wc.heap[gb326]? = some (.cells #[.int .i64 t323,.int .i64 t324] 23 (0,0))) ∧ Aside0 (wc.heap[gb330]? = some (.cells #[.int .i64 t327,.int .i64 t328] 23 (0,0))) ∧ Aside0 (wc.heap[gb334]? = some (.cells #[.int .i64 t331,.int .i64 t332] 23 (0,0))) ∧ Aside0 (wc.heap[gb338]? = some (.cells #[.int .i64 t335,.int .i64 t336] 23 (0,0))) ∧ Aside0 (Below w.heap.size w wc))
 case first =>
  have H := HC9.out
  clear HC9
  by_cases c47 : (!(t323 == t327) || (!(t324 == t328))) = true
  ·rw [if_pos c47] at H
   have c47b0 : (!(t323 == t327) || (!(t324 == t328))) = true := c47
   clear c47
   (first|rw [c47b0]|(simp only [i64_w,i32_w];rw [c47b0])|skip)
   have H' := sd_ H
   clear H
   have hnb48 := NB326_321.out
   have hnc48 := NB321_326.out
   have hnb49 := NB326_322.out
   have hnc49 := NB322_326.out
   have hnb50 := NB326_330.out
   have hnc50 := NB330_326.out
   have hnb51 := NB326_334.out
   have hnc51 := NB334_326.out
   have hnb52 := NB326_338.out
   have hnc52 := NB338_326.out
   have hcz53_0 : w40.cell? ⟨gb326,0,none⟩ = some (.int .i64 t323) := (kc_ BK326.out 0).trans rfl
   have hcz53_1 : w40.cell? ⟨gb326,1,none⟩ = some (.int .i64 t324) := (kc_ BK326.out 1).trans rfl
   have hfz53_0 := kf_ BK326.out 0
   have hfz53_1 := kf_ BK326.out 1
   have hnb54 := NB330_321.out
   have hnc54 := NB321_330.out
   have hnb55 := NB330_322.out
   have hnc55 := NB322_330.out
   have hnb56 := NB330_334.out
   have hnc56 := NB334_330.out
   have hnb57 := NB330_338.out
   have hnc57 := NB338_330.out
   have hcz58_0 : w40.cell? ⟨gb330,0,none⟩ = some (.int .i64 t327) := (kc_ BK330.out 0).trans rfl
   have hcz58_1 : w40.cell? ⟨gb330,1,none⟩ = some (.int .i64 t328) := (kc_ BK330.out 1).trans rfl
   have hfz58_0 := kf_ BK330.out 0
   have hfz58_1 := kf_ BK330.out 1
   go_wp2
   go_meet
   case rel => exact ⟨_,(true),(by first|rfl|(simp;done)|(simp [*];done)|(simp [bne];done)),H',⟨by first|omega|exact Nat.le_refl _⟩,⟨by (with_reducible repeat first|apply kn_|apply kd_|apply ka_);refine blk_far ?_ NB321_338.out _;(with_reducible repeat first|apply kn_|apply kd_|apply ka_);refine blk_far ?_ NB321_338.out _;(with_reducible repeat first|apply kn_|apply kd_|apply ka_);exact BK321.out⟩,⟨by (with_reducible repeat first|apply kn_|apply kd_|apply ka_);refine blk_far ?_ NB322_338.out _;(with_reducible repeat first|apply kn_|apply kd_|apply ka_);refine blk_far ?_ NB322_338.out _;(with_reducible repeat first|apply kn_|apply kd_|apply ka_);exact BK322.out⟩,⟨by (with_reducible repeat first|apply kn_|apply kd_|apply ka_);refine blk_far ?_ NB326_338.out _;(with_reducible repeat first|apply kn_|apply kd_|apply ka_);refine blk_far ?_ NB326_338.out _;(with_reducible repeat first|apply kn_|apply kd_|apply ka_);exact BK326.out⟩,⟨by (with_reducible repeat first|apply kn_|apply kd_|apply ka_);refine blk_far ?_ NB330_338.out _;(with_reducible repeat first|apply kn_|apply kd_|apply ka_);refine blk_far ?_ NB330_338.out _;(with_reducible repeat first|apply kn_|apply kd_|apply ka_);exact BK330.out⟩,⟨by (with_reducible repeat first|apply kn_|apply kd_|apply ka_);refine blk_far ?_ NB334_338.out _;(with_reducible repeat first|apply kn_|apply kd_|apply ka_);refine blk_far ?_ NB334_338.out _;(with_reducible repeat first|apply kn_|apply kd_|apply ka_);exact BK334.out⟩,⟨by (with_reducible repeat first|apply kn_|apply kd_|apply ka_);refine blk_put (cs := #[.int .i64 t335,.int .i64 0]) ?_ 1 _ rfl;(with_reducible repeat first|apply kn_|apply kd_|apply ka_);refine blk_put (cs := #[.int .i64 0,.int .i64 0]) ?_ 0 _ rfl;(with_reducible repeat first|apply kn_|apply kd_|apply ka_);exact BK338.out⟩,⟨by repeat (first|(with_reducible first|exact HB.out|apply ba_|apply pd_|apply d1_|refine bs_ ?_ GE321.out|refine bs_ ?_ GE322.out|refine bs_ ?_ GE326.out|refine bs_ ?_ GE330.out|refine bs_ ?_ GE334.out|refine bs_ ?_ GE338.out)|exact HB.out)⟩⟩
  ·rw [if_neg c47] at H
   have c47b0 : (!(t323 == t327) || (!(t324 == t328))) = false := by simpa using c47
   clear c47
   (first|rw [c47b0]|(simp only [i64_w,i32_w];rw [c47b0])|skip)
   by_cases c59 : t325 = t329
   ·rw [if_pos c59] at H
    have c59b0 : (t325 == t329) = true := beq_iff_eq.mpr c59
    have c59b1 : (t325 != t329) = false := bne_eq_false_iff_eq.mpr c59
    clear c59
    by_cases c60 : (!(t331 == t335) || (!(t332 == t336))) = true
    ·rw [if_pos c60] at H
     have c60b0 : (!(t331 == t335) || (!(t332 == t336))) = true := c60
     clear c60
     have H' := sd_ H
     clear H
     have hnb61 := NB326_321.out
     have hnc61 := NB321_326.out
     have hnb62 := NB326_322.out
     have hnc62 := NB322_326.out
     have hnb63 := NB326_330.out
     have hnc63 := NB330_326.out
     have hnb64 := NB326_334.out
     have hnc64 := NB334_326.out
     have hnb65 := NB326_338.out
     have hnc65 := NB338_326.out
     have hcz66_0 : w40.cell? ⟨gb326,0,none⟩ = some (.int .i64 t323) := (kc_ BK326.out 0).trans rfl
     have hcz66_1 : w40.cell? ⟨gb326,1,none⟩ = some (.int .i64 t324) := (kc_ BK326.out 1).trans rfl
     have hfz66_0 := kf_ BK326.out 0
     have hfz66_1 := kf_ BK326.out 1
     have hnb67 := NB330_321.out
     have hnc67 := NB321_330.out
     have hnb68 := NB330_322.out
     have hnc68 := NB322_330.out
     have hnb69 := NB330_334.out
     have hnc69 := NB334_330.out
     have hnb70 := NB330_338.out
     have hnc70 := NB338_330.out
     have hcz71_0 : w40.cell? ⟨gb330,0,none⟩ = some (.int .i64 t327) := (kc_ BK330.out 0).trans rfl
     have hcz71_1 : w40.cell? ⟨gb330,1,none⟩ = some (.int .i64 t328) := (kc_ BK330.out 1).trans rfl
     have hfz71_0 := kf_ BK330.out 0
     have hfz71_1 := kf_ BK330.out 1
     have hnb72 := NB334_321.out
     have hnc72 := NB321_334.out
     have hnb73 := NB334_322.out
     have hnc73 := NB322_334.out
     have hnb74 := NB334_338.out
     have hnc74 := NB338_334.out
     have hcz75_0 : w40.cell? ⟨gb334,0,none⟩ = some (.int .i64 t331) := (kc_ BK334.out 0).trans rfl
     have hcz75_1 : w40.cell? ⟨gb334,1,none⟩ = some (.int .i64 t332) := (kc_ BK334.out 1).trans rfl
     have hfz75_0 := kf_ BK334.out 0
     have hfz75_1 := kf_ BK334.out 1
     have hnb76 := NB338_321.out
     have hnc76 := NB321_338.out
     have hnb77 := NB338_322.out
     have hnc77 := NB322_338.out
     have hcz78_0 : w40.cell? ⟨gb338,0,none⟩ = some (.int .i64 0) := (kc_ BK338.out 0).trans rfl
     have hcz78_1 : w40.cell? ⟨gb338,1,none⟩ = some (.int .i64 0) := (kc_ BK338.out 1).trans rfl
     have hfz78_0 := kf_ BK338.out 0
     have hfz78_1 := kf_ BK338.out 1
     go_wp2
     go_meet
     case rel => exact ⟨_,(true),(by first|rfl|(simp;done)|(simp [*];done)|(simp [bne];done)),H',⟨by first|omega|exact Nat.le_refl _⟩,⟨by (with_reducible repeat first|apply kn_|apply kd_|apply ka_);refine blk_far ?_ NB321_338.out _;(with_reducible repeat first|apply kn_|apply kd_|apply ka_);refine blk_far ?_ NB321_338.out _;(with_reducible repeat first|apply kn_|apply kd_|apply ka_);exact BK321.out⟩,⟨by (with_reducible repeat first|apply kn_|apply kd_|apply ka_);refine blk_far ?_ NB322_338.out _;(with_reducible repeat first|apply kn_|apply kd_|apply ka_);refine blk_far ?_ NB322_338.out _;(with_reducible repeat first|apply kn_|apply kd_|apply ka_);exact BK322.out⟩,⟨by (with_reducible repeat first|apply kn_|apply kd_|apply ka_);refine blk_far ?_ NB326_338.out _;(with_reducible repeat first|apply kn_|apply kd_|apply ka_);refine blk_far ?_ NB326_338.out _;(with_reducible repeat first|apply kn_|apply kd_|apply ka_);exact BK326.out⟩,⟨by (with_reducible repeat first|apply kn_|apply kd_|apply ka_);refine blk_far ?_ NB330_338.out _;(with_reducible repeat first|apply kn_|apply kd_|apply ka_);refine blk_far ?_ NB330_338.out _;(with_reducible repeat first|apply kn_|apply kd_|apply ka_);exact BK330.out⟩,⟨by (with_reducible repeat first|apply kn_|apply kd_|apply ka_);refine blk_far ?_ NB334_338.out _;(with_reducible repeat first|apply kn_|apply kd_|apply ka_);refine blk_far ?_ NB334_338.out _;(with_reducible repeat first|apply kn_|apply kd_|apply ka_);exact BK334.out⟩,⟨by (with_reducible repeat first|apply kn_|apply kd_|apply ka_);refine blk_put (cs := #[.int .i64 t335,.int .i64 0]) ?_ 1 _ rfl;(with_reducible repeat first|apply kn_|apply kd_|apply ka_);refine blk_put (cs := #[.int .i64 0,.int .i64 0]) ?_ 0 _ rfl;(with_reducible repeat first|apply kn_|apply kd_|apply ka_);exact BK338.out⟩,⟨by repeat (first|(with_reducible first|exact HB.out|apply ba_|apply pd_|apply d1_|refine bs_ ?_ GE321.out|refine bs_ ?_ GE322.out|refine bs_ ?_ GE326.out|refine bs_ ?_ GE330.out|refine bs_ ?_ GE334.out|refine bs_ ?_ GE338.out)|exact HB.out)⟩⟩
    ·rw [if_neg c60] at H
     have c60b0 : (!(t331 == t335) || (!(t332 == t336))) = false := by simpa using c60
     clear c60
     have H' := sd_ H
     clear H
     have hnb79 := NB326_321.out
     have hnc79 := NB321_326.out
     have hnb80 := NB326_322.out
     have hnc80 := NB322_326.out
     have hnb81 := NB326_330.out
     have hnc81 := NB330_326.out
     have hnb82 := NB326_334.out
     have hnc82 := NB334_326.out
     have hnb83 := NB326_338.out
     have hnc83 := NB338_326.out
     have hcz84_0 : w40.cell? ⟨gb326,0,none⟩ = some (.int .i64 t323) := (kc_ BK326.out 0).trans rfl
     have hcz84_1 : w40.cell? ⟨gb326,1,none⟩ = some (.int .i64 t324) := (kc_ BK326.out 1).trans rfl
     have hfz84_0 := kf_ BK326.out 0
     have hfz84_1 := kf_ BK326.out 1
     have hnb85 := NB330_321.out
     have hnc85 := NB321_330.out
     have hnb86 := NB330_322.out
     have hnc86 := NB322_330.out
     have hnb87 := NB330_334.out
     have hnc87 := NB334_330.out
     have hnb88 := NB330_338.out
     have hnc88 := NB338_330.out
     have hcz89_0 : w40.cell? ⟨gb330,0,none⟩ = some (.int .i64 t327) := (kc_ BK330.out 0).trans rfl
     have hcz89_1 : w40.cell? ⟨gb330,1,none⟩ = some (.int .i64 t328) := (kc_ BK330.out 1).trans rfl
     have hfz89_0 := kf_ BK330.out 0
     have hfz89_1 := kf_ BK330.out 1
     have hnb90 := NB334_321.out
     have hnc90 := NB321_334.out
     have hnb91 := NB334_322.out
     have hnc91 := NB322_334.out
     have hnb92 := NB334_338.out
     have hnc92 := NB338_334.out
     have hcz93_0 : w40.cell? ⟨gb334,0,none⟩ = some (.int .i64 t331) := (kc_ BK334.out 0).trans rfl
     have hcz93_1 : w40.cell? ⟨gb334,1,none⟩ = some (.int .i64 t332) := (kc_ BK334.out 1).trans rfl
     have hfz93_0 := kf_ BK334.out 0
     have hfz93_1 := kf_ BK334.out 1
     have hnb94 := NB338_321.out
     have hnc94 := NB321_338.out
     have hnb95 := NB338_322.out
     have hnc95 := NB322_338.out
     have hcz96_0 : w40.cell? ⟨gb338,0,none⟩ = some (.int .i64 0) := (kc_ BK338.out 0).trans rfl
     have hcz96_1 : w40.cell? ⟨gb338,1,none⟩ = some (.int .i64 0) := (kc_ BK338.out 1).trans rfl
     have hfz96_0 := kf_ BK338.out 0
     have hfz96_1 := kf_ BK338.out 1
     go_wp2
     go_meet
     case rel => exact ⟨_,((t333 != t337)),(by first|rfl|(simp;done)|(simp [*];done)|(simp [bne];done)),H',⟨by first|omega|exact Nat.le_refl _⟩,⟨by (with_reducible repeat first|apply kn_|apply kd_|apply ka_);refine blk_far ?_ NB321_338.out _;(with_reducible repeat first|apply kn_|apply kd_|apply ka_);refine blk_far ?_ NB321_338.out _;(with_reducible repeat first|apply kn_|apply kd_|apply ka_);exact BK321.out⟩,⟨by (with_reducible repeat first|apply kn_|apply kd_|apply ka_);refine blk_far ?_ NB322_338.out _;(with_reducible repeat first|apply kn_|apply kd_|apply ka_);refine blk_far ?_ NB322_338.out _;(with_reducible repeat first|apply kn_|apply kd_|apply ka_);exact BK322.out⟩,⟨by (with_reducible repeat first|apply kn_|apply kd_|apply ka_);refine blk_far ?_ NB326_338.out _;(with_reducible repeat first|apply kn_|apply kd_|apply ka_);refine blk_far ?_ NB326_338.out _;(with_reducible repeat first|apply kn_|apply kd_|apply ka_);exact BK326.out⟩,⟨by (with_reducible repeat first|apply kn_|apply kd_|apply ka_);refine blk_far ?_ NB330_338.out _;(with_reducible repeat first|apply kn_|apply kd_|apply ka_);refine blk_far ?_ NB330_338.out _;(with_reducible repeat first|apply kn_|apply kd_|apply ka_);exact BK330.out⟩,⟨by (with_reducible repeat first|apply kn_|apply kd_|apply ka_);refine blk_far ?_ NB334_338.out _;(with_reducible repeat first|apply kn_|apply kd_|apply ka_);refine blk_far ?_ NB334_338.out _;(with_reducible repeat first|apply kn_|apply kd_|apply ka_);exact BK334.out⟩,⟨by (with_reducible repeat first|apply kn_|apply kd_|apply ka_);refine blk_put (cs := #[.int .i64 t335,.int .i64 0]) ?_ 1 _ rfl;(with_reducible repeat first|apply kn_|apply kd_|apply ka_);refine blk_put (cs := #[.int .i64 0,.int .i64 0]) ?_ 0 _ rfl;(with_reducible repeat first|apply kn_|apply kd_|apply ka_);exact BK338.out⟩,⟨by repeat (first|(with_reducible first|exact HB.out|apply ba_|apply pd_|apply d1_|refine bs_ ?_ GE321.out|refine bs_ ?_ GE322.out|refine bs_ ?_ GE326.out|refine bs_ ?_ GE330.out|refine bs_ ?_ GE334.out|refine bs_ ?_ GE338.out)|exact HB.out)⟩⟩
   ·rw [if_neg c59] at H
    have c59b0 : (t325 == t329) = false := beq_eq_false_iff_ne.mpr c59
    have c59b1 : (t325 != t329) = true := bne_iff_ne.mpr c59
    have H' := sd_ H
    clear H
    have hnb97 := NB326_321.out
    have hnc97 := NB321_326.out
    have hnb98 := NB326_322.out
    have hnc98 := NB322_326.out
    have hnb99 := NB326_330.out
    have hnc99 := NB330_326.out
    have hnb100 := NB326_334.out
    have hnc100 := NB334_326.out
    have hnb101 := NB326_338.out
    have hnc101 := NB338_326.out
    have hcz102_0 : w40.cell? ⟨gb326,0,none⟩ = some (.int .i64 t323) := (kc_ BK326.out 0).trans rfl
    have hcz102_1 : w40.cell? ⟨gb326,1,none⟩ = some (.int .i64 t324) := (kc_ BK326.out 1).trans rfl
    have hfz102_0 := kf_ BK326.out 0
    have hfz102_1 := kf_ BK326.out 1
    have hnb103 := NB330_321.out
    have hnc103 := NB321_330.out
    have hnb104 := NB330_322.out
    have hnc104 := NB322_330.out
    have hnb105 := NB330_334.out
    have hnc105 := NB334_330.out
    have hnb106 := NB330_338.out
    have hnc106 := NB338_330.out
    have hcz107_0 : w40.cell? ⟨gb330,0,none⟩ = some (.int .i64 t327) := (kc_ BK330.out 0).trans rfl
    have hcz107_1 : w40.cell? ⟨gb330,1,none⟩ = some (.int .i64 t328) := (kc_ BK330.out 1).trans rfl
    have hfz107_0 := kf_ BK330.out 0
    have hfz107_1 := kf_ BK330.out 1
    go_wp2
    go_meet
    case rel => exact ⟨_,(true),(by first|rfl|(simp;done)|(simp [*];done)|(simp [bne];done)),H',⟨by first|omega|exact Nat.le_refl _⟩,⟨by (with_reducible repeat first|apply kn_|apply kd_|apply ka_);refine blk_far ?_ NB321_338.out _;(with_reducible repeat first|apply kn_|apply kd_|apply ka_);refine blk_far ?_ NB321_338.out _;(with_reducible repeat first|apply kn_|apply kd_|apply ka_);exact BK321.out⟩,⟨by (with_reducible repeat first|apply kn_|apply kd_|apply ka_);refine blk_far ?_ NB322_338.out _;(with_reducible repeat first|apply kn_|apply kd_|apply ka_);refine blk_far ?_ NB322_338.out _;(with_reducible repeat first|apply kn_|apply kd_|apply ka_);exact BK322.out⟩,⟨by (with_reducible repeat first|apply kn_|apply kd_|apply ka_);refine blk_far ?_ NB326_338.out _;(with_reducible repeat first|apply kn_|apply kd_|apply ka_);refine blk_far ?_ NB326_338.out _;(with_reducible repeat first|apply kn_|apply kd_|apply ka_);exact BK326.out⟩,⟨by (with_reducible repeat first|apply kn_|apply kd_|apply ka_);refine blk_far ?_ NB330_338.out _;(with_reducible repeat first|apply kn_|apply kd_|apply ka_);refine blk_far ?_ NB330_338.out _;(with_reducible repeat first|apply kn_|apply kd_|apply ka_);exact BK330.out⟩,⟨by (with_reducible repeat first|apply kn_|apply kd_|apply ka_);refine blk_far ?_ NB334_338.out _;(with_reducible repeat first|apply kn_|apply kd_|apply ka_);refine blk_far ?_ NB334_338.out _;(with_reducible repeat first|apply kn_|apply kd_|apply ka_);exact BK334.out⟩,⟨by (with_reducible repeat first|apply kn_|apply kd_|apply ka_);refine blk_put (cs := #[.int .i64 t335,.int .i64 0]) ?_ 1 _ rfl;(with_reducible repeat first|apply kn_|apply kd_|apply ka_);refine blk_put (cs := #[.int .i64 0,.int .i64 0]) ?_ 0 _ rfl;(with_reducible repeat first|apply kn_|apply kd_|apply ka_);exact BK338.out⟩,⟨by repeat (first|(with_reducible first|exact HB.out|apply ba_|apply pd_|apply d1_|refine bs_ ?_ GE321.out|refine bs_ ?_ GE322.out|refine bs_ ?_ GE326.out|refine bs_ ?_ GE330.out|refine bs_ ?_ GE334.out|refine bs_ ?_ GE338.out)|exact HB.out)⟩⟩
 case rest =>
  clear HC9
  try clear c1;try clear c2;try clear p2;try clear c3;try clear c4;try clear c5;try clear c6;try clear c7;try clear c8;try clear c9;try clear c10;try clear c11;try clear c12;try clear c17;try clear c18;try clear c24;try clear c25;try clear c26;try clear c32;try clear c33;try clear c34;try clear c35;try clear c41;try clear c42;try clear c43;try clear c44;try clear c45;try clear c47;try clear c47b0;try clear c48;try clear c49;try clear c50;try clear c51;try clear c52;try clear c54;try clear c55;try clear c56;try clear c57;try clear c59;try clear c59b0;try clear c59b1;try clear c60;try clear c60b0;try clear c61;try clear c62;try clear c63;try clear c64;try clear c65;try clear c67;try clear c68;try clear c69;try clear c70;try clear c72;try clear c73;try clear c74;try clear c76;try clear c77;try clear c79;try clear c80;try clear c81;try clear c82;try clear c83;try clear c85;try clear c86;try clear c87;try clear c88;try clear c90;try clear c91;try clear c92;try clear c94;try clear c95;try clear c97;try clear c98;try clear c99;try clear c100;try clear c101;try clear c103;try clear c104;try clear c105;try clear c106;try clear hcz102_0;try clear hcz102_1;try clear hcz107_0;try clear hcz107_1;try clear hcz13_0;try clear hcz13_1;try clear hcz14_0;try clear hcz14_1;try clear hcz19_0;try clear hcz19_1;try clear hcz20_0;try clear hcz20_1;try clear hcz21_0;try clear hcz21_1;try clear hcz27_0;try clear hcz27_1;try clear hcz28_0;try clear hcz28_1;try clear hcz29_0;try clear hcz29_1;try clear hcz36_0;try clear hcz36_1;try clear hcz37_0;try clear hcz37_1;try clear hcz38_0;try clear hcz38_1;try clear hcz46_0;try clear hcz46_1;try clear hcz53_0;try clear hcz53_1;try clear hcz58_0;try clear hcz58_1;try clear hcz66_0;try clear hcz66_1;try clear hcz71_0;try clear hcz71_1;try clear hcz75_0;try clear hcz75_1;try clear hcz78_0;try clear hcz78_1;try clear hcz84_0;try clear hcz84_1;try clear hcz89_0;try clear hcz89_1;try clear hcz93_0;try clear hcz93_1;try clear hcz96_0;try clear hcz96_1;try clear hfz102_0;try clear hfz102_1;try clear hfz107_0;try clear hfz107_1;try clear hfz13_0;try clear hfz13_1;try clear hfz14_0;try clear hfz14_1;try clear hfz19_0;try clear hfz19_1;try clear hfz20_0;try clear hfz20_1;try clear hfz21_0;try clear hfz21_1;try clear hfz27_0;try clear hfz27_1;try clear hfz28_0;try clear hfz28_1;try clear hfz29_0;try clear hfz29_1;try clear hfz36_0;try clear hfz36_1;try clear hfz37_0;try clear hfz37_1;try clear hfz38_0;try clear hfz38_1;try clear hfz46_0;try clear hfz46_1;try clear hfz53_0;try clear hfz53_1;try clear hfz58_0;try clear hfz58_1;try clear hfz66_0;try clear hfz66_1;try clear hfz71_0;try clear hfz71_1;try clear hfz75_0;try clear hfz75_1;try clear hfz78_0;try clear hfz78_1;try clear hfz84_0;try clear hfz84_1;try clear hfz89_0;try clear hfz89_1;try clear hfz93_0;try clear hfz93_1;try clear hfz96_0;try clear hfz96_1
  obtain ⟨kq,x62_8,rfl,HA,HJ8,BK321,BK322,BK326,BK330,BK334,BK338,HB⟩ := hcut
  cases kq with
  | zero => exact absurd HA.out (by simp [neumelaw02_RatReckons.j0])
  | succ kj8 =>
   have H := HA.out
   clear HA
   simp only [neumelaw02_RatReckons.j0] at H
   by_cases c108 : x62_8 = true
   ·subst c108
    have H1 : (some false) = some r := by rw [if_pos rfl] at H;exact H
    clear H;have H := H1;clear H1
    exact absurd ((Option.some.inj H).trans hxt.out) (by decide)
   ·replace c108 := bf_ c108
    subst c108
    have H1 : ((rat_Mul.f kj8 a0_0 a0_1 a1_0 a1_1).bind fun bt339 => ((neumeref02_Mul.f kj8 a0_0 a0_1 a1_0 a1_1).bind fun bt342 => ((rat_Div.f kj8 a0_0 a0_1 a1_0 a1_1).bind fun bt345 => ((neumeref02_Div.f kj8 a0_0 a0_1 a1_0 a1_1).bind fun bt348 => ((rat_Of.f kj8 a2 a3).bind fun bt351 => ((neumeref02_Of.f kj8 a2 a3).bind fun bt355 => (if (bt339.1 == bt342.1 && (bt339.2.1 == bt342.2.1)) = true then (if bt339.2.2 = bt342.2.2 then (if (bt345.1 == bt348.1 && (bt345.2.1 == bt348.2.1)) = true then (if bt345.2.2 = bt348.2.2 then (if (bt351.1 == bt355.1 && (bt351.2.1 == bt355.2.1)) = true then (if bt351.2.2 = bt355.2.2 then ((neumelaw02_heads.f kj8).bind fun t359 => (some t359)) else (some false)) else (some false)) else (some false)) else (some false)) else (some false)) else (some false)))))))) = some r := by rw [if_neg (show ¬ (false = true) by decide)] at H;exact H
    clear H;have H := H1;clear H1
    replace H := ob_ H
    obtain ⟨⟨t339,t340,t341⟩,A1090,H⟩ := H
    replace H : ((neumeref02_Mul.f kj8 a0_0 a0_1 a1_0 a1_1).bind fun bt342 => ((rat_Div.f kj8 a0_0 a0_1 a1_0 a1_1).bind fun bt345 => ((neumeref02_Div.f kj8 a0_0 a0_1 a1_0 a1_1).bind fun bt348 => ((rat_Of.f kj8 a2 a3).bind fun bt351 => ((neumeref02_Of.f kj8 a2 a3).bind fun bt355 => (if (t339 == bt342.1 && (t340 == bt342.2.1)) = true then (if t341 = bt342.2.2 then (if (bt345.1 == bt348.1 && (bt345.2.1 == bt348.2.1)) = true then (if bt345.2.2 = bt348.2.2 then (if (bt351.1 == bt355.1 && (bt351.2.1 == bt355.2.1)) = true then (if bt351.2.2 = bt355.2.2 then ((neumelaw02_heads.f kj8).bind fun t359 => (some t359)) else (some false)) else (some false)) else (some false)) else (some false)) else (some false)) else (some false))))))) = some r := H
    have A109 := sd_ A1090
    clear A1090
    replace H := ob_ H
    obtain ⟨⟨t342,t343,t344⟩,A1100,H⟩ := H
    replace H : ((rat_Div.f kj8 a0_0 a0_1 a1_0 a1_1).bind fun bt345 => ((neumeref02_Div.f kj8 a0_0 a0_1 a1_0 a1_1).bind fun bt348 => ((rat_Of.f kj8 a2 a3).bind fun bt351 => ((neumeref02_Of.f kj8 a2 a3).bind fun bt355 => (if (t339 == t342 && (t340 == t343)) = true then (if t341 = t344 then (if (bt345.1 == bt348.1 && (bt345.2.1 == bt348.2.1)) = true then (if bt345.2.2 = bt348.2.2 then (if (bt351.1 == bt355.1 && (bt351.2.1 == bt355.2.1)) = true then (if bt351.2.2 = bt355.2.2 then ((neumelaw02_heads.f kj8).bind fun t359 => (some t359)) else (some false)) else (some false)) else (some false)) else (some false)) else (some false)) else (some false)))))) = some r := H
    have A110 := sd_ A1100
    clear A1100
    replace H := ob_ H
    obtain ⟨⟨t345,t346,t347⟩,A1110,H⟩ := H
    replace H : ((neumeref02_Div.f kj8 a0_0 a0_1 a1_0 a1_1).bind fun bt348 => ((rat_Of.f kj8 a2 a3).bind fun bt351 => ((neumeref02_Of.f kj8 a2 a3).bind fun bt355 => (if (t339 == t342 && (t340 == t343)) = true then (if t341 = t344 then (if (t345 == bt348.1 && (t346 == bt348.2.1)) = true then (if t347 = bt348.2.2 then (if (bt351.1 == bt355.1 && (bt351.2.1 == bt355.2.1)) = true then (if bt351.2.2 = bt355.2.2 then ((neumelaw02_heads.f kj8).bind fun t359 => (some t359)) else (some false)) else (some false)) else (some false)) else (some false)) else (some false)) else (some false))))) = some r := H
    have A111 := sd_ A1110
    clear A1110
    replace H := ob_ H
    obtain ⟨⟨t348,t349,t350⟩,A1120,H⟩ := H
    replace H : ((rat_Of.f kj8 a2 a3).bind fun bt351 => ((neumeref02_Of.f kj8 a2 a3).bind fun bt355 => (if (t339 == t342 && (t340 == t343)) = true then (if t341 = t344 then (if (t345 == t348 && (t346 == t349)) = true then (if t347 = t350 then (if (bt351.1 == bt355.1 && (bt351.2.1 == bt355.2.1)) = true then (if bt351.2.2 = bt355.2.2 then ((neumelaw02_heads.f kj8).bind fun t359 => (some t359)) else (some false)) else (some false)) else (some false)) else (some false)) else (some false)) else (some false)))) = some r := H
    have A112 := sd_ A1120
    clear A1120
    replace H := ob_ H
    obtain ⟨⟨t351,t352,t353⟩,A1130,H⟩ := H
    replace H : ((neumeref02_Of.f kj8 a2 a3).bind fun bt355 => (if (t339 == t342 && (t340 == t343)) = true then (if t341 = t344 then (if (t345 == t348 && (t346 == t349)) = true then (if t347 = t350 then (if (t351 == bt355.1 && (t352 == bt355.2.1)) = true then (if t353 = bt355.2.2 then ((neumelaw02_heads.f kj8).bind fun t359 => (some t359)) else (some false)) else (some false)) else (some false)) else (some false)) else (some false)) else (some false))) = some r := H
    have A113 := sd_ A1130
    clear A1130
    replace H := ob_ H
    obtain ⟨⟨t355,t356,t357⟩,A1140,H⟩ := H
    replace H : (if (t339 == t342 && (t340 == t343)) = true then (if t341 = t344 then (if (t345 == t348 && (t346 == t349)) = true then (if t347 = t350 then (if (t351 == t355 && (t352 == t356)) = true then (if t353 = t357 then ((neumelaw02_heads.f kj8).bind fun t359 => (some t359)) else (some false)) else (some false)) else (some false)) else (some false)) else (some false)) else (some false)) = some r := H
    have A114 := sd_ A1140
    clear A1140
    by_cases c115 : (t339 == t342 && (t340 == t343)) = true
    ·rw [if_pos c115] at H
     have c115b0 : (t339 == t342 && (t340 == t343)) = true := c115
     (try (have c115b1 : decide (t339 = t342 && (t340 == t343)) = true := by simpa using c115))
     (try (have c115b2 : (t339 == t342 && (t340 == t343)) = true := by simpa using c115))
     clear c115
     by_cases c116 : t341 = t344
     ·rw [if_pos c116] at H
      have c116b0 : (t341 == t344) = true := beq_iff_eq.mpr c116
      have c116b1 : (t341 != t344) = false := bne_eq_false_iff_eq.mpr c116
      clear c116
      by_cases c117 : (t345 == t348 && (t346 == t349)) = true
      ·rw [if_pos c117] at H
       have c117b0 : (t345 == t348 && (t346 == t349)) = true := c117
       (try (have c117b1 : decide (t345 = t348 && (t346 == t349)) = true := by simpa using c117))
       (try (have c117b2 : (t345 == t348 && (t346 == t349)) = true := by simpa using c117))
       clear c117
       by_cases c118 : t347 = t350
       ·rw [if_pos c118] at H
        have c118b0 : (t347 == t350) = true := beq_iff_eq.mpr c118
        have c118b1 : (t347 != t350) = false := bne_eq_false_iff_eq.mpr c118
        clear c118
        by_cases c119 : (t351 == t355 && (t352 == t356)) = true
        ·rw [if_pos c119] at H
         have c119b0 : (t351 == t355 && (t352 == t356)) = true := c119
         (try (have c119b1 : decide (t351 = t355 && (t352 == t356)) = true := by simpa using c119))
         (try (have c119b2 : (t351 == t355 && (t352 == t356)) = true := by simpa using c119))
         clear c119
         by_cases c120 : t353 = t357
         ·rw [if_pos c120] at H
          have c120b0 : (t353 == t357) = true := beq_iff_eq.mpr c120
          have c120b1 : (t353 != t357) = false := bne_eq_false_iff_eq.mpr c120
          clear c120
          replace H := ob_ H
          obtain ⟨t359,A1210,H⟩ := H
          replace H : (some t359) = some r := H
          have A121 := sd_ A1210
          clear A1210
          obtain rfl := Option.some.inj H
          have hnb122 := NB321_322.out
          have hnc122 := NB322_321.out
          have hnb123 := NB321_326.out
          have hnc123 := NB326_321.out
          have hnb124 := NB321_330.out
          have hnc124 := NB330_321.out
          have hnb125 := NB321_334.out
          have hnc125 := NB334_321.out
          have hnb126 := NB321_338.out
          have hnc126 := NB338_321.out
          have hcz127_0 : wc.cell? ⟨gb321,0,none⟩ = some (.int .i64 a0_0) := (kc_ BK321.out 0).trans rfl
          have hcz127_1 : wc.cell? ⟨gb321,1,none⟩ = some (.int .i64 a0_1) := (kc_ BK321.out 1).trans rfl
          have hfz127_0 := kf_ BK321.out 0
          have hfz127_1 := kf_ BK321.out 1
          have hnb128 := NB322_326.out
          have hnc128 := NB326_322.out
          have hnb129 := NB322_330.out
          have hnc129 := NB330_322.out
          have hnb130 := NB322_334.out
          have hnc130 := NB334_322.out
          have hnb131 := NB322_338.out
          have hnc131 := NB338_322.out
          have hcz132_0 : wc.cell? ⟨gb322,0,none⟩ = some (.int .i64 a1_0) := (kc_ BK322.out 0).trans rfl
          have hcz132_1 : wc.cell? ⟨gb322,1,none⟩ = some (.int .i64 a1_1) := (kc_ BK322.out 1).trans rfl
          have hfz132_0 := kf_ BK322.out 0
          have hfz132_1 := kf_ BK322.out 1
          go_wp2_with (first|((with_reducible refine gate_callee (f := 12) rfl ?_);refine goesL_ (some 66) rfl rfl Tryd.func12 (by kernel_rfl) rfl #[.agg #[.int .i64 a0_0,.int .i64 a0_1],.agg #[.int .i64 a1_0,.int .i64 a1_1]] rfl (by (try simp only [lm_,lq_,lx_]);first|done|rfl|(simp only [ld_,lt_];rfl)) ?_;(with_reducible refine (rat_Mul.calls kj8 a0_0 a0_1 a1_0 a1_1 t339 t340 t341 _ A109.out).mono ?_);rintro e w133 ⟨rfl,hb⟩;refine ⟨_,rfl,?_⟩;replace BK321 := kb_ BK321 hb;replace BK322 := kb_ BK322 hb;replace BK326 := kb_ BK326 hb;replace BK330 := kb_ BK330 hb;replace BK334 := kb_ BK334 hb;replace BK338 := kb_ BK338 hb;replace HB := hb_ HB (e_ GE321 (e_ GE322 (e_ GE326 (e_ GE330 (e_ GE334 (e_ GE338 e0_)))))) hb;(try clear hb);(try clear hb2);(try clear hk);(try clear hi);have hnb134 := NB326_330.out;have hnc134 := NB330_326.out;have hnb135 := NB326_334.out;have hnc135 := NB334_326.out;have hnb136 := NB326_338.out;have hnc136 := NB338_326.out;have hcz137_0 : w133.cell? ⟨gb326,0,none⟩ = some (.int .i64 t323) := (kc_ BK326.out 0).trans rfl;have hcz137_1 : w133.cell? ⟨gb326,1,none⟩ = some (.int .i64 t324) := (kc_ BK326.out 1).trans rfl;have hfz137_0 := kf_ BK326.out 0;have hfz137_1 := kf_ BK326.out 1;have hcz138_0 : w133.cell? ⟨gb321,0,none⟩ = some (.int .i64 a0_0) := (kc_ BK321.out 0).trans rfl;have hcz138_1 : w133.cell? ⟨gb321,1,none⟩ = some (.int .i64 a0_1) := (kc_ BK321.out 1).trans rfl;have hfz138_0 := kf_ BK321.out 0;have hfz138_1 := kf_ BK321.out 1;have hcz139_0 : w133.cell? ⟨gb322,0,none⟩ = some (.int .i64 a1_0) := (kc_ BK322.out 0).trans rfl;have hcz139_1 : w133.cell? ⟨gb322,1,none⟩ = some (.int .i64 a1_1) := (kc_ BK322.out 1).trans rfl;have hfz139_0 := kf_ BK322.out 0;have hfz139_1 := kf_ BK322.out 1)|((with_reducible refine gate_callee (f := 13) rfl ?_);refine goesL_ (some 72) rfl rfl Tryd.func13 (by kernel_rfl) rfl #[.agg #[.int .i64 a0_0,.int .i64 a0_1],.agg #[.int .i64 a1_0,.int .i64 a1_1]] rfl (by (try simp only [lm_,lq_,lx_]);first|done|rfl|(simp only [ld_,lt_];rfl)) ?_;(with_reducible refine (neumeref02_Mul.calls kj8 a0_0 a0_1 a1_0 a1_1 t342 t343 t344 _ A110.out).mono ?_);rintro e w140 ⟨rfl,hb⟩;refine ⟨_,rfl,?_⟩;replace BK321 := sd_ (blk_below (g := gb321) (o := .cells #[.int .i64 a0_0,.int .i64 a0_1] 23 (0,0)) (by (with_reducible repeat first|apply kn_|apply kd_|apply ka_);refine blk_far ?_ NB321_326.out _;(with_reducible repeat first|apply kn_|apply kd_|apply ka_);refine blk_far ?_ NB321_326.out _;(with_reducible repeat first|apply kn_|apply kd_|apply ka_);exact BK321.out) hb);replace BK322 := sd_ (blk_below (g := gb322) (o := .cells #[.int .i64 a1_0,.int .i64 a1_1] 23 (0,0)) (by (with_reducible repeat first|apply kn_|apply kd_|apply ka_);refine blk_far ?_ NB322_326.out _;(with_reducible repeat first|apply kn_|apply kd_|apply ka_);refine blk_far ?_ NB322_326.out _;(with_reducible repeat first|apply kn_|apply kd_|apply ka_);exact BK322.out) hb);replace BK326 := sd_ (blk_below (g := gb326) (o := .cells #[.int .i64 t339,.int .i64 t340] 23 (0,0)) (by (with_reducible repeat first|apply kn_|apply kd_|apply ka_);refine blk_put (cs := #[.int .i64 t339,.int .i64 t324]) ?_ 1 _ rfl;(with_reducible repeat first|apply kn_|apply kd_|apply ka_);refine blk_put (cs := #[.int .i64 t323,.int .i64 t324]) ?_ 0 _ rfl;(with_reducible repeat first|apply kn_|apply kd_|apply ka_);exact BK326.out) hb);replace BK330 := sd_ (blk_below (g := gb330) (o := .cells #[.int .i64 t327,.int .i64 t328] 23 (0,0)) (by (with_reducible repeat first|apply kn_|apply kd_|apply ka_);refine blk_far ?_ NB330_326.out _;(with_reducible repeat first|apply kn_|apply kd_|apply ka_);refine blk_far ?_ NB330_326.out _;(with_reducible repeat first|apply kn_|apply kd_|apply ka_);exact BK330.out) hb);replace BK334 := sd_ (blk_below (g := gb334) (o := .cells #[.int .i64 t331,.int .i64 t332] 23 (0,0)) (by (with_reducible repeat first|apply kn_|apply kd_|apply ka_);refine blk_far ?_ NB334_326.out _;(with_reducible repeat first|apply kn_|apply kd_|apply ka_);refine blk_far ?_ NB334_326.out _;(with_reducible repeat first|apply kn_|apply kd_|apply ka_);exact BK334.out) hb);replace BK338 := sd_ (blk_below (g := gb338) (o := .cells #[.int .i64 t335,.int .i64 t336] 23 (0,0)) (by (with_reducible repeat first|apply kn_|apply kd_|apply ka_);refine blk_far ?_ NB338_326.out _;(with_reducible repeat first|apply kn_|apply kd_|apply ka_);refine blk_far ?_ NB338_326.out _;(with_reducible repeat first|apply kn_|apply kd_|apply ka_);exact BK338.out) hb);replace HB := hb_ HB (e_ GE321 (e_ GE322 (e_ GE326 (e_ GE330 (e_ GE334 (e_ GE338 e0_)))))) hb;(try clear hb);(try clear hb2);(try clear hk);(try clear hi);have hnb141 := NB330_334.out;have hnc141 := NB334_330.out;have hnb142 := NB330_338.out;have hnc142 := NB338_330.out;have hcz143_0 : w140.cell? ⟨gb330,0,none⟩ = some (.int .i64 t327) := (kc_ BK330.out 0).trans rfl;have hcz143_1 : w140.cell? ⟨gb330,1,none⟩ = some (.int .i64 t328) := (kc_ BK330.out 1).trans rfl;have hfz143_0 := kf_ BK330.out 0;have hfz143_1 := kf_ BK330.out 1;have hcz144_0 : w140.cell? ⟨gb321,0,none⟩ = some (.int .i64 a0_0) := (kc_ BK321.out 0).trans rfl;have hcz144_1 : w140.cell? ⟨gb321,1,none⟩ = some (.int .i64 a0_1) := (kc_ BK321.out 1).trans rfl;have hfz144_0 := kf_ BK321.out 0;have hfz144_1 := kf_ BK321.out 1;have hcz145_0 : w140.cell? ⟨gb322,0,none⟩ = some (.int .i64 a1_0) := (kc_ BK322.out 0).trans rfl;have hcz145_1 : w140.cell? ⟨gb322,1,none⟩ = some (.int .i64 a1_1) := (kc_ BK322.out 1).trans rfl;have hfz145_0 := kf_ BK322.out 0;have hfz145_1 := kf_ BK322.out 1)|((with_reducible refine gate_callee (f := 14) rfl ?_);refine goesL_ (some 78) rfl rfl Tryd.func14 (by kernel_rfl) rfl #[.agg #[.int .i64 a0_0,.int .i64 a0_1],.agg #[.int .i64 a1_0,.int .i64 a1_1]] rfl (by (try simp only [lm_,lq_,lx_]);first|done|rfl|(simp only [ld_,lt_];rfl)) ?_;(with_reducible refine (rat_Div.calls kj8 a0_0 a0_1 a1_0 a1_1 t345 t346 t347 _ A111.out).mono ?_);rintro e w146 ⟨rfl,hb⟩;refine ⟨_,rfl,?_⟩;replace BK321 := sd_ (blk_below (g := gb321) (o := .cells #[.int .i64 a0_0,.int .i64 a0_1] 23 (0,0)) (by (with_reducible repeat first|apply kn_|apply kd_|apply ka_);refine blk_far ?_ NB321_330.out _;(with_reducible repeat first|apply kn_|apply kd_|apply ka_);refine blk_far ?_ NB321_330.out _;(with_reducible repeat first|apply kn_|apply kd_|apply ka_);exact BK321.out) hb);replace BK322 := sd_ (blk_below (g := gb322) (o := .cells #[.int .i64 a1_0,.int .i64 a1_1] 23 (0,0)) (by (with_reducible repeat first|apply kn_|apply kd_|apply ka_);refine blk_far ?_ NB322_330.out _;(with_reducible repeat first|apply kn_|apply kd_|apply ka_);refine blk_far ?_ NB322_330.out _;(with_reducible repeat first|apply kn_|apply kd_|apply ka_);exact BK322.out) hb);replace BK326 := sd_ (blk_below (g := gb326) (o := .cells #[.int .i64 t339,.int .i64 t340] 23 (0,0)) (by (with_reducible repeat first|apply kn_|apply kd_|apply ka_);refine blk_far ?_ NB326_330.out _;(with_reducible repeat first|apply kn_|apply kd_|apply ka_);refine blk_far ?_ NB326_330.out _;(with_reducible repeat first|apply kn_|apply kd_|apply ka_);exact BK326.out) hb);replace BK330 := sd_ (blk_below (g := gb330) (o := .cells #[.int .i64 t342,.int .i64 t343] 23 (0,0)) (by (with_reducible repeat first|apply kn_|apply kd_|apply ka_);refine blk_put (cs := #[.int .i64 t342,.int .i64 t328]) ?_ 1 _ rfl;(with_reducible repeat first|apply kn_|apply kd_|apply ka_);refine blk_put (cs := #[.int .i64 t327,.int .i64 t328]) ?_ 0 _ rfl;(with_reducible repeat first|apply kn_|apply kd_|apply ka_);exact BK330.out) hb);replace BK334 := sd_ (blk_below (g := gb334) (o := .cells #[.int .i64 t331,.int .i64 t332] 23 (0,0)) (by (with_reducible repeat first|apply kn_|apply kd_|apply ka_);refine blk_far ?_ NB334_330.out _;(with_reducible repeat first|apply kn_|apply kd_|apply ka_);refine blk_far ?_ NB334_330.out _;(with_reducible repeat first|apply kn_|apply kd_|apply ka_);exact BK334.out) hb);replace BK338 := sd_ (blk_below (g := gb338) (o := .cells #[.int .i64 t335,.int .i64 t336] 23 (0,0)) (by (with_reducible repeat first|apply kn_|apply kd_|apply ka_);refine blk_far ?_ NB338_330.out _;(with_reducible repeat first|apply kn_|apply kd_|apply ka_);refine blk_far ?_ NB338_330.out _;(with_reducible repeat first|apply kn_|apply kd_|apply ka_);exact BK338.out) hb);replace HB := hb_ HB (e_ GE321 (e_ GE322 (e_ GE326 (e_ GE330 (e_ GE334 (e_ GE338 e0_)))))) hb;(try clear hb);(try clear hb2);(try clear hk);(try clear hi);have hnb147 := NB334_338.out;have hnc147 := NB338_334.out;have hcz148_0 : w146.cell? ⟨gb334,0,none⟩ = some (.int .i64 t331) := (kc_ BK334.out 0).trans rfl;have hcz148_1 : w146.cell? ⟨gb334,1,none⟩ = some (.int .i64 t332) := (kc_ BK334.out 1).trans rfl;have hfz148_0 := kf_ BK334.out 0;have hfz148_1 := kf_ BK334.out 1;have hcz149_0 : w146.cell? ⟨gb321,0,none⟩ = some (.int .i64 a0_0) := (kc_ BK321.out 0).trans rfl;have hcz149_1 : w146.cell? ⟨gb321,1,none⟩ = some (.int .i64 a0_1) := (kc_ BK321.out 1).trans rfl;have hfz149_0 := kf_ BK321.out 0;have hfz149_1 := kf_ BK321.out 1;have hcz150_0 : w146.cell? ⟨gb322,0,none⟩ = some (.int .i64 a1_0) := (kc_ BK322.out 0).trans rfl;have hcz150_1 : w146.cell? ⟨gb322,1,none⟩ = some (.int .i64 a1_1) := (kc_ BK322.out 1).trans rfl;have hfz150_0 := kf_ BK322.out 0;have hfz150_1 := kf_ BK322.out 1)|((with_reducible refine gate_callee (f := 15) rfl ?_);refine goesL_ (some 84) rfl rfl Tryd.func15 (by kernel_rfl) rfl #[.agg #[.int .i64 a0_0,.int .i64 a0_1],.agg #[.int .i64 a1_0,.int .i64 a1_1]] rfl (by (try simp only [lm_,lq_,lx_]);first|done|rfl|(simp only [ld_,lt_];rfl)) ?_;(with_reducible refine (neumeref02_Div.calls kj8 a0_0 a0_1 a1_0 a1_1 t348 t349 t350 _ A112.out).mono ?_);rintro e w151 ⟨rfl,hb⟩;refine ⟨_,rfl,?_⟩;replace BK321 := sd_ (blk_below (g := gb321) (o := .cells #[.int .i64 a0_0,.int .i64 a0_1] 23 (0,0)) (by (with_reducible repeat first|apply kn_|apply kd_|apply ka_);refine blk_far ?_ NB321_334.out _;(with_reducible repeat first|apply kn_|apply kd_|apply ka_);refine blk_far ?_ NB321_334.out _;(with_reducible repeat first|apply kn_|apply kd_|apply ka_);exact BK321.out) hb);replace BK322 := sd_ (blk_below (g := gb322) (o := .cells #[.int .i64 a1_0,.int .i64 a1_1] 23 (0,0)) (by (with_reducible repeat first|apply kn_|apply kd_|apply ka_);refine blk_far ?_ NB322_334.out _;(with_reducible repeat first|apply kn_|apply kd_|apply ka_);refine blk_far ?_ NB322_334.out _;(with_reducible repeat first|apply kn_|apply kd_|apply ka_);exact BK322.out) hb);replace BK326 := sd_ (blk_below (g := gb326) (o := .cells #[.int .i64 t339,.int .i64 t340] 23 (0,0)) (by (with_reducible repeat first|apply kn_|apply kd_|apply ka_);refine blk_far ?_ NB326_334.out _;(with_reducible repeat first|apply kn_|apply kd_|apply ka_);refine blk_far ?_ NB326_334.out _;(with_reducible repeat first|apply kn_|apply kd_|apply ka_);exact BK326.out) hb);replace BK330 := sd_ (blk_below (g := gb330) (o := .cells #[.int .i64 t342,.int .i64 t343] 23 (0,0)) (by (with_reducible repeat first|apply kn_|apply kd_|apply ka_);refine blk_far ?_ NB330_334.out _;(with_reducible repeat first|apply kn_|apply kd_|apply ka_);refine blk_far ?_ NB330_334.out _;(with_reducible repeat first|apply kn_|apply kd_|apply ka_);exact BK330.out) hb);replace BK334 := sd_ (blk_below (g := gb334) (o := .cells #[.int .i64 t345,.int .i64 t346] 23 (0,0)) (by (with_reducible repeat first|apply kn_|apply kd_|apply ka_);refine blk_put (cs := #[.int .i64 t345,.int .i64 t332]) ?_ 1 _ rfl;(with_reducible repeat first|apply kn_|apply kd_|apply ka_);refine blk_put (cs := #[.int .i64 t331,.int .i64 t332]) ?_ 0 _ rfl;(with_reducible repeat first|apply kn_|apply kd_|apply ka_);exact BK334.out) hb);replace BK338 := sd_ (blk_below (g := gb338) (o := .cells #[.int .i64 t335,.int .i64 t336] 23 (0,0)) (by (with_reducible repeat first|apply kn_|apply kd_|apply ka_);refine blk_far ?_ NB338_334.out _;(with_reducible repeat first|apply kn_|apply kd_|apply ka_);refine blk_far ?_ NB338_334.out _;(with_reducible repeat first|apply kn_|apply kd_|apply ka_);exact BK338.out) hb);replace HB := hb_ HB (e_ GE321 (e_ GE322 (e_ GE326 (e_ GE330 (e_ GE334 (e_ GE338 e0_)))))) hb;(try clear hb);(try clear hb2);(try clear hk);(try clear hi);have hcz152_0 : w151.cell? ⟨gb338,0,none⟩ = some (.int .i64 t335) := (kc_ BK338.out 0).trans rfl;have hcz152_1 : w151.cell? ⟨gb338,1,none⟩ = some (.int .i64 t336) := (kc_ BK338.out 1).trans rfl;have hfz152_0 := kf_ BK338.out 0;have hfz152_1 := kf_ BK338.out 1)|((with_reducible refine gate_callee (f := 16) rfl ?_);refine goesL_ (some 90) rfl rfl Tryd.func16 (by kernel_rfl) rfl #[.int .i64 a2,.int .i64 a3] rfl (by (try simp only [lm_,lq_,lx_]);first|done|rfl|(simp only [ld_,lt_];rfl)) ?_;(with_reducible refine (rat_Of.calls kj8 a2 a3 t351 t352 t353 _ A113.out).mono ?_);rintro e w153 ⟨rfl,hb⟩;refine ⟨_,rfl,?_⟩;replace BK321 := sd_ (blk_below (g := gb321) (o := .cells #[.int .i64 a0_0,.int .i64 a0_1] 23 (0,0)) (by (with_reducible repeat first|apply kn_|apply kd_|apply ka_);refine blk_far ?_ NB321_338.out _;(with_reducible repeat first|apply kn_|apply kd_|apply ka_);refine blk_far ?_ NB321_338.out _;(with_reducible repeat first|apply kn_|apply kd_|apply ka_);exact BK321.out) hb);replace BK322 := sd_ (blk_below (g := gb322) (o := .cells #[.int .i64 a1_0,.int .i64 a1_1] 23 (0,0)) (by (with_reducible repeat first|apply kn_|apply kd_|apply ka_);refine blk_far ?_ NB322_338.out _;(with_reducible repeat first|apply kn_|apply kd_|apply ka_);refine blk_far ?_ NB322_338.out _;(with_reducible repeat first|apply kn_|apply kd_|apply ka_);exact BK322.out) hb);replace BK326 := sd_ (blk_below (g := gb326) (o := .cells #[.int .i64 t339,.int .i64 t340] 23 (0,0)) (by (with_reducible repeat first|apply kn_|apply kd_|apply ka_);refine blk_far ?_ NB326_338.out _;(with_reducible repeat first|apply kn_|apply kd_|apply ka_);refine blk_far ?_ NB326_338.out _;(with_reducible repeat first|apply kn_|apply kd_|apply ka_);exact BK326.out) hb);replace BK330 := sd_ (blk_below (g := gb330) (o := .cells #[.int .i64 t342,.int .i64 t343] 23 (0,0)) (by (with_reducible repeat first|apply kn_|apply kd_|apply ka_);refine blk_far ?_ NB330_338.out _;(with_reducible repeat first|apply kn_|apply kd_|apply ka_);refine blk_far ?_ NB330_338.out _;(with_reducible repeat first|apply kn_|apply kd_|apply ka_);exact BK330.out) hb);replace BK334 := sd_ (blk_below (g := gb334) (o := .cells #[.int .i64 t345,.int .i64 t346] 23 (0,0)) (by (with_reducible repeat first|apply kn_|apply kd_|apply ka_);refine blk_far ?_ NB334_338.out _;(with_reducible repeat first|apply kn_|apply kd_|apply ka_);refine blk_far ?_ NB334_338.out _;(with_reducible repeat first|apply kn_|apply kd_|apply ka_);exact BK334.out) hb);replace BK338 := sd_ (blk_below (g := gb338) (o := .cells #[.int .i64 t348,.int .i64 t349] 23 (0,0)) (by (with_reducible repeat first|apply kn_|apply kd_|apply ka_);refine blk_put (cs := #[.int .i64 t348,.int .i64 t336]) ?_ 1 _ rfl;(with_reducible repeat first|apply kn_|apply kd_|apply ka_);refine blk_put (cs := #[.int .i64 t335,.int .i64 t336]) ?_ 0 _ rfl;(with_reducible repeat first|apply kn_|apply kd_|apply ka_);exact BK338.out) hb);replace HB := hb_ HB (e_ GE321 (e_ GE322 (e_ GE326 (e_ GE330 (e_ GE334 (e_ GE338 e0_)))))) hb;(try clear hb);(try clear hb2);(try clear hk);(try clear hi))|((with_reducible refine gate_dst (N := 17) rfl ?_);refine box_event ?hg (N := 17) ?hd (cs := #[.int .i64 0,.int .i64 0]) (t := 23) ?hr ?_;(case hd => rfl);(case hg => rfl);(case hr => first|(go_simp;done)|(go_simp;rfl));intro gb354 hg w154 hbox hb;have BK354 := sd_ hbox;have GW354 := gw_ HB (e_ GE321 (e_ GE322 (e_ GE326 (e_ GE330 (e_ GE334 (e_ GE338 e0_)))))) hg;have GE354 := GW354;have NB321_354 := nb_ BK321 hg;have NB354_321 := sy_ NB321_354;have NB322_354 := nb_ BK322 hg;have NB354_322 := sy_ NB322_354;have NB326_354 := nb_ BK326 hg;have NB354_326 := sy_ NB326_354;have NB330_354 := nb_ BK330 hg;have NB354_330 := sy_ NB330_354;have NB334_354 := nb_ BK334 hg;have NB354_334 := sy_ NB334_354;have NB338_354 := nb_ BK338 hg;have NB354_338 := sy_ NB338_354;replace BK321 := kb_ BK321 hb;replace BK322 := kb_ BK322 hb;replace BK326 := kb_ BK326 hb;replace BK330 := kb_ BK330 hb;replace BK334 := kb_ BK334 hb;replace BK338 := kb_ BK338 hb;replace HB := hb_ HB (e_ GE321 (e_ GE322 (e_ GE326 (e_ GE330 (e_ GE334 (e_ GE338 e0_)))))) hb;clear hb hbox hg;have hnb155 := NB354_321.out;have hnc155 := NB321_354.out;have hnb156 := NB354_322.out;have hnc156 := NB322_354.out;have hnb157 := NB354_326.out;have hnc157 := NB326_354.out;have hnb158 := NB354_330.out;have hnc158 := NB330_354.out;have hnb159 := NB354_334.out;have hnc159 := NB334_354.out;have hnb160 := NB354_338.out;have hnc160 := NB338_354.out;have hcz161_0 : w154.cell? ⟨gb354,0,none⟩ = some (.int .i64 0) := (kc_ BK354.out 0).trans rfl;have hcz161_1 : w154.cell? ⟨gb354,1,none⟩ = some (.int .i64 0) := (kc_ BK354.out 1).trans rfl;have hfz161_0 := kf_ BK354.out 0;have hfz161_1 := kf_ BK354.out 1)|((with_reducible refine gate_callee (f := 17) rfl ?_);refine goesL_ (some 96) rfl rfl Tryd.func17 (by kernel_rfl) rfl #[.int .i64 a2,.int .i64 a3] rfl (by (try simp only [lm_,lq_,lx_]);first|done|rfl|(simp only [ld_,lt_];rfl)) ?_;(with_reducible refine (neumeref02_Of.calls kj8 a2 a3 t355 t356 t357 _ A114.out).mono ?_);rintro e w162 ⟨rfl,hb⟩;refine ⟨_,rfl,?_⟩;replace BK321 := sd_ (blk_below (g := gb321) (o := .cells #[.int .i64 a0_0,.int .i64 a0_1] 23 (0,0)) (by (with_reducible repeat first|apply kn_|apply kd_|apply ka_);refine blk_far ?_ NB321_354.out _;(with_reducible repeat first|apply kn_|apply kd_|apply ka_);refine blk_far ?_ NB321_354.out _;(with_reducible repeat first|apply kn_|apply kd_|apply ka_);exact BK321.out) hb);replace BK322 := sd_ (blk_below (g := gb322) (o := .cells #[.int .i64 a1_0,.int .i64 a1_1] 23 (0,0)) (by (with_reducible repeat first|apply kn_|apply kd_|apply ka_);refine blk_far ?_ NB322_354.out _;(with_reducible repeat first|apply kn_|apply kd_|apply ka_);refine blk_far ?_ NB322_354.out _;(with_reducible repeat first|apply kn_|apply kd_|apply ka_);exact BK322.out) hb);replace BK326 := sd_ (blk_below (g := gb326) (o := .cells #[.int .i64 t339,.int .i64 t340] 23 (0,0)) (by (with_reducible repeat first|apply kn_|apply kd_|apply ka_);refine blk_far ?_ NB326_354.out _;(with_reducible repeat first|apply kn_|apply kd_|apply ka_);refine blk_far ?_ NB326_354.out _;(with_reducible repeat first|apply kn_|apply kd_|apply ka_);exact BK326.out) hb);replace BK330 := sd_ (blk_below (g := gb330) (o := .cells #[.int .i64 t342,.int .i64 t343] 23 (0,0)) (by (with_reducible repeat first|apply kn_|apply kd_|apply ka_);refine blk_far ?_ NB330_354.out _;(with_reducible repeat first|apply kn_|apply kd_|apply ka_);refine blk_far ?_ NB330_354.out _;(with_reducible repeat first|apply kn_|apply kd_|apply ka_);exact BK330.out) hb);replace BK334 := sd_ (blk_below (g := gb334) (o := .cells #[.int .i64 t345,.int .i64 t346] 23 (0,0)) (by (with_reducible repeat first|apply kn_|apply kd_|apply ka_);refine blk_far ?_ NB334_354.out _;(with_reducible repeat first|apply kn_|apply kd_|apply ka_);refine blk_far ?_ NB334_354.out _;(with_reducible repeat first|apply kn_|apply kd_|apply ka_);exact BK334.out) hb);replace BK338 := sd_ (blk_below (g := gb338) (o := .cells #[.int .i64 t348,.int .i64 t349] 23 (0,0)) (by (with_reducible repeat first|apply kn_|apply kd_|apply ka_);refine blk_far ?_ NB338_354.out _;(with_reducible repeat first|apply kn_|apply kd_|apply ka_);refine blk_far ?_ NB338_354.out _;(with_reducible repeat first|apply kn_|apply kd_|apply ka_);exact BK338.out) hb);replace BK354 := sd_ (blk_below (g := gb354) (o := .cells #[.int .i64 t351,.int .i64 t352] 23 (0,0)) (by (with_reducible repeat first|apply kn_|apply kd_|apply ka_);refine blk_put (cs := #[.int .i64 t351,.int .i64 0]) ?_ 1 _ rfl;(with_reducible repeat first|apply kn_|apply kd_|apply ka_);refine blk_put (cs := #[.int .i64 0,.int .i64 0]) ?_ 0 _ rfl;(with_reducible repeat first|apply kn_|apply kd_|apply ka_);exact BK354.out) hb);replace HB := hb_ HB (e_ GE321 (e_ GE322 (e_ GE326 (e_ GE330 (e_ GE334 (e_ GE338 (e_ GE354 e0_))))))) hb;(try clear hb);(try clear hb2);(try clear hk);(try clear hi))|((with_reducible refine gate_dst (N := 19) rfl ?_);refine box_event ?hg (N := 19) ?hd (cs := #[.int .i64 0,.int .i64 0]) (t := 23) ?hr ?_;(case hd => rfl);(case hg => rfl);(case hr => first|(go_simp;done)|(go_simp;rfl));intro gb358 hg w163 hbox hb;have BK358 := sd_ hbox;have GW358 := gw_ HB (e_ GE321 (e_ GE322 (e_ GE326 (e_ GE330 (e_ GE334 (e_ GE338 (e_ GE354 e0_))))))) hg;have GE358 := GW358;have NB321_358 := nb_ BK321 hg;have NB358_321 := sy_ NB321_358;have NB322_358 := nb_ BK322 hg;have NB358_322 := sy_ NB322_358;have NB326_358 := nb_ BK326 hg;have NB358_326 := sy_ NB326_358;have NB330_358 := nb_ BK330 hg;have NB358_330 := sy_ NB330_358;have NB334_358 := nb_ BK334 hg;have NB358_334 := sy_ NB334_358;have NB338_358 := nb_ BK338 hg;have NB358_338 := sy_ NB338_358;have NB354_358 := nb_ BK354 hg;have NB358_354 := sy_ NB354_358;replace BK321 := kb_ BK321 hb;replace BK322 := kb_ BK322 hb;replace BK326 := kb_ BK326 hb;replace BK330 := kb_ BK330 hb;replace BK334 := kb_ BK334 hb;replace BK338 := kb_ BK338 hb;replace BK354 := kb_ BK354 hb;replace HB := hb_ HB (e_ GE321 (e_ GE322 (e_ GE326 (e_ GE330 (e_ GE334 (e_ GE338 (e_ GE354 e0_))))))) hb;clear hb hbox hg;have hnb164 := NB358_321.out;have hnc164 := NB321_358.out;have hnb165 := NB358_322.out;have hnc165 := NB322_358.out;have hnb166 := NB358_326.out;have hnc166 := NB326_358.out;have hnb167 := NB358_330.out;have hnc167 := NB330_358.out;have hnb168 := NB358_334.out;have hnc168 := NB334_358.out;have hnb169 := NB358_338.out;have hnc169 := NB338_358.out;have hnb170 := NB358_354.out;have hnc170 := NB354_358.out;have hcz171_0 : w163.cell? ⟨gb358,0,none⟩ = some (.int .i64 0) := (kc_ BK358.out 0).trans rfl;have hcz171_1 : w163.cell? ⟨gb358,1,none⟩ = some (.int .i64 0) := (kc_ BK358.out 1).trans rfl;have hfz171_0 := kf_ BK358.out 0;have hfz171_1 := kf_ BK358.out 1;have hcz172_0 : w163.cell? ⟨gb326,0,none⟩ = some (.int .i64 t339) := (kc_ BK326.out 0).trans rfl;have hcz172_1 : w163.cell? ⟨gb326,1,none⟩ = some (.int .i64 t340) := (kc_ BK326.out 1).trans rfl;have hfz172_0 := kf_ BK326.out 0;have hfz172_1 := kf_ BK326.out 1;have hcz173_0 : w163.cell? ⟨gb330,0,none⟩ = some (.int .i64 t342) := (kc_ BK330.out 0).trans rfl;have hcz173_1 : w163.cell? ⟨gb330,1,none⟩ = some (.int .i64 t343) := (kc_ BK330.out 1).trans rfl;have hfz173_0 := kf_ BK330.out 0;have hfz173_1 := kf_ BK330.out 1;have hcz174_0 : w163.cell? ⟨gb334,0,none⟩ = some (.int .i64 t345) := (kc_ BK334.out 0).trans rfl;have hcz174_1 : w163.cell? ⟨gb334,1,none⟩ = some (.int .i64 t346) := (kc_ BK334.out 1).trans rfl;have hfz174_0 := kf_ BK334.out 0;have hfz174_1 := kf_ BK334.out 1;have hcz175_0 : w163.cell? ⟨gb338,0,none⟩ = some (.int .i64 t348) := (kc_ BK338.out 0).trans rfl;have hcz175_1 : w163.cell? ⟨gb338,1,none⟩ = some (.int .i64 t349) := (kc_ BK338.out 1).trans rfl;have hfz175_0 := kf_ BK338.out 0;have hfz175_1 := kf_ BK338.out 1;have hcz176_0 : w163.cell? ⟨gb354,0,none⟩ = some (.int .i64 t351) := (kc_ BK354.out 0).trans rfl;have hcz176_1 : w163.cell? ⟨gb354,1,none⟩ = some (.int .i64 t352) := (kc_ BK354.out 1).trans rfl;have hfz176_0 := kf_ BK354.out 0;have hfz176_1 := kf_ BK354.out 1)|(go_at_call 18;(with_reducible refine (neumelaw02_heads.calls kj8  t359 _ ?side1 A121.out).mono ?_);(case side1 => first|(with_reducible exact hE)|exact sd_ (LaidE.below hE.out (bb_ HB.out (e_ GE321 (e_ GE322 (e_ GE326 (e_ GE330 (e_ GE334 (e_ GE338 (e_ GE354 (e_ GE358 e0_)))))))))));rintro e w177 ⟨rfl,hb⟩;replace BK321 := sd_ (blk_below (g := gb321) (o := .cells #[.int .i64 a0_0,.int .i64 a0_1] 23 (0,0)) (by (with_reducible repeat first|apply kn_|apply kd_|apply ka_);refine blk_far ?_ NB321_358.out _;(with_reducible repeat first|apply kn_|apply kd_|apply ka_);refine blk_far ?_ NB321_358.out _;(with_reducible repeat first|apply kn_|apply kd_|apply ka_);exact BK321.out) hb);replace BK322 := sd_ (blk_below (g := gb322) (o := .cells #[.int .i64 a1_0,.int .i64 a1_1] 23 (0,0)) (by (with_reducible repeat first|apply kn_|apply kd_|apply ka_);refine blk_far ?_ NB322_358.out _;(with_reducible repeat first|apply kn_|apply kd_|apply ka_);refine blk_far ?_ NB322_358.out _;(with_reducible repeat first|apply kn_|apply kd_|apply ka_);exact BK322.out) hb);replace BK326 := sd_ (blk_below (g := gb326) (o := .cells #[.int .i64 t339,.int .i64 t340] 23 (0,0)) (by (with_reducible repeat first|apply kn_|apply kd_|apply ka_);refine blk_far ?_ NB326_358.out _;(with_reducible repeat first|apply kn_|apply kd_|apply ka_);refine blk_far ?_ NB326_358.out _;(with_reducible repeat first|apply kn_|apply kd_|apply ka_);exact BK326.out) hb);replace BK330 := sd_ (blk_below (g := gb330) (o := .cells #[.int .i64 t342,.int .i64 t343] 23 (0,0)) (by (with_reducible repeat first|apply kn_|apply kd_|apply ka_);refine blk_far ?_ NB330_358.out _;(with_reducible repeat first|apply kn_|apply kd_|apply ka_);refine blk_far ?_ NB330_358.out _;(with_reducible repeat first|apply kn_|apply kd_|apply ka_);exact BK330.out) hb);replace BK334 := sd_ (blk_below (g := gb334) (o := .cells #[.int .i64 t345,.int .i64 t346] 23 (0,0)) (by (with_reducible repeat first|apply kn_|apply kd_|apply ka_);refine blk_far ?_ NB334_358.out _;(with_reducible repeat first|apply kn_|apply kd_|apply ka_);refine blk_far ?_ NB334_358.out _;(with_reducible repeat first|apply kn_|apply kd_|apply ka_);exact BK334.out) hb);replace BK338 := sd_ (blk_below (g := gb338) (o := .cells #[.int .i64 t348,.int .i64 t349] 23 (0,0)) (by (with_reducible repeat first|apply kn_|apply kd_|apply ka_);refine blk_far ?_ NB338_358.out _;(with_reducible repeat first|apply kn_|apply kd_|apply ka_);refine blk_far ?_ NB338_358.out _;(with_reducible repeat first|apply kn_|apply kd_|apply ka_);exact BK338.out) hb);replace BK354 := sd_ (blk_below (g := gb354) (o := .cells #[.int .i64 t351,.int .i64 t352] 23 (0,0)) (by (with_reducible repeat first|apply kn_|apply kd_|apply ka_);refine blk_far ?_ NB354_358.out _;(with_reducible repeat first|apply kn_|apply kd_|apply ka_);refine blk_far ?_ NB354_358.out _;(with_reducible repeat first|apply kn_|apply kd_|apply ka_);exact BK354.out) hb);replace BK358 := sd_ (blk_below (g := gb358) (o := .cells #[.int .i64 t355,.int .i64 t356] 23 (0,0)) (by (with_reducible repeat first|apply kn_|apply kd_|apply ka_);refine blk_put (cs := #[.int .i64 t355,.int .i64 0]) ?_ 1 _ rfl;(with_reducible repeat first|apply kn_|apply kd_|apply ka_);refine blk_put (cs := #[.int .i64 0,.int .i64 0]) ?_ 0 _ rfl;(with_reducible repeat first|apply kn_|apply kd_|apply ka_);exact BK358.out) hb);replace HB := hb_ HB (e_ GE321 (e_ GE322 (e_ GE326 (e_ GE330 (e_ GE334 (e_ GE338 (e_ GE354 (e_ GE358 e0_)))))))) hb;(try clear hb);(try clear hb2);(try clear hk);(try clear hi)))
          go_ret
          exact ⟨by first|rfl|(simp [errW_none,errW_some] <;> rfl)|(simp [*,errW_none,errW_some] <;> rfl),by repeat (first|(with_reducible first|exact HB.out|apply ba_|apply pd_|apply d1_|refine bs_ ?_ GE321.out|refine bs_ ?_ GE322.out|refine bs_ ?_ GE326.out|refine bs_ ?_ GE330.out|refine bs_ ?_ GE334.out|refine bs_ ?_ GE338.out|refine bs_ ?_ GE354.out|refine bs_ ?_ GE358.out)|exact HB.out)⟩
         ·rw [if_neg c120] at H
          have c120b0 : (t353 == t357) = false := beq_eq_false_iff_ne.mpr c120
          have c120b1 : (t353 != t357) = true := bne_iff_ne.mpr c120
          exact absurd ((Option.some.inj H).trans hxt.out) (by decide)
        ·rw [if_neg c119] at H
         have c119b0 : (t351 == t355 && (t352 == t356)) = false := by simpa using c119
         (try (have c119b1 : decide (t351 = t355 && (t352 == t356)) = false := by simpa using c119))
         (try (have c119b2 : (t351 == t355 && (t352 == t356)) = false := by simpa using c119))
         (try (have c119b3 : ¬ (t351 = t355 && (t352 == t356)) := by simpa using c119))
         clear c119
         exact absurd ((Option.some.inj H).trans hxt.out) (by decide)
       ·rw [if_neg c118] at H
        have c118b0 : (t347 == t350) = false := beq_eq_false_iff_ne.mpr c118
        have c118b1 : (t347 != t350) = true := bne_iff_ne.mpr c118
        exact absurd ((Option.some.inj H).trans hxt.out) (by decide)
      ·rw [if_neg c117] at H
       have c117b0 : (t345 == t348 && (t346 == t349)) = false := by simpa using c117
       (try (have c117b1 : decide (t345 = t348 && (t346 == t349)) = false := by simpa using c117))
       (try (have c117b2 : (t345 == t348 && (t346 == t349)) = false := by simpa using c117))
       (try (have c117b3 : ¬ (t345 = t348 && (t346 == t349)) := by simpa using c117))
       clear c117
       exact absurd ((Option.some.inj H).trans hxt.out) (by decide)
     ·rw [if_neg c116] at H
      have c116b0 : (t341 == t344) = false := beq_eq_false_iff_ne.mpr c116
      have c116b1 : (t341 != t344) = true := bne_iff_ne.mpr c116
      exact absurd ((Option.some.inj H).trans hxt.out) (by decide)
    ·rw [if_neg c115] at H
     have c115b0 : (t339 == t342 && (t340 == t343)) = false := by simpa using c115
     (try (have c115b1 : decide (t339 = t342 && (t340 == t343)) = false := by simpa using c115))
     (try (have c115b2 : (t339 == t342 && (t340 == t343)) = false := by simpa using c115))
     (try (have c115b3 : ¬ (t339 = t342 && (t340 == t343)) := by simpa using c115))
     clear c115
     exact absurd ((Option.some.inj H).trans hxt.out) (by decide)

end Go.Proofs.YtmbdbinbdiiapaaDoor.P
