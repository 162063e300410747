-- Written by a program of this session (wip/tools/xprint.py, over the kit's print): Lean checks it.
import Derived.Test.YtmbdbinbdiiapaaDoorPx0
import Derived.Test.YtmbdbinbdiiapaaDoorPx8
namespace Go.Proofs.YtmbdbinbdiiapaaDoor.P
open Go.RowKit Go.Proofs.YtmbdbinbdiiapaaDoorW.PrintWords Go.Proofs.YtmbdbinbdiiapaaDoorW.PrintLast Go.Proofs.YtmbdbinbdiiapaaDoorW.PrintMore
attribute [local go_sem] max2_int min2_int max_two min_two max_three min_three max_four min_four   -- for this text's walks alone
set_option linter.unusedVariables false
set_option linter.unusedSimpArgs false

/-! ### neumeref02_down: function 45 -/
def neumeref02_down.f (a0 : Int) (a1 : Int) : Option (Int) := if a1 = 0 then (none) else (if (Int.tmod a0 a1) < 0 then (some (wrap64 ((wrap64 (Int.tdiv a0 a1)) - 1))) else (some (wrap64 (Int.tdiv a0 a1))))
set_option maxHeartbeats 8000000 in
set_option maxRecDepth 100000 in
theorem neumeref02_down.calls (a0 : Int) (a1 : Int) (r : Int) (w : World) (h : neumeref02_down.f a0 a1 = some r) :
  Calls Tryd.prog 45 #[.int .i64 a0,.int .i64 a1] w fun e w' => e = .returned (.int .i64 r) ∧ Drawn0 w w' := by
 have H : (if a1 = 0 then (none) else (if (Int.tmod a0 a1) < 0 then (some (wrap64 ((wrap64 (Int.tdiv a0 a1)) - 1))) else (some (wrap64 (Int.tdiv a0 a1))))) = some r := h
 clear h
 by_cases c3 : a1 = 0
 ·rw [if_pos c3] at H
  exact absurd H (by simp)
 ·rw [if_neg c3] at H
  have c3b0 : (a1 == 0) = false := beq_eq_false_iff_ne.mpr c3
  have c3b1 : (a1 != 0) = true := bne_iff_ne.mpr c3
  by_cases c4 : (Int.tmod a0 a1) < 0
  ·rw [if_pos c4] at H
   have c4b0 : decide ((Int.tmod a0 a1) < 0) = true := dt_ c4
   clear c4
   obtain rfl := Option.some.inj H
   go_enter Tryd.func45,Tryd.ntmps45
   go_wp2
   go_ret
   exact ⟨by first|rfl|(simp;done)|(simp [*];done),by repeat (first|exact Drawn0.refl _|apply Drawn0.step)⟩
  ·rw [if_neg c4] at H
   have c4b0 : decide ((Int.tmod a0 a1) < 0) = false := df_ c4
   clear c4
   obtain rfl := Option.some.inj H
   go_enter Tryd.func45,Tryd.ntmps45
   go_wp2
   go_ret
   exact ⟨by first|rfl|(simp;done)|(simp [*];done),by repeat (first|exact Drawn0.refl _|apply Drawn0.step)⟩

/-! ### neumeref02_Floor: function 26 -/
def neumeref02_Floor.f (k : Nat) (a0_0 : Int) (a0_1 : Int) : Option (Int) := (neumeref02_Check.f k a0_0 a0_1).bind fun t361 => (if t361 = true then ((neumeref02_down.f a0_0 a0_1).bind fun t362 => (some t362)) else (some 0))
theorem neumeref02_Floor.mono : ∀ a0 a1 k, LeO (neumeref02_Floor.f k a0 a1) (neumeref02_Floor.f (k + 1) a0 a1) := by
 intro a0 a1 k
 unfold neumeref02_Floor.f
 repeat' first
   | (with_reducible exact neumeref02_Check.mono _ _ _)
   | (with_reducible exact LeO.refl _)
   | (with_reducible exact LeO.none _)
   | (with_reducible refine LeO.ite ?_ ?_)
   | (with_reducible refine LeO.bind ?_ (fun _ => ?_))
   | exact neumeref02_Check.mono _ _ _
   | exact LeO.none _
   | refine LeO.ite ?_ ?_
   | refine LeO.bind ?_ (fun _ => ?_)
set_option maxHeartbeats 8000000 in
set_option maxRecDepth 100000 in
theorem neumeref02_Floor.calls (k : Nat) (a0_0 : Int) (a0_1 : Int) (r : Int) (w : World) (h : neumeref02_Floor.f k a0_0 a0_1 = some r) :
  Calls Tryd.prog 26 #[.agg #[.int .i64 a0_0,.int .i64 a0_1]] w fun e w' => e = .returned (.int .i64 r) ∧ Below w.heap.size w w' := by
 have hu23 := Tryd.underlying23
 have HB := sd_ (Below.refl w.heap.size w)
 have H : ((neumeref02_Check.f k a0_0 a0_1).bind fun t361 => (if t361 = true then ((neumeref02_down.f a0_0 a0_1).bind fun t362 => (some t362)) else (some 0))) = some r := h
 clear h
 replace H := ob_ H
 obtain ⟨t361,A20,H⟩ := H
 replace H : (if t361 = true then ((neumeref02_down.f a0_0 a0_1).bind fun t362 => (some t362)) else (some 0)) = some r := H
 have A2 := sd_ A20
 clear A20
 by_cases c3 : t361 = true
 ·subst c3
  have H1 : ((neumeref02_down.f a0_0 a0_1).bind fun t362 => (some t362)) = some r := by rw [if_pos rfl] at H;exact H
  clear H;have H := H1;clear H1
  replace H := ob_ H
  obtain ⟨t362,A40,H⟩ := H
  replace H : (some t362) = some r := H
  have A4 := sd_ A40
  clear A40
  obtain rfl := Option.some.inj H
  go_enter Tryd.func26,Tryd.ntmps26
  go_wp2_with (first|((with_reducible refine gate_dst (N := 1) rfl ?_);refine box_event ?hg (N := 1) ?hd (cs := #[.int .i64 a0_0,.int .i64 a0_1]) (t := 23) ?hr ?_;(case hd => rfl);(case hg => rfl);(case hr => first|(go_simp;done)|(go_simp;rfl));intro gb360 hg w5 hbox hb;have BK360 := sd_ hbox;have GW360 := gw_ HB e0_ hg;have GE360 := GW360;replace HB := hb_ HB e0_ hb;clear hb hbox hg;have hcz6_0 : w5.cell? ⟨gb360,0,none⟩ = some (.int .i64 a0_0) := (kc_ BK360.out 0).trans rfl;have hcz6_1 : w5.cell? ⟨gb360,1,none⟩ = some (.int .i64 a0_1) := (kc_ BK360.out 1).trans rfl;have hfz6_0 := kf_ BK360.out 0;have hfz6_1 := kf_ BK360.out 1)|((with_reducible refine gate_callee (f := 30) rfl ?_);refine goesL_ (some 4) rfl rfl Tryd.func30 (by kernel_rfl) rfl #[.agg #[.int .i64 a0_0,.int .i64 a0_1]] rfl (by (try simp only [lm_,lq_,lx_]);first|done|rfl|(simp only [ld_,lt_];rfl)) ?_;(with_reducible refine (neumeref02_Check.calls k a0_0 a0_1 true _ A2.out).mono ?_);rintro e w7 ⟨rfl,hb⟩;refine ⟨_,rfl,?_⟩;replace BK360 := kb_ BK360 hb;replace HB := hb_ HB (e_ GE360 e0_) hb;(try clear hb);(try clear hb2);(try clear hk);(try clear hi);have hcz8_0 : w7.cell? ⟨gb360,0,none⟩ = some (.int .i64 a0_0) := (kc_ BK360.out 0).trans rfl;have hcz8_1 : w7.cell? ⟨gb360,1,none⟩ = some (.int .i64 a0_1) := (kc_ BK360.out 1).trans rfl;have hfz8_0 := kf_ BK360.out 0;have hfz8_1 := kf_ BK360.out 1)|((with_reducible refine gate_callee (f := 45) rfl ?_);refine goesL_ (some 10) rfl rfl Tryd.func45 (by kernel_rfl) rfl #[.int .i64 a0_0,.int .i64 a0_1] rfl (by (try simp only [lm_,lq_,lx_]);first|done|rfl|(simp only [ld_,lt_];rfl)) ?_;(with_reducible refine (neumeref02_down.calls a0_0 a0_1 t362 _ A4.out).mono ?_);rintro e w' ⟨rfl,⟨nd,rfl⟩⟩;refine ⟨_,rfl,?_⟩))
  go_ret
  exact ⟨by first|rfl|(simp [errW_none,errW_some] <;> rfl)|(simp [*,errW_none,errW_some] <;> rfl),by repeat (first|(with_reducible first|exact HB.out|apply ba_|apply pd_|apply d1_|refine bs_ ?_ GE360.out)|exact HB.out)⟩
 ·replace c3 := bf_ c3
  subst c3
  have H1 : (some 0) = some r := by rw [if_neg (show ¬ (false = true) by decide)] at H;exact H
  clear H;have H := H1;clear H1
  obtain rfl := Option.some.inj H
  go_enter Tryd.func26,Tryd.ntmps26
  go_wp2_with (first|((with_reducible refine gate_dst (N := 1) rfl ?_);refine box_event ?hg (N := 1) ?hd (cs := #[.int .i64 a0_0,.int .i64 a0_1]) (t := 23) ?hr ?_;(case hd => rfl);(case hg => rfl);(case hr => first|(go_simp;done)|(go_simp;rfl));intro gb360 hg w9 hbox hb;have BK360 := sd_ hbox;have GW360 := gw_ HB e0_ hg;have GE360 := GW360;replace HB := hb_ HB e0_ hb;clear hb hbox hg;have hcz10_0 : w9.cell? ⟨gb360,0,none⟩ = some (.int .i64 a0_0) := (kc_ BK360.out 0).trans rfl;have hcz10_1 : w9.cell? ⟨gb360,1,none⟩ = some (.int .i64 a0_1) := (kc_ BK360.out 1).trans rfl;have hfz10_0 := kf_ BK360.out 0;have hfz10_1 := kf_ BK360.out 1)|((with_reducible refine gate_callee (f := 30) rfl ?_);refine goesL_ (some 4) rfl rfl Tryd.func30 (by kernel_rfl) rfl #[.agg #[.int .i64 a0_0,.int .i64 a0_1]] rfl (by (try simp only [lm_,lq_,lx_]);first|done|rfl|(simp only [ld_,lt_];rfl)) ?_;(with_reducible refine (neumeref02_Check.calls k a0_0 a0_1 false _ A2.out).mono ?_);rintro e w11 ⟨rfl,hb⟩;refine ⟨_,rfl,?_⟩;replace BK360 := kb_ BK360 hb;replace HB := hb_ HB (e_ GE360 e0_) hb;(try clear hb);(try clear hb2);(try clear hk);(try clear hi)))
  go_ret
  exact ⟨by first|rfl|(simp [errW_none,errW_some] <;> rfl)|(simp [*,errW_none,errW_some] <;> rfl),by repeat (first|(with_reducible first|exact HB.out|apply ba_|apply pd_|apply d1_|refine bs_ ?_ GE360.out)|exact HB.out)⟩

end Go.Proofs.YtmbdbinbdiiapaaDoor.P
