-- Written by a program of this session (wip/tools/xprint.py, over the kit's print): Lean checks it.
import Derived.Test.YtdiccfonlojlfaaDoorPx0
import Derived.Test.YtdiccfonlojlfaaDoorPx2
import Derived.Test.YtdiccfonlojlfaaDoorPx3
namespace Go.Proofs.YtdiccfonlojlfaaDoor.P
open Go.RowKit Go.Proofs.YtdiccfonlojlfaaDoorW.PrintWords Go.Proofs.YtdiccfonlojlfaaDoorW.PrintLast Go.Proofs.YtdiccfonlojlfaaDoorW.PrintMore
attribute [local go_sem] max2_int min2_int max_two min_two max_three min_three max_four min_four   -- for this text's walks alone
set_option linter.unusedVariables false
set_option linter.unusedSimpArgs false

attribute [local go_sem high] eqA25
/-! ### dur_Value: function 6 -/
def dur_Value.f (k : Nat) (a0_0 : Int) (a0_1 : Int) : Option (Int × Int × Int) := (dur_Check.f a0_0 a0_1).bind fun t130 => ((dur_may.f t130).bind fun t131 => (if t131.isNone = true then ((dur_length.f k a0_0 a0_1).bind fun t133 => ((rat_Of.f k t133 1024).bind fun bt134 => (some (bt134.1, bt134.2.1, bt134.2.2)))) else ((dur_errno.f (some (t131.getD 0))).bind fun t137 => (some (0, 0, t137)))))
theorem dur_Value.mono : ∀ a0 a1 k, LeO (dur_Value.f k a0 a1) (dur_Value.f (k + 1) a0 a1) := by
 intro a0 a1 k
 unfold dur_Value.f
 repeat' first
   | (with_reducible exact dur_length.mono _ _ _)
   | (with_reducible exact rat_Of.mono _ _ _)
   | (with_reducible exact LeO.refl _)
   | (with_reducible exact LeO.none _)
   | (with_reducible refine LeO.ite ?_ ?_)
   | (with_reducible refine LeO.bind ?_ (fun _ => ?_))
   | exact dur_length.mono _ _ _
   | exact rat_Of.mono _ _ _
   | exact LeO.none _
   | refine LeO.ite ?_ ?_
   | refine LeO.bind ?_ (fun _ => ?_)
set_option maxHeartbeats 8000000 in
set_option maxRecDepth 100000 in
theorem dur_Value.calls (k : Nat) (a0_0 : Int) (a0_1 : Int) (r1 : Int) (r2 : Int) (r3 : Int) (w : World) (h : dur_Value.f k a0_0 a0_1 = some (r1, r2, r3)) :
  Calls Tryd.prog 6 #[.agg #[.int .i64 a0_0,.int .i64 a0_1]] w fun e w' => e = .returned (.tuple #[.agg #[.int .i64 r1,.int .i64 r2],.int .i64 r3]) ∧ Below w.heap.size w w' := by
 have hu23 := Tryd.underlying23
 have hu25 := Tryd.underlying25
 have hu53 := Tryd.underlying53
 have HB := sd_ (Below.refl w.heap.size w)
 have H : ((dur_Check.f a0_0 a0_1).bind fun t130 => ((dur_may.f t130).bind fun t131 => (if t131.isNone = true then ((dur_length.f k a0_0 a0_1).bind fun t133 => ((rat_Of.f k t133 1024).bind fun bt134 => (some (bt134.1,bt134.2.1,bt134.2.2)))) else ((dur_errno.f (some (t131.getD 0))).bind fun t137 => (some (0,0,t137)))))) = some (r1,r2,r3) := h
 clear h
 replace H := ob_ H
 obtain ⟨t130,A20,H⟩ := H
 try dsimp only at H
 have A2 := sd_ A20
 clear A20
 replace H := ob_ H
 obtain ⟨t131,A30,H⟩ := H
 try dsimp only at H
 have A3 := sd_ A30
 clear A30
 rcases t131 with _|q132
 ·have H1 : ((dur_length.f k a0_0 a0_1).bind fun t133 => ((rat_Of.f k t133 1024).bind fun bt134 => (some (bt134.1,bt134.2.1,bt134.2.2)))) = some (r1,r2,r3) := by rw [if_pos (show (none : Option Int).isNone = true by rfl)] at H;exact H
  clear H;have H := H1;clear H1
  try simp only [errW_none,errW_some]
  replace H := ob_ H
  obtain ⟨t133,A40,H⟩ := H
  replace H : ((rat_Of.f k t133 1024).bind fun bt134 => (some (bt134.1,bt134.2.1,bt134.2.2))) = some (r1,r2,r3) := H
  have A4 := sd_ A40
  clear A40
  replace H := ob_ H
  obtain ⟨⟨t134,t135,t136⟩,A50,H⟩ := H
  replace H : (some (t134,t135,t136)) = some (r1,r2,r3) := H
  have A5 := sd_ A50
  clear A50
  simp only [Option.some.injEq,Prod.mk.injEq] at H
  obtain ⟨rfl,rfl,rfl⟩ := H
  go_enter Tryd.func6,Tryd.ntmps6
  go_wp2_with (first|((with_reducible refine gate_dst (N := 1) rfl ?_);refine box_event ?hg (N := 1) ?hd (cs := #[.int .i64 a0_0,.int .i64 a0_1]) (t := 23) ?hr ?_;(case hd => rfl);(case hg => rfl);(case hr => first|(go_simp;done)|(go_simp;rfl));intro gb128 hg w6 hbox hb;have BK128 := sd_ hbox;have GW128 := gw_ HB e0_ hg;have GE128 := GW128;replace HB := hb_ HB e0_ hb;clear hb hbox hg)|((with_reducible refine gate_dst (N := 2) rfl ?_);refine box_event ?hg (N := 2) ?hd (cs := #[.int .i64 0,.int .i64 0]) (t := 25) ?hr ?_;(case hd => rfl);(case hg => rfl);(case hr => first|(go_simp;done)|(go_simp;rfl));intro gb129 hg w7 hbox hb;have BK129 := sd_ hbox;have GW129 := gw_ HB (e_ GE128 e0_) hg;have GE129 := GW129;have NB128_129 := nb_ BK128 hg;have NB129_128 := sy_ NB128_129;replace BK128 := kb_ BK128 hb;replace HB := hb_ HB (e_ GE128 e0_) hb;clear hb hbox hg;have hnb8 := NB128_129.out;have hnc8 := NB129_128.out;have hcz9_0 : w7.cell? ⟨gb128,0,none⟩ = some (.int .i64 a0_0) := (kc_ BK128.out 0).trans rfl;have hcz9_1 : w7.cell? ⟨gb128,1,none⟩ = some (.int .i64 a0_1) := (kc_ BK128.out 1).trans rfl;have hfz9_0 := kf_ BK128.out 0;have hfz9_1 := kf_ BK128.out 1)|((with_reducible refine gate_callee (f := 7) rfl ?_);refine goesL_ (some 6) rfl rfl Tryd.func7 (by kernel_rfl) rfl #[.agg #[.int .i64 a0_0,.int .i64 a0_1]] rfl (by (try simp only [lm_,lq_,lx_]);first|done|rfl|(simp only [ld_,lt_];rfl)) ?_;(with_reducible refine (dur_Check.calls a0_0 a0_1 t130 _ A2.out).mono ?_);rintro e w10 ⟨rfl,hb⟩;refine ⟨_,rfl,?_⟩;replace BK128 := kb_ BK128 hb;replace BK129 := kb_ BK129 hb;replace HB := hb_ HB (e_ GE128 (e_ GE129 e0_)) hb;(try clear hb);(try clear hb2);(try clear hk);(try clear hi))|((with_reducible refine gate_callee (f := 21) rfl ?_);refine goesL_ (some 7) rfl rfl Tryd.func21 (by kernel_rfl) rfl #[.bool t130] rfl (by (try simp only [lm_,lq_,lx_]);first|done|rfl|(simp only [ld_,lt_];rfl)) ?_;(with_reducible refine (dur_may.calls t130 none _ A3.out).mono ?_);rintro e w' ⟨rfl,⟨nd,rfl⟩⟩;refine ⟨_,rfl,?_⟩;(try simp only [errW_none,errW_some]);(repeat (rw [drewN_self w10];generalize hq_ : World.drewN w10 _ = w10;have n0_ : Aside0 (w10.heap[gb128]? = some (.cells #[.int .i64 a0_0,.int .i64 a0_1] 23 (0,0))) := ⟨by rw [← hq_];exact (kk_ BK128.out)⟩;have n1_ : Aside0 (w10.heap[gb129]? = some (.cells #[.int .i64 0,.int .i64 0] 25 (0,0))) := ⟨by rw [← hq_];exact (kk_ BK129.out)⟩;have n2_ : Aside0 (Below w.heap.size w w10) := ⟨by rw [← hq_];exact (bb_ HB.out (e_ GE128 (e_ GE129 e0_)))⟩;clear BK128 BK129 HB hq_;have BK128 := n0_;have BK129 := n1_;have HB := n2_;clear n0_ n1_ n2_));have hcz11_0 : w10.cell? ⟨gb128,0,none⟩ = some (.int .i64 a0_0) := (kc_ BK128.out 0).trans rfl;have hcz11_1 : w10.cell? ⟨gb128,1,none⟩ = some (.int .i64 a0_1) := (kc_ BK128.out 1).trans rfl;have hfz11_0 := kf_ BK128.out 0;have hfz11_1 := kf_ BK128.out 1)|((with_reducible refine gate_callee (f := 24) rfl ?_);refine goesL_ (some 14) rfl rfl Tryd.func24 (by kernel_rfl) rfl #[.agg #[.int .i64 a0_0,.int .i64 a0_1]] rfl (by (try simp only [lm_,lq_,lx_]);first|done|rfl|(simp only [ld_,lt_];rfl)) ?_;(with_reducible refine (dur_length.calls k a0_0 a0_1 t133 _ A4.out).mono ?_);rintro e w12 ⟨rfl,hb⟩;refine ⟨_,rfl,?_⟩;replace BK128 := kb_ BK128 hb;replace BK129 := kb_ BK129 hb;replace HB := hb_ HB (e_ GE128 (e_ GE129 e0_)) hb;(try clear hb);(try clear hb2);(try clear hk);(try clear hi))|((with_reducible refine gate_callee (f := 23) rfl ?_);refine goesL_ (some 15) rfl rfl Tryd.func23 (by kernel_rfl) rfl #[.int .i64 t133,.int .i64 1024] rfl (by (try simp only [lm_,lq_,lx_]);first|done|rfl|(simp only [ld_,lt_];rfl)) ?_;(with_reducible refine (rat_Of.calls k t133 1024 t134 t135 t136 _ A5.out).mono ?_);rintro e w13 ⟨rfl,hb⟩;refine ⟨_,rfl,?_⟩;replace BK128 := kb_ BK128 hb;replace BK129 := kb_ BK129 hb;replace HB := hb_ HB (e_ GE128 (e_ GE129 e0_)) hb;(try clear hb);(try clear hb2);(try clear hk);(try clear hi);have hcz14_0 : w13.cell? ⟨gb129,0,none⟩ = some (.int .i64 0) := (kc_ BK129.out 0).trans rfl;have hcz14_1 : w13.cell? ⟨gb129,1,none⟩ = some (.int .i64 0) := (kc_ BK129.out 1).trans rfl;have hfz14_0 := kf_ BK129.out 0;have hfz14_1 := kf_ BK129.out 1))
  refine bodyPost_ret (results_ct rfl _ _ gb129 25 #[.int .i64 t134,.int .i64 t135] (0,0) _ rfl (by (with_reducible repeat first|apply kn_|apply kd_|apply ka_);refine blk_put (cs := #[.int .i64 t134,.int .i64 0]) ?_ 1 _ rfl;(with_reducible repeat first|apply kn_|apply kd_|apply ka_);refine blk_put (cs := #[.int .i64 0,.int .i64 0]) ?_ 0 _ rfl;(with_reducible repeat first|apply kn_|apply kd_|apply ka_);exact BK129.out) Tryd.underlying25 rfl (by kernel_rfl)) rfl ?_
  exact ⟨by first|rfl|(simp [errW_none,errW_some] <;> rfl)|(simp [*,errW_none,errW_some] <;> rfl),by repeat (first|(with_reducible first|exact HB.out|apply ba_|apply pd_|apply d1_|refine bs_ ?_ GE128.out|refine bs_ ?_ GE129.out)|exact HB.out)⟩
 ·have H1 : ((dur_errno.f (some q132)).bind fun t137 => (some (0,0,t137))) = some (r1,r2,r3) := by rw [if_neg (show ¬ (some q132).isNone = true by simp)] at H;exact H
  clear H;have H := H1;clear H1
  try simp only [errW_none,errW_some]
  replace H := ob_ H
  obtain ⟨t137,A150,H⟩ := H
  replace H : (some (0,0,t137)) = some (r1,r2,r3) := H
  have A15 := sd_ A150
  clear A150
  simp only [Option.some.injEq,Prod.mk.injEq] at H
  obtain ⟨rfl,rfl,rfl⟩ := H
  go_enter Tryd.func6,Tryd.ntmps6
  go_wp2_with (first|((with_reducible refine gate_dst (N := 1) rfl ?_);refine box_event ?hg (N := 1) ?hd (cs := #[.int .i64 a0_0,.int .i64 a0_1]) (t := 23) ?hr ?_;(case hd => rfl);(case hg => rfl);(case hr => first|(go_simp;done)|(go_simp;rfl));intro gb128 hg w16 hbox hb;have BK128 := sd_ hbox;have GW128 := gw_ HB e0_ hg;have GE128 := GW128;replace HB := hb_ HB e0_ hb;clear hb hbox hg)|((with_reducible refine gate_dst (N := 2) rfl ?_);refine box_event ?hg (N := 2) ?hd (cs := #[.int .i64 0,.int .i64 0]) (t := 25) ?hr ?_;(case hd => rfl);(case hg => rfl);(case hr => first|(go_simp;done)|(go_simp;rfl));intro gb129 hg w17 hbox hb;have BK129 := sd_ hbox;have GW129 := gw_ HB (e_ GE128 e0_) hg;have GE129 := GW129;have NB128_129 := nb_ BK128 hg;have NB129_128 := sy_ NB128_129;replace BK128 := kb_ BK128 hb;replace HB := hb_ HB (e_ GE128 e0_) hb;clear hb hbox hg;have hnb18 := NB128_129.out;have hnc18 := NB129_128.out;have hcz19_0 : w17.cell? ⟨gb128,0,none⟩ = some (.int .i64 a0_0) := (kc_ BK128.out 0).trans rfl;have hcz19_1 : w17.cell? ⟨gb128,1,none⟩ = some (.int .i64 a0_1) := (kc_ BK128.out 1).trans rfl;have hfz19_0 := kf_ BK128.out 0;have hfz19_1 := kf_ BK128.out 1)|((with_reducible refine gate_callee (f := 7) rfl ?_);refine goesL_ (some 6) rfl rfl Tryd.func7 (by kernel_rfl) rfl #[.agg #[.int .i64 a0_0,.int .i64 a0_1]] rfl (by (try simp only [lm_,lq_,lx_]);first|done|rfl|(simp only [ld_,lt_];rfl)) ?_;(with_reducible refine (dur_Check.calls a0_0 a0_1 t130 _ A2.out).mono ?_);rintro e w20 ⟨rfl,hb⟩;refine ⟨_,rfl,?_⟩;replace BK128 := kb_ BK128 hb;replace BK129 := kb_ BK129 hb;replace HB := hb_ HB (e_ GE128 (e_ GE129 e0_)) hb;(try clear hb);(try clear hb2);(try clear hk);(try clear hi))|((with_reducible refine gate_callee (f := 21) rfl ?_);refine goesL_ (some 7) rfl rfl Tryd.func21 (by kernel_rfl) rfl #[.bool t130] rfl (by (try simp only [lm_,lq_,lx_]);first|done|rfl|(simp only [ld_,lt_];rfl)) ?_;(with_reducible refine (dur_may.calls t130 (some q132) _ A3.out).mono ?_);rintro e w' ⟨rfl,⟨nd,rfl⟩⟩;refine ⟨_,rfl,?_⟩;(try simp only [errW_none,errW_some]);(repeat (rw [drewN_self w20];generalize hq_ : World.drewN w20 _ = w20;have n0_ : Aside0 (w20.heap[gb128]? = some (.cells #[.int .i64 a0_0,.int .i64 a0_1] 23 (0,0))) := ⟨by rw [← hq_];exact (kk_ BK128.out)⟩;have n1_ : Aside0 (w20.heap[gb129]? = some (.cells #[.int .i64 0,.int .i64 0] 25 (0,0))) := ⟨by rw [← hq_];exact (kk_ BK129.out)⟩;have n2_ : Aside0 (Below w.heap.size w w20) := ⟨by rw [← hq_];exact (bb_ HB.out (e_ GE128 (e_ GE129 e0_)))⟩;clear BK128 BK129 HB hq_;have BK128 := n0_;have BK129 := n1_;have HB := n2_;clear n0_ n1_ n2_));have CA15 := fun W => dur_errno.calls (some q132) t137 W A15.out;try simp only [errW_none,errW_some] at CA15)|(go_at_call 22;(with_reducible refine (CA15 _).mono ?_);rintro e w21 ⟨rfl,hb⟩;replace BK128 := kb_ BK128 hb;replace BK129 := kb_ BK129 hb;replace HB := hb_ HB (e_ GE128 (e_ GE129 e0_)) hb;(try clear hb);(try clear hb2);(try clear hk);(try clear hi);have hcz22_0 : w21.cell? ⟨gb129,0,none⟩ = some (.int .i64 0) := (kc_ BK129.out 0).trans rfl;have hcz22_1 : w21.cell? ⟨gb129,1,none⟩ = some (.int .i64 0) := (kc_ BK129.out 1).trans rfl;have hfz22_0 := kf_ BK129.out 0;have hfz22_1 := kf_ BK129.out 1))
  refine bodyPost_ret (results_ct rfl _ _ gb129 25 #[.int .i64 0,.int .i64 0] (0,0) _ rfl (by (with_reducible repeat first|apply kn_|apply kd_|apply ka_);refine blk_put (cs := #[.int .i64 0,.int .i64 0]) ?_ 1 _ rfl;(with_reducible repeat first|apply kn_|apply kd_|apply ka_);refine blk_put (cs := #[.int .i64 0,.int .i64 0]) ?_ 0 _ rfl;(with_reducible repeat first|apply kn_|apply kd_|apply ka_);exact BK129.out) Tryd.underlying25 rfl (by kernel_rfl)) rfl ?_
  exact ⟨by first|rfl|(simp [errW_none,errW_some] <;> rfl)|(simp [*,errW_none,errW_some] <;> rfl),by repeat (first|(with_reducible first|exact HB.out|apply ba_|apply pd_|apply d1_|refine bs_ ?_ GE128.out|refine bs_ ?_ GE129.out)|exact HB.out)⟩

/-! ### dur_Of: function 8 -/
mutual
def dur_Of.l0 : Nat → Int → Int → Int → Option (Int × Int × Bool)
 | 0, _, _, _ => none
 | k + 1, x4, x139000, x139001 => if x4 ≤ 6 then (dur_Of.l1 k x4 0 x139000 x139001) else (some (0, 0, false))
def dur_Of.l1 : Nat → Int → Int → Int → Int → Option (Int × Int × Bool)
 | 0, _, _, _, _ => none
 | k + 1, x4, x13, x139000, x139001 => if x13 < 4 then ((dur_Value.f k x4 x13).bind fun bt141 => (if (bt141.1 == x139000 && (bt141.2.1 == x139001)) = true then (some (x4, x13, true)) else (dur_Of.l1 k x4 (wrap64 (x13 + 1)) x139000 x139001))) else (dur_Of.l0 k (wrap64 (x4 + 1)) x139000 x139001)
end
def dur_Of.f (k : Nat) (a0_0 : Int) (a0_1 : Int) : Option (Int × Int × Bool) := dur_Of.l0 k (-1) a0_0 a0_1
theorem dur_Of.mono_l : ∀ k, (∀ y0 y1 y2, LeO (dur_Of.l0 k y0 y1 y2) (dur_Of.l0 (k + 1) y0 y1 y2)) ∧ (∀ y0 y1 y2 y3, LeO (dur_Of.l1 k y0 y1 y2 y3) (dur_Of.l1 (k + 1) y0 y1 y2 y3))
 | 0 => ⟨fun _ _ _ r h => by simp [dur_Of.l0] at h, fun _ _ _ _ r h => by simp [dur_Of.l1] at h⟩
 | k + 1 => by
  obtain ⟨ih0,ih1⟩ := dur_Of.mono_l k
  refine ⟨?_,?_⟩
  ·intro y0 y1 y2
   unfold dur_Of.l0
   repeat' first
   | (with_reducible exact ih0 _ _ _)
   | (with_reducible exact ih1 _ _ _ _)
   | (with_reducible exact dur_Value.mono _ _ _)
   | (with_reducible exact LeO.refl _)
   | (with_reducible exact LeO.none _)
   | (with_reducible refine LeO.ite ?_ ?_)
   | (with_reducible refine LeO.bind ?_ (fun _ => ?_))
   | exact ih0 _ _ _
   | exact ih1 _ _ _ _
   | exact dur_Value.mono _ _ _
   | exact LeO.none _
   | refine LeO.ite ?_ ?_
   | refine LeO.bind ?_ (fun _ => ?_)
  ·intro y0 y1 y2 y3
   unfold dur_Of.l1
   repeat' first
   | (with_reducible exact ih0 _ _ _)
   | (with_reducible exact ih1 _ _ _ _)
   | (with_reducible exact dur_Value.mono _ _ _)
   | (with_reducible exact LeO.refl _)
   | (with_reducible exact LeO.none _)
   | (with_reducible refine LeO.ite ?_ ?_)
   | (with_reducible refine LeO.bind ?_ (fun _ => ?_))
   | exact ih0 _ _ _
   | exact ih1 _ _ _ _
   | exact dur_Value.mono _ _ _
   | exact LeO.none _
   | refine LeO.ite ?_ ?_
   | refine LeO.bind ?_ (fun _ => ?_)
theorem dur_Of.mono : ∀ a0 a1 k, LeO (dur_Of.f k a0 a1) (dur_Of.f (k + 1) a0 a1) := by
 intro a0 a1 k
 obtain ⟨ih0,ih1⟩ := dur_Of.mono_l k
 unfold dur_Of.f
 repeat' first
   | (with_reducible exact ih0 _ _ _)
   | (with_reducible exact ih1 _ _ _ _)
   | (with_reducible exact dur_Value.mono _ _ _)
   | (with_reducible exact LeO.refl _)
   | (with_reducible exact LeO.none _)
   | (with_reducible refine LeO.ite ?_ ?_)
   | (with_reducible refine LeO.bind ?_ (fun _ => ?_))
   | exact ih0 _ _ _
   | exact ih1 _ _ _ _
   | exact dur_Value.mono _ _ _
   | exact LeO.none _
   | refine LeO.ite ?_ ?_
   | refine LeO.bind ?_ (fun _ => ?_)
set_option maxHeartbeats 8000000 in
set_option maxRecDepth 100000 in
theorem dur_Of.calls (k : Nat) (a0_0 : Int) (a0_1 : Int) (r1 : Int) (r2 : Int) (r3 : Bool) (w : World) (h : dur_Of.f k a0_0 a0_1 = some (r1, r2, r3)) :
  Calls Tryd.prog 8 #[.agg #[.int .i64 a0_0,.int .i64 a0_1]] w fun e w' => e = .returned (.tuple #[.agg #[.int .i64 r1,.int .i64 r2],.bool r3]) ∧ Below w.heap.size w w' := by
 have hu25 := Tryd.underlying25
 have hu23 := Tryd.underlying23
 have HB := sd_ (Below.refl w.heap.size w)
 have H : (dur_Of.l0 k (-1) a0_0 a0_1) = some (r1,r2,r3) := h
 clear h
 have H' := sd_ H
 clear H
 go_enter Tryd.func8,Tryd.ntmps8
 go_wp2_with (first|((with_reducible refine gate_dst (N := 1) rfl ?_);refine box_event ?hg (N := 1) ?hd (cs := #[.int .i64 a0_0,.int .i64 a0_1]) (t := 25) ?hr ?_;(case hd => rfl);(case hg => rfl);(case hr => first|(go_simp;done)|(go_simp;rfl));intro gb138 hg w2 hbox hb;have BK138 := sd_ hbox;have GW138 := gw_ HB e0_ hg;have GE138 := GW138;replace HB := hb_ HB e0_ hb;clear hb hbox hg)|((with_reducible refine gate_dst (N := 2) rfl ?_);refine box_event ?hg (N := 2) ?hd (cs := #[.int .i64 0,.int .i64 0]) (t := 23) ?hr ?_;(case hd => rfl);(case hg => rfl);(case hr => first|(go_simp;done)|(go_simp;rfl));intro gb139 hg w3 hbox hb;have BK139 := sd_ hbox;have GW139 := gw_ HB (e_ GE138 e0_) hg;have GE139 := GW139;have NB138_139 := nb_ BK138 hg;have NB139_138 := sy_ NB138_139;replace BK138 := kb_ BK138 hb;replace HB := hb_ HB (e_ GE138 e0_) hb;clear hb hbox hg))
 go_loopg [4] k (fun kq v4 w' => ∃ (x4_1 : Int) (x140000_1 : Int) (x140001_1 : Int),v4 = .int .i64 x4_1 ∧ Aside0 (dur_Of.l0 kq x4_1 a0_0 a0_1 = some (r1,r2,r3)) ∧ Aside0 (kq ≤ k) ∧ Aside0 (w'.heap[gb138]? = some (.cells #[.int .i64 a0_0,.int .i64 a0_1] 25 (0,0))) ∧ Aside0 (w'.heap[gb139]? = some (.cells #[.int .i64 x140000_1,.int .i64 x140001_1] 23 (0,0))) ∧ Aside0 (Below w.heap.size w w'))
 case atStart => exact ⟨((-1)),(0),(0),(by first|rfl|(simp;done)|(simp [*];done)|(simp [bne];done)),H',⟨Nat.le_refl _⟩,⟨by (with_reducible repeat first|apply kn_|apply kd_|apply ka_);exact BK138.out⟩,⟨by (with_reducible repeat first|apply kn_|apply kd_|apply ka_);exact BK139.out⟩,⟨by repeat (first|(with_reducible first|exact HB.out|apply ba_|apply pd_|apply d1_|refine bs_ ?_ GE138.out|refine bs_ ?_ GE139.out)|exact HB.out)⟩⟩
 case round =>
  clear H'
  try clear p2
  obtain ⟨x4_1,x140000_1,x140001_1,rfl,HA,HK1,BK138,BK139,HB⟩ := hrel
  cases gk with
  | zero => exact absurd HA.out (by simp [dur_Of.l0])
  | succ k1 =>
   have H := HA.out
   clear HA
   simp only [dur_Of.l0] at H
   by_cases c4 : x4_1 ≤ 6
   ·rw [if_pos c4] at H
    have c4b0 : decide (x4_1 ≤ 6) = true := dt_ c4
    clear c4
    have H' := sd_ H
    clear H
    go_wp2
    go_loopg [13] k1 (fun kq v13 w' => ∃ (x13_2 : Int) (x140000_2 : Int) (x140001_2 : Int),v13 = .int .i64 x13_2 ∧ Aside0 (dur_Of.l1 kq x4_1 x13_2 a0_0 a0_1 = some (r1,r2,r3)) ∧ Aside0 (kq ≤ k1) ∧ Aside0 (w'.heap[gb138]? = some (.cells #[.int .i64 a0_0,.int .i64 a0_1] 25 (0,0))) ∧ Aside0 (w'.heap[gb139]? = some (.cells #[.int .i64 x140000_2,.int .i64 x140001_2] 23 (0,0))) ∧ Aside0 (Below w.heap.size w w'))
    case atStart => exact ⟨(0),(x140000_1),(x140001_1),(by first|rfl|(simp;done)|(simp [*];done)|(simp [bne];done)),H',⟨Nat.le_refl _⟩,⟨by (with_reducible repeat first|apply kn_|apply kd_|apply ka_);exact BK138.out⟩,⟨by (with_reducible repeat first|apply kn_|apply kd_|apply ka_);exact BK139.out⟩,⟨by repeat (first|(with_reducible first|exact HB.out|apply ba_|apply pd_|apply d1_|refine bs_ ?_ GE138.out|refine bs_ ?_ GE139.out)|exact HB.out)⟩⟩
    case round =>
     clear H'
     try clear p2;try clear c4;try clear c4b0;try clear p2
     obtain ⟨x13_2,x140000_2,x140001_2,rfl,HA,HK2,BK138,BK139,HB⟩ := hrel
     cases gk with
     | zero => exact absurd HA.out (by simp [dur_Of.l1])
     | succ k2 =>
      have H := HA.out
      clear HA
      simp only [dur_Of.l1] at H
      by_cases c5 : x13_2 < 4
      ·rw [if_pos c5] at H
       have c5b0 : decide (x13_2 < 4) = true := dt_ c5
       clear c5
       replace H := ob_ H
       obtain ⟨⟨t141,t142,t143⟩,A60,H⟩ := H
       replace H : (if (t141 == a0_0 && (t142 == a0_1)) = true then (some (x4_1,x13_2,true)) else (dur_Of.l1 k2 x4_1 (wrap64 (x13_2 + 1)) a0_0 a0_1)) = some (r1,r2,r3) := H
       have A6 := sd_ A60
       clear A60
       by_cases c7 : (t141 == a0_0 && (t142 == a0_1)) = true
       ·rw [if_pos c7] at H
        have c7b0 : (t141 == a0_0 && (t142 == a0_1)) = true := c7
        (try (have c7b1 : decide (t141 = a0_0 && (t142 == a0_1)) = true := by simpa using c7))
        (try (have c7b2 : (t141 == a0_0 && (t142 == a0_1)) = true := by simpa using c7))
        clear c7
        simp only [Option.some.injEq,Prod.mk.injEq] at H
        obtain ⟨rfl,rfl,rfl⟩ := H
        go_wp2_with (first|((with_reducible refine gate_dst (N := 6) rfl ?_);refine box_event ?hg (N := 6) ?hd (cs := #[.int .i64 0,.int .i64 0]) (t := 23) ?hr ?_;(case hd => rfl);(case hg => rfl);(case hr => first|(go_simp;done)|(go_simp;rfl));intro gb140 hg w8 hbox hb;have BK140 := sd_ hbox;have GW140 := gw_ HB (e_ GE138 (e_ GE139 e0_)) hg;have GE140 := GW140;have NB138_140 := nb_ BK138 hg;have NB140_138 := sy_ NB138_140;have NB139_140 := nb_ BK139 hg;have NB140_139 := sy_ NB139_140;replace BK138 := kb_ BK138 hb;replace BK139 := kb_ BK139 hb;replace HB := hb_ HB (e_ GE138 (e_ GE139 e0_)) hb;clear hb hbox hg;have hnb9 := NB140_138.out;have hnc9 := NB138_140.out;have hnb10 := NB140_139.out;have hnc10 := NB139_140.out;have hcz11_0 : w8.cell? ⟨gb140,0,none⟩ = some (.int .i64 0) := (kc_ BK140.out 0).trans rfl;have hcz11_1 : w8.cell? ⟨gb140,1,none⟩ = some (.int .i64 0) := (kc_ BK140.out 1).trans rfl;have hfz11_0 := kf_ BK140.out 0;have hfz11_1 := kf_ BK140.out 1)|((with_reducible refine gate_callee (f := 6) rfl ?_);refine goesL_ (some 21) rfl rfl Tryd.func6 (by kernel_rfl) rfl #[.agg #[.int .i64 x4_1,.int .i64 x13_2]] rfl (by (try simp only [lm_,lq_,lx_]);first|done|rfl|(simp only [ld_,lt_];rfl)) ?_;(with_reducible refine (dur_Value.calls k2 x4_1 x13_2 t141 t142 t143 _ A6.out).mono ?_);rintro e w12 ⟨rfl,hb⟩;refine ⟨_,rfl,?_⟩;replace BK138 := sd_ (blk_below (g := gb138) (o := .cells #[.int .i64 a0_0,.int .i64 a0_1] 25 (0,0)) (by (with_reducible repeat first|apply kn_|apply kd_|apply ka_);refine blk_far ?_ NB138_140.out _;(with_reducible repeat first|apply kn_|apply kd_|apply ka_);refine blk_far ?_ NB138_140.out _;(with_reducible repeat first|apply kn_|apply kd_|apply ka_);exact BK138.out) hb);replace BK139 := sd_ (blk_below (g := gb139) (o := .cells #[.int .i64 x140000_2,.int .i64 x140001_2] 23 (0,0)) (by (with_reducible repeat first|apply kn_|apply kd_|apply ka_);refine blk_far ?_ NB139_140.out _;(with_reducible repeat first|apply kn_|apply kd_|apply ka_);refine blk_far ?_ NB139_140.out _;(with_reducible repeat first|apply kn_|apply kd_|apply ka_);exact BK139.out) hb);replace BK140 := sd_ (blk_below (g := gb140) (o := .cells #[.int .i64 x4_1,.int .i64 x13_2] 23 (0,0)) (by (with_reducible repeat first|apply kn_|apply kd_|apply ka_);refine blk_put (cs := #[.int .i64 x4_1,.int .i64 0]) ?_ 1 _ rfl;(with_reducible repeat first|apply kn_|apply kd_|apply ka_);refine blk_put (cs := #[.int .i64 0,.int .i64 0]) ?_ 0 _ rfl;(with_reducible repeat first|apply kn_|apply kd_|apply ka_);exact BK140.out) hb);replace HB := hb_ HB (e_ GE138 (e_ GE139 (e_ GE140 e0_))) hb;(try clear hb);(try clear hb2);(try clear hk);(try clear hi))|((with_reducible refine gate_dst (N := 7) rfl ?_);refine box_event ?hg (N := 7) ?hd (cs := #[.int .i64 0,.int .i64 0]) (t := 25) ?hr ?_;(case hd => rfl);(case hg => rfl);(case hr => first|(go_simp;done)|(go_simp;rfl));intro gb144 hg w13 hbox hb;have BK144 := sd_ hbox;have GW144 := gw_ HB (e_ GE138 (e_ GE139 (e_ GE140 e0_))) hg;have GE144 := GW144;have NB138_144 := nb_ BK138 hg;have NB144_138 := sy_ NB138_144;have NB139_144 := nb_ BK139 hg;have NB144_139 := sy_ NB139_144;have NB140_144 := nb_ BK140 hg;have NB144_140 := sy_ NB140_144;replace BK138 := kb_ BK138 hb;replace BK139 := kb_ BK139 hb;replace BK140 := kb_ BK140 hb;replace HB := hb_ HB (e_ GE138 (e_ GE139 (e_ GE140 e0_))) hb;clear hb hbox hg;have hnb14 := NB144_138.out;have hnc14 := NB138_144.out;have hnb15 := NB144_139.out;have hnc15 := NB139_144.out;have hnb16 := NB144_140.out;have hnc16 := NB140_144.out;have hcz17_0 : w13.cell? ⟨gb144,0,none⟩ = some (.int .i64 0) := (kc_ BK144.out 0).trans rfl;have hcz17_1 : w13.cell? ⟨gb144,1,none⟩ = some (.int .i64 0) := (kc_ BK144.out 1).trans rfl;have hfz17_0 := kf_ BK144.out 0;have hfz17_1 := kf_ BK144.out 1;have hnb18 := NB138_139.out;have hnc18 := NB139_138.out;have hcz19_0 : w13.cell? ⟨gb138,0,none⟩ = some (.int .i64 a0_0) := (kc_ BK138.out 0).trans rfl;have hcz19_1 : w13.cell? ⟨gb138,1,none⟩ = some (.int .i64 a0_1) := (kc_ BK138.out 1).trans rfl;have hfz19_0 := kf_ BK138.out 0;have hfz19_1 := kf_ BK138.out 1;have hcz20_0 : w13.cell? ⟨gb140,0,none⟩ = some (.int .i64 x4_1) := (kc_ BK140.out 0).trans rfl;have hcz20_1 : w13.cell? ⟨gb140,1,none⟩ = some (.int .i64 x13_2) := (kc_ BK140.out 1).trans rfl;have hfz20_0 := kf_ BK140.out 0;have hfz20_1 := kf_ BK140.out 1;have hcz21_0 : w13.cell? ⟨gb139,0,none⟩ = some (.int .i64 x140000_2) := (kc_ BK139.out 0).trans rfl;have hcz21_1 : w13.cell? ⟨gb139,1,none⟩ = some (.int .i64 x140001_2) := (kc_ BK139.out 1).trans rfl;have hfz21_0 := kf_ BK139.out 0;have hfz21_1 := kf_ BK139.out 1))
        refine bodyPost_ret (results_ct rfl _ _ gb139 23 #[.int .i64 x4_1,.int .i64 x13_2] (0,0) _ rfl (by (with_reducible repeat first|apply kn_|apply kd_|apply ka_);refine blk_put (cs := #[.int .i64 x4_1,.int .i64 x140001_2]) ?_ 1 _ rfl;(with_reducible repeat first|apply kn_|apply kd_|apply ka_);refine blk_put (cs := #[.int .i64 x140000_2,.int .i64 x140001_2]) ?_ 0 _ rfl;(with_reducible repeat first|apply kn_|apply kd_|apply ka_);refine blk_far ?_ NB139_144.out _;(with_reducible repeat first|apply kn_|apply kd_|apply ka_);refine blk_far ?_ NB139_144.out _;(with_reducible repeat first|apply kn_|apply kd_|apply ka_);exact BK139.out) Tryd.underlying23 rfl (by kernel_rfl)) rfl ?_
        exact ⟨by first|rfl|(simp [errW_none,errW_some] <;> rfl)|(simp [*,errW_none,errW_some] <;> rfl),by repeat (first|(with_reducible first|exact HB.out|apply ba_|apply pd_|apply d1_|refine bs_ ?_ GE138.out|refine bs_ ?_ GE139.out|refine bs_ ?_ GE140.out|refine bs_ ?_ GE144.out)|exact HB.out)⟩
       ·rw [if_neg c7] at H
        have c7b0 : (t141 == a0_0 && (t142 == a0_1)) = false := by simpa using c7
        (try (have c7b1 : decide (t141 = a0_0 && (t142 == a0_1)) = false := by simpa using c7))
        (try (have c7b2 : (t141 == a0_0 && (t142 == a0_1)) = false := by simpa using c7))
        (try (have c7b3 : ¬ (t141 = a0_0 && (t142 == a0_1)) := by simpa using c7))
        clear c7
        have H' := sd_ H
        clear H
        go_wp2_with (first|((with_reducible refine gate_dst (N := 6) rfl ?_);refine box_event ?hg (N := 6) ?hd (cs := #[.int .i64 0,.int .i64 0]) (t := 23) ?hr ?_;(case hd => rfl);(case hg => rfl);(case hr => first|(go_simp;done)|(go_simp;rfl));intro gb140 hg w22 hbox hb;have BK140 := sd_ hbox;have GW140 := gw_ HB (e_ GE138 (e_ GE139 e0_)) hg;have GE140 := GW140;have NB138_140 := nb_ BK138 hg;have NB140_138 := sy_ NB138_140;have NB139_140 := nb_ BK139 hg;have NB140_139 := sy_ NB139_140;replace BK138 := kb_ BK138 hb;replace BK139 := kb_ BK139 hb;replace HB := hb_ HB (e_ GE138 (e_ GE139 e0_)) hb;clear hb hbox hg;have hnb23 := NB140_138.out;have hnc23 := NB138_140.out;have hnb24 := NB140_139.out;have hnc24 := NB139_140.out;have hcz25_0 : w22.cell? ⟨gb140,0,none⟩ = some (.int .i64 0) := (kc_ BK140.out 0).trans rfl;have hcz25_1 : w22.cell? ⟨gb140,1,none⟩ = some (.int .i64 0) := (kc_ BK140.out 1).trans rfl;have hfz25_0 := kf_ BK140.out 0;have hfz25_1 := kf_ BK140.out 1)|((with_reducible refine gate_callee (f := 6) rfl ?_);refine goesL_ (some 21) rfl rfl Tryd.func6 (by kernel_rfl) rfl #[.agg #[.int .i64 x4_1,.int .i64 x13_2]] rfl (by (try simp only [lm_,lq_,lx_]);first|done|rfl|(simp only [ld_,lt_];rfl)) ?_;(with_reducible refine (dur_Value.calls k2 x4_1 x13_2 t141 t142 t143 _ A6.out).mono ?_);rintro e w26 ⟨rfl,hb⟩;refine ⟨_,rfl,?_⟩;replace BK138 := sd_ (blk_below (g := gb138) (o := .cells #[.int .i64 a0_0,.int .i64 a0_1] 25 (0,0)) (by (with_reducible repeat first|apply kn_|apply kd_|apply ka_);refine blk_far ?_ NB138_140.out _;(with_reducible repeat first|apply kn_|apply kd_|apply ka_);refine blk_far ?_ NB138_140.out _;(with_reducible repeat first|apply kn_|apply kd_|apply ka_);exact BK138.out) hb);replace BK139 := sd_ (blk_below (g := gb139) (o := .cells #[.int .i64 x140000_2,.int .i64 x140001_2] 23 (0,0)) (by (with_reducible repeat first|apply kn_|apply kd_|apply ka_);refine blk_far ?_ NB139_140.out _;(with_reducible repeat first|apply kn_|apply kd_|apply ka_);refine blk_far ?_ NB139_140.out _;(with_reducible repeat first|apply kn_|apply kd_|apply ka_);exact BK139.out) hb);replace BK140 := sd_ (blk_below (g := gb140) (o := .cells #[.int .i64 x4_1,.int .i64 x13_2] 23 (0,0)) (by (with_reducible repeat first|apply kn_|apply kd_|apply ka_);refine blk_put (cs := #[.int .i64 x4_1,.int .i64 0]) ?_ 1 _ rfl;(with_reducible repeat first|apply kn_|apply kd_|apply ka_);refine blk_put (cs := #[.int .i64 0,.int .i64 0]) ?_ 0 _ rfl;(with_reducible repeat first|apply kn_|apply kd_|apply ka_);exact BK140.out) hb);replace HB := hb_ HB (e_ GE138 (e_ GE139 (e_ GE140 e0_))) hb;(try clear hb);(try clear hb2);(try clear hk);(try clear hi))|((with_reducible refine gate_dst (N := 7) rfl ?_);refine box_event ?hg (N := 7) ?hd (cs := #[.int .i64 0,.int .i64 0]) (t := 25) ?hr ?_;(case hd => rfl);(case hg => rfl);(case hr => first|(go_simp;done)|(go_simp;rfl));intro gb144 hg w27 hbox hb;have BK144 := sd_ hbox;have GW144 := gw_ HB (e_ GE138 (e_ GE139 (e_ GE140 e0_))) hg;have GE144 := GW144;have NB138_144 := nb_ BK138 hg;have NB144_138 := sy_ NB138_144;have NB139_144 := nb_ BK139 hg;have NB144_139 := sy_ NB139_144;have NB140_144 := nb_ BK140 hg;have NB144_140 := sy_ NB140_144;replace BK138 := kb_ BK138 hb;replace BK139 := kb_ BK139 hb;replace BK140 := kb_ BK140 hb;replace HB := hb_ HB (e_ GE138 (e_ GE139 (e_ GE140 e0_))) hb;clear hb hbox hg;have hnb28 := NB144_138.out;have hnc28 := NB138_144.out;have hnb29 := NB144_139.out;have hnc29 := NB139_144.out;have hnb30 := NB144_140.out;have hnc30 := NB140_144.out;have hcz31_0 : w27.cell? ⟨gb144,0,none⟩ = some (.int .i64 0) := (kc_ BK144.out 0).trans rfl;have hcz31_1 : w27.cell? ⟨gb144,1,none⟩ = some (.int .i64 0) := (kc_ BK144.out 1).trans rfl;have hfz31_0 := kf_ BK144.out 0;have hfz31_1 := kf_ BK144.out 1;have hnb32 := NB138_139.out;have hnc32 := NB139_138.out;have hcz33_0 : w27.cell? ⟨gb138,0,none⟩ = some (.int .i64 a0_0) := (kc_ BK138.out 0).trans rfl;have hcz33_1 : w27.cell? ⟨gb138,1,none⟩ = some (.int .i64 a0_1) := (kc_ BK138.out 1).trans rfl;have hfz33_0 := kf_ BK138.out 0;have hfz33_1 := kf_ BK138.out 1))
        go_roundg k2
        case measure => have := HK1.out;have := HK2.out;omega
        case rel => exact ⟨(wrap64 (x13_2 + 1)),(x140000_2),(x140001_2),(by first|rfl|(simp;done)|(simp [*];done)|(simp [bne];done)),H',⟨by have := HK1.out;have := HK2.out;omega⟩,⟨by (with_reducible repeat first|apply kn_|apply kd_|apply ka_);refine blk_far ?_ NB138_144.out _;(with_reducible repeat first|apply kn_|apply kd_|apply ka_);refine blk_far ?_ NB138_144.out _;(with_reducible repeat first|apply kn_|apply kd_|apply ka_);exact BK138.out⟩,⟨by (with_reducible repeat first|apply kn_|apply kd_|apply ka_);refine blk_far ?_ NB139_144.out _;(with_reducible repeat first|apply kn_|apply kd_|apply ka_);refine blk_far ?_ NB139_144.out _;(with_reducible repeat first|apply kn_|apply kd_|apply ka_);exact BK139.out⟩,⟨by repeat (first|(with_reducible first|exact HB.out|apply ba_|apply pd_|apply d1_|refine bs_ ?_ GE138.out|refine bs_ ?_ GE139.out|refine bs_ ?_ GE140.out|refine bs_ ?_ GE144.out)|exact HB.out)⟩⟩
      ·rw [if_neg c5] at H
       have c5b0 : decide (x13_2 < 4) = false := df_ c5
       clear c5
       have H' := sd_ H
       clear H
       go_wp2
       go_roundg k2
       case measure => have := HK1.out;have := HK2.out;omega
       case rel => exact ⟨(wrap64 (x4_1 + 1)),(x140000_2),(x140001_2),(by first|rfl|(simp;done)|(simp [*];done)|(simp [bne];done)),H',⟨by have := HK1.out;have := HK2.out;omega⟩,⟨by (with_reducible repeat first|apply kn_|apply kd_|apply ka_);exact BK138.out⟩,⟨by (with_reducible repeat first|apply kn_|apply kd_|apply ka_);exact BK139.out⟩,⟨by repeat (first|(with_reducible first|exact HB.out|apply ba_|apply pd_|apply d1_|refine bs_ ?_ GE138.out|refine bs_ ?_ GE139.out)|exact HB.out)⟩⟩
   ·rw [if_neg c4] at H
    have c4b0 : decide (x4_1 ≤ 6) = false := df_ c4
    clear c4
    simp only [Option.some.injEq,Prod.mk.injEq] at H
    obtain ⟨rfl,rfl,rfl⟩ := H
    have hnb34 := NB139_138.out
    have hnc34 := NB138_139.out
    have hcz35_0 : wr.cell? ⟨gb139,0,none⟩ = some (.int .i64 x140000_1) := (kc_ BK139.out 0).trans rfl
    have hcz35_1 : wr.cell? ⟨gb139,1,none⟩ = some (.int .i64 x140001_1) := (kc_ BK139.out 1).trans rfl
    have hfz35_0 := kf_ BK139.out 0
    have hfz35_1 := kf_ BK139.out 1
    go_wp2
    refine bodyPost_ret (results_ct rfl _ _ gb139 23 #[.int .i64 0,.int .i64 0] (0,0) _ rfl (by (with_reducible repeat first|apply kn_|apply kd_|apply ka_);refine blk_put (cs := #[.int .i64 0,.int .i64 x140001_1]) ?_ 1 _ rfl;(with_reducible repeat first|apply kn_|apply kd_|apply ka_);refine blk_put (cs := #[.int .i64 x140000_1,.int .i64 x140001_1]) ?_ 0 _ rfl;(with_reducible repeat first|apply kn_|apply kd_|apply ka_);exact BK139.out) Tryd.underlying23 rfl (by kernel_rfl)) rfl ?_
    exact ⟨by first|rfl|(simp [errW_none,errW_some] <;> rfl)|(simp [*,errW_none,errW_some] <;> rfl),by repeat (first|(with_reducible first|exact HB.out|apply ba_|apply pd_|apply d1_|refine bs_ ?_ GE138.out|refine bs_ ?_ GE139.out)|exact HB.out)⟩

/-! ### strings_TrimRight: function 25 -/
def strings_TrimRight.f (a0 a1 : ByteArray) : Option ByteArray := if a0.size ≤ 9223372036854775807 then (if a1.size < 4294967281 then (if a1.data.toList.all (fun b => decide (b.toNat < 128)) = true then some ⟨(Lib.trimRightS a0.data.toList a1.data.toList).toArray⟩ else none) else none) else none
theorem strings_TrimRight.calls (a0 a1 : ByteArray) (r : ByteArray) (w : World) (h : strings_TrimRight.f a0 a1 = some r) :
  Calls Tryd.prog 25 #[.string a0,.string a1] w fun e w' => e = .returned (.string r) ∧ Below w.heap.size w w' := by
 unfold strings_TrimRight.f at h
 split at h
 ·split at h
  ·split at h
   ·rename_i h1 h2 h3
    obtain rfl := Option.some.inj h
    exact Any.strings_TrimRight_laid Tryd.lays162 (by kernel_rfl) a0 a1 w h1 h2 (fun j b hj => by
     have := List.all_eq_true.1 h3 b (List.mem_of_getElem? hj)
     simpa using this)
   ·cases h
  ·cases h
 ·cases h

/-! ### slices_Index_string_string: function 26 -/
def slices_Index_string_string.l0 : Nat → List ByteArray → ByteArray → Int → Int → Option (Int)
 | 0, _, _, _, _ => none
 | k + 1, x0, x1, x7, x8 => if x8 < x7 then (if 0 ≤ x8 then (if x8 < (x0.length : Int) then (if x1.toList = (rdOf ByteArray.empty x0 x8).toList then (some x8) else (slices_Index_string_string.l0 k x0 x1 x7 (wrap64 (x8 + 1)))) else (none)) else (none)) else (some (-1))
def slices_Index_string_string.f (k : Nat) (l0 : List ByteArray) (a1 : ByteArray) : Option (Int) := slices_Index_string_string.l0 k l0 a1 (l0.length : Int) 0
theorem slices_Index_string_string.mono_l : ∀ k, (∀ y0 y1 y2 y3, LeO (slices_Index_string_string.l0 k y0 y1 y2 y3) (slices_Index_string_string.l0 (k + 1) y0 y1 y2 y3))
 | 0 => fun _ _ _ _ r h => by simp [slices_Index_string_string.l0] at h
 | k + 1 => by
  have ih0 := slices_Index_string_string.mono_l k
  ·intro y0 y1 y2 y3
   unfold slices_Index_string_string.l0
   repeat' first
   | (with_reducible exact ih0 _ _ _ _)
   | (with_reducible exact LeO.refl _)
   | (with_reducible exact LeO.none _)
   | (with_reducible refine LeO.ite ?_ ?_)
   | (with_reducible refine LeO.bind ?_ (fun _ => ?_))
   | exact ih0 _ _ _ _
   | exact LeO.none _
   | refine LeO.ite ?_ ?_
   | refine LeO.bind ?_ (fun _ => ?_)
theorem slices_Index_string_string.mono : ∀ a0 a1 k, LeO (slices_Index_string_string.f k a0 a1) (slices_Index_string_string.f (k + 1) a0 a1) := by
 intro a0 a1 k
 have ih0 := slices_Index_string_string.mono_l k
 unfold slices_Index_string_string.f
 repeat' first
   | (with_reducible exact ih0 _ _ _ _)
   | (with_reducible exact LeO.refl _)
   | (with_reducible exact LeO.none _)
   | (with_reducible refine LeO.ite ?_ ?_)
   | (with_reducible refine LeO.bind ?_ (fun _ => ?_))
   | exact ih0 _ _ _ _
   | exact LeO.none _
   | refine LeO.ite ?_ ?_
   | refine LeO.bind ?_ (fun _ => ?_)
set_option maxHeartbeats 8000000 in
set_option maxRecDepth 100000 in
theorem slices_Index_string_string.calls (k : Nat) (A0 : Option Addr) (c0 : Nat) (l0 : List ByteArray) (a1 : ByteArray) (r : Int) (w : World) (hr0 : Kd.C Kd.string w A0 l0.length l0) (hc0 : l0.length ≤ c0) (h : slices_Index_string_string.f k l0 a1 = some r) :
  Calls Tryd.prog 26 #[.slice A0 l0.length c0,.string a1] w fun e w' => e = .returned (.int .i64 r) ∧ Drawn0 w w' := by
 have HR0 := sd_ hr0
 have HC0 := sd_ hc0
 clear hr0 hc0
 have H : (slices_Index_string_string.l0 k l0 a1 (l0.length : Int) 0) = some r := h
 clear h
 have H' := sd_ H
 clear H
 go_enter Tryd.func26,Tryd.ntmps26
 go_wp2
 go_loopg [8] k (fun kq v8 w' => ∃ (x8_1 : Int),v8 = .int .i64 x8_1 ∧ Aside0 (slices_Index_string_string.l0 kq l0 a1 (l0.length : Int) x8_1 = some r) ∧ Aside0 (kq ≤ k) ∧ Drawn0 w w')
 case atStart => exact ⟨(0),(by first|rfl|(simp;done)|(simp [*];done)|(simp [bne];done)),H',⟨Nat.le_refl _⟩,by repeat (first|exact Drawn0.refl _|apply Drawn0.step)⟩
 case round =>
  clear H'
  try clear c2;try clear p2
  obtain ⟨x8_1,rfl,HA,HK1,⟨m1,rfl⟩⟩ := hrel
  cases gk with
  | zero => exact absurd HA.out (by simp [slices_Index_string_string.l0])
  | succ k1 =>
   have H := HA.out
   clear HA
   simp only [slices_Index_string_string.l0] at H
   by_cases c3 : x8_1 < (l0.length : Int)
   ·rw [if_pos c3] at H
    have c3b0 : decide (x8_1 < (l0.length : Int)) = true := dt_ c3
    clear c3
    by_cases c4 : 0 ≤ x8_1
    ·rw [if_pos c4] at H
     have c4b0 : decide (0 ≤ x8_1) = true := dt_ c4
     clear c4
     by_cases c5 : x8_1 < (l0.length : Int)
     ·rw [if_pos c5] at H
      have c5b0 : decide (x8_1 < (l0.length : Int)) = true := dt_ c5
      clear c5
      by_cases c6 : a1.toList = (rdOf ByteArray.empty l0 x8_1).toList
      ·rw [if_pos c6] at H
       have c6b0 : (a1.toList == (rdOf ByteArray.empty l0 x8_1).toList) = true := beq_iff_eq.mpr c6
       have c6b1 : (a1.toList != (rdOf ByteArray.empty l0 x8_1).toList) = false := bne_eq_false_iff_eq.mpr c6
       clear c6
       obtain rfl := Option.some.inj H
       have p145 : 0 ≤ (x8_1 : Int) := od_ (by first|(with_reducible assumption)|assumption)
       have q145 : x8_1 < (l0.length : Int) := od_ (by first|(with_reducible assumption)|assumption)
       obtain ⟨ad145,e145,hx145_0⟩ := Kd.at_string HR0.out x8_1 p145 q145
       cases e145
       replace p145 := eq_true p145
       replace q145 := eq_true q145
       go_wp2
       go_ret
       exact ⟨by first|rfl|(simp;done)|(simp [*];done),by repeat (first|exact Drawn0.refl _|apply Drawn0.step)⟩
      ·rw [if_neg c6] at H
       have c6b0 : (a1.toList == (rdOf ByteArray.empty l0 x8_1).toList) = false := beq_eq_false_iff_ne.mpr c6
       have c6b1 : (a1.toList != (rdOf ByteArray.empty l0 x8_1).toList) = true := bne_iff_ne.mpr c6
       have H' := sd_ H
       clear H
       have p145 : 0 ≤ (x8_1 : Int) := od_ (by first|(with_reducible assumption)|assumption)
       have q145 : x8_1 < (l0.length : Int) := od_ (by first|(with_reducible assumption)|assumption)
       obtain ⟨ad145,e145,hx145_0⟩ := Kd.at_string HR0.out x8_1 p145 q145
       cases e145
       replace p145 := eq_true p145
       replace q145 := eq_true q145
       go_wp2
       go_roundg k1
       case measure => have := HK1.out;omega
       case rel => exact ⟨(wrap64 (x8_1 + 1)),(by first|rfl|(simp;done)|(simp [*];done)|(simp [bne];done)),H',⟨by have := HK1.out;omega⟩,by repeat (first|exact Drawn0.refl _|apply Drawn0.step)⟩
     ·rw [if_neg c5] at H
      exact absurd H (by simp)
    ·rw [if_neg c4] at H
     exact absurd H (by simp)
   ·rw [if_neg c3] at H
    have c3b0 : decide (x8_1 < (l0.length : Int)) = false := df_ c3
    clear c3
    obtain rfl := Option.some.inj H
    go_wp2
    go_ret
    exact ⟨by first|rfl|(simp;done)|(simp [*];done),by repeat (first|exact Drawn0.refl _|apply Drawn0.step)⟩

/-! ### dur_names: function 27 -/
def dur_names.f  : Option (List ByteArray) := some (([(⟨#[98, 114, 101, 118, 101]⟩ : ByteArray), (⟨#[49]⟩ : ByteArray), (⟨#[50]⟩ : ByteArray), (⟨#[52]⟩ : ByteArray), (⟨#[56]⟩ : ByteArray), (⟨#[49, 54]⟩ : ByteArray), (⟨#[51, 50]⟩ : ByteArray), (⟨#[54, 52]⟩ : ByteArray)] : List ByteArray))
set_option maxHeartbeats 8000000 in
set_option maxRecDepth 100000 in
theorem dur_names.calls  (r : List ByteArray) (w : World) (h : dur_names.f  = some r) :
  Calls Tryd.prog 27 #[] w fun e w' => ∃ v0_ : Value,e = .returned (v0_) ∧ Kd.R Kd.string 9 w' w.heap.size (fun _ => True) v0_ r ∧ Below w.heap.size w w' := by
 have HB := sd_ (Below.refl w.heap.size w)
 have H : (some (([(⟨#[98,114,101,118,101]⟩ : ByteArray),(⟨#[49]⟩ : ByteArray),(⟨#[50]⟩ : ByteArray),(⟨#[52]⟩ : ByteArray),(⟨#[56]⟩ : ByteArray),(⟨#[49,54]⟩ : ByteArray),(⟨#[51,50]⟩ : ByteArray),(⟨#[54,52]⟩ : ByteArray)] : List ByteArray))) = some r := h
 clear h
 obtain ⟨y146,hy146⟩ : ∃ y_ : List ByteArray,y_ = (([(⟨#[98,114,101,118,101]⟩ : ByteArray),(⟨#[49]⟩ : ByteArray),(⟨#[50]⟩ : ByteArray),(⟨#[52]⟩ : ByteArray),(⟨#[56]⟩ : ByteArray),(⟨#[49,54]⟩ : ByteArray),(⟨#[51,50]⟩ : ByteArray),(⟨#[54,52]⟩ : ByteArray)] : List ByteArray)) := ⟨_,rfl⟩
 replace H : (some y146) = some r := by first|(rw [hy146];with_reducible exact H)|(have H2_ := (Option.bind_some _ _).symm.trans H;rw [hy146];with_reducible exact H2_)|(have H2_ := (Option.bind_some _ _).symm.trans H;with_reducible exact H2_)|with_reducible exact H|(rw [hy146];exact H)|exact H
 have Ny146 := sd_ hy146
 clear hy146
 obtain rfl := Option.some.inj H
 go_enter Tryd.func27,Tryd.ntmps27
 go_wp2_with (first|((with_reducible refine gate_dst (N := 1) rfl ?_);refine Kd.R_lit Kd.string _ 9 ?hg (N := 1) ?hd (xs := ([(⟨#[98,114,101,118,101]⟩ : ByteArray),(⟨#[49]⟩ : ByteArray),(⟨#[50]⟩ : ByteArray),(⟨#[52]⟩ : ByteArray),(⟨#[56]⟩ : ByteArray),(⟨#[49,54]⟩ : ByteArray),(⟨#[51,50]⟩ : ByteArray),(⟨#[54,52]⟩ : ByteArray)] : List ByteArray)) (inner := [.string (⟨#[98,114,101,118,101]⟩ : ByteArray),.string (⟨#[49]⟩ : ByteArray),.string (⟨#[50]⟩ : ByteArray),.string (⟨#[52]⟩ : ByteArray),.string (⟨#[56]⟩ : ByteArray),.string (⟨#[49,54]⟩ : ByteArray),.string (⟨#[51,50]⟩ : ByteArray),.string (⟨#[54,52]⟩ : ByteArray)]) (ok := fun _ => True) (okp := fun _ => True) ?hr ?hp (fun _ hk => hk) trivial (Below.refl _ _) (Nat.le_refl _) (by simp) ?_;(case hd => rfl);(case hg => rfl);(case hr => first|(go_simp;done)|(go_simp;rfl));(case hp => exact (Reps.one (show Kd.M Kd.string _ _ _ (⟨#[98,114,101,118,101]⟩ : ByteArray) [.string (⟨#[98,114,101,118,101]⟩ : ByteArray)] from rfl) (Reps.one (show Kd.M Kd.string _ _ _ (⟨#[49]⟩ : ByteArray) [.string (⟨#[49]⟩ : ByteArray)] from rfl) (Reps.one (show Kd.M Kd.string _ _ _ (⟨#[50]⟩ : ByteArray) [.string (⟨#[50]⟩ : ByteArray)] from rfl) (Reps.one (show Kd.M Kd.string _ _ _ (⟨#[52]⟩ : ByteArray) [.string (⟨#[52]⟩ : ByteArray)] from rfl) (Reps.one (show Kd.M Kd.string _ _ _ (⟨#[56]⟩ : ByteArray) [.string (⟨#[56]⟩ : ByteArray)] from rfl) (Reps.one (show Kd.M Kd.string _ _ _ (⟨#[49,54]⟩ : ByteArray) [.string (⟨#[49,54]⟩ : ByteArray)] from rfl) (Reps.one (show Kd.M Kd.string _ _ _ (⟨#[51,50]⟩ : ByteArray) [.string (⟨#[51,50]⟩ : ByteArray)] from rfl) (Reps.one (show Kd.M Kd.string _ _ _ (⟨#[54,52]⟩ : ByteArray) [.string (⟨#[54,52]⟩ : ByteArray)] from rfl) (Reps.none _ _))))))))));intro v147 w1 ho2 hb hg_ hnew_;clear hg_ hnew_;(first|rw [← Ny146.out] at ho2|(simp only [Int.reduceToNat] at ho2;rw [← Ny146.out] at ho2));have HO148 := sd_ (Kd.R_lower ho2 (bz_ (bb_ HB.out e0_)));replace HB := hb_ HB e0_ hb;clear hb ho2))
 go_ret
 exact ⟨_,by first|rfl|(simp [errW_none,errW_some] <;> rfl)|(simp [*,errW_none,errW_some] <;> rfl),by (with_reducible repeat (first|apply Kd.R_alloc|apply Kd.R_drewN|apply Kd.R_drew));exact HO148.out,by repeat (first|(with_reducible first|exact HB.out|apply ba_|apply pd_|apply d1_)|exact HB.out)⟩

/-! ### dur_Parse: function 9 -/
def dur_Parse.f (k : Nat) (a0 : ByteArray) : Option (Int × Int × Bool) := (strings_TrimRight.f a0 (⟨#[46]⟩ : ByteArray)).bind fun t150 => ((dur_names.f).bind fun t151 => ((slices_Index_string_string.f k t151 t150).bind fun t154 => (if t154 < 0 then (some (0, 0, false)) else ((dur_Check.f (wrap64 (t154 + (-1))) (wrap64 ((a0.size : Int) - (t150.size : Int)))).bind fun t156 => (if t156 = true then (some (wrap64 (t154 + (-1)), wrap64 ((a0.size : Int) - (t150.size : Int)), true)) else (some (0, 0, false)))))))
theorem dur_Parse.mono : ∀ a0 k, LeO (dur_Parse.f k a0) (dur_Parse.f (k + 1) a0) := by
 intro a0 k
 unfold dur_Parse.f
 repeat' first
   | (with_reducible exact slices_Index_string_string.mono _ _ _)
   | (with_reducible exact LeO.refl _)
   | (with_reducible exact LeO.none _)
   | (with_reducible refine LeO.ite ?_ ?_)
   | (with_reducible refine LeO.bind ?_ (fun _ => ?_))
   | exact slices_Index_string_string.mono _ _ _
   | exact LeO.none _
   | refine LeO.ite ?_ ?_
   | refine LeO.bind ?_ (fun _ => ?_)
set_option maxHeartbeats 8000000 in
set_option maxRecDepth 100000 in
theorem dur_Parse.calls (k : Nat) (a0 : ByteArray) (r1 : Int) (r2 : Int) (r3 : Bool) (w : World) (h : dur_Parse.f k a0 = some (r1, r2, r3)) :
  Calls Tryd.prog 9 #[.string a0] w fun e w' => e = .returned (.tuple #[.agg #[.int .i64 r1,.int .i64 r2],.bool r3]) ∧ Below w.heap.size w w' := by
 have hu23 := Tryd.underlying23
 have HB := sd_ (Below.refl w.heap.size w)
 have H : ((strings_TrimRight.f a0 (⟨#[46]⟩ : ByteArray)).bind fun t150 => ((dur_names.f).bind fun t151 => ((slices_Index_string_string.f k t151 t150).bind fun t154 => (if t154 < 0 then (some (0,0,false)) else ((dur_Check.f (wrap64 (t154 + (-1))) (wrap64 ((a0.size : Int) - (t150.size : Int)))).bind fun t156 => (if t156 = true then (some (wrap64 (t154 + (-1)),wrap64 ((a0.size : Int) - (t150.size : Int)),true)) else (some (0,0,false)))))))) = some (r1,r2,r3) := h
 clear h
 replace H := ob_ H
 obtain ⟨t150,A20,H⟩ := H
 try dsimp only at H
 have A2 := sd_ A20
 clear A20
 replace H := ob_ H
 obtain ⟨t151,A30,H⟩ := H
 try dsimp only at H
 have A3 := sd_ A30
 clear A30
 replace H := ob_ H
 obtain ⟨t154,A40,H⟩ := H
 try dsimp only at H
 have A4 := sd_ A40
 clear A40
 by_cases c5 : t154 < 0
 ·rw [if_pos c5] at H
  have c5b0 : decide (t154 < 0) = true := dt_ c5
  clear c5
  simp only [Option.some.injEq,Prod.mk.injEq] at H
  obtain ⟨rfl,rfl,rfl⟩ := H
  go_enter Tryd.func9,Tryd.ntmps9
  go_wp2_with (first|((with_reducible refine gate_dst (N := 2) rfl ?_);refine box_event ?hg (N := 2) ?hd (cs := #[.int .i64 0,.int .i64 0]) (t := 23) ?hr ?_;(case hd => rfl);(case hg => rfl);(case hr => first|(go_simp;done)|(go_simp;rfl));intro gb149 hg w6 hbox hb;have BK149 := sd_ hbox;have GW149 := gw_ HB e0_ hg;have GE149 := GW149;replace HB := hb_ HB e0_ hb;clear hb hbox hg)|((with_reducible refine gate_callee (f := 25) rfl ?_);refine goesL_ (some 8) rfl rfl Tryd.func25 (by kernel_rfl) rfl #[.string a0,.string (⟨#[46]⟩ : ByteArray)] rfl (by (try simp only [lm_,lq_,lx_]);first|done|rfl|(simp only [ld_,lt_];rfl)) ?_;(with_reducible refine (strings_TrimRight.calls a0 (⟨#[46]⟩ : ByteArray) t150 _ A2.out).mono ?_);rintro e w7 ⟨rfl,hb⟩;refine ⟨_,rfl,?_⟩;replace BK149 := kb_ BK149 hb;replace HB := hb_ HB (e_ GE149 e0_) hb;(try clear hb);(try clear hb2);(try clear hk);(try clear hi))|((with_reducible refine gate_callee (f := 27) rfl ?_);refine goesL_ (some 9) rfl rfl Tryd.func27 (by kernel_rfl) rfl #[] rfl (by (try simp only [lm_,lq_,lx_]);first|done|rfl|(simp only [ld_,lt_];rfl)) ?_;(with_reducible refine (dur_names.calls  t151 _ A3.out).mono ?_);rintro e w8 ⟨v152,rfl,ho0,hb⟩;refine ⟨_,rfl,?_⟩;have HO153 := sd_ (Kd.R_lower ho0 (bz_ (bb_ HB.out (e_ GE149 e0_))));replace BK149 := kb_ BK149 hb;replace HB := hb_ HB (e_ GE149 e0_) hb;(try clear hb);(try clear hb2);(try clear hk);(try clear hi);(try clear ho0);obtain ⟨Ao9,co9,eo9⟩ := Kd.R_slice HO153.out;subst eo9)|((with_reducible refine gate_callee (f := 26) rfl ?_);refine goesL_ (some 11) rfl rfl Tryd.func26 (by kernel_rfl) rfl #[.slice Ao9 t151.length co9,.string t150] rfl (by (try simp only [lm_,lq_,lx_]);first|done|rfl|(simp only [ld_,lt_];rfl)) ?_;(with_reducible refine (slices_Index_string_string.calls k _ _ t151 t150 t154 _ ?side1 ?side2 A4.out).mono ?_);(case side1 => repeat (first|exact (Kd.R_reads' HO153.out).2.2|(with_reducible refine Kd.C_alloc ?_ _)|(with_reducible refine Kd.C_drewN ?_ _)|(with_reducible refine Kd.C_drew ?_)));(case side2 => exact (Kd.R_reads' HO153.out).2.1);rintro e w' ⟨rfl,⟨nd,rfl⟩⟩;refine ⟨_,rfl,?_⟩;(repeat (rw [drewN_self w8];generalize hq_ : World.drewN w8 _ = w8;have n0_ : Aside0 (Kd.R Kd.string 9 w8 w.heap.size (fun _ => True) (.slice Ao9 t151.length co9) t151) := ⟨by rw [← hq_];exact (by (with_reducible repeat (first|apply Kd.R_alloc|apply Kd.R_drewN|apply Kd.R_drew));exact HO153.out)⟩;have n1_ : Aside0 (w8.heap[gb149]? = some (.cells #[.int .i64 0,.int .i64 0] 23 (0,0))) := ⟨by rw [← hq_];exact (kk_ BK149.out)⟩;have n2_ : Aside0 (Below w.heap.size w w8) := ⟨by rw [← hq_];exact (bb_ HB.out (e_ GE149 e0_))⟩;clear HO153 BK149 HB hq_;have HO153 := n0_;have BK149 := n1_;have HB := n2_;clear n0_ n1_ n2_)))|((with_reducible refine gate_dst (N := 6) rfl ?_);refine box_event ?hg (N := 6) ?hd (cs := #[.int .i64 0,.int .i64 0]) (t := 23) ?hr ?_;(case hd => rfl);(case hg => rfl);(case hr => first|(go_simp;done)|(go_simp;rfl));intro gb155 hg w10 hbox hb;have BK155 := sd_ hbox;have GW155 := gw_ HB (e_ GE149 e0_) hg;have GE155 := GW155;have NB149_155 := nb_ BK149 hg;have NB155_149 := sy_ NB149_155;replace HO153 := sd_ (Kd.R_below (by (with_reducible repeat (first|apply Kd.R_alloc|apply Kd.R_drewN|apply Kd.R_drew));exact HO153.out) hb);replace BK149 := kb_ BK149 hb;replace HB := hb_ HB (e_ GE149 e0_) hb;clear hb hbox hg;have hnb11 := NB155_149.out;have hnc11 := NB149_155.out;have hcz12_0 : w10.cell? ⟨gb155,0,none⟩ = some (.int .i64 0) := (kc_ BK155.out 0).trans rfl;have hcz12_1 : w10.cell? ⟨gb155,1,none⟩ = some (.int .i64 0) := (kc_ BK155.out 1).trans rfl;have hfz12_0 := kf_ BK155.out 0;have hfz12_1 := kf_ BK155.out 1;have hcz13_0 : w10.cell? ⟨gb149,0,none⟩ = some (.int .i64 0) := (kc_ BK149.out 0).trans rfl;have hcz13_1 : w10.cell? ⟨gb149,1,none⟩ = some (.int .i64 0) := (kc_ BK149.out 1).trans rfl;have hfz13_0 := kf_ BK149.out 0;have hfz13_1 := kf_ BK149.out 1))
  refine bodyPost_ret (results_ct rfl _ _ gb149 23 #[.int .i64 0,.int .i64 0] (0,0) _ rfl (by (with_reducible repeat first|apply kn_|apply kd_|apply ka_);refine blk_put (cs := #[.int .i64 0,.int .i64 0]) ?_ 1 _ rfl;(with_reducible repeat first|apply kn_|apply kd_|apply ka_);refine blk_put (cs := #[.int .i64 0,.int .i64 0]) ?_ 0 _ rfl;(with_reducible repeat first|apply kn_|apply kd_|apply ka_);refine blk_far ?_ NB149_155.out _;(with_reducible repeat first|apply kn_|apply kd_|apply ka_);refine blk_far ?_ NB149_155.out _;(with_reducible repeat first|apply kn_|apply kd_|apply ka_);exact BK149.out) Tryd.underlying23 rfl (by kernel_rfl)) rfl ?_
  exact ⟨by first|rfl|(simp [errW_none,errW_some] <;> rfl)|(simp [*,errW_none,errW_some] <;> rfl),by repeat (first|(with_reducible first|exact HB.out|apply ba_|apply pd_|apply d1_|refine bs_ ?_ GE149.out|refine bs_ ?_ GE155.out)|exact HB.out)⟩
 ·rw [if_neg c5] at H
  have c5b0 : decide (t154 < 0) = false := df_ c5
  clear c5
  replace H := ob_ H
  obtain ⟨t156,A140,H⟩ := H
  replace H : (if t156 = true then (some (wrap64 (t154 + (-1)),wrap64 ((a0.size : Int) - (t150.size : Int)),true)) else (some (0,0,false))) = some (r1,r2,r3) := H
  have A14 := sd_ A140
  clear A140
  by_cases c15 : t156 = true
  ·subst c15
   have H1 : (some (wrap64 (t154 + (-1)),wrap64 ((a0.size : Int) - (t150.size : Int)),true)) = some (r1,r2,r3) := by rw [if_pos rfl] at H;exact H
   clear H;have H := H1;clear H1
   simp only [Option.some.injEq,Prod.mk.injEq] at H
   obtain ⟨rfl,rfl,rfl⟩ := H
   go_enter Tryd.func9,Tryd.ntmps9
   go_wp2_with (first|((with_reducible refine gate_dst (N := 2) rfl ?_);refine box_event ?hg (N := 2) ?hd (cs := #[.int .i64 0,.int .i64 0]) (t := 23) ?hr ?_;(case hd => rfl);(case hg => rfl);(case hr => first|(go_simp;done)|(go_simp;rfl));intro gb149 hg w16 hbox hb;have BK149 := sd_ hbox;have GW149 := gw_ HB e0_ hg;have GE149 := GW149;replace HB := hb_ HB e0_ hb;clear hb hbox hg)|((with_reducible refine gate_callee (f := 25) rfl ?_);refine goesL_ (some 8) rfl rfl Tryd.func25 (by kernel_rfl) rfl #[.string a0,.string (⟨#[46]⟩ : ByteArray)] rfl (by (try simp only [lm_,lq_,lx_]);first|done|rfl|(simp only [ld_,lt_];rfl)) ?_;(with_reducible refine (strings_TrimRight.calls a0 (⟨#[46]⟩ : ByteArray) t150 _ A2.out).mono ?_);rintro e w17 ⟨rfl,hb⟩;refine ⟨_,rfl,?_⟩;replace BK149 := kb_ BK149 hb;replace HB := hb_ HB (e_ GE149 e0_) hb;(try clear hb);(try clear hb2);(try clear hk);(try clear hi))|((with_reducible refine gate_callee (f := 27) rfl ?_);refine goesL_ (some 9) rfl rfl Tryd.func27 (by kernel_rfl) rfl #[] rfl (by (try simp only [lm_,lq_,lx_]);first|done|rfl|(simp only [ld_,lt_];rfl)) ?_;(with_reducible refine (dur_names.calls  t151 _ A3.out).mono ?_);rintro e w18 ⟨v152,rfl,ho0,hb⟩;refine ⟨_,rfl,?_⟩;have HO153 := sd_ (Kd.R_lower ho0 (bz_ (bb_ HB.out (e_ GE149 e0_))));replace BK149 := kb_ BK149 hb;replace HB := hb_ HB (e_ GE149 e0_) hb;(try clear hb);(try clear hb2);(try clear hk);(try clear hi);(try clear ho0);obtain ⟨Ao19,co19,eo19⟩ := Kd.R_slice HO153.out;subst eo19)|((with_reducible refine gate_callee (f := 26) rfl ?_);refine goesL_ (some 11) rfl rfl Tryd.func26 (by kernel_rfl) rfl #[.slice Ao19 t151.length co19,.string t150] rfl (by (try simp only [lm_,lq_,lx_]);first|done|rfl|(simp only [ld_,lt_];rfl)) ?_;(with_reducible refine (slices_Index_string_string.calls k _ _ t151 t150 t154 _ ?side1 ?side2 A4.out).mono ?_);(case side1 => repeat (first|exact (Kd.R_reads' HO153.out).2.2|(with_reducible refine Kd.C_alloc ?_ _)|(with_reducible refine Kd.C_drewN ?_ _)|(with_reducible refine Kd.C_drew ?_)));(case side2 => exact (Kd.R_reads' HO153.out).2.1);rintro e w' ⟨rfl,⟨nd,rfl⟩⟩;refine ⟨_,rfl,?_⟩;(repeat (rw [drewN_self w18];generalize hq_ : World.drewN w18 _ = w18;have n0_ : Aside0 (Kd.R Kd.string 9 w18 w.heap.size (fun _ => True) (.slice Ao19 t151.length co19) t151) := ⟨by rw [← hq_];exact (by (with_reducible repeat (first|apply Kd.R_alloc|apply Kd.R_drewN|apply Kd.R_drew));exact HO153.out)⟩;have n1_ : Aside0 (w18.heap[gb149]? = some (.cells #[.int .i64 0,.int .i64 0] 23 (0,0))) := ⟨by rw [← hq_];exact (kk_ BK149.out)⟩;have n2_ : Aside0 (Below w.heap.size w w18) := ⟨by rw [← hq_];exact (bb_ HB.out (e_ GE149 e0_))⟩;clear HO153 BK149 HB hq_;have HO153 := n0_;have BK149 := n1_;have HB := n2_;clear n0_ n1_ n2_)))|((with_reducible refine gate_dst (N := 6) rfl ?_);refine box_event ?hg (N := 6) ?hd (cs := #[.int .i64 0,.int .i64 0]) (t := 23) ?hr ?_;(case hd => rfl);(case hg => rfl);(case hr => first|(go_simp;done)|(go_simp;rfl));intro gb155 hg w20 hbox hb;have BK155 := sd_ hbox;have GW155 := gw_ HB (e_ GE149 e0_) hg;have GE155 := GW155;have NB149_155 := nb_ BK149 hg;have NB155_149 := sy_ NB149_155;replace HO153 := sd_ (Kd.R_below (by (with_reducible repeat (first|apply Kd.R_alloc|apply Kd.R_drewN|apply Kd.R_drew));exact HO153.out) hb);replace BK149 := kb_ BK149 hb;replace HB := hb_ HB (e_ GE149 e0_) hb;clear hb hbox hg;have hnb21 := NB155_149.out;have hnc21 := NB149_155.out;have hcz22_0 : w20.cell? ⟨gb155,0,none⟩ = some (.int .i64 0) := (kc_ BK155.out 0).trans rfl;have hcz22_1 : w20.cell? ⟨gb155,1,none⟩ = some (.int .i64 0) := (kc_ BK155.out 1).trans rfl;have hfz22_0 := kf_ BK155.out 0;have hfz22_1 := kf_ BK155.out 1)|(go_at_call 7;(with_reducible refine (dur_Check.calls (wrap64 (t154 + (-1))) (wrap64 ((a0.size : Int) - (t150.size : Int))) true _ A14.out).mono ?_);rintro e w23 ⟨rfl,hb⟩;have n0_ := sd_ (Kd.R_below (by (with_reducible repeat (first|apply Kd.R_alloc|apply Kd.R_drewN|apply Kd.R_drew));exact (Kd.R_mono (Kd.R_far (p := ⟨gb155,1,none⟩) (Kd.R_far (p := ⟨gb155,0,none⟩) (Kd.R_types HO153.out BK155.out (by decide)) (fun _ hk => hk.2) (.int .i64 (wrap64 (t154 + (-1))))) (fun _ hk => hk.2) (.int .i64 (wrap64 ((a0.size : Int) - (t150.size : Int))))) (fun _ h_ => h_.1))) hb);have n1_ := sd_ (blk_below (g := gb149) (o := .cells #[.int .i64 0,.int .i64 0] 23 (0,0)) (by (with_reducible repeat first|apply kn_|apply kd_|apply ka_);refine blk_far ?_ NB149_155.out _;(with_reducible repeat first|apply kn_|apply kd_|apply ka_);refine blk_far ?_ NB149_155.out _;(with_reducible repeat first|apply kn_|apply kd_|apply ka_);exact BK149.out) hb);have n2_ := sd_ (blk_below (g := gb155) (o := .cells #[.int .i64 (wrap64 (t154 + (-1))),.int .i64 (wrap64 ((a0.size : Int) - (t150.size : Int)))] 23 (0,0)) (by (with_reducible repeat first|apply kn_|apply kd_|apply ka_);refine blk_put (cs := #[.int .i64 (wrap64 (t154 + (-1))),.int .i64 0]) ?_ 1 _ rfl;(with_reducible repeat first|apply kn_|apply kd_|apply ka_);refine blk_put (cs := #[.int .i64 0,.int .i64 0]) ?_ 0 _ rfl;(with_reducible repeat first|apply kn_|apply kd_|apply ka_);exact BK155.out) hb);have n3_ := hb_ HB (e_ GE149 (e_ GE155 e0_)) hb;clear HO153;clear BK149;clear BK155;clear HB;have HO153 := n0_;have BK149 := n1_;have BK155 := n2_;have HB := n3_;clear n0_ n1_ n2_ n3_;(try clear hb);(try clear hb2);(try clear hk);(try clear hi);have hcz24_0 : w23.cell? ⟨gb155,0,none⟩ = some (.int .i64 (wrap64 (t154 + (-1)))) := (kc_ BK155.out 0).trans rfl;have hcz24_1 : w23.cell? ⟨gb155,1,none⟩ = some (.int .i64 (wrap64 ((a0.size : Int) - (t150.size : Int)))) := (kc_ BK155.out 1).trans rfl;have hfz24_0 := kf_ BK155.out 0;have hfz24_1 := kf_ BK155.out 1;have hcz25_0 : w23.cell? ⟨gb149,0,none⟩ = some (.int .i64 0) := (kc_ BK149.out 0).trans rfl;have hcz25_1 : w23.cell? ⟨gb149,1,none⟩ = some (.int .i64 0) := (kc_ BK149.out 1).trans rfl;have hfz25_0 := kf_ BK149.out 0;have hfz25_1 := kf_ BK149.out 1))
   refine bodyPost_ret (results_ct rfl _ _ gb149 23 #[.int .i64 (wrap64 (t154 + (-1))),.int .i64 (wrap64 ((a0.size : Int) - (t150.size : Int)))] (0,0) _ rfl (by (with_reducible repeat first|apply kn_|apply kd_|apply ka_);refine blk_put (cs := #[.int .i64 (wrap64 (t154 + (-1))),.int .i64 0]) ?_ 1 _ rfl;(with_reducible repeat first|apply kn_|apply kd_|apply ka_);refine blk_put (cs := #[.int .i64 0,.int .i64 0]) ?_ 0 _ rfl;(with_reducible repeat first|apply kn_|apply kd_|apply ka_);exact BK149.out) Tryd.underlying23 rfl (by kernel_rfl)) rfl ?_
   exact ⟨by first|rfl|(simp [errW_none,errW_some] <;> rfl)|(simp [*,errW_none,errW_some] <;> rfl),by repeat (first|(with_reducible first|exact HB.out|apply ba_|apply pd_|apply d1_|refine bs_ ?_ GE149.out|refine bs_ ?_ GE155.out)|exact HB.out)⟩
  ·replace c15 := bf_ c15
   subst c15
   have H1 : (some (0,0,false)) = some (r1,r2,r3) := by rw [if_neg (show ¬ (false = true) by decide)] at H;exact H
   clear H;have H := H1;clear H1
   simp only [Option.some.injEq,Prod.mk.injEq] at H
   obtain ⟨rfl,rfl,rfl⟩ := H
   go_enter Tryd.func9,Tryd.ntmps9
   go_wp2_with (first|((with_reducible refine gate_dst (N := 2) rfl ?_);refine box_event ?hg (N := 2) ?hd (cs := #[.int .i64 0,.int .i64 0]) (t := 23) ?hr ?_;(case hd => rfl);(case hg => rfl);(case hr => first|(go_simp;done)|(go_simp;rfl));intro gb149 hg w26 hbox hb;have BK149 := sd_ hbox;have GW149 := gw_ HB e0_ hg;have GE149 := GW149;replace HB := hb_ HB e0_ hb;clear hb hbox hg)|((with_reducible refine gate_callee (f := 25) rfl ?_);refine goesL_ (some 8) rfl rfl Tryd.func25 (by kernel_rfl) rfl #[.string a0,.string (⟨#[46]⟩ : ByteArray)] rfl (by (try simp only [lm_,lq_,lx_]);first|done|rfl|(simp only [ld_,lt_];rfl)) ?_;(with_reducible refine (strings_TrimRight.calls a0 (⟨#[46]⟩ : ByteArray) t150 _ A2.out).mono ?_);rintro e w27 ⟨rfl,hb⟩;refine ⟨_,rfl,?_⟩;replace BK149 := kb_ BK149 hb;replace HB := hb_ HB (e_ GE149 e0_) hb;(try clear hb);(try clear hb2);(try clear hk);(try clear hi))|((with_reducible refine gate_callee (f := 27) rfl ?_);refine goesL_ (some 9) rfl rfl Tryd.func27 (by kernel_rfl) rfl #[] rfl (by (try simp only [lm_,lq_,lx_]);first|done|rfl|(simp only [ld_,lt_];rfl)) ?_;(with_reducible refine (dur_names.calls  t151 _ A3.out).mono ?_);rintro e w28 ⟨v152,rfl,ho0,hb⟩;refine ⟨_,rfl,?_⟩;have HO153 := sd_ (Kd.R_lower ho0 (bz_ (bb_ HB.out (e_ GE149 e0_))));replace BK149 := kb_ BK149 hb;replace HB := hb_ HB (e_ GE149 e0_) hb;(try clear hb);(try clear hb2);(try clear hk);(try clear hi);(try clear ho0);obtain ⟨Ao29,co29,eo29⟩ := Kd.R_slice HO153.out;subst eo29)|((with_reducible refine gate_callee (f := 26) rfl ?_);refine goesL_ (some 11) rfl rfl Tryd.func26 (by kernel_rfl) rfl #[.slice Ao29 t151.length co29,.string t150] rfl (by (try simp only [lm_,lq_,lx_]);first|done|rfl|(simp only [ld_,lt_];rfl)) ?_;(with_reducible refine (slices_Index_string_string.calls k _ _ t151 t150 t154 _ ?side1 ?side2 A4.out).mono ?_);(case side1 => repeat (first|exact (Kd.R_reads' HO153.out).2.2|(with_reducible refine Kd.C_alloc ?_ _)|(with_reducible refine Kd.C_drewN ?_ _)|(with_reducible refine Kd.C_drew ?_)));(case side2 => exact (Kd.R_reads' HO153.out).2.1);rintro e w' ⟨rfl,⟨nd,rfl⟩⟩;refine ⟨_,rfl,?_⟩;(repeat (rw [drewN_self w28];generalize hq_ : World.drewN w28 _ = w28;have n0_ : Aside0 (Kd.R Kd.string 9 w28 w.heap.size (fun _ => True) (.slice Ao29 t151.length co29) t151) := ⟨by rw [← hq_];exact (by (with_reducible repeat (first|apply Kd.R_alloc|apply Kd.R_drewN|apply Kd.R_drew));exact HO153.out)⟩;have n1_ : Aside0 (w28.heap[gb149]? = some (.cells #[.int .i64 0,.int .i64 0] 23 (0,0))) := ⟨by rw [← hq_];exact (kk_ BK149.out)⟩;have n2_ : Aside0 (Below w.heap.size w w28) := ⟨by rw [← hq_];exact (bb_ HB.out (e_ GE149 e0_))⟩;clear HO153 BK149 HB hq_;have HO153 := n0_;have BK149 := n1_;have HB := n2_;clear n0_ n1_ n2_)))|((with_reducible refine gate_dst (N := 6) rfl ?_);refine box_event ?hg (N := 6) ?hd (cs := #[.int .i64 0,.int .i64 0]) (t := 23) ?hr ?_;(case hd => rfl);(case hg => rfl);(case hr => first|(go_simp;done)|(go_simp;rfl));intro gb155 hg w30 hbox hb;have BK155 := sd_ hbox;have GW155 := gw_ HB (e_ GE149 e0_) hg;have GE155 := GW155;have NB149_155 := nb_ BK149 hg;have NB155_149 := sy_ NB149_155;replace HO153 := sd_ (Kd.R_below (by (with_reducible repeat (first|apply Kd.R_alloc|apply Kd.R_drewN|apply Kd.R_drew));exact HO153.out) hb);replace BK149 := kb_ BK149 hb;replace HB := hb_ HB (e_ GE149 e0_) hb;clear hb hbox hg;have hnb31 := NB155_149.out;have hnc31 := NB149_155.out;have hcz32_0 : w30.cell? ⟨gb155,0,none⟩ = some (.int .i64 0) := (kc_ BK155.out 0).trans rfl;have hcz32_1 : w30.cell? ⟨gb155,1,none⟩ = some (.int .i64 0) := (kc_ BK155.out 1).trans rfl;have hfz32_0 := kf_ BK155.out 0;have hfz32_1 := kf_ BK155.out 1)|(go_at_call 7;(with_reducible refine (dur_Check.calls (wrap64 (t154 + (-1))) (wrap64 ((a0.size : Int) - (t150.size : Int))) false _ A14.out).mono ?_);rintro e w33 ⟨rfl,hb⟩;have n0_ := sd_ (Kd.R_below (by (with_reducible repeat (first|apply Kd.R_alloc|apply Kd.R_drewN|apply Kd.R_drew));exact (Kd.R_mono (Kd.R_far (p := ⟨gb155,1,none⟩) (Kd.R_far (p := ⟨gb155,0,none⟩) (Kd.R_types HO153.out BK155.out (by decide)) (fun _ hk => hk.2) (.int .i64 (wrap64 (t154 + (-1))))) (fun _ hk => hk.2) (.int .i64 (wrap64 ((a0.size : Int) - (t150.size : Int))))) (fun _ h_ => h_.1))) hb);have n1_ := sd_ (blk_below (g := gb149) (o := .cells #[.int .i64 0,.int .i64 0] 23 (0,0)) (by (with_reducible repeat first|apply kn_|apply kd_|apply ka_);refine blk_far ?_ NB149_155.out _;(with_reducible repeat first|apply kn_|apply kd_|apply ka_);refine blk_far ?_ NB149_155.out _;(with_reducible repeat first|apply kn_|apply kd_|apply ka_);exact BK149.out) hb);have n2_ := sd_ (blk_below (g := gb155) (o := .cells #[.int .i64 (wrap64 (t154 + (-1))),.int .i64 (wrap64 ((a0.size : Int) - (t150.size : Int)))] 23 (0,0)) (by (with_reducible repeat first|apply kn_|apply kd_|apply ka_);refine blk_put (cs := #[.int .i64 (wrap64 (t154 + (-1))),.int .i64 0]) ?_ 1 _ rfl;(with_reducible repeat first|apply kn_|apply kd_|apply ka_);refine blk_put (cs := #[.int .i64 0,.int .i64 0]) ?_ 0 _ rfl;(with_reducible repeat first|apply kn_|apply kd_|apply ka_);exact BK155.out) hb);have n3_ := hb_ HB (e_ GE149 (e_ GE155 e0_)) hb;clear HO153;clear BK149;clear BK155;clear HB;have HO153 := n0_;have BK149 := n1_;have BK155 := n2_;have HB := n3_;clear n0_ n1_ n2_ n3_;(try clear hb);(try clear hb2);(try clear hk);(try clear hi);have hcz34_0 : w33.cell? ⟨gb149,0,none⟩ = some (.int .i64 0) := (kc_ BK149.out 0).trans rfl;have hcz34_1 : w33.cell? ⟨gb149,1,none⟩ = some (.int .i64 0) := (kc_ BK149.out 1).trans rfl;have hfz34_0 := kf_ BK149.out 0;have hfz34_1 := kf_ BK149.out 1))
   refine bodyPost_ret (results_ct rfl _ _ gb149 23 #[.int .i64 0,.int .i64 0] (0,0) _ rfl (by (with_reducible repeat first|apply kn_|apply kd_|apply ka_);refine blk_put (cs := #[.int .i64 0,.int .i64 0]) ?_ 1 _ rfl;(with_reducible repeat first|apply kn_|apply kd_|apply ka_);refine blk_put (cs := #[.int .i64 0,.int .i64 0]) ?_ 0 _ rfl;(with_reducible repeat first|apply kn_|apply kd_|apply ka_);exact BK149.out) Tryd.underlying23 rfl (by kernel_rfl)) rfl ?_
   exact ⟨by first|rfl|(simp [errW_none,errW_some] <;> rfl)|(simp [*,errW_none,errW_some] <;> rfl),by repeat (first|(with_reducible first|exact HB.out|apply ba_|apply pd_|apply d1_|refine bs_ ?_ GE149.out|refine bs_ ?_ GE155.out)|exact HB.out)⟩

/-! ### strings_Repeat: function 28 -/
def strings_Repeat.f (a0 : ByteArray) (a1 : Int) : Option ByteArray := if 0 ≤ a1 then (if a1 ≤ 9223372036854775807 then (if a0.size * a1.toNat ≤ 140737488355328 then some ⟨(Lib.repeatL a0.data.toList a1.toNat).toArray⟩ else none) else none) else none
theorem strings_Repeat.calls (a0 : ByteArray) (a1 : Int) (r : ByteArray) (w : World) (h : strings_Repeat.f a0 a1 = some r) :
  Calls Tryd.prog 28 #[.string a0,.int .i64 a1] w fun e w' => e = .returned (.string r) ∧ Below w.heap.size w w' := by
 unfold strings_Repeat.f at h
 split at h
 ·split at h
  ·split at h
   ·rename_i h1 h2 h3
    obtain rfl := Option.some.inj h
    have := Tryd.strings_Repeat a0 a1.toNat w (by omega) h3
    rw [Int.toNat_of_nonneg h1] at this
    exact this
   ·cases h
  ·cases h
 ·cases h

/-! ### dur_Name: function 10 -/
structure Nm0 (w W : World) (g1 : Nat) (a0 a1 : Int) : Prop where
 bel : Below w.heap.size w W
 box : W.heap[g1]? = some (.cells #[.int .i64 a0,.int .i64 a1] 23 (0,0))
theorem Nm0.c0 {w W : World} {g1 : Nat} {a0 a1 : Int} (h : Nm0 w W g1 a0 a1) : W.cell? ⟨g1, 0, none⟩ = some (.int .i64 a0) := (kc_ h.box 0).trans rfl
theorem Nm0.c1 {w W : World} {g1 : Nat} {a0 a1 : Int} (h : Nm0 w W g1 a0 a1) : W.cell? ⟨g1, 1, none⟩ = some (.int .i64 a1) := (kc_ h.box 1).trans rfl
theorem Nm0.step {w W W' : World} {g1 : Nat} {a0 a1 : Int} (h : Nm0 w W g1 a0 a1) (hb : Below W.heap.size W W') : Nm0 w W' g1 a0 a1 := ⟨bt_ h.bel hb, blk_below h.box hb⟩
theorem Nm0.drew {w W : World} {g1 : Nat} {a0 a1 : Int} (h : Nm0 w W g1 a0 a1) : Nm0 w W.drew g1 a0 a1 := ⟨d1_ h.bel, kd_ h.box⟩
structure NmB (w W : World) (g1 : Nat) (a0 a1 : Int) (ad : Addr) (s : ByteArray) : Prop where
 bs : Nm0 w W g1 a0 a1
 el : W.cell? ad = some (.string s)
theorem NmB.c0 {w W : World} {g1 : Nat} {a0 a1 : Int} {ad : Addr} {s : ByteArray} (h : NmB w W g1 a0 a1 ad s) : W.cell? ⟨g1, 0, none⟩ = some (.int .i64 a0) := h.bs.c0
theorem NmB.c1 {w W : World} {g1 : Nat} {a0 a1 : Int} {ad : Addr} {s : ByteArray} (h : NmB w W g1 a0 a1 ad s) : W.cell? ⟨g1, 1, none⟩ = some (.int .i64 a1) := h.bs.c1
theorem NmB.step {w W W' : World} {g1 : Nat} {a0 a1 : Int} {ad : Addr} {s : ByteArray} (h : NmB w W g1 a0 a1 ad s) (hb : Below W.heap.size W W') : NmB w W' g1 a0 a1 ad s := ⟨h.bs.step hb, pw_cell_below hb h.el⟩
theorem NmB.start {w W W' : World} {g1 : Nat} {a0 a1 : Int} {ad : Addr} {s : ByteArray} (h : Nm0 w W g1 a0 a1) (hb : Below W.heap.size W W') (hx : W'.cell? ad = some (.string s)) : NmB w W' g1 a0 a1 ad s := ⟨h.step hb, hx⟩
set_option maxHeartbeats 4000000 in
set_option maxRecDepth 100000 in
theorem durname_no (a0 a1 : Int) (w : World) (AC : Aside0 (dur_Check.f a0 a1 = some false)) :
  Calls Tryd.prog 10 #[.agg #[.int .i64 a0,.int .i64 a1]] w fun e w' => e = .returned (.string ⟨#[]⟩) ∧ Below w.heap.size w w' := by
 go_enter Tryd.func10,Tryd.ntmps10
 go_wp2_with (first|((with_reducible refine gate_dst (N := 1) rfl ?_);refine box_event ?hg (N := 1) ?hd (cs := #[.int .i64 a0,.int .i64 a1]) (t := 23) ?hr ?_;(case hd => rfl);(case hg => rfl);(case hr => first|(go_simp;done)|(go_simp;rfl));intro g1 hg w6 hbox hb;have HS := sd_ (Nm0.mk hb hbox);have hz0 := HS.out.c0;have hz1 := HS.out.c1;clear hb hbox hg)|((with_reducible refine gate_callee (f := 7) rfl ?_);refine goesL_ (some 4) rfl rfl Tryd.func7 (by kernel_rfl) rfl #[.agg #[.int .i64 a0,.int .i64 a1]] rfl (by (try simp only [lm_,lq_,lx_]);first|done|rfl|(simp only [ld_,lt_];rfl)) ?_;(with_reducible refine (dur_Check.calls a0 a1 false _ AC.out).mono ?_);rintro e w7 ⟨rfl,hb⟩;refine ⟨_,rfl,?_⟩;have HS' := sd_ (HS.out.step hb);clear HS hb hz0 hz1;have HS := HS';clear HS'))
 go_ret
 exact ⟨rfl,HS.out.bel⟩
set_option maxHeartbeats 8000000 in
set_option maxRecDepth 100000 in
theorem durname_yes (a0 a1 : Int) (L : List ByteArray) (t : ByteArray) (w : World) (AC : Aside0 (dur_Check.f a0 a1 = some true)) (AN : Aside0 (dur_names.f = some L)) (AR : Aside0 (strings_Repeat.f (⟨#[46]⟩ : ByteArray) a1 = some t)) (q0 : 0 ≤ a0 + 1) (q1 : a0 + 1 < (L.length : Int)) (q2 : a0 ≤ 1000) (hs : (rdOf ByteArray.empty L (a0 + 1)).size + t.size ≤ 9223372036854775807) :
  Calls Tryd.prog 10 #[.agg #[.int .i64 a0,.int .i64 a1]] w fun e w' => e = .returned (.string (rdOf ByteArray.empty L (a0 + 1) ++ t)) ∧ Below w.heap.size w w' := by
 go_enter Tryd.func10,Tryd.ntmps10
 go_upto_region 3 with (first|((with_reducible refine gate_dst (N := 1) rfl ?_);refine box_event ?hg (N := 1) ?hd (cs := #[.int .i64 a0,.int .i64 a1]) (t := 23) ?hr ?_;(case hd => rfl);(case hg => rfl);(case hr => first|(go_simp;done)|(go_simp;rfl));intro g1 hg w6 hbox hb;have HS := sd_ (Nm0.mk hb hbox);have hz0 := HS.out.c0;have hz1 := HS.out.c1;clear hb hbox hg)|((with_reducible refine gate_callee (f := 7) rfl ?_);refine goesL_ (some 4) rfl rfl Tryd.func7 (by kernel_rfl) rfl #[.agg #[.int .i64 a0,.int .i64 a1]] rfl (by (try simp only [lm_,lq_,lx_]);first|done|rfl|(simp only [ld_,lt_];rfl)) ?_;(with_reducible refine (dur_Check.calls a0 a1 true _ AC.out).mono ?_);rintro e w7 ⟨rfl,hb⟩;refine ⟨_,rfl,?_⟩;have HS' := sd_ (HS.out.step hb);clear HS hb hz0 hz1;have HS := HS';clear HS'))
 generalize w7 = W1 at HS ⊢
 obtain ⟨j,hj⟩ : ∃ j,j = a0 + 1 := ⟨_,rfl⟩
 have p0 : 0 ≤ j := by omega
 have p1 : j < (L.length : Int) := by omega
 have hjw : IntKind.i64.wrap (a0 + 1) = j := by rw [hj,i64_w];unfold wrap64;omega
 rw [← hj] at hs
 have HJ := sd_ hj
 have hs2 : (9223372036854775807 < (rdOf ByteArray.empty L j).size + t.size) = False := eq_false (Nat.not_lt.2 hs)
 clear hj q0 q1 q2 hs
 have HS0 := sd_ HS.out.drew
 clear HS
 have HS := HS0
 refine start_ (n := 11) (S := fun w' => w'.cell? ⟨g1,0,none⟩ = some (.int .i64 a0) ∧ w'.cell? ⟨g1,1,none⟩ = some (.int .i64 a1)) (ds := []) #[false,false,false,false,false,false,false,false,false,false,false] (by kernel_rfl) rfl rfl ⟨HS0.out.c0,HS0.out.c1⟩ (fun hHeld => ?_)
 generalize W1.drew = W2 at *
 refine pure_ (i := 1) (N := some 7) (v := ?_) (a' := ?_) #[false,true,false,false,false,false,false,false,false,false,false] rfl rfl (by kernel_rfl) (fun _ _ _ h => h) (Or.inl ⟨by rfl,?_⟩) ?_ ?_
 rotate_left;(intro w';go_simp;with_reducible rfl);rotate_left;(simp only [Act.put,ls_,lz_,lc_,i64_w,i32_w];rfl)
 refine pure_ (i := 6) (N := some 12) (v := ?_) (a' := ?_) #[false,true,false,false,false,false,true,false,false,false,false] rfl rfl (by kernel_rfl) (fun _ _ _ h => h) (Or.inl ⟨by rfl,?_⟩) ?_ ?_
 rotate_left;(intro w';go_simp;with_reducible rfl);rotate_left;(simp only [Act.put,ls_,lz_,lc_,i64_w,i32_w];rfl)
 refine take_ (i := 2) (N := some 8) (v := ?_) (a' := ?_) #[false,true,true,false,false,false,true,false,false,false,false] rfl rfl (by kernel_rfl) (fun _ _ _ h => h) (Or.inl ⟨by rfl,?_⟩) hHeld ?_ ?_
 rotate_left
 ·rintro w' ⟨s0,s1⟩
  go_simp
  with_reducible rfl
 rotate_left
 ·simp only [Act.put,ls_,lz_,lc_,i64_w,i32_w]
  rfl
 refine pure_ (i := 3) (N := some 9) (v := ?_) (a' := ?_) #[false,true,true,true,false,false,true,false,false,false,false] rfl rfl (by kernel_rfl) (fun _ _ _ h => h) (Or.inl ⟨by rfl,?_⟩) ?_ ?_
 rotate_left;(intro w';go_simp;with_reducible rfl);rotate_left;(simp only [Act.put,ls_,lz_,lc_,i64_w,i32_w];rfl)
 refine take_ (i := 7) (N := some 13) (v := ?_) (a' := ?_) #[false,true,true,true,false,false,true,true,false,false,false] rfl rfl (by kernel_rfl) (fun _ _ _ h => h) (Or.inl ⟨by rfl,?_⟩) hHeld ?_ ?_
 rotate_left
 ·rintro w' ⟨s0,s1⟩
  go_simp
  with_reducible rfl
 rotate_left
 ·simp only [Act.put,ls_,lz_,lc_,i64_w,i32_w]
  rfl
 refine one_ (i := 0) (N := some 6) #[true,true,true,true,false,false,true,true,false,false,false] rfl rfl (by kernel_rfl) (by decide) (fun K hK => ?_)
 refine goes_ Tryd.func27 (by kernel_rfl) rfl #[] (by rfl) rfl rfl (by first|done|rfl|simp) ?_
 with_reducible refine (dur_names.calls L _ AN.out).mono ?_
 rintro e w14 ⟨v0,rfl,ho0,hb⟩
 refine ⟨_,rfl,?_⟩
 obtain ⟨Ao,co,eo⟩ := Kd.R_slice ho0
 subst eo
 obtain ⟨ad,e1,hx⟩ := Kd.at_string (Kd.R_reads' ho0).2.2 j p0 p1
 cases e1
 have HS' := sd_ (NmB.start HS.out hb hx)
 clear HS hb hx ho0
 have HS := HS'
 clear HS'
 replace p0 := eq_true p0
 replace p1 := eq_true p1
 refine hK.out _ _ ⟨HS.out.c0,HS.out.c1⟩ (fun hHeld => ?_)
 clear hK K
 refine norm_ (a' := ?_) ?_ ?_
 rotate_left
 ·show Act.put _ (some 6) _ = _
  simp only [Act.put,ls_,lz_,lc_,i64_w,i32_w]
  rfl
 refine pure_ (i := 4) (N := some 10) (v := ?_) (a' := ?_) #[true,true,true,true,true,false,true,true,false,false,false] rfl rfl (by kernel_rfl) (fun _ _ _ h => h) (Or.inl ⟨by rfl,?_⟩) ?_ ?_
 rotate_left;(intro w';go_simp;with_reducible rfl);rotate_left;(simp only [Act.put,ls_,lz_,lc_,i64_w,i32_w];rfl)
 refine join_ (σ := Unit) 2 #[true,true,true,true,true,true,true,true,true,false,false] (fun (_s : Unit) => [(11,.string (rdOf ByteArray.empty L j)),(14,.string t)]) (fun _s w' => NmB w w' g1 a0 a1 (ad.add j.toNat) (rdOf ByteArray.empty L j)) ?_ ?_
 rotate_left
 ·intro hCont
  refine two_ (i := 5) (j := 8) (Ni := some 11) (Nj := some 14) #[true,true,true,true,true,true,true,true,false,false,false] #[true,true,true,true,true,false,true,true,true,false,false] rfl rfl rfl rfl (by kernel_rfl) (by decide) (by decide) (fun K hK => ?_) (fun K hK => ?_)
  ·skip
   have hel := HS.out.el
   refine value_ (w1 := ?_) (v := ?_) (by rfl) rfl ?_ ?_
   rotate_left 2
   ·go_simp
    constructor
    ·rfl
    ·rfl
   clear hel
   refine hK.out _ _ ⟨HS.out.c0,HS.out.c1⟩ (fun hHeld => ?_)
   clear hK K
   refine norm_ (a' := ?_) ?_ ?_
   rotate_left
   ·show Act.put _ (some 11) _ = _
    simp only [Act.put,ls_,lz_,lc_,i64_w,i32_w]
    rfl
   refine one_ (i := 8) (N := some 14) #[true,true,true,true,true,true,true,true,true,false,false] rfl rfl (by kernel_rfl) (by decide) (fun K hK => ?_)
   refine goes_ Tryd.func28 (by kernel_rfl) rfl #[.string (⟨#[46]⟩ : ByteArray),.int .i64 a1] (by rfl) rfl rfl (by first|done|rfl|(simp only [lm_,lq_,lx_];rfl)) ?_
   with_reducible refine (strings_Repeat.calls (⟨#[46]⟩ : ByteArray) a1 t _ AR.out).mono ?_
   rintro e w15 ⟨rfl,hb⟩
   refine ⟨_,rfl,?_⟩
   have HS' := sd_ (HS.out.step hb)
   clear HS hb
   have HS := HS'
   clear HS'
   refine hK.out _ _ ⟨HS.out.c0,HS.out.c1⟩ (fun hHeld => ?_)
   clear hK K
   refine norm_ (a' := ?_) ?_ ?_
   rotate_left
   ·show Act.put _ (some 14) _ = _
    simp only [Act.put,ls_,lz_,lc_,i64_w,i32_w]
    rfl
   exact norm_ (by simp only [putAll,Act.put,ls_,lz_,lc_]) (hCont () _ HS.out)
  ·skip
   refine goes_ Tryd.func28 (by kernel_rfl) rfl #[.string (⟨#[46]⟩ : ByteArray),.int .i64 a1] (by rfl) rfl rfl (by first|done|rfl|(simp only [lm_,lq_,lx_];rfl)) ?_
   with_reducible refine (strings_Repeat.calls (⟨#[46]⟩ : ByteArray) a1 t _ AR.out).mono ?_
   rintro e w15 ⟨rfl,hb⟩
   refine ⟨_,rfl,?_⟩
   have HS' := sd_ (HS.out.step hb)
   clear HS hb
   have HS := HS'
   clear HS'
   refine hK.out _ _ ⟨HS.out.c0,HS.out.c1⟩ (fun hHeld => ?_)
   clear hK K
   refine norm_ (a' := ?_) ?_ ?_
   rotate_left
   ·show Act.put _ (some 14) _ = _
    simp only [Act.put,ls_,lz_,lc_,i64_w,i32_w]
    rfl
   refine one_ (i := 5) (N := some 11) #[true,true,true,true,true,true,true,true,true,false,false] rfl rfl (by kernel_rfl) (by decide) (fun K hK => ?_)
   have hel := HS.out.el
   refine value_ (w1 := ?_) (v := ?_) (by rfl) rfl ?_ ?_
   rotate_left 2
   ·go_simp
    constructor
    ·rfl
    ·rfl
   clear hel
   refine hK.out _ _ ⟨HS.out.c0,HS.out.c1⟩ (fun hHeld => ?_)
   clear hK K
   refine norm_ (a' := ?_) ?_ ?_
   rotate_left
   ·show Act.put _ (some 11) _ = _
    simp only [Act.put,ls_,lz_,lc_,i64_w,i32_w]
    rfl
   exact norm_ (by simp only [putAll,Act.put,ls_,lz_,lc_]) (hCont () _ HS.out)
 rintro _ W3 hs
 have HS := sd_ hs
 clear hs
 have hHeld := (⟨HS.out.c0,HS.out.c1⟩ : _ ∧ _)
 refine norm_ (a' := ?_) ?_ ?_
 rotate_left
 ·simp only [putAll,Act.put,ls_,lz_,lc_]
  rfl
 refine pure_ (i := 9) (N := some 15) (v := ?_) (a' := ?_) #[true,true,true,true,true,true,true,true,true,true,false] rfl rfl (by kernel_rfl) (fun _ _ _ h => h) (Or.inl ⟨by rfl,?_⟩) ?_ ?_
 rotate_left;(intro w';go_simp;with_reducible rfl);rotate_left;(simp only [Act.put,ls_,lz_,lc_,i64_w,i32_w];rfl)
 refine pure_ (i := 10) (N := some 2) (v := ?_) (a' := ?_) #[true,true,true,true,true,true,true,true,true,true,true] rfl rfl (by kernel_rfl) (fun _ _ _ h => h) (Or.inl ⟨by rfl,?_⟩) ?_ ?_
 rotate_left;(intro w';go_simp;with_reducible rfl);rotate_left;(simp only [Act.put,ls_,lz_,lc_,i64_w,i32_w];rfl)
 refine done_ (by kernel_rfl) ?_

 go_wp2
 go_ret
 exact ⟨by rw [← HJ.out];rfl,HS.out.bs.bel⟩
def dur_Name.f (a0 a1 : Int) : Option ByteArray := (dur_Check.f a0 a1).bind fun c => if c = true then (dur_names.f.bind fun L => (strings_Repeat.f (⟨#[46]⟩ : ByteArray) a1).bind fun t => if 0 ≤ a0 + 1 ∧ a0 + 1 < (L.length : Int) ∧ a0 ≤ 1000 ∧ (rdOf ByteArray.empty L (a0 + 1)).size + t.size ≤ 9223372036854775807 then some (rdOf ByteArray.empty L (a0 + 1) ++ t) else none) else some ⟨#[]⟩
theorem dur_Name.calls (a0 a1 : Int) (r : ByteArray) (w : World) (h : dur_Name.f a0 a1 = some r) :
  Calls Tryd.prog 10 #[.agg #[.int .i64 a0,.int .i64 a1]] w fun e w' => e = .returned (.string r) ∧ Below w.heap.size w w' := by
 unfold dur_Name.f at h
 obtain ⟨c,hc,h⟩ := Option.bind_eq_some_iff.1 h
 cases c with
 | false =>
  rw [if_neg (by simp)] at h
  obtain rfl := Option.some.inj h
  exact durname_no a0 a1 w ⟨hc⟩
 | true =>
  rw [if_pos rfl] at h
  obtain ⟨L,hL,h⟩ := Option.bind_eq_some_iff.1 h
  obtain ⟨t,ht,h⟩ := Option.bind_eq_some_iff.1 h
  split at h
  ·rename_i q
   obtain rfl := Option.some.inj h
   exact durname_yes a0 a1 L t w ⟨hc⟩ ⟨hL⟩ ⟨ht⟩ q.1 q.2.1 q.2.2.1 q.2.2.2
  ·cases h

end Go.Proofs.YtdiccfonlojlfaaDoor.P
