-- Written by a program of this session (wip/tools/xprint.py, over the kit's print): Lean checks it.
import Derived.Test.YtdiccfonlojlfaaDoorPx0
import Derived.Test.YtdiccfonlojlfaaDoorPx2
import Derived.Test.YtdiccfonlojlfaaDoorPx4
import Derived.Test.YtdiccfonlojlfaaDoorPx6
import Derived.Test.YtdiccfonlojlfaaDoorPx10
import Derived.Test.YtdiccfonlojlfaaDoorPx12
import Derived.Test.YtdiccfonlojlfaaDoorPx13
import Derived.Test.YtdiccfonlojlfaaDoorPx14
namespace Go.Proofs.YtdiccfonlojlfaaDoor.P
open Go.RowKit Go.Proofs.YtdiccfonlojlfaaDoorW.PrintWords Go.Proofs.YtdiccfonlojlfaaDoorW.PrintLast Go.Proofs.YtdiccfonlojlfaaDoorW.PrintMore
attribute [local go_sem] max2_int min2_int max_two min_two max_three min_three max_four min_four   -- for this text's walks alone
set_option linter.unusedVariables false
set_option linter.unusedSimpArgs false

attribute [local go_sem high] eqA25
/-! ### neumeref02_Add: function 13 -/
def neumeref02_Add.j0 : Nat → Bool → Int → Int → Int → Int → Option (Int × Int × Int)
 | 0, _, _, _, _, _ => none
 | k + 1, x15, x386000, x386001, x387000, x387001 => if x15 = true then (some (0, 0, 2)) else ((neumeref02_gcd.f k x386001 x387001).bind fun t390 => (if t390 = 0 then (none) else ((neumeref02_lowest.f k (wrap64 ((wrap64 (x386000 * (wrap64 (Int.tdiv x387001 t390)))) + (wrap64 (x387000 * (wrap64 (Int.tdiv x386001 t390)))))) (wrap64 ((wrap64 (Int.tdiv x386001 t390)) * x387001))).bind fun bt391 => (some (bt391.1, bt391.2.1, bt391.2.2)))))
def neumeref02_Add.f (k : Nat) (a0_0 : Int) (a0_1 : Int) (a1_0 : Int) (a1_1 : Int) : Option (Int × Int × Int) := (neumeref02_Check.f k a0_0 a0_1).bind fun t388 => (if t388 = true then ((neumeref02_Check.f k a1_0 a1_1).bind fun t389 => (neumeref02_Add.j0 k (!t389) a0_0 a0_1 a1_0 a1_1)) else (neumeref02_Add.j0 k true a0_0 a0_1 a1_0 a1_1))
theorem neumeref02_Add.mono_l : ∀ k, (∀ y0 y1 y2 y3 y4, LeO (neumeref02_Add.j0 k y0 y1 y2 y3 y4) (neumeref02_Add.j0 (k + 1) y0 y1 y2 y3 y4))
 | 0 => fun _ _ _ _ _ r h => by simp [neumeref02_Add.j0] at h
 | k + 1 => by
  have ih0 := neumeref02_Add.mono_l k
  ·intro y0 y1 y2 y3 y4
   unfold neumeref02_Add.j0
   repeat' first
   | (with_reducible exact ih0 _ _ _ _ _)
   | (with_reducible exact neumeref02_Check.mono _ _ _)
   | (with_reducible exact neumeref02_gcd.mono _ _ _)
   | (with_reducible exact neumeref02_lowest.mono _ _ _)
   | (with_reducible exact LeO.refl _)
   | (with_reducible exact LeO.none _)
   | (with_reducible refine LeO.ite ?_ ?_)
   | (with_reducible refine LeO.bind ?_ (fun _ => ?_))
   | exact ih0 _ _ _ _ _
   | exact neumeref02_Check.mono _ _ _
   | exact neumeref02_gcd.mono _ _ _
   | exact neumeref02_lowest.mono _ _ _
   | exact LeO.none _
   | refine LeO.ite ?_ ?_
   | refine LeO.bind ?_ (fun _ => ?_)
theorem neumeref02_Add.mono : ∀ a0 a1 a2 a3 k, LeO (neumeref02_Add.f k a0 a1 a2 a3) (neumeref02_Add.f (k + 1) a0 a1 a2 a3) := by
 intro a0 a1 a2 a3 k
 have ih0 := neumeref02_Add.mono_l k
 unfold neumeref02_Add.f
 repeat' first
   | (with_reducible exact ih0 _ _ _ _ _)
   | (with_reducible exact neumeref02_Check.mono _ _ _)
   | (with_reducible exact neumeref02_gcd.mono _ _ _)
   | (with_reducible exact neumeref02_lowest.mono _ _ _)
   | (with_reducible exact LeO.refl _)
   | (with_reducible exact LeO.none _)
   | (with_reducible refine LeO.ite ?_ ?_)
   | (with_reducible refine LeO.bind ?_ (fun _ => ?_))
   | exact ih0 _ _ _ _ _
   | exact neumeref02_Check.mono _ _ _
   | exact neumeref02_gcd.mono _ _ _
   | exact neumeref02_lowest.mono _ _ _
   | exact LeO.none _
   | refine LeO.ite ?_ ?_
   | refine LeO.bind ?_ (fun _ => ?_)
def neumeref02_Add.T4 : Bool × List (List Nat × List Nat) := (true, [([], []), ([0], [0]), ([], []), ([2], [2]), ([], []), ([3, 4], [3, 4]), ([1, 5], [1, 5]), ([], []), ([7], [7]), ([], []), ([9], [9]), ([], []), ([10, 11], [10, 11]), ([8, 12], [8, 12]), ([6, 13], [6, 13]), ([14, 0, 1, 2, 3, 4, 5, 6, 7, 8, 9, 10, 11, 12, 13, 14], [14])])
def neumeref02_Add.B4 : List Nat := [0, 1, 0, 4, 0, 28, 63, 0, 128, 0, 512, 0, 3584, 8064, 16383, 32767]
theorem neumeref02_Add.tab4 : rtab .any (opsOf Tryd.f13 4) = neumeref02_Add.T4 := by kernel_rfl
theorem neumeref02_Add.bits4 : waitsOk neumeref02_Add.T4.2 neumeref02_Add.B4 = true := by kernel_rfl
def neumeref02_Add.T5 : Bool × List (List Nat × List Nat) := (true, [([], []), ([], []), ([1], [1]), ([], []), ([2, 3], [2, 3]), ([], []), ([5], [5]), ([4, 6], [4, 6]), ([0, 7], [0, 7]), ([8], [8]), ([8], [8]), ([9, 8, 0, 1, 2, 3, 4, 5, 6, 7, 8, 9, 10], [9]), ([10, 11, 0, 1, 2, 3, 4, 5, 6, 7, 8, 9, 10, 11], [10])])
def neumeref02_Add.B5 : List Nat := [0, 0, 2, 0, 14, 0, 32, 126, 255, 511, 511, 2047, 4095]
theorem neumeref02_Add.tab5 : rtab .any (opsOf Tryd.f13 5) = neumeref02_Add.T5 := by kernel_rfl
theorem neumeref02_Add.bits5 : waitsOk neumeref02_Add.T5.2 neumeref02_Add.B5 = true := by kernel_rfl
set_option maxHeartbeats 8000000 in
set_option maxRecDepth 100000 in
theorem neumeref02_Add.calls (k : Nat) (a0_0 : Int) (a0_1 : Int) (a1_0 : Int) (a1_1 : Int) (r1 : Int) (r2 : Int) (r3 : Int) (w : World) (h : neumeref02_Add.f k a0_0 a0_1 a1_0 a1_1 = some (r1, r2, r3)) :
  Calls Tryd.prog 13 #[.agg #[.int .i64 a0_0,.int .i64 a0_1],.agg #[.int .i64 a1_0,.int .i64 a1_1]] w fun e w' => e = .returned (.tuple #[.agg #[.int .i64 r1,.int .i64 r2],.int .i64 r3]) ∧ Below w.heap.size w w' := by
 have hu25 := Tryd.underlying25
 have HB := sd_ (Below.refl w.heap.size w)
 have H : ((neumeref02_Check.f k a0_0 a0_1).bind fun t388 => (if t388 = true then ((neumeref02_Check.f k a1_0 a1_1).bind fun t389 => (neumeref02_Add.j0 k (!t389) a0_0 a0_1 a1_0 a1_1)) else (neumeref02_Add.j0 k true a0_0 a0_1 a1_0 a1_1))) = some (r1,r2,r3) := h
 clear h
 have HC3 := sd_ H
 clear H
 go_enter Tryd.func13,Tryd.ntmps13
 go_upto_region 1 with (first|((with_reducible refine gate_dst (N := 2) rfl ?_);refine box_event ?hg (N := 2) ?hd (cs := #[.int .i64 a0_0,.int .i64 a0_1]) (t := 25) ?hr ?_;(case hd => rfl);(case hg => rfl);(case hr => first|(go_simp;done)|(go_simp;rfl));intro gb385 hg w4 hbox hb;have BK385 := sd_ hbox;have GW385 := gw_ HB e0_ hg;have GE385 := GW385;replace HB := hb_ HB e0_ hb;clear hb hbox hg)|((with_reducible refine gate_dst (N := 3) rfl ?_);refine box_event ?hg (N := 3) ?hd (cs := #[.int .i64 a1_0,.int .i64 a1_1]) (t := 25) ?hr ?_;(case hd => rfl);(case hg => rfl);(case hr => first|(go_simp;done)|(go_simp;rfl));intro gb386 hg w5 hbox hb;have BK386 := sd_ hbox;have GW386 := gw_ HB (e_ GE385 e0_) hg;have GE386 := GW386;have NB385_386 := nb_ BK385 hg;have NB386_385 := sy_ NB385_386;replace BK385 := kb_ BK385 hb;replace HB := hb_ HB (e_ GE385 e0_) hb;clear hb hbox hg)|((with_reducible refine gate_dst (N := 4) rfl ?_);refine box_event ?hg (N := 4) ?hd (cs := #[.int .i64 0,.int .i64 0]) (t := 25) ?hr ?_;(case hd => rfl);(case hg => rfl);(case hr => first|(go_simp;done)|(go_simp;rfl));intro gb387 hg w6 hbox hb;have BK387 := sd_ hbox;have GW387 := gw_ HB (e_ GE385 (e_ GE386 e0_)) hg;have GE387 := GW387;have NB385_387 := nb_ BK385 hg;have NB387_385 := sy_ NB385_387;have NB386_387 := nb_ BK386 hg;have NB387_386 := sy_ NB386_387;replace BK385 := kb_ BK385 hb;replace BK386 := kb_ BK386 hb;replace HB := hb_ HB (e_ GE385 (e_ GE386 e0_)) hb;clear hb hbox hg))
 (try simp only [Act.put,ls_,lz_,lc_])
 go_cut [15] (fun v15 wc => ∃ (kq : Nat) (x15_2 : Bool),v15 = .bool x15_2 ∧ Aside0 (neumeref02_Add.j0 kq x15_2 a0_0 a0_1 a1_0 a1_1 = some (r1,r2,r3)) ∧ Aside0 (kq ≤ k) ∧ Aside0 (wc.heap[gb385]? = some (.cells #[.int .i64 a0_0,.int .i64 a0_1] 25 (0,0))) ∧ Aside0 (wc.heap[gb386]? = some (.cells #[.int .i64 a1_0,.int .i64 a1_1] 25 (0,0))) ∧ Aside0 (wc.heap[gb387]? = some (.cells #[.int .i64 0,.int .i64 0] 25 (0,0))) ∧ Aside0 (Below w.heap.size w wc))
 case first =>
  have H := HC3.out
  clear HC3
  replace H := ob_ H
  obtain ⟨t388,A70,H⟩ := H
  try dsimp only at H
  have A7 := sd_ A70
  clear A70
  by_cases c8 : t388 = true
  ·subst c8
   have H1 : ((neumeref02_Check.f k a1_0 a1_1).bind fun t389 => (neumeref02_Add.j0 k (!t389) a0_0 a0_1 a1_0 a1_1)) = some (r1,r2,r3) := by rw [if_pos rfl] at H;exact H
   clear H;have H := H1;clear H1
   replace H := ob_ H
   obtain ⟨t389,A90,H⟩ := H
   replace H : (neumeref02_Add.j0 k (!t389) a0_0 a0_1 a1_0 a1_1) = some (r1,r2,r3) := H
   have A9 := sd_ A90
   clear A90
   have H' := sd_ H
   clear H
   have hnb10 := NB385_386.out
   have hnc10 := NB386_385.out
   have hnb11 := NB385_387.out
   have hnc11 := NB387_385.out
   have hcz12_0 : w6.cell? ⟨gb385,0,none⟩ = some (.int .i64 a0_0) := (kc_ BK385.out 0).trans rfl
   have hcz12_1 : w6.cell? ⟨gb385,1,none⟩ = some (.int .i64 a0_1) := (kc_ BK385.out 1).trans rfl
   have hfz12_0 := kf_ BK385.out 0
   have hfz12_1 := kf_ BK385.out 1
   go_wp2_with (first|((with_reducible refine gate_callee (f := 37) rfl ?_);refine goesL_ (some 9) rfl rfl Tryd.func37 (by kernel_rfl) rfl #[.agg #[.int .i64 a0_0,.int .i64 a0_1]] rfl (by (try simp only [lm_,lq_,lx_]);first|done|rfl|(simp only [ld_,lt_];rfl)) ?_;(with_reducible refine (neumeref02_Check.calls k a0_0 a0_1 true _ A7.out).mono ?_);rintro e w13 ⟨rfl,hb⟩;refine ⟨_,rfl,?_⟩;replace BK385 := kb_ BK385 hb;replace BK386 := kb_ BK386 hb;replace BK387 := kb_ BK387 hb;replace HB := hb_ HB (e_ GE385 (e_ GE386 (e_ GE387 e0_))) hb;(try clear hb);(try clear hb2);(try clear hk);(try clear hi);have hnb14 := NB386_387.out;have hnc14 := NB387_386.out;have hcz15_0 : w13.cell? ⟨gb386,0,none⟩ = some (.int .i64 a1_0) := (kc_ BK386.out 0).trans rfl;have hcz15_1 : w13.cell? ⟨gb386,1,none⟩ = some (.int .i64 a1_1) := (kc_ BK386.out 1).trans rfl;have hfz15_0 := kf_ BK386.out 0;have hfz15_1 := kf_ BK386.out 1)|(go_at_call 37;(with_reducible refine (neumeref02_Check.calls k a1_0 a1_1 t389 _ A9.out).mono ?_);rintro e w16 ⟨rfl,hb⟩;replace BK385 := kb_ BK385 hb;replace BK386 := kb_ BK386 hb;replace BK387 := kb_ BK387 hb;replace HB := hb_ HB (e_ GE385 (e_ GE386 (e_ GE387 e0_))) hb;(try clear hb);(try clear hb2);(try clear hk);(try clear hi)))
   go_meet
   case rel => exact ⟨_,(!t389),(by first|rfl|(simp;done)|(simp [*];done)|(simp [bne];done)),H',⟨by first|omega|exact Nat.le_refl _⟩,⟨by (with_reducible repeat first|apply kn_|apply kd_|apply ka_);exact BK385.out⟩,⟨by (with_reducible repeat first|apply kn_|apply kd_|apply ka_);exact BK386.out⟩,⟨by (with_reducible repeat first|apply kn_|apply kd_|apply ka_);exact BK387.out⟩,⟨by repeat (first|(with_reducible first|exact HB.out|apply ba_|apply pd_|apply d1_|refine bs_ ?_ GE385.out|refine bs_ ?_ GE386.out|refine bs_ ?_ GE387.out)|exact HB.out)⟩⟩
  ·replace c8 := bf_ c8
   subst c8
   have H1 : (neumeref02_Add.j0 k true a0_0 a0_1 a1_0 a1_1) = some (r1,r2,r3) := by rw [if_neg (show ¬ (false = true) by decide)] at H;exact H
   clear H;have H := H1;clear H1
   have H' := sd_ H
   clear H
   have hnb17 := NB385_386.out
   have hnc17 := NB386_385.out
   have hnb18 := NB385_387.out
   have hnc18 := NB387_385.out
   have hcz19_0 : w6.cell? ⟨gb385,0,none⟩ = some (.int .i64 a0_0) := (kc_ BK385.out 0).trans rfl
   have hcz19_1 : w6.cell? ⟨gb385,1,none⟩ = some (.int .i64 a0_1) := (kc_ BK385.out 1).trans rfl
   have hfz19_0 := kf_ BK385.out 0
   have hfz19_1 := kf_ BK385.out 1
   go_wp2_with (first|((with_reducible refine gate_callee (f := 37) rfl ?_);refine goesL_ (some 9) rfl rfl Tryd.func37 (by kernel_rfl) rfl #[.agg #[.int .i64 a0_0,.int .i64 a0_1]] rfl (by (try simp only [lm_,lq_,lx_]);first|done|rfl|(simp only [ld_,lt_];rfl)) ?_;(with_reducible refine (neumeref02_Check.calls k a0_0 a0_1 false _ A7.out).mono ?_);rintro e w20 ⟨rfl,hb⟩;refine ⟨_,rfl,?_⟩;replace BK385 := kb_ BK385 hb;replace BK386 := kb_ BK386 hb;replace BK387 := kb_ BK387 hb;replace HB := hb_ HB (e_ GE385 (e_ GE386 (e_ GE387 e0_))) hb;(try clear hb);(try clear hb2);(try clear hk);(try clear hi)))
   go_meet
   case rel => exact ⟨_,(true),(by first|rfl|(simp;done)|(simp [*];done)|(simp [bne];done)),H',⟨by first|omega|exact Nat.le_refl _⟩,⟨by (with_reducible repeat first|apply kn_|apply kd_|apply ka_);exact BK385.out⟩,⟨by (with_reducible repeat first|apply kn_|apply kd_|apply ka_);exact BK386.out⟩,⟨by (with_reducible repeat first|apply kn_|apply kd_|apply ka_);exact BK387.out⟩,⟨by repeat (first|(with_reducible first|exact HB.out|apply ba_|apply pd_|apply d1_|refine bs_ ?_ GE385.out|refine bs_ ?_ GE386.out|refine bs_ ?_ GE387.out)|exact HB.out)⟩⟩
 case rest =>
  clear HC3
  try clear c1;try clear p2;try clear c3;try clear c8;try clear c10;try clear c11;try clear c13;try clear c14;try clear c17;try clear c18;try clear hcz12_0;try clear hcz12_1;try clear hcz15_0;try clear hcz15_1;try clear hcz19_0;try clear hcz19_1;try clear hfz12_0;try clear hfz12_1;try clear hfz15_0;try clear hfz15_1;try clear hfz19_0;try clear hfz19_1
  obtain ⟨kq,x15_2,rfl,HA,HJ2,BK385,BK386,BK387,HB⟩ := hcut
  cases kq with
  | zero => exact absurd HA.out (by simp [neumeref02_Add.j0])
  | succ kj2 =>
   have H := HA.out
   clear HA
   simp only [neumeref02_Add.j0] at H
   by_cases c21 : x15_2 = true
   ·subst c21
    have H1 : (some (0,0,2)) = some (r1,r2,r3) := by rw [if_pos rfl] at H;exact H
    clear H;have H := H1;clear H1
    simp only [Option.some.injEq,Prod.mk.injEq] at H
    obtain ⟨rfl,rfl,rfl⟩ := H
    have hnb22 := NB387_385.out
    have hnc22 := NB385_387.out
    have hnb23 := NB387_386.out
    have hnc23 := NB386_387.out
    have hcz24_0 : wc.cell? ⟨gb387,0,none⟩ = some (.int .i64 0) := (kc_ BK387.out 0).trans rfl
    have hcz24_1 : wc.cell? ⟨gb387,1,none⟩ = some (.int .i64 0) := (kc_ BK387.out 1).trans rfl
    have hfz24_0 := kf_ BK387.out 0
    have hfz24_1 := kf_ BK387.out 1
    go_wp2
    refine bodyPost_ret (results_ct rfl _ _ gb387 25 #[.int .i64 0,.int .i64 0] (0,0) _ rfl (by (with_reducible repeat first|apply kn_|apply kd_|apply ka_);refine blk_put (cs := #[.int .i64 0,.int .i64 0]) ?_ 1 _ rfl;(with_reducible repeat first|apply kn_|apply kd_|apply ka_);refine blk_put (cs := #[.int .i64 0,.int .i64 0]) ?_ 0 _ rfl;(with_reducible repeat first|apply kn_|apply kd_|apply ka_);exact BK387.out) Tryd.underlying25 rfl (by kernel_rfl)) rfl ?_
    exact ⟨by first|rfl|(simp [errW_none,errW_some] <;> rfl)|(simp [*,errW_none,errW_some] <;> rfl),by repeat (first|(with_reducible first|exact HB.out|apply ba_|apply pd_|apply d1_|refine bs_ ?_ GE385.out|refine bs_ ?_ GE386.out|refine bs_ ?_ GE387.out)|exact HB.out)⟩
   ·replace c21 := bf_ c21
    subst c21
    have H1 : ((neumeref02_gcd.f kj2 a0_1 a1_1).bind fun t390 => (if t390 = 0 then (none) else ((neumeref02_lowest.f kj2 (wrap64 ((wrap64 (a0_0 * (wrap64 (Int.tdiv a1_1 t390)))) + (wrap64 (a1_0 * (wrap64 (Int.tdiv a0_1 t390)))))) (wrap64 ((wrap64 (Int.tdiv a0_1 t390)) * a1_1))).bind fun bt391 => (some (bt391.1,bt391.2.1,bt391.2.2))))) = some (r1,r2,r3) := by rw [if_neg (show ¬ (false = true) by decide)] at H;exact H
    clear H;have H := H1;clear H1
    replace H := ob_ H
    obtain ⟨t390,A250,H⟩ := H
    try dsimp only at H
    have A25 := sd_ A250
    clear A250
    by_cases c26 : t390 = 0
    ·rw [if_pos c26] at H
     exact absurd H (by simp)
    ·rw [if_neg c26] at H
     have c26b0 : (t390 == 0) = false := beq_eq_false_iff_ne.mpr c26
     have c26b1 : (t390 != 0) = true := bne_iff_ne.mpr c26
     replace H := ob_ H
     obtain ⟨⟨t391,t392,t393⟩,A270,H⟩ := H
     replace H : (some (t391,t392,t393)) = some (r1,r2,r3) := H
     have A27 := sd_ A270
     clear A270
     simp only [Option.some.injEq,Prod.mk.injEq] at H
     obtain ⟨rfl,rfl,rfl⟩ := H
     have hnb28 := NB385_386.out
     have hnc28 := NB386_385.out
     have hnb29 := NB385_387.out
     have hnc29 := NB387_385.out
     have hcz30_0 : wc.cell? ⟨gb385,0,none⟩ = some (.int .i64 a0_0) := (kc_ BK385.out 0).trans rfl
     have hcz30_1 : wc.cell? ⟨gb385,1,none⟩ = some (.int .i64 a0_1) := (kc_ BK385.out 1).trans rfl
     have hfz30_0 := kf_ BK385.out 0
     have hfz30_1 := kf_ BK385.out 1
     have hnb31 := NB386_387.out
     have hnc31 := NB387_386.out
     have hcz32_0 : wc.cell? ⟨gb386,0,none⟩ = some (.int .i64 a1_0) := (kc_ BK386.out 0).trans rfl
     have hcz32_1 : wc.cell? ⟨gb386,1,none⟩ = some (.int .i64 a1_1) := (kc_ BK386.out 1).trans rfl
     have hfz32_0 := kf_ BK386.out 0
     have hfz32_1 := kf_ BK386.out 1
     try go_wp2_with (first|((with_reducible refine gate_callee (f := 38) rfl ?_);refine goesL_ (some 21) rfl rfl Tryd.func38 (by kernel_rfl) rfl #[.int .i64 a0_1,.int .i64 a1_1] rfl (by (try simp only [lm_,lq_,lx_]);first|done|rfl|(simp only [ld_,lt_];rfl)) ?_;(with_reducible refine (neumeref02_gcd.calls kj2 a0_1 a1_1 t390 _ A25.out).mono ?_);rintro e w' ⟨rfl,⟨nd,rfl⟩⟩;refine ⟨_,rfl,?_⟩;(repeat (rw [drewN_self wc];generalize hq_ : World.drewN wc _ = wc;have n0_ : Aside0 (wc.heap[gb385]? = some (.cells #[.int .i64 a0_0,.int .i64 a0_1] 25 (0,0))) := ⟨by rw [← hq_];exact (kk_ BK385.out)⟩;have n1_ : Aside0 (wc.heap[gb386]? = some (.cells #[.int .i64 a1_0,.int .i64 a1_1] 25 (0,0))) := ⟨by rw [← hq_];exact (kk_ BK386.out)⟩;have n2_ : Aside0 (wc.heap[gb387]? = some (.cells #[.int .i64 0,.int .i64 0] 25 (0,0))) := ⟨by rw [← hq_];exact (kk_ BK387.out)⟩;have n3_ : Aside0 (Below w.heap.size w wc) := ⟨by rw [← hq_];exact (bb_ HB.out (e_ GE385 (e_ GE386 (e_ GE387 e0_))))⟩;clear BK385 BK386 BK387 HB hq_;have BK385 := n0_;have BK386 := n1_;have BK387 := n2_;have HB := n3_;clear n0_ n1_ n2_ n3_))))
     replace BK385 := sd_ (kd_ BK385.out)
     replace BK386 := sd_ (kd_ BK386.out)
     replace BK387 := sd_ (kd_ BK387.out)
     replace HB := sd_ (d1_ HB.out)
     refine start_ (n := 16) (S := fun w' => w'.cell? ⟨gb385,0,none⟩ = some (.int .i64 a0_0) ∧ w'.cell? ⟨gb385,1,none⟩ = some (.int .i64 a0_1) ∧ w'.cell? ⟨gb386,0,none⟩ = some (.int .i64 a1_0) ∧ w'.cell? ⟨gb386,1,none⟩ = some (.int .i64 a1_1)) (ds := []) (Array.replicate 16 false) (by kernel_rfl) rfl rfl ⟨(kc_ BK385.out 0).trans rfl,(kc_ BK385.out 1).trans rfl,(kc_ BK386.out 0).trans rfl,(kc_ BK386.out 1).trans rfl⟩ (fun hHeld => ?_);refine with_tabW neumeref02_Add.tab4 neumeref02_Add.bits4 (fun HT_ HW_ => ?_)
     generalize wc.drew = w33 at BK385 BK386 BK387 HB hHeld ⊢
     refine pu_ (v := ?_) (a' := ?_) 0 22 (bz 16 1) rfl rfl HT_ (by kernel_rfl) (fun _ _ _ h => h) (by rfl) ?_ ?_ ?_
     rotate_left;(intro w';go_simp;with_reducible rfl);rotate_left;(simp only [Act.put,ls_,lz_,lc_,i64_w,i32_w];rfl)
     refine pu_ (v := ?_) (a' := ?_) 2 24 (bz 16 5) rfl rfl HT_ (by kernel_rfl) (fun _ _ _ h => h) (by rfl) ?_ ?_ ?_
     rotate_left;(intro w';go_simp;with_reducible rfl);rotate_left;(simp only [Act.put,ls_,lz_,lc_,i64_w,i32_w];rfl)
     refine pu_ (v := ?_) (a' := ?_) 4 26 (bz 16 21) rfl rfl HT_ (by kernel_rfl) (fun _ _ _ h => h) (by rfl) ?_ ?_ ?_
     rotate_left;(intro w';go_simp;with_reducible rfl);rotate_left;(simp only [Act.put,ls_,lz_,lc_,i64_w,i32_w];rfl)
     refine pu_ (v := ?_) (a' := ?_) 7 29 (bz 16 149) rfl rfl HT_ (by kernel_rfl) (fun _ _ _ h => h) (by rfl) ?_ ?_ ?_
     rotate_left;(intro w';go_simp;with_reducible rfl);rotate_left;(simp only [Act.put,ls_,lz_,lc_,i64_w,i32_w];rfl)
     refine pu_ (v := ?_) (a' := ?_) 9 31 (bz 16 661) rfl rfl HT_ (by kernel_rfl) (fun _ _ _ h => h) (by rfl) ?_ ?_ ?_
     rotate_left;(intro w';go_simp;with_reducible rfl);rotate_left;(simp only [Act.put,ls_,lz_,lc_,i64_w,i32_w];rfl)
     refine pu_ (v := ?_) (a' := ?_) 11 33 (bz 16 2709) rfl rfl HT_ (by kernel_rfl) (fun _ _ _ h => h) (by rfl) ?_ ?_ ?_
     rotate_left;(intro w';go_simp;with_reducible rfl);rotate_left;(simp only [Act.put,ls_,lz_,lc_,i64_w,i32_w];rfl)
     refine ta_ (v := ?_) (a' := ?_) 1 23 (bz 16 2711) rfl rfl HT_ HW_ (by kernel_rfl) (fun _ _ _ h => h) (by rfl) ?_ hHeld ?_ ?_
     rotate_left
     ·rintro w' ⟨s0,s1,s2,s3⟩
      go_simp
      with_reducible rfl
     rotate_left
     ·simp only [Act.put,ls_,lz_,lc_,i64_w,i32_w]
      rfl
     refine ta_ (v := ?_) (a' := ?_) 3 25 (bz 16 2719) rfl rfl HT_ HW_ (by kernel_rfl) (fun _ _ _ h => h) (by rfl) ?_ hHeld ?_ ?_
     rotate_left
     ·rintro w' ⟨s0,s1,s2,s3⟩
      go_simp
      with_reducible rfl
     rotate_left
     ·simp only [Act.put,ls_,lz_,lc_,i64_w,i32_w]
      rfl
     refine pu_ (v := ?_) (a' := ?_) 5 27 (bz 16 2751) rfl rfl HT_ (by kernel_rfl) (fun _ _ _ h => h) (by rfl) ?_ ?_ ?_
     rotate_left;(intro w';go_simp;with_reducible rfl);rotate_left;(simp only [Act.put,ls_,lz_,lc_,i64_w,i32_w];rfl)
     refine pu_ (v := ?_) (a' := ?_) 6 28 (bz 16 2815) rfl rfl HT_ (by kernel_rfl) (fun _ _ _ h => h) (by rfl) ?_ ?_ ?_
     rotate_left;(intro w';go_simp;with_reducible rfl);rotate_left;(simp only [Act.put,ls_,lz_,lc_,i64_w,i32_w];rfl)
     refine ta_ (v := ?_) (a' := ?_) 8 30 (bz 16 3071) rfl rfl HT_ HW_ (by kernel_rfl) (fun _ _ _ h => h) (by rfl) ?_ hHeld ?_ ?_
     rotate_left
     ·rintro w' ⟨s0,s1,s2,s3⟩
      go_simp
      with_reducible rfl
     rotate_left
     ·simp only [Act.put,ls_,lz_,lc_,i64_w,i32_w]
      rfl
     refine ta_ (v := ?_) (a' := ?_) 10 32 (bz 16 4095) rfl rfl HT_ HW_ (by kernel_rfl) (fun _ _ _ h => h) (by rfl) ?_ hHeld ?_ ?_
     rotate_left
     ·rintro w' ⟨s0,s1,s2,s3⟩
      go_simp
      with_reducible rfl
     rotate_left
     ·simp only [Act.put,ls_,lz_,lc_,i64_w,i32_w]
      rfl
     refine pu_ (v := ?_) (a' := ?_) 12 34 (bz 16 8191) rfl rfl HT_ (by kernel_rfl) (fun _ _ _ h => h) (by rfl) ?_ ?_ ?_
     rotate_left;(intro w';go_simp;with_reducible rfl);rotate_left;(simp only [Act.put,ls_,lz_,lc_,i64_w,i32_w];rfl)
     refine pu_ (v := ?_) (a' := ?_) 13 35 (bz 16 16383) rfl rfl HT_ (by kernel_rfl) (fun _ _ _ h => h) (by rfl) ?_ ?_ ?_
     rotate_left;(intro w';go_simp;with_reducible rfl);rotate_left;(simp only [Act.put,ls_,lz_,lc_,i64_w,i32_w];rfl)
     refine pu_ (v := ?_) (a' := ?_) 14 36 (bz 16 32767) rfl rfl HT_ (by kernel_rfl) (fun _ _ _ h => h) (by rfl) ?_ ?_ ?_
     rotate_left;(intro w';go_simp;with_reducible rfl);rotate_left;(simp only [Act.put,ls_,lz_,lc_,i64_w,i32_w];rfl)
     refine pu_ (v := ?_) (a' := ?_) 15 7 (bz 16 65535) rfl rfl HT_ (by kernel_rfl) (fun _ _ _ h => h) (by rfl) ?_ ?_ ?_
     rotate_left;(intro w';go_simp;with_reducible rfl);rotate_left;(simp only [Act.put,ls_,lz_,lc_,i64_w,i32_w];rfl)
     refine done_ (done_of HT_.out (by kernel_rfl)) ?_
     try go_wp2
     replace BK385 := sd_ (kd_ BK385.out)
     replace BK386 := sd_ (kd_ BK386.out)
     replace BK387 := sd_ (kd_ BK387.out)
     replace HB := sd_ (d1_ HB.out)
     refine start_ (n := 13) (S := fun w' => w'.cell? ⟨gb385,0,none⟩ = some (.int .i64 a0_0) ∧ w'.cell? ⟨gb385,1,none⟩ = some (.int .i64 a0_1) ∧ w'.cell? ⟨gb386,0,none⟩ = some (.int .i64 a1_0) ∧ w'.cell? ⟨gb386,1,none⟩ = some (.int .i64 a1_1)) (ds := []) (Array.replicate 13 false) (by kernel_rfl) rfl rfl ⟨(kc_ BK385.out 0).trans rfl,(kc_ BK385.out 1).trans rfl,(kc_ BK386.out 0).trans rfl,(kc_ BK386.out 1).trans rfl⟩ (fun hHeld => ?_);refine with_tabW neumeref02_Add.tab5 neumeref02_Add.bits5 (fun HT_ HW_ => ?_)
     generalize w33.drew = w34 at BK385 BK386 BK387 HB hHeld ⊢
     refine pu_ (v := ?_) (a' := ?_) 0 37 (bz 13 1) rfl rfl HT_ (by kernel_rfl) (fun _ _ _ h => h) (by rfl) ?_ ?_ ?_
     rotate_left;(intro w';go_simp;with_reducible rfl);rotate_left;(simp only [Act.put,ls_,lz_,lc_,i64_w,i32_w];rfl)
     refine pu_ (v := ?_) (a' := ?_) 1 38 (bz 13 3) rfl rfl HT_ (by kernel_rfl) (fun _ _ _ h => h) (by rfl) ?_ ?_ ?_
     rotate_left;(intro w';go_simp;with_reducible rfl);rotate_left;(simp only [Act.put,ls_,lz_,lc_,i64_w,i32_w];rfl)
     refine pu_ (v := ?_) (a' := ?_) 3 40 (bz 13 11) rfl rfl HT_ (by kernel_rfl) (fun _ _ _ h => h) (by rfl) ?_ ?_ ?_
     rotate_left;(intro w';go_simp;with_reducible rfl);rotate_left;(simp only [Act.put,ls_,lz_,lc_,i64_w,i32_w];rfl)
     refine pu_ (v := ?_) (a' := ?_) 5 42 (bz 13 43) rfl rfl HT_ (by kernel_rfl) (fun _ _ _ h => h) (by rfl) ?_ ?_ ?_
     rotate_left;(intro w';go_simp;with_reducible rfl);rotate_left;(simp only [Act.put,ls_,lz_,lc_,i64_w,i32_w];rfl)
     refine ta_ (v := ?_) (a' := ?_) 2 39 (bz 13 47) rfl rfl HT_ HW_ (by kernel_rfl) (fun _ _ _ h => h) (by rfl) ?_ hHeld ?_ ?_
     rotate_left
     ·rintro w' ⟨s0,s1,s2,s3⟩
      go_simp
      with_reducible rfl
     rotate_left
     ·simp only [Act.put,ls_,lz_,lc_,i64_w,i32_w]
      rfl
     refine pu_ (v := ?_) (a' := ?_) 4 41 (bz 13 63) rfl rfl HT_ (by kernel_rfl) (fun _ _ _ h => h) (by rfl) ?_ ?_ ?_
     rotate_left;(intro w';go_simp;with_reducible rfl);rotate_left;(simp only [Act.put,ls_,lz_,lc_,i64_w,i32_w];rfl)
     refine ta_ (v := ?_) (a' := ?_) 6 43 (bz 13 127) rfl rfl HT_ HW_ (by kernel_rfl) (fun _ _ _ h => h) (by rfl) ?_ hHeld ?_ ?_
     rotate_left
     ·rintro w' ⟨s0,s1,s2,s3⟩
      go_simp
      with_reducible rfl
     rotate_left
     ·simp only [Act.put,ls_,lz_,lc_,i64_w,i32_w]
      rfl
     refine pu_ (v := ?_) (a' := ?_) 7 44 (bz 13 255) rfl rfl HT_ (by kernel_rfl) (fun _ _ _ h => h) (by rfl) ?_ ?_ ?_
     rotate_left;(intro w';go_simp;with_reducible rfl);rotate_left;(simp only [Act.put,ls_,lz_,lc_,i64_w,i32_w];rfl)
     refine on_ (N := some 45) 8 (bz 13 511) rfl rfl HT_ (by kernel_rfl) (by decide) (fun K hK => ?_)
     refine goes_ Tryd.func39 (by kernel_rfl) rfl #[.int .i64 (wrap64 ((wrap64 (a0_0 * (wrap64 (Int.tdiv a1_1 t390)))) + (wrap64 (a1_0 * (wrap64 (Int.tdiv a0_1 t390)))))),.int .i64 (wrap64 ((wrap64 (Int.tdiv a0_1 t390)) * a1_1))] (by rfl) rfl rfl (by (try simp only [lm_,lq_,lx_]);first|done|rfl|(simp only [ld_,lt_];rfl)) ?_
     with_reducible refine (neumeref02_lowest.calls kj2 (wrap64 ((wrap64 (a0_0 * (wrap64 (Int.tdiv a1_1 t390)))) + (wrap64 (a1_0 * (wrap64 (Int.tdiv a0_1 t390)))))) (wrap64 ((wrap64 (Int.tdiv a0_1 t390)) * a1_1)) t391 t392 t393 _ A27.out).mono ?_
     rintro e w35 ⟨rfl,hb⟩
     refine ⟨_,rfl,?_⟩
     replace BK385 := kb_ BK385 hb
     replace BK386 := kb_ BK386 hb
     replace BK387 := kb_ BK387 hb
     replace HB := hb_ HB (e_ GE385 (e_ GE386 (e_ GE387 e0_))) hb
     (try clear hb)
     (try clear hb2)
     (try clear hk)
     (try clear hi)
     refine hK.out _ _ ⟨(kc_ BK385.out 0).trans rfl,(kc_ BK385.out 1).trans rfl,(kc_ BK386.out 0).trans rfl,(kc_ BK386.out 1).trans rfl⟩ (fun hHeld => ?_)
     clear hK K
     refine norm_ (a' := ?_) ?_ ?_
     rotate_left
     ·show Act.put _ (some 45) _ = _
      simp only [Act.put,ls_,lz_,lc_,i64_w,i32_w]
      rfl
     refine pu_ (v := ?_) (a' := ?_) 9 46 (bz 13 1023) rfl rfl HT_ (by kernel_rfl) (fun _ _ _ h => h) (by rfl) ?_ ?_ ?_
     rotate_left;(intro w';go_simp;with_reducible rfl);rotate_left;(simp only [Act.put,ls_,lz_,lc_,i64_w,i32_w];rfl)
     refine pu_ (v := ?_) (a' := ?_) 10 47 (bz 13 2047) rfl rfl HT_ (by kernel_rfl) (fun _ _ _ h => h) (by rfl) ?_ ?_ ?_
     rotate_left;(intro w';go_simp;with_reducible rfl);rotate_left;(simp only [Act.put,ls_,lz_,lc_,i64_w,i32_w];rfl)
     refine on_ (N := none) 11 (bz 13 4095) rfl rfl HT_ (by kernel_rfl) (by decide) (fun K hK => ?_)
     have hs36 : w35.cell? ⟨gb387,0,none⟩ = some (.int .i64 0) := (kc_ BK387.out 0).trans rfl
     have hfs36 := kf_ BK387.out 0
     have hns36_0 := NB385_387.out
     have hns36_1 := NB386_387.out
     have hms36_0 := NB387_385.out
     have hms36_1 := NB387_386.out
     have hs37 : w35.cell? ⟨gb387,1,none⟩ = some (.int .i64 0) := (kc_ BK387.out 1).trans rfl
     have hfs37 := kf_ BK387.out 1
     have hns37_0 := NB385_387.out
     have hns37_1 := NB386_387.out
     have hms37_0 := NB387_385.out
     have hms37_1 := NB387_386.out
     refine skip_ (w1 := ?_) (by rfl) rfl ?_ ?_
     rotate_left
     ·go_simp
      rfl
     refine hK.out _ _ ⟨((cell_far (p := ⟨gb387,_,none⟩) NB385_387.out _).trans (((cell_far (p := ⟨gb387,_,none⟩) NB385_387.out _).trans (hHeld.1)))),((cell_far (p := ⟨gb387,_,none⟩) NB385_387.out _).trans (((cell_far (p := ⟨gb387,_,none⟩) NB385_387.out _).trans (hHeld.2.1)))),((cell_far (p := ⟨gb387,_,none⟩) NB386_387.out _).trans (((cell_far (p := ⟨gb387,_,none⟩) NB386_387.out _).trans (hHeld.2.2.1)))),((cell_far (p := ⟨gb387,_,none⟩) NB386_387.out _).trans (((cell_far (p := ⟨gb387,_,none⟩) NB386_387.out _).trans (hHeld.2.2.2))))⟩ (fun hHeld => ?_)
     clear hK K
     refine pu_ (v := ?_) (a' := ?_) 12 5 (bz 13 8191) rfl rfl HT_ (by kernel_rfl) (fun _ _ _ h => h) (by rfl) ?_ ?_ ?_
     rotate_left;(intro w';go_simp;with_reducible rfl);rotate_left;(simp only [Act.put,ls_,lz_,lc_,i64_w,i32_w];rfl)
     refine done_ (done_of HT_.out (by kernel_rfl)) ?_
     try go_wp2
     refine bodyPost_ret (results_ct rfl _ _ gb387 25 #[.int .i64 t391,.int .i64 t392] (0,0) _ rfl (by (with_reducible repeat first|apply kn_|apply kd_|apply ka_);refine blk_put (cs := #[.int .i64 t391,.int .i64 0]) ?_ 1 _ rfl;(with_reducible repeat first|apply kn_|apply kd_|apply ka_);refine blk_put (cs := #[.int .i64 0,.int .i64 0]) ?_ 0 _ rfl;(with_reducible repeat first|apply kn_|apply kd_|apply ka_);exact BK387.out) Tryd.underlying25 rfl (by kernel_rfl)) rfl ?_
     exact ⟨by first|rfl|(simp [errW_none,errW_some] <;> rfl)|(simp [*,errW_none,errW_some] <;> rfl),by repeat (first|(with_reducible first|exact HB.out|apply ba_|apply pd_|apply d1_|refine bs_ ?_ GE385.out|refine bs_ ?_ GE386.out|refine bs_ ?_ GE387.out)|exact HB.out)⟩

/-! ### neumelaw07_DurSplits: function 4 -/
def neumelaw07_DurSplits.l0 : Nat → List (S23) → Int → Int → Int → Int → Int → Option (Bool)
 | 0, _, _, _, _, _, _ => none
 | k + 1, x3, x6, x395000, x395001, x401000, x401001 => if x6 < (x3.length : Int) then (if 0 ≤ x6 then ((dur_Value.f k ((rd_T23 x3 x6).f0) ((rd_T23 x3 x6).f1)).bind fun bt403 => ((neumeref02_Add.f k x401000 x401001 bt403.1 bt403.2.1).bind fun bt407 => (if bt403.2.2 = 0 then (if bt407.2.2 = 0 then (if ((rd_T23 x3 x6).f1) = 0 then (if x6 > 0 then (if 0 ≤ (wrap64 (x6 - 1)) then (if (wrap64 (x6 - 1)) < (x3.length : Int) then (if ((rd_T23 x3 x6).f0) < ((rd_T23 x3 (wrap64 (x6 - 1))).f0) then (some false) else (neumelaw07_DurSplits.l0 k x3 (wrap64 (x6 + 1)) x395000 x395001 bt407.1 bt407.2.1)) else (none)) else (none)) else (neumelaw07_DurSplits.l0 k x3 (wrap64 (x6 + 1)) x395000 x395001 bt407.1 bt407.2.1)) else (some false)) else (some false)) else (some false)))) else (none)) else (if (x401000 == x395000 && (x401001 == x395001)) = true then (if (x3.length : Int) ≥ 1 then (if (x3.length : Int) ≤ 64 then ((neumelaw07_heads.f k).bind fun t401 => (some t401)) else (some false)) else (some false)) else (some false))
def neumelaw07_DurSplits.f (k : Nat) (a0_0 : Int) (a0_1 : Int) : Option (Bool) := (dur_Split.f k a0_0 a0_1).bind fun bt395 => (if bt395.2 = true then (neumelaw07_DurSplits.l0 k bt395.1 0 a0_0 a0_1 0 1) else (if (bt395.1.length : Int) = 0 then ((neumelaw07_heads.f k).bind fun t399 => (some t399)) else (some false)))
theorem neumelaw07_DurSplits.mono_l : ∀ k, (∀ y0 y1 y2 y3 y4 y5, LeO (neumelaw07_DurSplits.l0 k y0 y1 y2 y3 y4 y5) (neumelaw07_DurSplits.l0 (k + 1) y0 y1 y2 y3 y4 y5))
 | 0 => fun _ _ _ _ _ _ r h => by simp [neumelaw07_DurSplits.l0] at h
 | k + 1 => by
  have ih0 := neumelaw07_DurSplits.mono_l k
  ·intro y0 y1 y2 y3 y4 y5
   unfold neumelaw07_DurSplits.l0
   repeat' first
   | (with_reducible exact ih0 _ _ _ _ _ _)
   | (with_reducible exact dur_Split.mono _ _ _)
   | (with_reducible exact dur_Value.mono _ _ _)
   | (with_reducible exact neumelaw07_heads.mono _)
   | (with_reducible exact neumeref02_Add.mono _ _ _ _ _)
   | (with_reducible exact LeO.refl _)
   | (with_reducible exact LeO.none _)
   | (with_reducible refine LeO.ite ?_ ?_)
   | (with_reducible refine LeO.bind ?_ (fun _ => ?_))
   | exact ih0 _ _ _ _ _ _
   | exact dur_Split.mono _ _ _
   | exact dur_Value.mono _ _ _
   | exact neumelaw07_heads.mono _
   | exact neumeref02_Add.mono _ _ _ _ _
   | exact LeO.none _
   | refine LeO.ite ?_ ?_
   | refine LeO.bind ?_ (fun _ => ?_)
theorem neumelaw07_DurSplits.mono : ∀ a0 a1 k, LeO (neumelaw07_DurSplits.f k a0 a1) (neumelaw07_DurSplits.f (k + 1) a0 a1) := by
 intro a0 a1 k
 have ih0 := neumelaw07_DurSplits.mono_l k
 unfold neumelaw07_DurSplits.f
 repeat' first
   | (with_reducible exact ih0 _ _ _ _ _ _)
   | (with_reducible exact dur_Split.mono _ _ _)
   | (with_reducible exact dur_Value.mono _ _ _)
   | (with_reducible exact neumelaw07_heads.mono _)
   | (with_reducible exact neumeref02_Add.mono _ _ _ _ _)
   | (with_reducible exact LeO.refl _)
   | (with_reducible exact LeO.none _)
   | (with_reducible refine LeO.ite ?_ ?_)
   | (with_reducible refine LeO.bind ?_ (fun _ => ?_))
   | exact ih0 _ _ _ _ _ _
   | exact dur_Split.mono _ _ _
   | exact dur_Value.mono _ _ _
   | exact neumelaw07_heads.mono _
   | exact neumeref02_Add.mono _ _ _ _ _
   | exact LeO.none _
   | refine LeO.ite ?_ ?_
   | refine LeO.bind ?_ (fun _ => ?_)
set_option maxHeartbeats 8000000 in
set_option maxRecDepth 100000 in
theorem neumelaw07_DurSplits.calls (k : Nat) (a0_0 : Int) (a0_1 : Int) (r : Bool) (w : World) (hxt : Aside0 (r = true)) (h : neumelaw07_DurSplits.f k a0_0 a0_1 = some r) :
  Calls Tryd.prog 4 #[.agg #[.int .i64 a0_0,.int .i64 a0_1]] w fun e w' => e = .returned (.bool r) ∧ Below w.heap.size w w' := by
 have hu25 := Tryd.underlying25
 have hu23 := Tryd.underlying23
 have HB := sd_ (Below.refl w.heap.size w)
 have H : ((dur_Split.f k a0_0 a0_1).bind fun bt395 => (if bt395.2 = true then (neumelaw07_DurSplits.l0 k bt395.1 0 a0_0 a0_1 0 1) else (if (bt395.1.length : Int) = 0 then ((neumelaw07_heads.f k).bind fun t399 => (some t399)) else (some false)))) = some r := h
 clear h
 replace H := ob_ H
 obtain ⟨⟨t395,t398⟩,A20,H⟩ := H
 try dsimp only at H
 have A2 := sd_ A20
 clear A20
 by_cases c3 : t398 = true
 ·subst c3
  have H1 : (neumelaw07_DurSplits.l0 k t395 0 a0_0 a0_1 0 1) = some r := by rw [if_pos rfl] at H;exact H
  clear H;have H := H1;clear H1
  have H' := sd_ H
  clear H
  go_enter Tryd.func4,Tryd.ntmps4
  go_wp2_with (first|((with_reducible refine gate_dst (N := 1) rfl ?_);(try (refine gate_guard (by rfl) ?_;dsimp only));refine box_event ?hg (N := 1) ?hd (cs := #[.int .i64 a0_0,.int .i64 a0_1]) (t := 25) ?hr ?_;(case hd => rfl);(case hg => rfl);(case hr => first|(go_simp;done)|(go_simp;rfl));intro gb394 hg w4 hbox hb;have BK394 := sd_ hbox;have GW394 := gw_ HB e0_ hg;have GE394 := GW394;replace HB := hb_ HB e0_ hb;clear hb hbox hg;have hcz5_0 : w4.cell? ⟨gb394,0,none⟩ = some (.int .i64 a0_0) := (kc_ BK394.out 0).trans rfl;have hcz5_1 : w4.cell? ⟨gb394,1,none⟩ = some (.int .i64 a0_1) := (kc_ BK394.out 1).trans rfl;have hfz5_0 := kf_ BK394.out 0;have hfz5_1 := kf_ BK394.out 1)|(go_at_call 12;(with_reducible refine (dur_Split.calls k a0_0 a0_1 t395 true _ A2.out).mono ?_);rintro e w6 ⟨v396,rfl,ho0,hb⟩;have HO397 := sd_ (Kd.R_lower ho0 (bz_ (bb_ HB.out (e_ GE394 e0_))));replace BK394 := kb_ BK394 hb;replace HB := hb_ HB (e_ GE394 e0_) hb;(try clear hb);(try clear hb2);(try clear hk);(try clear hi);(try clear ho0))|((with_reducible refine gate_dst (N := 5) rfl ?_);(try (refine gate_guard (by rfl) ?_;dsimp only));refine box_event ?hg (N := 5) ?hd (cs := #[.int .i64 0,.int .i64 0]) (t := 25) ?hr ?_;(case hd => rfl);(case hg => rfl);(case hr => first|(go_simp;done)|(go_simp;rfl));intro gb400 hg w7 hbox hb;have BK400 := sd_ hbox;have GW400 := gw_ HB (e_ GE394 e0_) hg;have GE400 := GW400;have NB394_400 := nb_ BK394 hg;have NB400_394 := sy_ NB394_400;replace HO397 := sd_ (Kd.R_below (by (with_reducible repeat (first|apply Kd.R_alloc|apply Kd.R_drewN|apply Kd.R_drew));exact HO397.out) hb);replace BK394 := kb_ BK394 hb;replace HB := hb_ HB (e_ GE394 e0_) hb;clear hb hbox hg;have hnb8 := NB400_394.out;have hnc8 := NB394_400.out;have hcz9_0 : w7.cell? ⟨gb400,0,none⟩ = some (.int .i64 0) := (kc_ BK400.out 0).trans rfl;have hcz9_1 : w7.cell? ⟨gb400,1,none⟩ = some (.int .i64 0) := (kc_ BK400.out 1).trans rfl;have hfz9_0 := kf_ BK400.out 0;have hfz9_1 := kf_ BK400.out 1))
  repeat (go_quiet (first|((with_reducible refine gate_dst (N := 1) rfl ?_);(try (refine gate_guard (by rfl) ?_;dsimp only));refine box_event ?hg (N := 1) ?hd (cs := #[.int .i64 a0_0,.int .i64 a0_1]) (t := 25) ?hr ?_;(case hd => rfl);(case hg => rfl);(case hr => first|(go_simp;done)|(go_simp;rfl));intro gb394 hg w4 hbox hb;have BK394 := sd_ hbox;have GW394 := gw_ HB e0_ hg;have GE394 := GW394;replace HB := hb_ HB e0_ hb;clear hb hbox hg;have hcz5_0 : w4.cell? ⟨gb394,0,none⟩ = some (.int .i64 a0_0) := (kc_ BK394.out 0).trans rfl;have hcz5_1 : w4.cell? ⟨gb394,1,none⟩ = some (.int .i64 a0_1) := (kc_ BK394.out 1).trans rfl;have hfz5_0 := kf_ BK394.out 0;have hfz5_1 := kf_ BK394.out 1)|(go_at_call 12;(with_reducible refine (dur_Split.calls k a0_0 a0_1 t395 true _ A2.out).mono ?_);rintro e w6 ⟨v396,rfl,ho0,hb⟩;have HO397 := sd_ (Kd.R_lower ho0 (bz_ (bb_ HB.out (e_ GE394 e0_))));replace BK394 := kb_ BK394 hb;replace HB := hb_ HB (e_ GE394 e0_) hb;(try clear hb);(try clear hb2);(try clear hk);(try clear hi);(try clear ho0))|((with_reducible refine gate_dst (N := 5) rfl ?_);(try (refine gate_guard (by rfl) ?_;dsimp only));refine box_event ?hg (N := 5) ?hd (cs := #[.int .i64 0,.int .i64 0]) (t := 25) ?hr ?_;(case hd => rfl);(case hg => rfl);(case hr => first|(go_simp;done)|(go_simp;rfl));intro gb400 hg w7 hbox hb;have BK400 := sd_ hbox;have GW400 := gw_ HB (e_ GE394 e0_) hg;have GE400 := GW400;have NB394_400 := nb_ BK394 hg;have NB400_394 := sy_ NB394_400;replace HO397 := sd_ (Kd.R_below (by (with_reducible repeat (first|apply Kd.R_alloc|apply Kd.R_drewN|apply Kd.R_drew));exact HO397.out) hb);replace BK394 := kb_ BK394 hb;replace HB := hb_ HB (e_ GE394 e0_) hb;clear hb hbox hg;have hnb8 := NB400_394.out;have hnc8 := NB394_400.out;have hcz9_0 : w7.cell? ⟨gb400,0,none⟩ = some (.int .i64 0) := (kc_ BK400.out 0).trans rfl;have hcz9_1 : w7.cell? ⟨gb400,1,none⟩ = some (.int .i64 0) := (kc_ BK400.out 1).trans rfl;have hfz9_0 := kf_ BK400.out 0;have hfz9_1 := kf_ BK400.out 1));try go_wp2_with (first|((with_reducible refine gate_dst (N := 1) rfl ?_);(try (refine gate_guard (by rfl) ?_;dsimp only));refine box_event ?hg (N := 1) ?hd (cs := #[.int .i64 a0_0,.int .i64 a0_1]) (t := 25) ?hr ?_;(case hd => rfl);(case hg => rfl);(case hr => first|(go_simp;done)|(go_simp;rfl));intro gb394 hg w4 hbox hb;have BK394 := sd_ hbox;have GW394 := gw_ HB e0_ hg;have GE394 := GW394;replace HB := hb_ HB e0_ hb;clear hb hbox hg;have hcz5_0 : w4.cell? ⟨gb394,0,none⟩ = some (.int .i64 a0_0) := (kc_ BK394.out 0).trans rfl;have hcz5_1 : w4.cell? ⟨gb394,1,none⟩ = some (.int .i64 a0_1) := (kc_ BK394.out 1).trans rfl;have hfz5_0 := kf_ BK394.out 0;have hfz5_1 := kf_ BK394.out 1)|(go_at_call 12;(with_reducible refine (dur_Split.calls k a0_0 a0_1 t395 true _ A2.out).mono ?_);rintro e w6 ⟨v396,rfl,ho0,hb⟩;have HO397 := sd_ (Kd.R_lower ho0 (bz_ (bb_ HB.out (e_ GE394 e0_))));replace BK394 := kb_ BK394 hb;replace HB := hb_ HB (e_ GE394 e0_) hb;(try clear hb);(try clear hb2);(try clear hk);(try clear hi);(try clear ho0))|((with_reducible refine gate_dst (N := 5) rfl ?_);(try (refine gate_guard (by rfl) ?_;dsimp only));refine box_event ?hg (N := 5) ?hd (cs := #[.int .i64 0,.int .i64 0]) (t := 25) ?hr ?_;(case hd => rfl);(case hg => rfl);(case hr => first|(go_simp;done)|(go_simp;rfl));intro gb400 hg w7 hbox hb;have BK400 := sd_ hbox;have GW400 := gw_ HB (e_ GE394 e0_) hg;have GE400 := GW400;have NB394_400 := nb_ BK394 hg;have NB400_394 := sy_ NB394_400;replace HO397 := sd_ (Kd.R_below (by (with_reducible repeat (first|apply Kd.R_alloc|apply Kd.R_drewN|apply Kd.R_drew));exact HO397.out) hb);replace BK394 := kb_ BK394 hb;replace HB := hb_ HB (e_ GE394 e0_) hb;clear hb hbox hg;have hnb8 := NB400_394.out;have hnc8 := NB394_400.out;have hcz9_0 : w7.cell? ⟨gb400,0,none⟩ = some (.int .i64 0) := (kc_ BK400.out 0).trans rfl;have hcz9_1 : w7.cell? ⟨gb400,1,none⟩ = some (.int .i64 0) := (kc_ BK400.out 1).trans rfl;have hfz9_0 := kf_ BK400.out 0;have hfz9_1 := kf_ BK400.out 1)))
  go_loopg [6] k (fun kq v6 w' => ∃ (x6_1 : Int) (x401000_1 : Int) (x401001_1 : Int),v6 = .int .i64 x6_1 ∧ Aside0 (neumelaw07_DurSplits.l0 kq t395 x6_1 a0_0 a0_1 x401000_1 x401001_1 = some r) ∧ Aside0 (kq ≤ k) ∧ Aside0 (Kd.R k23 23 w' w.heap.size (fun _ => True) v396 t395) ∧ Aside0 (w'.heap[gb394]? = some (.cells #[.int .i64 a0_0,.int .i64 a0_1] 25 (0,0))) ∧ Aside0 (w'.heap[gb400]? = some (.cells #[.int .i64 x401000_1,.int .i64 x401001_1] 25 (0,0))) ∧ Aside0 (Below w.heap.size w w'))
  case atStart => exact ⟨(0),(0),(1),(by first|rfl|(simp;done)|(simp [*];done)|(simp [bne];done)),H',⟨Nat.le_refl _⟩,⟨by (with_reducible repeat (first|apply Kd.R_alloc|apply Kd.R_drewN|apply Kd.R_drew));exact Kd.R_mono (Kd.R_far (p := ⟨gb400,1,none⟩) (Kd.R_far (p := ⟨gb400,0,none⟩) (Kd.R_types HO397.out BK400.out (by decide)) (fun _ hk => hk.2) (.int .i64 0)) (fun _ hk => hk.2) (.int .i64 1)) (fun _ hk => trivial)⟩,⟨by (with_reducible repeat first|apply kn_|apply kd_|apply ka_);refine blk_far ?_ NB394_400.out _;(with_reducible repeat first|apply kn_|apply kd_|apply ka_);refine blk_far ?_ NB394_400.out _;(with_reducible repeat first|apply kn_|apply kd_|apply ka_);exact BK394.out⟩,⟨by (with_reducible repeat first|apply kn_|apply kd_|apply ka_);refine blk_put (cs := #[.int .i64 0,.int .i64 0]) ?_ 1 _ rfl;(with_reducible repeat first|apply kn_|apply kd_|apply ka_);refine blk_put (cs := #[.int .i64 0,.int .i64 0]) ?_ 0 _ rfl;(with_reducible repeat first|apply kn_|apply kd_|apply ka_);exact BK400.out⟩,⟨by repeat (first|(with_reducible first|exact HB.out|apply ba_|apply pd_|apply d1_|refine bs_ ?_ GE394.out|refine bs_ ?_ GE400.out)|exact HB.out)⟩⟩
  case round =>
   clear H'
   try clear p2;try clear c3;try clear c4;try clear c8;try clear hcz5_0;try clear hcz5_1;try clear hcz9_0;try clear hcz9_1;try clear hfz5_0;try clear hfz5_1;try clear hfz9_0;try clear hfz9_1
   obtain ⟨x6_1,x401000_1,x401001_1,rfl,HA,HK1,HO_3,BK394,BK400,HB⟩ := hrel
   cases gk with
   | zero => exact absurd HA.out (by simp [neumelaw07_DurSplits.l0])
   | succ k1 =>
    have H := HA.out
    clear HA
    simp only [neumelaw07_DurSplits.l0] at H
    by_cases c10 : x6_1 < (t395.length : Int)
    ·rw [if_pos c10] at H
     have c10b0 : decide (x6_1 < (t395.length : Int)) = true := dt_ c10
     clear c10
     by_cases c11 : 0 ≤ x6_1
     ·rw [if_pos c11] at H
      have c11b0 : decide (0 ≤ x6_1) = true := dt_ c11
      clear c11
      replace H := ob_ H
      obtain ⟨⟨t403,t404,t405⟩,A120,H⟩ := H
      try dsimp only at H
      have A12 := sd_ A120
      clear A120
      replace H := ob_ H
      obtain ⟨⟨t407,t408,t409⟩,A130,H⟩ := H
      try dsimp only at H
      have A13 := sd_ A130
      clear A130
      by_cases c14 : t405 = 0
      ·rw [if_pos c14] at H
       have c14b0 : (t405 == 0) = true := beq_iff_eq.mpr c14
       have c14b1 : (t405 != 0) = false := bne_eq_false_iff_eq.mpr c14
       clear c14
       by_cases c15 : t409 = 0
       ·rw [if_pos c15] at H
        have c15b0 : (t409 == 0) = true := beq_iff_eq.mpr c15
        have c15b1 : (t409 != 0) = false := bne_eq_false_iff_eq.mpr c15
        clear c15
        by_cases c16 : ((rd_T23 t395 x6_1).f1) = 0
        ·rw [if_pos c16] at H
         have c16b0 : (((rd_T23 t395 x6_1).f1) == 0) = true := beq_iff_eq.mpr c16
         have c16b1 : (((rd_T23 t395 x6_1).f1) != 0) = false := bne_eq_false_iff_eq.mpr c16
         clear c16
         by_cases c17 : x6_1 > 0
         ·rw [if_pos c17] at H
          have c17b0 : decide (0 < x6_1) = true := dt_ c17
          clear c17
          obtain ⟨ji18,hji18⟩ : ∃ j_ : Int,(wrap64 (x6_1 - 1)) = j_ := ⟨_,rfl⟩
          replace H : (if 0 ≤ (ji18) then (if (ji18) < (t395.length : Int) then (if ((rd_T23 t395 x6_1).f0) < ((rd_T23 t395 (ji18)).f0) then (some false) else (neumelaw07_DurSplits.l0 k1 t395 (wrap64 (x6_1 + 1)) a0_0 a0_1 t407 t408)) else (none)) else (none)) = some r := by first|(rw [hji18] at H;exact H)|(simp only [hji18] at H ⊢;exact H)
          (try rw [hji18] at A12)
          (try rw [hji18] at A13)
          have hji18w : (IntKind.i64.wrap (x6_1 - 1)) = ji18 := (i64_w _).trans hji18
          by_cases c19 : 0 ≤ (ji18)
          ·rw [if_pos c19] at H
           have c19b0 : decide (0 ≤ (ji18)) = true := dt_ c19
           clear c19
           by_cases c20 : (ji18) < (t395.length : Int)
           ·rw [if_pos c20] at H
            have c20b0 : decide ((ji18) < (t395.length : Int)) = true := dt_ c20
            clear c20
            by_cases c21 : ((rd_T23 t395 x6_1).f0) < ((rd_T23 t395 (ji18)).f0)
            ·rw [if_pos c21] at H
             have c21b0 : decide (((rd_T23 t395 x6_1).f0) < ((rd_T23 t395 (ji18)).f0)) = true := dt_ c21
             clear c21
             exact absurd ((Option.some.inj H).trans hxt.out) (by decide)
            ·rw [if_neg c21] at H
             have c21b0 : decide (((rd_T23 t395 x6_1).f0) < ((rd_T23 t395 (ji18)).f0)) = false := df_ c21
             clear c21
             have H' := sd_ H
             clear H
             obtain ⟨Ao22,co22,eo22⟩ := Kd.R_slice HO_3.out
             subst eo22
             have p402 : 0 ≤ (x6_1 : Int) := od_ (by first|(with_reducible assumption)|assumption)
             have q402 : x6_1 < (t395.length : Int) := od_ (by first|(with_reducible assumption)|assumption)
             obtain ⟨ad402,e402,hx402_0,hx402_1⟩ := at_T23 (Kd.R_reads' HO_3.out).2.2 x6_1 p402 q402
             cases e402
             replace p402 := eq_true p402
             replace q402 := eq_true q402
             go_wp2_with (first|(go_at_call 6;(with_reducible refine (dur_Value.calls k1 ((rd_T23 t395 x6_1).f0) ((rd_T23 t395 x6_1).f1) t403 t404 t405 _ A12.out).mono ?_);rintro e w23 ⟨rfl,hb⟩;replace HO_3 := sd_ (Kd.R_below (by (with_reducible repeat (first|apply Kd.R_alloc|apply Kd.R_drewN|apply Kd.R_drew));exact HO_3.out) hb);replace BK394 := kb_ BK394 hb;replace BK400 := kb_ BK400 hb;replace HB := hb_ HB (e_ GE394 (e_ GE400 e0_)) hb;(try clear hb);(try clear hb2);(try clear hk);(try clear hi))|((with_reducible refine gate_dst (N := 7) rfl ?_);(try (refine gate_guard (by rfl) ?_;dsimp only));refine box_event ?hg (N := 7) ?hd (cs := #[.int .i64 0,.int .i64 0]) (t := 25) ?hr ?_;(case hd => rfl);(case hg => rfl);(case hr => first|(go_simp;done)|(go_simp;rfl));intro gb406 hg w24 hbox hb;have BK406 := sd_ hbox;have GW406 := gw_ HB (e_ GE394 (e_ GE400 e0_)) hg;have GE406 := GW406;have NB394_406 := nb_ BK394 hg;have NB406_394 := sy_ NB394_406;have NB400_406 := nb_ BK400 hg;have NB406_400 := sy_ NB400_406;replace HO_3 := sd_ (Kd.R_below (by (with_reducible repeat (first|apply Kd.R_alloc|apply Kd.R_drewN|apply Kd.R_drew));exact HO_3.out) hb);replace BK394 := kb_ BK394 hb;replace BK400 := kb_ BK400 hb;replace HB := hb_ HB (e_ GE394 (e_ GE400 e0_)) hb;clear hb hbox hg;have hnb25 := NB406_394.out;have hnc25 := NB394_406.out;have hnb26 := NB406_400.out;have hnc26 := NB400_406.out;have hcz27_0 : w24.cell? ⟨gb406,0,none⟩ = some (.int .i64 0) := (kc_ BK406.out 0).trans rfl;have hcz27_1 : w24.cell? ⟨gb406,1,none⟩ = some (.int .i64 0) := (kc_ BK406.out 1).trans rfl;have hfz27_0 := kf_ BK406.out 0;have hfz27_1 := kf_ BK406.out 1;have hnb28 := NB400_394.out;have hnc28 := NB394_400.out;have hcz29_0 : w24.cell? ⟨gb400,0,none⟩ = some (.int .i64 x401000_1) := (kc_ BK400.out 0).trans rfl;have hcz29_1 : w24.cell? ⟨gb400,1,none⟩ = some (.int .i64 x401001_1) := (kc_ BK400.out 1).trans rfl;have hfz29_0 := kf_ BK400.out 0;have hfz29_1 := kf_ BK400.out 1)|(go_at_call 13;(with_reducible refine (neumeref02_Add.calls k1 x401000_1 x401001_1 t403 t404 t407 t408 t409 _ A13.out).mono ?_);rintro e w30 ⟨rfl,hb⟩;have n0_ := sd_ (Kd.R_below (by (with_reducible repeat (first|apply Kd.R_alloc|apply Kd.R_drewN|apply Kd.R_drew));exact (Kd.R_mono (Kd.R_far (p := ⟨gb406,1,none⟩) (Kd.R_far (p := ⟨gb406,0,none⟩) (Kd.R_types HO_3.out BK406.out (by decide)) (fun _ hk => hk.2) (.int .i64 t403)) (fun _ hk => hk.2) (.int .i64 t404)) (fun _ h_ => h_.1))) hb);have n1_ := sd_ (blk_below (g := gb394) (o := .cells #[.int .i64 a0_0,.int .i64 a0_1] 25 (0,0)) (by (with_reducible repeat first|apply kn_|apply kd_|apply ka_);refine blk_far ?_ NB394_406.out _;(with_reducible repeat first|apply kn_|apply kd_|apply ka_);refine blk_far ?_ NB394_406.out _;(with_reducible repeat first|apply kn_|apply kd_|apply ka_);exact BK394.out) hb);have n2_ := sd_ (blk_below (g := gb400) (o := .cells #[.int .i64 x401000_1,.int .i64 x401001_1] 25 (0,0)) (by (with_reducible repeat first|apply kn_|apply kd_|apply ka_);refine blk_far ?_ NB400_406.out _;(with_reducible repeat first|apply kn_|apply kd_|apply ka_);refine blk_far ?_ NB400_406.out _;(with_reducible repeat first|apply kn_|apply kd_|apply ka_);exact BK400.out) hb);have n3_ := sd_ (blk_below (g := gb406) (o := .cells #[.int .i64 t403,.int .i64 t404] 25 (0,0)) (by (with_reducible repeat first|apply kn_|apply kd_|apply ka_);refine blk_put (cs := #[.int .i64 t403,.int .i64 0]) ?_ 1 _ rfl;(with_reducible repeat first|apply kn_|apply kd_|apply ka_);refine blk_put (cs := #[.int .i64 0,.int .i64 0]) ?_ 0 _ rfl;(with_reducible repeat first|apply kn_|apply kd_|apply ka_);exact BK406.out) hb);have n4_ := hb_ HB (e_ GE394 (e_ GE400 (e_ GE406 e0_))) hb;clear HO_3;clear BK394;clear BK400;clear BK406;clear HB;have HO_3 := n0_;have BK394 := n1_;have BK400 := n2_;have BK406 := n3_;have HB := n4_;clear n0_ n1_ n2_ n3_ n4_;(try clear hb);(try clear hb2);(try clear hk);(try clear hi))|((with_reducible refine gate_dst (N := 9) rfl ?_);(try (refine gate_guard (by rfl) ?_;dsimp only));refine box_event ?hg (N := 9) ?hd (cs := #[.int .i64 0,.int .i64 0]) (t := 25) ?hr ?_;(case hd => rfl);(case hg => rfl);(case hr => first|(go_simp;done)|(go_simp;rfl));intro gb410 hg w31 hbox hb;have BK410 := sd_ hbox;have GW410 := gw_ HB (e_ GE394 (e_ GE400 (e_ GE406 e0_))) hg;have GE410 := GW410;have NB394_410 := nb_ BK394 hg;have NB410_394 := sy_ NB394_410;have NB400_410 := nb_ BK400 hg;have NB410_400 := sy_ NB400_410;have NB406_410 := nb_ BK406 hg;have NB410_406 := sy_ NB406_410;replace HO_3 := sd_ (Kd.R_below (by (with_reducible repeat (first|apply Kd.R_alloc|apply Kd.R_drewN|apply Kd.R_drew));exact HO_3.out) hb);replace BK394 := kb_ BK394 hb;replace BK400 := kb_ BK400 hb;replace BK406 := kb_ BK406 hb;replace HB := hb_ HB (e_ GE394 (e_ GE400 (e_ GE406 e0_))) hb;clear hb hbox hg;have hnb32 := NB410_394.out;have hnc32 := NB394_410.out;have hnb33 := NB410_400.out;have hnc33 := NB400_410.out;have hnb34 := NB410_406.out;have hnc34 := NB406_410.out;have hcz35_0 : w31.cell? ⟨gb410,0,none⟩ = some (.int .i64 0) := (kc_ BK410.out 0).trans rfl;have hcz35_1 : w31.cell? ⟨gb410,1,none⟩ = some (.int .i64 0) := (kc_ BK410.out 1).trans rfl;have hfz35_0 := kf_ BK410.out 0;have hfz35_1 := kf_ BK410.out 1;have p411 : 0 ≤ (x6_1 : Int) := od_ (by first|(with_reducible assumption)|assumption);have q411 : x6_1 < (t395.length : Int) := od_ (by first|(with_reducible assumption)|assumption);obtain ⟨ad411,e411,hx411_0,hx411_1⟩ := at_T23 (Kd.R_reads' HO_3.out).2.2 x6_1 p411 q411;obtain rfl : ad402 = ad411 := (by injection e411);have hn411_0 : ad402.block ≠ gb410 := Kd.own_blk (Kd.R_ne HO_3.out BK410.out (by decide));have hn411_1 : ad402.block ≠ gb410 := Kd.own_blk (Kd.R_ne HO_3.out BK410.out (by decide));replace hx411_0 := (cell_far (p := ⟨gb410,0,none⟩) (by first|(rw [ak_];exact hn411_0)|(show (Addr.add _ _).block ≠ _;rw [ak_];exact hn411_0)|exact hn411_0) (.int .i64 t407)).trans hx411_0;replace hx411_1 := (cell_far (p := ⟨gb410,0,none⟩) (by first|(rw [ak_];exact hn411_0)|(show (Addr.add _ _).block ≠ _;rw [ak_];exact hn411_0)|exact hn411_0) (.int .i64 t407)).trans hx411_1;replace hx411_0 := (cell_far (p := ⟨gb410,1,none⟩) (by first|(rw [ak_];exact hn411_1)|(show (Addr.add _ _).block ≠ _;rw [ak_];exact hn411_1)|exact hn411_1) (.int .i64 t408)).trans hx411_0;replace hx411_1 := (cell_far (p := ⟨gb410,1,none⟩) (by first|(rw [ak_];exact hn411_1)|(show (Addr.add _ _).block ≠ _;rw [ak_];exact hn411_1)|exact hn411_1) (.int .i64 t408)).trans hx411_1;(try have hy411_0 := fun (n_ : Nat) => (show ((((w31.drewN n_).setCell ⟨gb410,0,none⟩ (.int .i64 t407)).setCell ⟨gb410,1,none⟩ (.int .i64 t408))).cell? _ = some _ from hx411_0));(try have hy411_1 := fun (n_ : Nat) => (show ((((w31.drewN n_).setCell ⟨gb410,0,none⟩ (.int .i64 t407)).setCell ⟨gb410,1,none⟩ (.int .i64 t408))).cell? _ = some _ from hx411_1));clear hn411_0;clear hn411_1;replace p411 := eq_true p411;replace q411 := eq_true q411;have p412 : 0 ≤ (x6_1 : Int) := od_ (by first|(with_reducible assumption)|assumption);have q412 : x6_1 < (t395.length : Int) := od_ (by first|(with_reducible assumption)|assumption);obtain ⟨ad412,e412,hx412_0,hx412_1⟩ := at_T23 (Kd.R_reads' HO_3.out).2.2 x6_1 p412 q412;obtain rfl : ad402 = ad412 := (by injection e412);have hn412_0 : ad402.block ≠ gb410 := Kd.own_blk (Kd.R_ne HO_3.out BK410.out (by decide));have hn412_1 : ad402.block ≠ gb410 := Kd.own_blk (Kd.R_ne HO_3.out BK410.out (by decide));replace hx412_0 := (cell_far (p := ⟨gb410,0,none⟩) (by first|(rw [ak_];exact hn412_0)|(show (Addr.add _ _).block ≠ _;rw [ak_];exact hn412_0)|exact hn412_0) (.int .i64 t407)).trans hx412_0;replace hx412_1 := (cell_far (p := ⟨gb410,0,none⟩) (by first|(rw [ak_];exact hn412_0)|(show (Addr.add _ _).block ≠ _;rw [ak_];exact hn412_0)|exact hn412_0) (.int .i64 t407)).trans hx412_1;replace hx412_0 := (cell_far (p := ⟨gb410,1,none⟩) (by first|(rw [ak_];exact hn412_1)|(show (Addr.add _ _).block ≠ _;rw [ak_];exact hn412_1)|exact hn412_1) (.int .i64 t408)).trans hx412_0;replace hx412_1 := (cell_far (p := ⟨gb410,1,none⟩) (by first|(rw [ak_];exact hn412_1)|(show (Addr.add _ _).block ≠ _;rw [ak_];exact hn412_1)|exact hn412_1) (.int .i64 t408)).trans hx412_1;(try have hy412_0 := fun (n_ : Nat) => (show ((((w31.drewN n_).setCell ⟨gb410,0,none⟩ (.int .i64 t407)).setCell ⟨gb410,1,none⟩ (.int .i64 t408))).cell? _ = some _ from hx412_0));(try have hy412_1 := fun (n_ : Nat) => (show ((((w31.drewN n_).setCell ⟨gb410,0,none⟩ (.int .i64 t407)).setCell ⟨gb410,1,none⟩ (.int .i64 t408))).cell? _ = some _ from hx412_1));clear hn412_0;clear hn412_1;replace p412 := eq_true p412;replace q412 := eq_true q412;have p413 : 0 ≤ ((ji18) : Int) := od_ (by first|(with_reducible assumption)|assumption);have q413 : (ji18) < (t395.length : Int) := od_ (by first|(with_reducible assumption)|assumption);obtain ⟨ad413,e413,hx413_0,hx413_1⟩ := at_T23 (Kd.R_reads' HO_3.out).2.2 (ji18) p413 q413;obtain rfl : ad402 = ad413 := (by injection e413);have hn413_0 : ad402.block ≠ gb410 := Kd.own_blk (Kd.R_ne HO_3.out BK410.out (by decide));have hn413_1 : ad402.block ≠ gb410 := Kd.own_blk (Kd.R_ne HO_3.out BK410.out (by decide));replace hx413_0 := (cell_far (p := ⟨gb410,0,none⟩) (by first|(rw [ak_];exact hn413_0)|(show (Addr.add _ _).block ≠ _;rw [ak_];exact hn413_0)|exact hn413_0) (.int .i64 t407)).trans hx413_0;replace hx413_1 := (cell_far (p := ⟨gb410,0,none⟩) (by first|(rw [ak_];exact hn413_0)|(show (Addr.add _ _).block ≠ _;rw [ak_];exact hn413_0)|exact hn413_0) (.int .i64 t407)).trans hx413_1;replace hx413_0 := (cell_far (p := ⟨gb410,1,none⟩) (by first|(rw [ak_];exact hn413_1)|(show (Addr.add _ _).block ≠ _;rw [ak_];exact hn413_1)|exact hn413_1) (.int .i64 t408)).trans hx413_0;replace hx413_1 := (cell_far (p := ⟨gb410,1,none⟩) (by first|(rw [ak_];exact hn413_1)|(show (Addr.add _ _).block ≠ _;rw [ak_];exact hn413_1)|exact hn413_1) (.int .i64 t408)).trans hx413_1;(try have hy413_0 := fun (n_ : Nat) => (show ((((w31.drewN n_).setCell ⟨gb410,0,none⟩ (.int .i64 t407)).setCell ⟨gb410,1,none⟩ (.int .i64 t408))).cell? _ = some _ from hx413_0));(try have hy413_1 := fun (n_ : Nat) => (show ((((w31.drewN n_).setCell ⟨gb410,0,none⟩ (.int .i64 t407)).setCell ⟨gb410,1,none⟩ (.int .i64 t408))).cell? _ = some _ from hx413_1));clear hn413_0;clear hn413_1;replace p413 := eq_true p413;replace q413 := eq_true q413;have hcz36_0 : w31.cell? ⟨gb400,0,none⟩ = some (.int .i64 x401000_1) := (kc_ BK400.out 0).trans rfl;have hcz36_1 : w31.cell? ⟨gb400,1,none⟩ = some (.int .i64 x401001_1) := (kc_ BK400.out 1).trans rfl;have hfz36_0 := kf_ BK400.out 0;have hfz36_1 := kf_ BK400.out 1))
             repeat (go_quiet (first|(go_at_call 6;(with_reducible refine (dur_Value.calls k1 ((rd_T23 t395 x6_1).f0) ((rd_T23 t395 x6_1).f1) t403 t404 t405 _ A12.out).mono ?_);rintro e w23 ⟨rfl,hb⟩;replace HO_3 := sd_ (Kd.R_below (by (with_reducible repeat (first|apply Kd.R_alloc|apply Kd.R_drewN|apply Kd.R_drew));exact HO_3.out) hb);replace BK394 := kb_ BK394 hb;replace BK400 := kb_ BK400 hb;replace HB := hb_ HB (e_ GE394 (e_ GE400 e0_)) hb;(try clear hb);(try clear hb2);(try clear hk);(try clear hi))|((with_reducible refine gate_dst (N := 7) rfl ?_);(try (refine gate_guard (by rfl) ?_;dsimp only));refine box_event ?hg (N := 7) ?hd (cs := #[.int .i64 0,.int .i64 0]) (t := 25) ?hr ?_;(case hd => rfl);(case hg => rfl);(case hr => first|(go_simp;done)|(go_simp;rfl));intro gb406 hg w24 hbox hb;have BK406 := sd_ hbox;have GW406 := gw_ HB (e_ GE394 (e_ GE400 e0_)) hg;have GE406 := GW406;have NB394_406 := nb_ BK394 hg;have NB406_394 := sy_ NB394_406;have NB400_406 := nb_ BK400 hg;have NB406_400 := sy_ NB400_406;replace HO_3 := sd_ (Kd.R_below (by (with_reducible repeat (first|apply Kd.R_alloc|apply Kd.R_drewN|apply Kd.R_drew));exact HO_3.out) hb);replace BK394 := kb_ BK394 hb;replace BK400 := kb_ BK400 hb;replace HB := hb_ HB (e_ GE394 (e_ GE400 e0_)) hb;clear hb hbox hg;have hnb25 := NB406_394.out;have hnc25 := NB394_406.out;have hnb26 := NB406_400.out;have hnc26 := NB400_406.out;have hcz27_0 : w24.cell? ⟨gb406,0,none⟩ = some (.int .i64 0) := (kc_ BK406.out 0).trans rfl;have hcz27_1 : w24.cell? ⟨gb406,1,none⟩ = some (.int .i64 0) := (kc_ BK406.out 1).trans rfl;have hfz27_0 := kf_ BK406.out 0;have hfz27_1 := kf_ BK406.out 1;have hnb28 := NB400_394.out;have hnc28 := NB394_400.out;have hcz29_0 : w24.cell? ⟨gb400,0,none⟩ = some (.int .i64 x401000_1) := (kc_ BK400.out 0).trans rfl;have hcz29_1 : w24.cell? ⟨gb400,1,none⟩ = some (.int .i64 x401001_1) := (kc_ BK400.out 1).trans rfl;have hfz29_0 := kf_ BK400.out 0;have hfz29_1 := kf_ BK400.out 1)|(go_at_call 13;(with_reducible refine (neumeref02_Add.calls k1 x401000_1 x401001_1 t403 t404 t407 t408 t409 _ A13.out).mono ?_);rintro e w30 ⟨rfl,hb⟩;have n0_ := sd_ (Kd.R_below (by (with_reducible repeat (first|apply Kd.R_alloc|apply Kd.R_drewN|apply Kd.R_drew));exact (Kd.R_mono (Kd.R_far (p := ⟨gb406,1,none⟩) (Kd.R_far (p := ⟨gb406,0,none⟩) (Kd.R_types HO_3.out BK406.out (by decide)) (fun _ hk => hk.2) (.int .i64 t403)) (fun _ hk => hk.2) (.int .i64 t404)) (fun _ h_ => h_.1))) hb);have n1_ := sd_ (blk_below (g := gb394) (o := .cells #[.int .i64 a0_0,.int .i64 a0_1] 25 (0,0)) (by (with_reducible repeat first|apply kn_|apply kd_|apply ka_);refine blk_far ?_ NB394_406.out _;(with_reducible repeat first|apply kn_|apply kd_|apply ka_);refine blk_far ?_ NB394_406.out _;(with_reducible repeat first|apply kn_|apply kd_|apply ka_);exact BK394.out) hb);have n2_ := sd_ (blk_below (g := gb400) (o := .cells #[.int .i64 x401000_1,.int .i64 x401001_1] 25 (0,0)) (by (with_reducible repeat first|apply kn_|apply kd_|apply ka_);refine blk_far ?_ NB400_406.out _;(with_reducible repeat first|apply kn_|apply kd_|apply ka_);refine blk_far ?_ NB400_406.out _;(with_reducible repeat first|apply kn_|apply kd_|apply ka_);exact BK400.out) hb);have n3_ := sd_ (blk_below (g := gb406) (o := .cells #[.int .i64 t403,.int .i64 t404] 25 (0,0)) (by (with_reducible repeat first|apply kn_|apply kd_|apply ka_);refine blk_put (cs := #[.int .i64 t403,.int .i64 0]) ?_ 1 _ rfl;(with_reducible repeat first|apply kn_|apply kd_|apply ka_);refine blk_put (cs := #[.int .i64 0,.int .i64 0]) ?_ 0 _ rfl;(with_reducible repeat first|apply kn_|apply kd_|apply ka_);exact BK406.out) hb);have n4_ := hb_ HB (e_ GE394 (e_ GE400 (e_ GE406 e0_))) hb;clear HO_3;clear BK394;clear BK400;clear BK406;clear HB;have HO_3 := n0_;have BK394 := n1_;have BK400 := n2_;have BK406 := n3_;have HB := n4_;clear n0_ n1_ n2_ n3_ n4_;(try clear hb);(try clear hb2);(try clear hk);(try clear hi))|((with_reducible refine gate_dst (N := 9) rfl ?_);(try (refine gate_guard (by rfl) ?_;dsimp only));refine box_event ?hg (N := 9) ?hd (cs := #[.int .i64 0,.int .i64 0]) (t := 25) ?hr ?_;(case hd => rfl);(case hg => rfl);(case hr => first|(go_simp;done)|(go_simp;rfl));intro gb410 hg w31 hbox hb;have BK410 := sd_ hbox;have GW410 := gw_ HB (e_ GE394 (e_ GE400 (e_ GE406 e0_))) hg;have GE410 := GW410;have NB394_410 := nb_ BK394 hg;have NB410_394 := sy_ NB394_410;have NB400_410 := nb_ BK400 hg;have NB410_400 := sy_ NB400_410;have NB406_410 := nb_ BK406 hg;have NB410_406 := sy_ NB406_410;replace HO_3 := sd_ (Kd.R_below (by (with_reducible repeat (first|apply Kd.R_alloc|apply Kd.R_drewN|apply Kd.R_drew));exact HO_3.out) hb);replace BK394 := kb_ BK394 hb;replace BK400 := kb_ BK400 hb;replace BK406 := kb_ BK406 hb;replace HB := hb_ HB (e_ GE394 (e_ GE400 (e_ GE406 e0_))) hb;clear hb hbox hg;have hnb32 := NB410_394.out;have hnc32 := NB394_410.out;have hnb33 := NB410_400.out;have hnc33 := NB400_410.out;have hnb34 := NB410_406.out;have hnc34 := NB406_410.out;have hcz35_0 : w31.cell? ⟨gb410,0,none⟩ = some (.int .i64 0) := (kc_ BK410.out 0).trans rfl;have hcz35_1 : w31.cell? ⟨gb410,1,none⟩ = some (.int .i64 0) := (kc_ BK410.out 1).trans rfl;have hfz35_0 := kf_ BK410.out 0;have hfz35_1 := kf_ BK410.out 1;have p411 : 0 ≤ (x6_1 : Int) := od_ (by first|(with_reducible assumption)|assumption);have q411 : x6_1 < (t395.length : Int) := od_ (by first|(with_reducible assumption)|assumption);obtain ⟨ad411,e411,hx411_0,hx411_1⟩ := at_T23 (Kd.R_reads' HO_3.out).2.2 x6_1 p411 q411;obtain rfl : ad402 = ad411 := (by injection e411);have hn411_0 : ad402.block ≠ gb410 := Kd.own_blk (Kd.R_ne HO_3.out BK410.out (by decide));have hn411_1 : ad402.block ≠ gb410 := Kd.own_blk (Kd.R_ne HO_3.out BK410.out (by decide));replace hx411_0 := (cell_far (p := ⟨gb410,0,none⟩) (by first|(rw [ak_];exact hn411_0)|(show (Addr.add _ _).block ≠ _;rw [ak_];exact hn411_0)|exact hn411_0) (.int .i64 t407)).trans hx411_0;replace hx411_1 := (cell_far (p := ⟨gb410,0,none⟩) (by first|(rw [ak_];exact hn411_0)|(show (Addr.add _ _).block ≠ _;rw [ak_];exact hn411_0)|exact hn411_0) (.int .i64 t407)).trans hx411_1;replace hx411_0 := (cell_far (p := ⟨gb410,1,none⟩) (by first|(rw [ak_];exact hn411_1)|(show (Addr.add _ _).block ≠ _;rw [ak_];exact hn411_1)|exact hn411_1) (.int .i64 t408)).trans hx411_0;replace hx411_1 := (cell_far (p := ⟨gb410,1,none⟩) (by first|(rw [ak_];exact hn411_1)|(show (Addr.add _ _).block ≠ _;rw [ak_];exact hn411_1)|exact hn411_1) (.int .i64 t408)).trans hx411_1;(try have hy411_0 := fun (n_ : Nat) => (show ((((w31.drewN n_).setCell ⟨gb410,0,none⟩ (.int .i64 t407)).setCell ⟨gb410,1,none⟩ (.int .i64 t408))).cell? _ = some _ from hx411_0));(try have hy411_1 := fun (n_ : Nat) => (show ((((w31.drewN n_).setCell ⟨gb410,0,none⟩ (.int .i64 t407)).setCell ⟨gb410,1,none⟩ (.int .i64 t408))).cell? _ = some _ from hx411_1));clear hn411_0;clear hn411_1;replace p411 := eq_true p411;replace q411 := eq_true q411;have p412 : 0 ≤ (x6_1 : Int) := od_ (by first|(with_reducible assumption)|assumption);have q412 : x6_1 < (t395.length : Int) := od_ (by first|(with_reducible assumption)|assumption);obtain ⟨ad412,e412,hx412_0,hx412_1⟩ := at_T23 (Kd.R_reads' HO_3.out).2.2 x6_1 p412 q412;obtain rfl : ad402 = ad412 := (by injection e412);have hn412_0 : ad402.block ≠ gb410 := Kd.own_blk (Kd.R_ne HO_3.out BK410.out (by decide));have hn412_1 : ad402.block ≠ gb410 := Kd.own_blk (Kd.R_ne HO_3.out BK410.out (by decide));replace hx412_0 := (cell_far (p := ⟨gb410,0,none⟩) (by first|(rw [ak_];exact hn412_0)|(show (Addr.add _ _).block ≠ _;rw [ak_];exact hn412_0)|exact hn412_0) (.int .i64 t407)).trans hx412_0;replace hx412_1 := (cell_far (p := ⟨gb410,0,none⟩) (by first|(rw [ak_];exact hn412_0)|(show (Addr.add _ _).block ≠ _;rw [ak_];exact hn412_0)|exact hn412_0) (.int .i64 t407)).trans hx412_1;replace hx412_0 := (cell_far (p := ⟨gb410,1,none⟩) (by first|(rw [ak_];exact hn412_1)|(show (Addr.add _ _).block ≠ _;rw [ak_];exact hn412_1)|exact hn412_1) (.int .i64 t408)).trans hx412_0;replace hx412_1 := (cell_far (p := ⟨gb410,1,none⟩) (by first|(rw [ak_];exact hn412_1)|(show (Addr.add _ _).block ≠ _;rw [ak_];exact hn412_1)|exact hn412_1) (.int .i64 t408)).trans hx412_1;(try have hy412_0 := fun (n_ : Nat) => (show ((((w31.drewN n_).setCell ⟨gb410,0,none⟩ (.int .i64 t407)).setCell ⟨gb410,1,none⟩ (.int .i64 t408))).cell? _ = some _ from hx412_0));(try have hy412_1 := fun (n_ : Nat) => (show ((((w31.drewN n_).setCell ⟨gb410,0,none⟩ (.int .i64 t407)).setCell ⟨gb410,1,none⟩ (.int .i64 t408))).cell? _ = some _ from hx412_1));clear hn412_0;clear hn412_1;replace p412 := eq_true p412;replace q412 := eq_true q412;have p413 : 0 ≤ ((ji18) : Int) := od_ (by first|(with_reducible assumption)|assumption);have q413 : (ji18) < (t395.length : Int) := od_ (by first|(with_reducible assumption)|assumption);obtain ⟨ad413,e413,hx413_0,hx413_1⟩ := at_T23 (Kd.R_reads' HO_3.out).2.2 (ji18) p413 q413;obtain rfl : ad402 = ad413 := (by injection e413);have hn413_0 : ad402.block ≠ gb410 := Kd.own_blk (Kd.R_ne HO_3.out BK410.out (by decide));have hn413_1 : ad402.block ≠ gb410 := Kd.own_blk (Kd.R_ne HO_3.out BK410.out (by decide));replace hx413_0 := (cell_far (p := ⟨gb410,0,none⟩) (by first|(rw [ak_];exact hn413_0)|(show (Addr.add _ _).block ≠ _;rw [ak_];exact hn413_0)|exact hn413_0) (.int .i64 t407)).trans hx413_0;replace hx413_1 := (cell_far (p := ⟨gb410,0,none⟩) (by first|(rw [ak_];exact hn413_0)|(show (Addr.add _ _).block ≠ _;rw [ak_];exact hn413_0)|exact hn413_0) (.int .i64 t407)).trans hx413_1;replace hx413_0 := (cell_far (p := ⟨gb410,1,none⟩) (by first|(rw [ak_];exact hn413_1)|(show (Addr.add _ _).block ≠ _;rw [ak_];exact hn413_1)|exact hn413_1) (.int .i64 t408)).trans hx413_0;replace hx413_1 := (cell_far (p := ⟨gb410,1,none⟩) (by first|(rw [ak_];exact hn413_1)|(show (Addr.add _ _).block ≠ _;rw [ak_];exact hn413_1)|exact hn413_1) (.int .i64 t408)).trans hx413_1;(try have hy413_0 := fun (n_ : Nat) => (show ((((w31.drewN n_).setCell ⟨gb410,0,none⟩ (.int .i64 t407)).setCell ⟨gb410,1,none⟩ (.int .i64 t408))).cell? _ = some _ from hx413_0));(try have hy413_1 := fun (n_ : Nat) => (show ((((w31.drewN n_).setCell ⟨gb410,0,none⟩ (.int .i64 t407)).setCell ⟨gb410,1,none⟩ (.int .i64 t408))).cell? _ = some _ from hx413_1));clear hn413_0;clear hn413_1;replace p413 := eq_true p413;replace q413 := eq_true q413;have hcz36_0 : w31.cell? ⟨gb400,0,none⟩ = some (.int .i64 x401000_1) := (kc_ BK400.out 0).trans rfl;have hcz36_1 : w31.cell? ⟨gb400,1,none⟩ = some (.int .i64 x401001_1) := (kc_ BK400.out 1).trans rfl;have hfz36_0 := kf_ BK400.out 0;have hfz36_1 := kf_ BK400.out 1));try go_wp2_with (first|(go_at_call 6;(with_reducible refine (dur_Value.calls k1 ((rd_T23 t395 x6_1).f0) ((rd_T23 t395 x6_1).f1) t403 t404 t405 _ A12.out).mono ?_);rintro e w23 ⟨rfl,hb⟩;replace HO_3 := sd_ (Kd.R_below (by (with_reducible repeat (first|apply Kd.R_alloc|apply Kd.R_drewN|apply Kd.R_drew));exact HO_3.out) hb);replace BK394 := kb_ BK394 hb;replace BK400 := kb_ BK400 hb;replace HB := hb_ HB (e_ GE394 (e_ GE400 e0_)) hb;(try clear hb);(try clear hb2);(try clear hk);(try clear hi))|((with_reducible refine gate_dst (N := 7) rfl ?_);(try (refine gate_guard (by rfl) ?_;dsimp only));refine box_event ?hg (N := 7) ?hd (cs := #[.int .i64 0,.int .i64 0]) (t := 25) ?hr ?_;(case hd => rfl);(case hg => rfl);(case hr => first|(go_simp;done)|(go_simp;rfl));intro gb406 hg w24 hbox hb;have BK406 := sd_ hbox;have GW406 := gw_ HB (e_ GE394 (e_ GE400 e0_)) hg;have GE406 := GW406;have NB394_406 := nb_ BK394 hg;have NB406_394 := sy_ NB394_406;have NB400_406 := nb_ BK400 hg;have NB406_400 := sy_ NB400_406;replace HO_3 := sd_ (Kd.R_below (by (with_reducible repeat (first|apply Kd.R_alloc|apply Kd.R_drewN|apply Kd.R_drew));exact HO_3.out) hb);replace BK394 := kb_ BK394 hb;replace BK400 := kb_ BK400 hb;replace HB := hb_ HB (e_ GE394 (e_ GE400 e0_)) hb;clear hb hbox hg;have hnb25 := NB406_394.out;have hnc25 := NB394_406.out;have hnb26 := NB406_400.out;have hnc26 := NB400_406.out;have hcz27_0 : w24.cell? ⟨gb406,0,none⟩ = some (.int .i64 0) := (kc_ BK406.out 0).trans rfl;have hcz27_1 : w24.cell? ⟨gb406,1,none⟩ = some (.int .i64 0) := (kc_ BK406.out 1).trans rfl;have hfz27_0 := kf_ BK406.out 0;have hfz27_1 := kf_ BK406.out 1;have hnb28 := NB400_394.out;have hnc28 := NB394_400.out;have hcz29_0 : w24.cell? ⟨gb400,0,none⟩ = some (.int .i64 x401000_1) := (kc_ BK400.out 0).trans rfl;have hcz29_1 : w24.cell? ⟨gb400,1,none⟩ = some (.int .i64 x401001_1) := (kc_ BK400.out 1).trans rfl;have hfz29_0 := kf_ BK400.out 0;have hfz29_1 := kf_ BK400.out 1)|(go_at_call 13;(with_reducible refine (neumeref02_Add.calls k1 x401000_1 x401001_1 t403 t404 t407 t408 t409 _ A13.out).mono ?_);rintro e w30 ⟨rfl,hb⟩;have n0_ := sd_ (Kd.R_below (by (with_reducible repeat (first|apply Kd.R_alloc|apply Kd.R_drewN|apply Kd.R_drew));exact (Kd.R_mono (Kd.R_far (p := ⟨gb406,1,none⟩) (Kd.R_far (p := ⟨gb406,0,none⟩) (Kd.R_types HO_3.out BK406.out (by decide)) (fun _ hk => hk.2) (.int .i64 t403)) (fun _ hk => hk.2) (.int .i64 t404)) (fun _ h_ => h_.1))) hb);have n1_ := sd_ (blk_below (g := gb394) (o := .cells #[.int .i64 a0_0,.int .i64 a0_1] 25 (0,0)) (by (with_reducible repeat first|apply kn_|apply kd_|apply ka_);refine blk_far ?_ NB394_406.out _;(with_reducible repeat first|apply kn_|apply kd_|apply ka_);refine blk_far ?_ NB394_406.out _;(with_reducible repeat first|apply kn_|apply kd_|apply ka_);exact BK394.out) hb);have n2_ := sd_ (blk_below (g := gb400) (o := .cells #[.int .i64 x401000_1,.int .i64 x401001_1] 25 (0,0)) (by (with_reducible repeat first|apply kn_|apply kd_|apply ka_);refine blk_far ?_ NB400_406.out _;(with_reducible repeat first|apply kn_|apply kd_|apply ka_);refine blk_far ?_ NB400_406.out _;(with_reducible repeat first|apply kn_|apply kd_|apply ka_);exact BK400.out) hb);have n3_ := sd_ (blk_below (g := gb406) (o := .cells #[.int .i64 t403,.int .i64 t404] 25 (0,0)) (by (with_reducible repeat first|apply kn_|apply kd_|apply ka_);refine blk_put (cs := #[.int .i64 t403,.int .i64 0]) ?_ 1 _ rfl;(with_reducible repeat first|apply kn_|apply kd_|apply ka_);refine blk_put (cs := #[.int .i64 0,.int .i64 0]) ?_ 0 _ rfl;(with_reducible repeat first|apply kn_|apply kd_|apply ka_);exact BK406.out) hb);have n4_ := hb_ HB (e_ GE394 (e_ GE400 (e_ GE406 e0_))) hb;clear HO_3;clear BK394;clear BK400;clear BK406;clear HB;have HO_3 := n0_;have BK394 := n1_;have BK400 := n2_;have BK406 := n3_;have HB := n4_;clear n0_ n1_ n2_ n3_ n4_;(try clear hb);(try clear hb2);(try clear hk);(try clear hi))|((with_reducible refine gate_dst (N := 9) rfl ?_);(try (refine gate_guard (by rfl) ?_;dsimp only));refine box_event ?hg (N := 9) ?hd (cs := #[.int .i64 0,.int .i64 0]) (t := 25) ?hr ?_;(case hd => rfl);(case hg => rfl);(case hr => first|(go_simp;done)|(go_simp;rfl));intro gb410 hg w31 hbox hb;have BK410 := sd_ hbox;have GW410 := gw_ HB (e_ GE394 (e_ GE400 (e_ GE406 e0_))) hg;have GE410 := GW410;have NB394_410 := nb_ BK394 hg;have NB410_394 := sy_ NB394_410;have NB400_410 := nb_ BK400 hg;have NB410_400 := sy_ NB400_410;have NB406_410 := nb_ BK406 hg;have NB410_406 := sy_ NB406_410;replace HO_3 := sd_ (Kd.R_below (by (with_reducible repeat (first|apply Kd.R_alloc|apply Kd.R_drewN|apply Kd.R_drew));exact HO_3.out) hb);replace BK394 := kb_ BK394 hb;replace BK400 := kb_ BK400 hb;replace BK406 := kb_ BK406 hb;replace HB := hb_ HB (e_ GE394 (e_ GE400 (e_ GE406 e0_))) hb;clear hb hbox hg;have hnb32 := NB410_394.out;have hnc32 := NB394_410.out;have hnb33 := NB410_400.out;have hnc33 := NB400_410.out;have hnb34 := NB410_406.out;have hnc34 := NB406_410.out;have hcz35_0 : w31.cell? ⟨gb410,0,none⟩ = some (.int .i64 0) := (kc_ BK410.out 0).trans rfl;have hcz35_1 : w31.cell? ⟨gb410,1,none⟩ = some (.int .i64 0) := (kc_ BK410.out 1).trans rfl;have hfz35_0 := kf_ BK410.out 0;have hfz35_1 := kf_ BK410.out 1;have p411 : 0 ≤ (x6_1 : Int) := od_ (by first|(with_reducible assumption)|assumption);have q411 : x6_1 < (t395.length : Int) := od_ (by first|(with_reducible assumption)|assumption);obtain ⟨ad411,e411,hx411_0,hx411_1⟩ := at_T23 (Kd.R_reads' HO_3.out).2.2 x6_1 p411 q411;obtain rfl : ad402 = ad411 := (by injection e411);have hn411_0 : ad402.block ≠ gb410 := Kd.own_blk (Kd.R_ne HO_3.out BK410.out (by decide));have hn411_1 : ad402.block ≠ gb410 := Kd.own_blk (Kd.R_ne HO_3.out BK410.out (by decide));replace hx411_0 := (cell_far (p := ⟨gb410,0,none⟩) (by first|(rw [ak_];exact hn411_0)|(show (Addr.add _ _).block ≠ _;rw [ak_];exact hn411_0)|exact hn411_0) (.int .i64 t407)).trans hx411_0;replace hx411_1 := (cell_far (p := ⟨gb410,0,none⟩) (by first|(rw [ak_];exact hn411_0)|(show (Addr.add _ _).block ≠ _;rw [ak_];exact hn411_0)|exact hn411_0) (.int .i64 t407)).trans hx411_1;replace hx411_0 := (cell_far (p := ⟨gb410,1,none⟩) (by first|(rw [ak_];exact hn411_1)|(show (Addr.add _ _).block ≠ _;rw [ak_];exact hn411_1)|exact hn411_1) (.int .i64 t408)).trans hx411_0;replace hx411_1 := (cell_far (p := ⟨gb410,1,none⟩) (by first|(rw [ak_];exact hn411_1)|(show (Addr.add _ _).block ≠ _;rw [ak_];exact hn411_1)|exact hn411_1) (.int .i64 t408)).trans hx411_1;(try have hy411_0 := fun (n_ : Nat) => (show ((((w31.drewN n_).setCell ⟨gb410,0,none⟩ (.int .i64 t407)).setCell ⟨gb410,1,none⟩ (.int .i64 t408))).cell? _ = some _ from hx411_0));(try have hy411_1 := fun (n_ : Nat) => (show ((((w31.drewN n_).setCell ⟨gb410,0,none⟩ (.int .i64 t407)).setCell ⟨gb410,1,none⟩ (.int .i64 t408))).cell? _ = some _ from hx411_1));clear hn411_0;clear hn411_1;replace p411 := eq_true p411;replace q411 := eq_true q411;have p412 : 0 ≤ (x6_1 : Int) := od_ (by first|(with_reducible assumption)|assumption);have q412 : x6_1 < (t395.length : Int) := od_ (by first|(with_reducible assumption)|assumption);obtain ⟨ad412,e412,hx412_0,hx412_1⟩ := at_T23 (Kd.R_reads' HO_3.out).2.2 x6_1 p412 q412;obtain rfl : ad402 = ad412 := (by injection e412);have hn412_0 : ad402.block ≠ gb410 := Kd.own_blk (Kd.R_ne HO_3.out BK410.out (by decide));have hn412_1 : ad402.block ≠ gb410 := Kd.own_blk (Kd.R_ne HO_3.out BK410.out (by decide));replace hx412_0 := (cell_far (p := ⟨gb410,0,none⟩) (by first|(rw [ak_];exact hn412_0)|(show (Addr.add _ _).block ≠ _;rw [ak_];exact hn412_0)|exact hn412_0) (.int .i64 t407)).trans hx412_0;replace hx412_1 := (cell_far (p := ⟨gb410,0,none⟩) (by first|(rw [ak_];exact hn412_0)|(show (Addr.add _ _).block ≠ _;rw [ak_];exact hn412_0)|exact hn412_0) (.int .i64 t407)).trans hx412_1;replace hx412_0 := (cell_far (p := ⟨gb410,1,none⟩) (by first|(rw [ak_];exact hn412_1)|(show (Addr.add _ _).block ≠ _;rw [ak_];exact hn412_1)|exact hn412_1) (.int .i64 t408)).trans hx412_0;replace hx412_1 := (cell_far (p := ⟨gb410,1,none⟩) (by first|(rw [ak_];exact hn412_1)|(show (Addr.add _ _).block ≠ _;rw [ak_];exact hn412_1)|exact hn412_1) (.int .i64 t408)).trans hx412_1;(try have hy412_0 := fun (n_ : Nat) => (show ((((w31.drewN n_).setCell ⟨gb410,0,none⟩ (.int .i64 t407)).setCell ⟨gb410,1,none⟩ (.int .i64 t408))).cell? _ = some _ from hx412_0));(try have hy412_1 := fun (n_ : Nat) => (show ((((w31.drewN n_).setCell ⟨gb410,0,none⟩ (.int .i64 t407)).setCell ⟨gb410,1,none⟩ (.int .i64 t408))).cell? _ = some _ from hx412_1));clear hn412_0;clear hn412_1;replace p412 := eq_true p412;replace q412 := eq_true q412;have p413 : 0 ≤ ((ji18) : Int) := od_ (by first|(with_reducible assumption)|assumption);have q413 : (ji18) < (t395.length : Int) := od_ (by first|(with_reducible assumption)|assumption);obtain ⟨ad413,e413,hx413_0,hx413_1⟩ := at_T23 (Kd.R_reads' HO_3.out).2.2 (ji18) p413 q413;obtain rfl : ad402 = ad413 := (by injection e413);have hn413_0 : ad402.block ≠ gb410 := Kd.own_blk (Kd.R_ne HO_3.out BK410.out (by decide));have hn413_1 : ad402.block ≠ gb410 := Kd.own_blk (Kd.R_ne HO_3.out BK410.out (by decide));replace hx413_0 := (cell_far (p := ⟨gb410,0,none⟩) (by first|(rw [ak_];exact hn413_0)|(show (Addr.add _ _).block ≠ _;rw [ak_];exact hn413_0)|exact hn413_0) (.int .i64 t407)).trans hx413_0;replace hx413_1 := (cell_far (p := ⟨gb410,0,none⟩) (by first|(rw [ak_];exact hn413_0)|(show (Addr.add _ _).block ≠ _;rw [ak_];exact hn413_0)|exact hn413_0) (.int .i64 t407)).trans hx413_1;replace hx413_0 := (cell_far (p := ⟨gb410,1,none⟩) (by first|(rw [ak_];exact hn413_1)|(show (Addr.add _ _).block ≠ _;rw [ak_];exact hn413_1)|exact hn413_1) (.int .i64 t408)).trans hx413_0;replace hx413_1 := (cell_far (p := ⟨gb410,1,none⟩) (by first|(rw [ak_];exact hn413_1)|(show (Addr.add _ _).block ≠ _;rw [ak_];exact hn413_1)|exact hn413_1) (.int .i64 t408)).trans hx413_1;(try have hy413_0 := fun (n_ : Nat) => (show ((((w31.drewN n_).setCell ⟨gb410,0,none⟩ (.int .i64 t407)).setCell ⟨gb410,1,none⟩ (.int .i64 t408))).cell? _ = some _ from hx413_0));(try have hy413_1 := fun (n_ : Nat) => (show ((((w31.drewN n_).setCell ⟨gb410,0,none⟩ (.int .i64 t407)).setCell ⟨gb410,1,none⟩ (.int .i64 t408))).cell? _ = some _ from hx413_1));clear hn413_0;clear hn413_1;replace p413 := eq_true p413;replace q413 := eq_true q413;have hcz36_0 : w31.cell? ⟨gb400,0,none⟩ = some (.int .i64 x401000_1) := (kc_ BK400.out 0).trans rfl;have hcz36_1 : w31.cell? ⟨gb400,1,none⟩ = some (.int .i64 x401001_1) := (kc_ BK400.out 1).trans rfl;have hfz36_0 := kf_ BK400.out 0;have hfz36_1 := kf_ BK400.out 1)))
             go_roundg k1
             case measure => have := HK1.out;omega
             case rel => exact ⟨(wrap64 (x6_1 + 1)),(t407),(t408),(by first|rfl|(simp;done)|(simp [*];done)|(simp [bne];done)),H',⟨by have := HK1.out;omega⟩,⟨by (with_reducible repeat (first|apply Kd.R_alloc|apply Kd.R_drewN|apply Kd.R_drew));exact Kd.R_mono (Kd.R_far (p := ⟨gb400,1,none⟩) (Kd.R_far (p := ⟨gb400,0,none⟩) (Kd.R_far (p := ⟨gb410,1,none⟩) (Kd.R_far (p := ⟨gb410,0,none⟩) (Kd.R_types (Kd.R_types HO_3.out BK410.out (by decide)) BK400.out (by decide)) (fun _ hk => hk.1.2) (.int .i64 t407)) (fun _ hk => hk.1.2) (.int .i64 t408)) (fun _ hk => hk.2) (.int .i64 t407)) (fun _ hk => hk.2) (.int .i64 t408)) (fun _ hk => trivial)⟩,⟨by (with_reducible repeat first|apply kn_|apply kd_|apply ka_);refine blk_far ?_ NB394_400.out _;(with_reducible repeat first|apply kn_|apply kd_|apply ka_);refine blk_far ?_ NB394_400.out _;(with_reducible repeat first|apply kn_|apply kd_|apply ka_);refine blk_far ?_ NB394_410.out _;(with_reducible repeat first|apply kn_|apply kd_|apply ka_);refine blk_far ?_ NB394_410.out _;(with_reducible repeat first|apply kn_|apply kd_|apply ka_);exact BK394.out⟩,⟨by (with_reducible repeat first|apply kn_|apply kd_|apply ka_);refine blk_put (cs := #[.int .i64 t407,.int .i64 x401001_1]) ?_ 1 _ rfl;(with_reducible repeat first|apply kn_|apply kd_|apply ka_);refine blk_put (cs := #[.int .i64 x401000_1,.int .i64 x401001_1]) ?_ 0 _ rfl;(with_reducible repeat first|apply kn_|apply kd_|apply ka_);refine blk_far ?_ NB400_410.out _;(with_reducible repeat first|apply kn_|apply kd_|apply ka_);refine blk_far ?_ NB400_410.out _;(with_reducible repeat first|apply kn_|apply kd_|apply ka_);exact BK400.out⟩,⟨by repeat (first|(with_reducible first|exact HB.out|apply ba_|apply pd_|apply d1_|refine bs_ ?_ GE394.out|refine bs_ ?_ GE400.out|refine bs_ ?_ GE406.out|refine bs_ ?_ GE410.out)|exact HB.out)⟩⟩
           ·rw [if_neg c20] at H
            exact absurd H (by simp)
          ·rw [if_neg c19] at H
           exact absurd H (by simp)
         ·rw [if_neg c17] at H
          have c17b0 : decide (0 < x6_1) = false := df_ c17
          clear c17
          have H' := sd_ H
          clear H
          obtain ⟨Ao37,co37,eo37⟩ := Kd.R_slice HO_3.out
          subst eo37
          have p402 : 0 ≤ (x6_1 : Int) := od_ (by first|(with_reducible assumption)|assumption)
          have q402 : x6_1 < (t395.length : Int) := od_ (by first|(with_reducible assumption)|assumption)
          obtain ⟨ad402,e402,hx402_0,hx402_1⟩ := at_T23 (Kd.R_reads' HO_3.out).2.2 x6_1 p402 q402
          cases e402
          replace p402 := eq_true p402
          replace q402 := eq_true q402
          go_wp2_with (first|(go_at_call 6;(with_reducible refine (dur_Value.calls k1 ((rd_T23 t395 x6_1).f0) ((rd_T23 t395 x6_1).f1) t403 t404 t405 _ A12.out).mono ?_);rintro e w38 ⟨rfl,hb⟩;replace HO_3 := sd_ (Kd.R_below (by (with_reducible repeat (first|apply Kd.R_alloc|apply Kd.R_drewN|apply Kd.R_drew));exact HO_3.out) hb);replace BK394 := kb_ BK394 hb;replace BK400 := kb_ BK400 hb;replace HB := hb_ HB (e_ GE394 (e_ GE400 e0_)) hb;(try clear hb);(try clear hb2);(try clear hk);(try clear hi))|((with_reducible refine gate_dst (N := 7) rfl ?_);(try (refine gate_guard (by rfl) ?_;dsimp only));refine box_event ?hg (N := 7) ?hd (cs := #[.int .i64 0,.int .i64 0]) (t := 25) ?hr ?_;(case hd => rfl);(case hg => rfl);(case hr => first|(go_simp;done)|(go_simp;rfl));intro gb406 hg w39 hbox hb;have BK406 := sd_ hbox;have GW406 := gw_ HB (e_ GE394 (e_ GE400 e0_)) hg;have GE406 := GW406;have NB394_406 := nb_ BK394 hg;have NB406_394 := sy_ NB394_406;have NB400_406 := nb_ BK400 hg;have NB406_400 := sy_ NB400_406;replace HO_3 := sd_ (Kd.R_below (by (with_reducible repeat (first|apply Kd.R_alloc|apply Kd.R_drewN|apply Kd.R_drew));exact HO_3.out) hb);replace BK394 := kb_ BK394 hb;replace BK400 := kb_ BK400 hb;replace HB := hb_ HB (e_ GE394 (e_ GE400 e0_)) hb;clear hb hbox hg;have hnb40 := NB406_394.out;have hnc40 := NB394_406.out;have hnb41 := NB406_400.out;have hnc41 := NB400_406.out;have hcz42_0 : w39.cell? ⟨gb406,0,none⟩ = some (.int .i64 0) := (kc_ BK406.out 0).trans rfl;have hcz42_1 : w39.cell? ⟨gb406,1,none⟩ = some (.int .i64 0) := (kc_ BK406.out 1).trans rfl;have hfz42_0 := kf_ BK406.out 0;have hfz42_1 := kf_ BK406.out 1;have hnb43 := NB400_394.out;have hnc43 := NB394_400.out;have hcz44_0 : w39.cell? ⟨gb400,0,none⟩ = some (.int .i64 x401000_1) := (kc_ BK400.out 0).trans rfl;have hcz44_1 : w39.cell? ⟨gb400,1,none⟩ = some (.int .i64 x401001_1) := (kc_ BK400.out 1).trans rfl;have hfz44_0 := kf_ BK400.out 0;have hfz44_1 := kf_ BK400.out 1)|(go_at_call 13;(with_reducible refine (neumeref02_Add.calls k1 x401000_1 x401001_1 t403 t404 t407 t408 t409 _ A13.out).mono ?_);rintro e w45 ⟨rfl,hb⟩;have n0_ := sd_ (Kd.R_below (by (with_reducible repeat (first|apply Kd.R_alloc|apply Kd.R_drewN|apply Kd.R_drew));exact (Kd.R_mono (Kd.R_far (p := ⟨gb406,1,none⟩) (Kd.R_far (p := ⟨gb406,0,none⟩) (Kd.R_types HO_3.out BK406.out (by decide)) (fun _ hk => hk.2) (.int .i64 t403)) (fun _ hk => hk.2) (.int .i64 t404)) (fun _ h_ => h_.1))) hb);have n1_ := sd_ (blk_below (g := gb394) (o := .cells #[.int .i64 a0_0,.int .i64 a0_1] 25 (0,0)) (by (with_reducible repeat first|apply kn_|apply kd_|apply ka_);refine blk_far ?_ NB394_406.out _;(with_reducible repeat first|apply kn_|apply kd_|apply ka_);refine blk_far ?_ NB394_406.out _;(with_reducible repeat first|apply kn_|apply kd_|apply ka_);exact BK394.out) hb);have n2_ := sd_ (blk_below (g := gb400) (o := .cells #[.int .i64 x401000_1,.int .i64 x401001_1] 25 (0,0)) (by (with_reducible repeat first|apply kn_|apply kd_|apply ka_);refine blk_far ?_ NB400_406.out _;(with_reducible repeat first|apply kn_|apply kd_|apply ka_);refine blk_far ?_ NB400_406.out _;(with_reducible repeat first|apply kn_|apply kd_|apply ka_);exact BK400.out) hb);have n3_ := sd_ (blk_below (g := gb406) (o := .cells #[.int .i64 t403,.int .i64 t404] 25 (0,0)) (by (with_reducible repeat first|apply kn_|apply kd_|apply ka_);refine blk_put (cs := #[.int .i64 t403,.int .i64 0]) ?_ 1 _ rfl;(with_reducible repeat first|apply kn_|apply kd_|apply ka_);refine blk_put (cs := #[.int .i64 0,.int .i64 0]) ?_ 0 _ rfl;(with_reducible repeat first|apply kn_|apply kd_|apply ka_);exact BK406.out) hb);have n4_ := hb_ HB (e_ GE394 (e_ GE400 (e_ GE406 e0_))) hb;clear HO_3;clear BK394;clear BK400;clear BK406;clear HB;have HO_3 := n0_;have BK394 := n1_;have BK400 := n2_;have BK406 := n3_;have HB := n4_;clear n0_ n1_ n2_ n3_ n4_;(try clear hb);(try clear hb2);(try clear hk);(try clear hi))|((with_reducible refine gate_dst (N := 9) rfl ?_);(try (refine gate_guard (by rfl) ?_;dsimp only));refine box_event ?hg (N := 9) ?hd (cs := #[.int .i64 0,.int .i64 0]) (t := 25) ?hr ?_;(case hd => rfl);(case hg => rfl);(case hr => first|(go_simp;done)|(go_simp;rfl));intro gb410 hg w46 hbox hb;have BK410 := sd_ hbox;have GW410 := gw_ HB (e_ GE394 (e_ GE400 (e_ GE406 e0_))) hg;have GE410 := GW410;have NB394_410 := nb_ BK394 hg;have NB410_394 := sy_ NB394_410;have NB400_410 := nb_ BK400 hg;have NB410_400 := sy_ NB400_410;have NB406_410 := nb_ BK406 hg;have NB410_406 := sy_ NB406_410;replace HO_3 := sd_ (Kd.R_below (by (with_reducible repeat (first|apply Kd.R_alloc|apply Kd.R_drewN|apply Kd.R_drew));exact HO_3.out) hb);replace BK394 := kb_ BK394 hb;replace BK400 := kb_ BK400 hb;replace BK406 := kb_ BK406 hb;replace HB := hb_ HB (e_ GE394 (e_ GE400 (e_ GE406 e0_))) hb;clear hb hbox hg;have hnb47 := NB410_394.out;have hnc47 := NB394_410.out;have hnb48 := NB410_400.out;have hnc48 := NB400_410.out;have hnb49 := NB410_406.out;have hnc49 := NB406_410.out;have hcz50_0 : w46.cell? ⟨gb410,0,none⟩ = some (.int .i64 0) := (kc_ BK410.out 0).trans rfl;have hcz50_1 : w46.cell? ⟨gb410,1,none⟩ = some (.int .i64 0) := (kc_ BK410.out 1).trans rfl;have hfz50_0 := kf_ BK410.out 0;have hfz50_1 := kf_ BK410.out 1;have p411 : 0 ≤ (x6_1 : Int) := od_ (by first|(with_reducible assumption)|assumption);have q411 : x6_1 < (t395.length : Int) := od_ (by first|(with_reducible assumption)|assumption);obtain ⟨ad411,e411,hx411_0,hx411_1⟩ := at_T23 (Kd.R_reads' HO_3.out).2.2 x6_1 p411 q411;obtain rfl : ad402 = ad411 := (by injection e411);have hn411_0 : ad402.block ≠ gb410 := Kd.own_blk (Kd.R_ne HO_3.out BK410.out (by decide));have hn411_1 : ad402.block ≠ gb410 := Kd.own_blk (Kd.R_ne HO_3.out BK410.out (by decide));replace hx411_0 := (cell_far (p := ⟨gb410,0,none⟩) (by first|(rw [ak_];exact hn411_0)|(show (Addr.add _ _).block ≠ _;rw [ak_];exact hn411_0)|exact hn411_0) (.int .i64 t407)).trans hx411_0;replace hx411_1 := (cell_far (p := ⟨gb410,0,none⟩) (by first|(rw [ak_];exact hn411_0)|(show (Addr.add _ _).block ≠ _;rw [ak_];exact hn411_0)|exact hn411_0) (.int .i64 t407)).trans hx411_1;replace hx411_0 := (cell_far (p := ⟨gb410,1,none⟩) (by first|(rw [ak_];exact hn411_1)|(show (Addr.add _ _).block ≠ _;rw [ak_];exact hn411_1)|exact hn411_1) (.int .i64 t408)).trans hx411_0;replace hx411_1 := (cell_far (p := ⟨gb410,1,none⟩) (by first|(rw [ak_];exact hn411_1)|(show (Addr.add _ _).block ≠ _;rw [ak_];exact hn411_1)|exact hn411_1) (.int .i64 t408)).trans hx411_1;(try have hy411_0 := fun (n_ : Nat) => (show ((((w46.drewN n_).setCell ⟨gb410,0,none⟩ (.int .i64 t407)).setCell ⟨gb410,1,none⟩ (.int .i64 t408))).cell? _ = some _ from hx411_0));(try have hy411_1 := fun (n_ : Nat) => (show ((((w46.drewN n_).setCell ⟨gb410,0,none⟩ (.int .i64 t407)).setCell ⟨gb410,1,none⟩ (.int .i64 t408))).cell? _ = some _ from hx411_1));clear hn411_0;clear hn411_1;replace p411 := eq_true p411;replace q411 := eq_true q411;have hcz51_0 : w46.cell? ⟨gb400,0,none⟩ = some (.int .i64 x401000_1) := (kc_ BK400.out 0).trans rfl;have hcz51_1 : w46.cell? ⟨gb400,1,none⟩ = some (.int .i64 x401001_1) := (kc_ BK400.out 1).trans rfl;have hfz51_0 := kf_ BK400.out 0;have hfz51_1 := kf_ BK400.out 1))
          repeat (go_quiet (first|(go_at_call 6;(with_reducible refine (dur_Value.calls k1 ((rd_T23 t395 x6_1).f0) ((rd_T23 t395 x6_1).f1) t403 t404 t405 _ A12.out).mono ?_);rintro e w38 ⟨rfl,hb⟩;replace HO_3 := sd_ (Kd.R_below (by (with_reducible repeat (first|apply Kd.R_alloc|apply Kd.R_drewN|apply Kd.R_drew));exact HO_3.out) hb);replace BK394 := kb_ BK394 hb;replace BK400 := kb_ BK400 hb;replace HB := hb_ HB (e_ GE394 (e_ GE400 e0_)) hb;(try clear hb);(try clear hb2);(try clear hk);(try clear hi))|((with_reducible refine gate_dst (N := 7) rfl ?_);(try (refine gate_guard (by rfl) ?_;dsimp only));refine box_event ?hg (N := 7) ?hd (cs := #[.int .i64 0,.int .i64 0]) (t := 25) ?hr ?_;(case hd => rfl);(case hg => rfl);(case hr => first|(go_simp;done)|(go_simp;rfl));intro gb406 hg w39 hbox hb;have BK406 := sd_ hbox;have GW406 := gw_ HB (e_ GE394 (e_ GE400 e0_)) hg;have GE406 := GW406;have NB394_406 := nb_ BK394 hg;have NB406_394 := sy_ NB394_406;have NB400_406 := nb_ BK400 hg;have NB406_400 := sy_ NB400_406;replace HO_3 := sd_ (Kd.R_below (by (with_reducible repeat (first|apply Kd.R_alloc|apply Kd.R_drewN|apply Kd.R_drew));exact HO_3.out) hb);replace BK394 := kb_ BK394 hb;replace BK400 := kb_ BK400 hb;replace HB := hb_ HB (e_ GE394 (e_ GE400 e0_)) hb;clear hb hbox hg;have hnb40 := NB406_394.out;have hnc40 := NB394_406.out;have hnb41 := NB406_400.out;have hnc41 := NB400_406.out;have hcz42_0 : w39.cell? ⟨gb406,0,none⟩ = some (.int .i64 0) := (kc_ BK406.out 0).trans rfl;have hcz42_1 : w39.cell? ⟨gb406,1,none⟩ = some (.int .i64 0) := (kc_ BK406.out 1).trans rfl;have hfz42_0 := kf_ BK406.out 0;have hfz42_1 := kf_ BK406.out 1;have hnb43 := NB400_394.out;have hnc43 := NB394_400.out;have hcz44_0 : w39.cell? ⟨gb400,0,none⟩ = some (.int .i64 x401000_1) := (kc_ BK400.out 0).trans rfl;have hcz44_1 : w39.cell? ⟨gb400,1,none⟩ = some (.int .i64 x401001_1) := (kc_ BK400.out 1).trans rfl;have hfz44_0 := kf_ BK400.out 0;have hfz44_1 := kf_ BK400.out 1)|(go_at_call 13;(with_reducible refine (neumeref02_Add.calls k1 x401000_1 x401001_1 t403 t404 t407 t408 t409 _ A13.out).mono ?_);rintro e w45 ⟨rfl,hb⟩;have n0_ := sd_ (Kd.R_below (by (with_reducible repeat (first|apply Kd.R_alloc|apply Kd.R_drewN|apply Kd.R_drew));exact (Kd.R_mono (Kd.R_far (p := ⟨gb406,1,none⟩) (Kd.R_far (p := ⟨gb406,0,none⟩) (Kd.R_types HO_3.out BK406.out (by decide)) (fun _ hk => hk.2) (.int .i64 t403)) (fun _ hk => hk.2) (.int .i64 t404)) (fun _ h_ => h_.1))) hb);have n1_ := sd_ (blk_below (g := gb394) (o := .cells #[.int .i64 a0_0,.int .i64 a0_1] 25 (0,0)) (by (with_reducible repeat first|apply kn_|apply kd_|apply ka_);refine blk_far ?_ NB394_406.out _;(with_reducible repeat first|apply kn_|apply kd_|apply ka_);refine blk_far ?_ NB394_406.out _;(with_reducible repeat first|apply kn_|apply kd_|apply ka_);exact BK394.out) hb);have n2_ := sd_ (blk_below (g := gb400) (o := .cells #[.int .i64 x401000_1,.int .i64 x401001_1] 25 (0,0)) (by (with_reducible repeat first|apply kn_|apply kd_|apply ka_);refine blk_far ?_ NB400_406.out _;(with_reducible repeat first|apply kn_|apply kd_|apply ka_);refine blk_far ?_ NB400_406.out _;(with_reducible repeat first|apply kn_|apply kd_|apply ka_);exact BK400.out) hb);have n3_ := sd_ (blk_below (g := gb406) (o := .cells #[.int .i64 t403,.int .i64 t404] 25 (0,0)) (by (with_reducible repeat first|apply kn_|apply kd_|apply ka_);refine blk_put (cs := #[.int .i64 t403,.int .i64 0]) ?_ 1 _ rfl;(with_reducible repeat first|apply kn_|apply kd_|apply ka_);refine blk_put (cs := #[.int .i64 0,.int .i64 0]) ?_ 0 _ rfl;(with_reducible repeat first|apply kn_|apply kd_|apply ka_);exact BK406.out) hb);have n4_ := hb_ HB (e_ GE394 (e_ GE400 (e_ GE406 e0_))) hb;clear HO_3;clear BK394;clear BK400;clear BK406;clear HB;have HO_3 := n0_;have BK394 := n1_;have BK400 := n2_;have BK406 := n3_;have HB := n4_;clear n0_ n1_ n2_ n3_ n4_;(try clear hb);(try clear hb2);(try clear hk);(try clear hi))|((with_reducible refine gate_dst (N := 9) rfl ?_);(try (refine gate_guard (by rfl) ?_;dsimp only));refine box_event ?hg (N := 9) ?hd (cs := #[.int .i64 0,.int .i64 0]) (t := 25) ?hr ?_;(case hd => rfl);(case hg => rfl);(case hr => first|(go_simp;done)|(go_simp;rfl));intro gb410 hg w46 hbox hb;have BK410 := sd_ hbox;have GW410 := gw_ HB (e_ GE394 (e_ GE400 (e_ GE406 e0_))) hg;have GE410 := GW410;have NB394_410 := nb_ BK394 hg;have NB410_394 := sy_ NB394_410;have NB400_410 := nb_ BK400 hg;have NB410_400 := sy_ NB400_410;have NB406_410 := nb_ BK406 hg;have NB410_406 := sy_ NB406_410;replace HO_3 := sd_ (Kd.R_below (by (with_reducible repeat (first|apply Kd.R_alloc|apply Kd.R_drewN|apply Kd.R_drew));exact HO_3.out) hb);replace BK394 := kb_ BK394 hb;replace BK400 := kb_ BK400 hb;replace BK406 := kb_ BK406 hb;replace HB := hb_ HB (e_ GE394 (e_ GE400 (e_ GE406 e0_))) hb;clear hb hbox hg;have hnb47 := NB410_394.out;have hnc47 := NB394_410.out;have hnb48 := NB410_400.out;have hnc48 := NB400_410.out;have hnb49 := NB410_406.out;have hnc49 := NB406_410.out;have hcz50_0 : w46.cell? ⟨gb410,0,none⟩ = some (.int .i64 0) := (kc_ BK410.out 0).trans rfl;have hcz50_1 : w46.cell? ⟨gb410,1,none⟩ = some (.int .i64 0) := (kc_ BK410.out 1).trans rfl;have hfz50_0 := kf_ BK410.out 0;have hfz50_1 := kf_ BK410.out 1;have p411 : 0 ≤ (x6_1 : Int) := od_ (by first|(with_reducible assumption)|assumption);have q411 : x6_1 < (t395.length : Int) := od_ (by first|(with_reducible assumption)|assumption);obtain ⟨ad411,e411,hx411_0,hx411_1⟩ := at_T23 (Kd.R_reads' HO_3.out).2.2 x6_1 p411 q411;obtain rfl : ad402 = ad411 := (by injection e411);have hn411_0 : ad402.block ≠ gb410 := Kd.own_blk (Kd.R_ne HO_3.out BK410.out (by decide));have hn411_1 : ad402.block ≠ gb410 := Kd.own_blk (Kd.R_ne HO_3.out BK410.out (by decide));replace hx411_0 := (cell_far (p := ⟨gb410,0,none⟩) (by first|(rw [ak_];exact hn411_0)|(show (Addr.add _ _).block ≠ _;rw [ak_];exact hn411_0)|exact hn411_0) (.int .i64 t407)).trans hx411_0;replace hx411_1 := (cell_far (p := ⟨gb410,0,none⟩) (by first|(rw [ak_];exact hn411_0)|(show (Addr.add _ _).block ≠ _;rw [ak_];exact hn411_0)|exact hn411_0) (.int .i64 t407)).trans hx411_1;replace hx411_0 := (cell_far (p := ⟨gb410,1,none⟩) (by first|(rw [ak_];exact hn411_1)|(show (Addr.add _ _).block ≠ _;rw [ak_];exact hn411_1)|exact hn411_1) (.int .i64 t408)).trans hx411_0;replace hx411_1 := (cell_far (p := ⟨gb410,1,none⟩) (by first|(rw [ak_];exact hn411_1)|(show (Addr.add _ _).block ≠ _;rw [ak_];exact hn411_1)|exact hn411_1) (.int .i64 t408)).trans hx411_1;(try have hy411_0 := fun (n_ : Nat) => (show ((((w46.drewN n_).setCell ⟨gb410,0,none⟩ (.int .i64 t407)).setCell ⟨gb410,1,none⟩ (.int .i64 t408))).cell? _ = some _ from hx411_0));(try have hy411_1 := fun (n_ : Nat) => (show ((((w46.drewN n_).setCell ⟨gb410,0,none⟩ (.int .i64 t407)).setCell ⟨gb410,1,none⟩ (.int .i64 t408))).cell? _ = some _ from hx411_1));clear hn411_0;clear hn411_1;replace p411 := eq_true p411;replace q411 := eq_true q411;have hcz51_0 : w46.cell? ⟨gb400,0,none⟩ = some (.int .i64 x401000_1) := (kc_ BK400.out 0).trans rfl;have hcz51_1 : w46.cell? ⟨gb400,1,none⟩ = some (.int .i64 x401001_1) := (kc_ BK400.out 1).trans rfl;have hfz51_0 := kf_ BK400.out 0;have hfz51_1 := kf_ BK400.out 1));try go_wp2_with (first|(go_at_call 6;(with_reducible refine (dur_Value.calls k1 ((rd_T23 t395 x6_1).f0) ((rd_T23 t395 x6_1).f1) t403 t404 t405 _ A12.out).mono ?_);rintro e w38 ⟨rfl,hb⟩;replace HO_3 := sd_ (Kd.R_below (by (with_reducible repeat (first|apply Kd.R_alloc|apply Kd.R_drewN|apply Kd.R_drew));exact HO_3.out) hb);replace BK394 := kb_ BK394 hb;replace BK400 := kb_ BK400 hb;replace HB := hb_ HB (e_ GE394 (e_ GE400 e0_)) hb;(try clear hb);(try clear hb2);(try clear hk);(try clear hi))|((with_reducible refine gate_dst (N := 7) rfl ?_);(try (refine gate_guard (by rfl) ?_;dsimp only));refine box_event ?hg (N := 7) ?hd (cs := #[.int .i64 0,.int .i64 0]) (t := 25) ?hr ?_;(case hd => rfl);(case hg => rfl);(case hr => first|(go_simp;done)|(go_simp;rfl));intro gb406 hg w39 hbox hb;have BK406 := sd_ hbox;have GW406 := gw_ HB (e_ GE394 (e_ GE400 e0_)) hg;have GE406 := GW406;have NB394_406 := nb_ BK394 hg;have NB406_394 := sy_ NB394_406;have NB400_406 := nb_ BK400 hg;have NB406_400 := sy_ NB400_406;replace HO_3 := sd_ (Kd.R_below (by (with_reducible repeat (first|apply Kd.R_alloc|apply Kd.R_drewN|apply Kd.R_drew));exact HO_3.out) hb);replace BK394 := kb_ BK394 hb;replace BK400 := kb_ BK400 hb;replace HB := hb_ HB (e_ GE394 (e_ GE400 e0_)) hb;clear hb hbox hg;have hnb40 := NB406_394.out;have hnc40 := NB394_406.out;have hnb41 := NB406_400.out;have hnc41 := NB400_406.out;have hcz42_0 : w39.cell? ⟨gb406,0,none⟩ = some (.int .i64 0) := (kc_ BK406.out 0).trans rfl;have hcz42_1 : w39.cell? ⟨gb406,1,none⟩ = some (.int .i64 0) := (kc_ BK406.out 1).trans rfl;have hfz42_0 := kf_ BK406.out 0;have hfz42_1 := kf_ BK406.out 1;have hnb43 := NB400_394.out;have hnc43 := NB394_400.out;have hcz44_0 : w39.cell? ⟨gb400,0,none⟩ = some (.int .i64 x401000_1) := (kc_ BK400.out 0).trans rfl;have hcz44_1 : w39.cell? ⟨gb400,1,none⟩ = some (.int .i64 x401001_1) := (kc_ BK400.out 1).trans rfl;have hfz44_0 := kf_ BK400.out 0;have hfz44_1 := kf_ BK400.out 1)|(go_at_call 13;(with_reducible refine (neumeref02_Add.calls k1 x401000_1 x401001_1 t403 t404 t407 t408 t409 _ A13.out).mono ?_);rintro e w45 ⟨rfl,hb⟩;have n0_ := sd_ (Kd.R_below (by (with_reducible repeat (first|apply Kd.R_alloc|apply Kd.R_drewN|apply Kd.R_drew));exact (Kd.R_mono (Kd.R_far (p := ⟨gb406,1,none⟩) (Kd.R_far (p := ⟨gb406,0,none⟩) (Kd.R_types HO_3.out BK406.out (by decide)) (fun _ hk => hk.2) (.int .i64 t403)) (fun _ hk => hk.2) (.int .i64 t404)) (fun _ h_ => h_.1))) hb);have n1_ := sd_ (blk_below (g := gb394) (o := .cells #[.int .i64 a0_0,.int .i64 a0_1] 25 (0,0)) (by (with_reducible repeat first|apply kn_|apply kd_|apply ka_);refine blk_far ?_ NB394_406.out _;(with_reducible repeat first|apply kn_|apply kd_|apply ka_);refine blk_far ?_ NB394_406.out _;(with_reducible repeat first|apply kn_|apply kd_|apply ka_);exact BK394.out) hb);have n2_ := sd_ (blk_below (g := gb400) (o := .cells #[.int .i64 x401000_1,.int .i64 x401001_1] 25 (0,0)) (by (with_reducible repeat first|apply kn_|apply kd_|apply ka_);refine blk_far ?_ NB400_406.out _;(with_reducible repeat first|apply kn_|apply kd_|apply ka_);refine blk_far ?_ NB400_406.out _;(with_reducible repeat first|apply kn_|apply kd_|apply ka_);exact BK400.out) hb);have n3_ := sd_ (blk_below (g := gb406) (o := .cells #[.int .i64 t403,.int .i64 t404] 25 (0,0)) (by (with_reducible repeat first|apply kn_|apply kd_|apply ka_);refine blk_put (cs := #[.int .i64 t403,.int .i64 0]) ?_ 1 _ rfl;(with_reducible repeat first|apply kn_|apply kd_|apply ka_);refine blk_put (cs := #[.int .i64 0,.int .i64 0]) ?_ 0 _ rfl;(with_reducible repeat first|apply kn_|apply kd_|apply ka_);exact BK406.out) hb);have n4_ := hb_ HB (e_ GE394 (e_ GE400 (e_ GE406 e0_))) hb;clear HO_3;clear BK394;clear BK400;clear BK406;clear HB;have HO_3 := n0_;have BK394 := n1_;have BK400 := n2_;have BK406 := n3_;have HB := n4_;clear n0_ n1_ n2_ n3_ n4_;(try clear hb);(try clear hb2);(try clear hk);(try clear hi))|((with_reducible refine gate_dst (N := 9) rfl ?_);(try (refine gate_guard (by rfl) ?_;dsimp only));refine box_event ?hg (N := 9) ?hd (cs := #[.int .i64 0,.int .i64 0]) (t := 25) ?hr ?_;(case hd => rfl);(case hg => rfl);(case hr => first|(go_simp;done)|(go_simp;rfl));intro gb410 hg w46 hbox hb;have BK410 := sd_ hbox;have GW410 := gw_ HB (e_ GE394 (e_ GE400 (e_ GE406 e0_))) hg;have GE410 := GW410;have NB394_410 := nb_ BK394 hg;have NB410_394 := sy_ NB394_410;have NB400_410 := nb_ BK400 hg;have NB410_400 := sy_ NB400_410;have NB406_410 := nb_ BK406 hg;have NB410_406 := sy_ NB406_410;replace HO_3 := sd_ (Kd.R_below (by (with_reducible repeat (first|apply Kd.R_alloc|apply Kd.R_drewN|apply Kd.R_drew));exact HO_3.out) hb);replace BK394 := kb_ BK394 hb;replace BK400 := kb_ BK400 hb;replace BK406 := kb_ BK406 hb;replace HB := hb_ HB (e_ GE394 (e_ GE400 (e_ GE406 e0_))) hb;clear hb hbox hg;have hnb47 := NB410_394.out;have hnc47 := NB394_410.out;have hnb48 := NB410_400.out;have hnc48 := NB400_410.out;have hnb49 := NB410_406.out;have hnc49 := NB406_410.out;have hcz50_0 : w46.cell? ⟨gb410,0,none⟩ = some (.int .i64 0) := (kc_ BK410.out 0).trans rfl;have hcz50_1 : w46.cell? ⟨gb410,1,none⟩ = some (.int .i64 0) := (kc_ BK410.out 1).trans rfl;have hfz50_0 := kf_ BK410.out 0;have hfz50_1 := kf_ BK410.out 1;have p411 : 0 ≤ (x6_1 : Int) := od_ (by first|(with_reducible assumption)|assumption);have q411 : x6_1 < (t395.length : Int) := od_ (by first|(with_reducible assumption)|assumption);obtain ⟨ad411,e411,hx411_0,hx411_1⟩ := at_T23 (Kd.R_reads' HO_3.out).2.2 x6_1 p411 q411;obtain rfl : ad402 = ad411 := (by injection e411);have hn411_0 : ad402.block ≠ gb410 := Kd.own_blk (Kd.R_ne HO_3.out BK410.out (by decide));have hn411_1 : ad402.block ≠ gb410 := Kd.own_blk (Kd.R_ne HO_3.out BK410.out (by decide));replace hx411_0 := (cell_far (p := ⟨gb410,0,none⟩) (by first|(rw [ak_];exact hn411_0)|(show (Addr.add _ _).block ≠ _;rw [ak_];exact hn411_0)|exact hn411_0) (.int .i64 t407)).trans hx411_0;replace hx411_1 := (cell_far (p := ⟨gb410,0,none⟩) (by first|(rw [ak_];exact hn411_0)|(show (Addr.add _ _).block ≠ _;rw [ak_];exact hn411_0)|exact hn411_0) (.int .i64 t407)).trans hx411_1;replace hx411_0 := (cell_far (p := ⟨gb410,1,none⟩) (by first|(rw [ak_];exact hn411_1)|(show (Addr.add _ _).block ≠ _;rw [ak_];exact hn411_1)|exact hn411_1) (.int .i64 t408)).trans hx411_0;replace hx411_1 := (cell_far (p := ⟨gb410,1,none⟩) (by first|(rw [ak_];exact hn411_1)|(show (Addr.add _ _).block ≠ _;rw [ak_];exact hn411_1)|exact hn411_1) (.int .i64 t408)).trans hx411_1;(try have hy411_0 := fun (n_ : Nat) => (show ((((w46.drewN n_).setCell ⟨gb410,0,none⟩ (.int .i64 t407)).setCell ⟨gb410,1,none⟩ (.int .i64 t408))).cell? _ = some _ from hx411_0));(try have hy411_1 := fun (n_ : Nat) => (show ((((w46.drewN n_).setCell ⟨gb410,0,none⟩ (.int .i64 t407)).setCell ⟨gb410,1,none⟩ (.int .i64 t408))).cell? _ = some _ from hx411_1));clear hn411_0;clear hn411_1;replace p411 := eq_true p411;replace q411 := eq_true q411;have hcz51_0 : w46.cell? ⟨gb400,0,none⟩ = some (.int .i64 x401000_1) := (kc_ BK400.out 0).trans rfl;have hcz51_1 : w46.cell? ⟨gb400,1,none⟩ = some (.int .i64 x401001_1) := (kc_ BK400.out 1).trans rfl;have hfz51_0 := kf_ BK400.out 0;have hfz51_1 := kf_ BK400.out 1)))
          go_roundg k1
          case measure => have := HK1.out;omega
          case rel => exact ⟨(wrap64 (x6_1 + 1)),(t407),(t408),(by first|rfl|(simp;done)|(simp [*];done)|(simp [bne];done)),H',⟨by have := HK1.out;omega⟩,⟨by (with_reducible repeat (first|apply Kd.R_alloc|apply Kd.R_drewN|apply Kd.R_drew));exact Kd.R_mono (Kd.R_far (p := ⟨gb400,1,none⟩) (Kd.R_far (p := ⟨gb400,0,none⟩) (Kd.R_far (p := ⟨gb410,1,none⟩) (Kd.R_far (p := ⟨gb410,0,none⟩) (Kd.R_types (Kd.R_types HO_3.out BK410.out (by decide)) BK400.out (by decide)) (fun _ hk => hk.1.2) (.int .i64 t407)) (fun _ hk => hk.1.2) (.int .i64 t408)) (fun _ hk => hk.2) (.int .i64 t407)) (fun _ hk => hk.2) (.int .i64 t408)) (fun _ hk => trivial)⟩,⟨by (with_reducible repeat first|apply kn_|apply kd_|apply ka_);refine blk_far ?_ NB394_400.out _;(with_reducible repeat first|apply kn_|apply kd_|apply ka_);refine blk_far ?_ NB394_400.out _;(with_reducible repeat first|apply kn_|apply kd_|apply ka_);refine blk_far ?_ NB394_410.out _;(with_reducible repeat first|apply kn_|apply kd_|apply ka_);refine blk_far ?_ NB394_410.out _;(with_reducible repeat first|apply kn_|apply kd_|apply ka_);exact BK394.out⟩,⟨by (with_reducible repeat first|apply kn_|apply kd_|apply ka_);refine blk_put (cs := #[.int .i64 t407,.int .i64 x401001_1]) ?_ 1 _ rfl;(with_reducible repeat first|apply kn_|apply kd_|apply ka_);refine blk_put (cs := #[.int .i64 x401000_1,.int .i64 x401001_1]) ?_ 0 _ rfl;(with_reducible repeat first|apply kn_|apply kd_|apply ka_);refine blk_far ?_ NB400_410.out _;(with_reducible repeat first|apply kn_|apply kd_|apply ka_);refine blk_far ?_ NB400_410.out _;(with_reducible repeat first|apply kn_|apply kd_|apply ka_);exact BK400.out⟩,⟨by repeat (first|(with_reducible first|exact HB.out|apply ba_|apply pd_|apply d1_|refine bs_ ?_ GE394.out|refine bs_ ?_ GE400.out|refine bs_ ?_ GE406.out|refine bs_ ?_ GE410.out)|exact HB.out)⟩⟩
        ·rw [if_neg c16] at H
         have c16b0 : (((rd_T23 t395 x6_1).f1) == 0) = false := beq_eq_false_iff_ne.mpr c16
         have c16b1 : (((rd_T23 t395 x6_1).f1) != 0) = true := bne_iff_ne.mpr c16
         exact absurd ((Option.some.inj H).trans hxt.out) (by decide)
       ·rw [if_neg c15] at H
        have c15b0 : (t409 == 0) = false := beq_eq_false_iff_ne.mpr c15
        have c15b1 : (t409 != 0) = true := bne_iff_ne.mpr c15
        exact absurd ((Option.some.inj H).trans hxt.out) (by decide)
      ·rw [if_neg c14] at H
       have c14b0 : (t405 == 0) = false := beq_eq_false_iff_ne.mpr c14
       have c14b1 : (t405 != 0) = true := bne_iff_ne.mpr c14
       exact absurd ((Option.some.inj H).trans hxt.out) (by decide)
     ·rw [if_neg c11] at H
      exact absurd H (by simp)
    ·rw [if_neg c10] at H
     have c10b0 : decide (x6_1 < (t395.length : Int)) = false := df_ c10
     clear c10
     by_cases c52 : (x401000_1 == a0_0 && (x401001_1 == a0_1)) = true
     ·rw [if_pos c52] at H
      have c52b0 : (x401000_1 == a0_0 && (x401001_1 == a0_1)) = true := c52
      (try (have c52b1 : decide (x401000_1 = a0_0 && (x401001_1 == a0_1)) = true := by simpa using c52))
      (try (have c52b2 : (x401000_1 == a0_0 && (x401001_1 == a0_1)) = true := by simpa using c52))
      clear c52
      by_cases c53 : (t395.length : Int) ≥ 1
      ·rw [if_pos c53] at H
       have c53b0 : decide (1 ≤ (t395.length : Int)) = true := dt_ c53
       have c53b1 : decide (1 ≤ t395.length) = true := dt_ (by omega)
       clear c53
       by_cases c54 : (t395.length : Int) ≤ 64
       ·rw [if_pos c54] at H
        have c54b0 : decide ((t395.length : Int) ≤ 64) = true := dt_ c54
        have c54b1 : decide (t395.length ≤ 64) = true := dt_ (by omega)
        clear c54
        replace H := ob_ H
        obtain ⟨t401,A550,H⟩ := H
        replace H : (some t401) = some r := H
        have A55 := sd_ A550
        clear A550
        obtain rfl := Option.some.inj H
        obtain ⟨Ao56,co56,eo56⟩ := Kd.R_slice HO_3.out
        subst eo56
        have hnb57 := NB400_394.out
        have hnc57 := NB394_400.out
        have hcz58_0 : wr.cell? ⟨gb400,0,none⟩ = some (.int .i64 x401000_1) := (kc_ BK400.out 0).trans rfl
        have hcz58_1 : wr.cell? ⟨gb400,1,none⟩ = some (.int .i64 x401001_1) := (kc_ BK400.out 1).trans rfl
        have hfz58_0 := kf_ BK400.out 0
        have hfz58_1 := kf_ BK400.out 1
        have hcz59_0 : wr.cell? ⟨gb394,0,none⟩ = some (.int .i64 a0_0) := (kc_ BK394.out 0).trans rfl
        have hcz59_1 : wr.cell? ⟨gb394,1,none⟩ = some (.int .i64 a0_1) := (kc_ BK394.out 1).trans rfl
        have hfz59_0 := kf_ BK394.out 0
        have hfz59_1 := kf_ BK394.out 1
        go_wp2_with (first|(go_at_call 11;(with_reducible refine (neumelaw07_heads.calls k1  t401 _ A55.out).mono ?_);rintro e w60 ⟨rfl,hb⟩;replace HO_3 := sd_ (Kd.R_below (by (with_reducible repeat (first|apply Kd.R_alloc|apply Kd.R_drewN|apply Kd.R_drew));exact HO_3.out) hb);replace BK394 := kb_ BK394 hb;replace BK400 := kb_ BK400 hb;replace HB := hb_ HB (e_ GE394 (e_ GE400 e0_)) hb;(try clear hb);(try clear hb2);(try clear hk);(try clear hi)))
        repeat (go_quiet (first|(go_at_call 11;(with_reducible refine (neumelaw07_heads.calls k1  t401 _ A55.out).mono ?_);rintro e w60 ⟨rfl,hb⟩;replace HO_3 := sd_ (Kd.R_below (by (with_reducible repeat (first|apply Kd.R_alloc|apply Kd.R_drewN|apply Kd.R_drew));exact HO_3.out) hb);replace BK394 := kb_ BK394 hb;replace BK400 := kb_ BK400 hb;replace HB := hb_ HB (e_ GE394 (e_ GE400 e0_)) hb;(try clear hb);(try clear hb2);(try clear hk);(try clear hi)));try go_wp2_with (first|(go_at_call 11;(with_reducible refine (neumelaw07_heads.calls k1  t401 _ A55.out).mono ?_);rintro e w60 ⟨rfl,hb⟩;replace HO_3 := sd_ (Kd.R_below (by (with_reducible repeat (first|apply Kd.R_alloc|apply Kd.R_drewN|apply Kd.R_drew));exact HO_3.out) hb);replace BK394 := kb_ BK394 hb;replace BK400 := kb_ BK400 hb;replace HB := hb_ HB (e_ GE394 (e_ GE400 e0_)) hb;(try clear hb);(try clear hb2);(try clear hk);(try clear hi))))
        go_ret
        exact ⟨by first|rfl|(simp [errW_none,errW_some] <;> rfl)|(simp [*,errW_none,errW_some] <;> rfl),by repeat (first|(with_reducible first|exact HB.out|apply ba_|apply pd_|apply d1_|refine bs_ ?_ GE394.out|refine bs_ ?_ GE400.out)|exact HB.out)⟩
       ·rw [if_neg c54] at H
        have c54b0 : decide ((t395.length : Int) ≤ 64) = false := df_ c54
        have c54b1 : decide (t395.length ≤ 64) = false := df_ (by omega)
        clear c54
        exact absurd ((Option.some.inj H).trans hxt.out) (by decide)
      ·rw [if_neg c53] at H
       have c53b0 : decide (1 ≤ (t395.length : Int)) = false := df_ c53
       have c53b1 : decide (1 ≤ t395.length) = false := df_ (by omega)
       clear c53
       exact absurd ((Option.some.inj H).trans hxt.out) (by decide)
     ·rw [if_neg c52] at H
      have c52b0 : (x401000_1 == a0_0 && (x401001_1 == a0_1)) = false := by simpa using c52
      (try (have c52b1 : decide (x401000_1 = a0_0 && (x401001_1 == a0_1)) = false := by simpa using c52))
      (try (have c52b2 : (x401000_1 == a0_0 && (x401001_1 == a0_1)) = false := by simpa using c52))
      (try (have c52b3 : ¬ (x401000_1 = a0_0 && (x401001_1 == a0_1)) := by simpa using c52))
      clear c52
      exact absurd ((Option.some.inj H).trans hxt.out) (by decide)
 ·replace c3 := bf_ c3
  subst c3
  have H1 : (if (t395.length : Int) = 0 then ((neumelaw07_heads.f k).bind fun t399 => (some t399)) else (some false)) = some r := by rw [if_neg (show ¬ (false = true) by decide)] at H;exact H
  clear H;have H := H1;clear H1
  by_cases c61 : (t395.length : Int) = 0
  ·rw [if_pos c61] at H
   have c61b0 : ((t395.length : Int) == 0) = true := beq_iff_eq.mpr c61
   have c61b1 : ((t395.length : Int) != 0) = false := bne_eq_false_iff_eq.mpr c61
   clear c61
   replace H := ob_ H
   obtain ⟨t399,A620,H⟩ := H
   replace H : (some t399) = some r := H
   have A62 := sd_ A620
   clear A620
   obtain rfl := Option.some.inj H
   go_enter Tryd.func4,Tryd.ntmps4
   go_wp2_with (first|((with_reducible refine gate_dst (N := 1) rfl ?_);(try (refine gate_guard (by rfl) ?_;dsimp only));refine box_event ?hg (N := 1) ?hd (cs := #[.int .i64 a0_0,.int .i64 a0_1]) (t := 25) ?hr ?_;(case hd => rfl);(case hg => rfl);(case hr => first|(go_simp;done)|(go_simp;rfl));intro gb394 hg w63 hbox hb;have BK394 := sd_ hbox;have GW394 := gw_ HB e0_ hg;have GE394 := GW394;replace HB := hb_ HB e0_ hb;clear hb hbox hg;have hcz64_0 : w63.cell? ⟨gb394,0,none⟩ = some (.int .i64 a0_0) := (kc_ BK394.out 0).trans rfl;have hcz64_1 : w63.cell? ⟨gb394,1,none⟩ = some (.int .i64 a0_1) := (kc_ BK394.out 1).trans rfl;have hfz64_0 := kf_ BK394.out 0;have hfz64_1 := kf_ BK394.out 1)|(go_at_call 12;(with_reducible refine (dur_Split.calls k a0_0 a0_1 t395 false _ A2.out).mono ?_);rintro e w65 ⟨v396,rfl,ho0,hb⟩;have HO397 := sd_ (Kd.R_lower ho0 (bz_ (bb_ HB.out (e_ GE394 e0_))));replace BK394 := kb_ BK394 hb;replace HB := hb_ HB (e_ GE394 e0_) hb;(try clear hb);(try clear hb2);(try clear hk);(try clear hi);(try clear ho0);obtain ⟨Ao66,co66,eo66⟩ := Kd.R_slice HO397.out;subst eo66)|(go_at_call 11;(with_reducible refine (neumelaw07_heads.calls k  t399 _ A62.out).mono ?_);rintro e w67 ⟨rfl,hb⟩;replace HO397 := sd_ (Kd.R_below (by (with_reducible repeat (first|apply Kd.R_alloc|apply Kd.R_drewN|apply Kd.R_drew));exact HO397.out) hb);replace BK394 := kb_ BK394 hb;replace HB := hb_ HB (e_ GE394 e0_) hb;(try clear hb);(try clear hb2);(try clear hk);(try clear hi)))
   repeat (go_quiet (first|((with_reducible refine gate_dst (N := 1) rfl ?_);(try (refine gate_guard (by rfl) ?_;dsimp only));refine box_event ?hg (N := 1) ?hd (cs := #[.int .i64 a0_0,.int .i64 a0_1]) (t := 25) ?hr ?_;(case hd => rfl);(case hg => rfl);(case hr => first|(go_simp;done)|(go_simp;rfl));intro gb394 hg w63 hbox hb;have BK394 := sd_ hbox;have GW394 := gw_ HB e0_ hg;have GE394 := GW394;replace HB := hb_ HB e0_ hb;clear hb hbox hg;have hcz64_0 : w63.cell? ⟨gb394,0,none⟩ = some (.int .i64 a0_0) := (kc_ BK394.out 0).trans rfl;have hcz64_1 : w63.cell? ⟨gb394,1,none⟩ = some (.int .i64 a0_1) := (kc_ BK394.out 1).trans rfl;have hfz64_0 := kf_ BK394.out 0;have hfz64_1 := kf_ BK394.out 1)|(go_at_call 12;(with_reducible refine (dur_Split.calls k a0_0 a0_1 t395 false _ A2.out).mono ?_);rintro e w65 ⟨v396,rfl,ho0,hb⟩;have HO397 := sd_ (Kd.R_lower ho0 (bz_ (bb_ HB.out (e_ GE394 e0_))));replace BK394 := kb_ BK394 hb;replace HB := hb_ HB (e_ GE394 e0_) hb;(try clear hb);(try clear hb2);(try clear hk);(try clear hi);(try clear ho0);obtain ⟨Ao66,co66,eo66⟩ := Kd.R_slice HO397.out;subst eo66)|(go_at_call 11;(with_reducible refine (neumelaw07_heads.calls k  t399 _ A62.out).mono ?_);rintro e w67 ⟨rfl,hb⟩;replace HO397 := sd_ (Kd.R_below (by (with_reducible repeat (first|apply Kd.R_alloc|apply Kd.R_drewN|apply Kd.R_drew));exact HO397.out) hb);replace BK394 := kb_ BK394 hb;replace HB := hb_ HB (e_ GE394 e0_) hb;(try clear hb);(try clear hb2);(try clear hk);(try clear hi)));try go_wp2_with (first|((with_reducible refine gate_dst (N := 1) rfl ?_);(try (refine gate_guard (by rfl) ?_;dsimp only));refine box_event ?hg (N := 1) ?hd (cs := #[.int .i64 a0_0,.int .i64 a0_1]) (t := 25) ?hr ?_;(case hd => rfl);(case hg => rfl);(case hr => first|(go_simp;done)|(go_simp;rfl));intro gb394 hg w63 hbox hb;have BK394 := sd_ hbox;have GW394 := gw_ HB e0_ hg;have GE394 := GW394;replace HB := hb_ HB e0_ hb;clear hb hbox hg;have hcz64_0 : w63.cell? ⟨gb394,0,none⟩ = some (.int .i64 a0_0) := (kc_ BK394.out 0).trans rfl;have hcz64_1 : w63.cell? ⟨gb394,1,none⟩ = some (.int .i64 a0_1) := (kc_ BK394.out 1).trans rfl;have hfz64_0 := kf_ BK394.out 0;have hfz64_1 := kf_ BK394.out 1)|(go_at_call 12;(with_reducible refine (dur_Split.calls k a0_0 a0_1 t395 false _ A2.out).mono ?_);rintro e w65 ⟨v396,rfl,ho0,hb⟩;have HO397 := sd_ (Kd.R_lower ho0 (bz_ (bb_ HB.out (e_ GE394 e0_))));replace BK394 := kb_ BK394 hb;replace HB := hb_ HB (e_ GE394 e0_) hb;(try clear hb);(try clear hb2);(try clear hk);(try clear hi);(try clear ho0);obtain ⟨Ao66,co66,eo66⟩ := Kd.R_slice HO397.out;subst eo66)|(go_at_call 11;(with_reducible refine (neumelaw07_heads.calls k  t399 _ A62.out).mono ?_);rintro e w67 ⟨rfl,hb⟩;replace HO397 := sd_ (Kd.R_below (by (with_reducible repeat (first|apply Kd.R_alloc|apply Kd.R_drewN|apply Kd.R_drew));exact HO397.out) hb);replace BK394 := kb_ BK394 hb;replace HB := hb_ HB (e_ GE394 e0_) hb;(try clear hb);(try clear hb2);(try clear hk);(try clear hi))))
   go_ret
   exact ⟨by first|rfl|(simp [errW_none,errW_some] <;> rfl)|(simp [*,errW_none,errW_some] <;> rfl),by repeat (first|(with_reducible first|exact HB.out|apply ba_|apply pd_|apply d1_|refine bs_ ?_ GE394.out)|exact HB.out)⟩
  ·rw [if_neg c61] at H
   have c61b0 : ((t395.length : Int) == 0) = false := beq_eq_false_iff_ne.mpr c61
   have c61b1 : ((t395.length : Int) != 0) = true := bne_iff_ne.mpr c61
   have c61b2 : ¬ (t395 = []) := fun h_ => c61 (by rw [h_];rfl)
   exact absurd ((Option.some.inj H).trans hxt.out) (by decide)

end Go.Proofs.YtdiccfonlojlfaaDoor.P
