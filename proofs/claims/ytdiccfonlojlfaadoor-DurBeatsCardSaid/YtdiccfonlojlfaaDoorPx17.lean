-- Written by a program of this session (wip/tools/xprint.py, over the kit's print): Lean checks it.
import Derived.Test.YtdiccfonlojlfaaDoorPx0
import Derived.Test.YtdiccfonlojlfaaDoorPx12
import Derived.Test.YtdiccfonlojlfaaDoorPx13
import Derived.Test.YtdiccfonlojlfaaDoorPx14
namespace Go.Proofs.YtdiccfonlojlfaaDoor.P
open Go.RowKit Go.Proofs.YtdiccfonlojlfaaDoorW.PrintWords Go.Proofs.YtdiccfonlojlfaaDoorW.PrintLast Go.Proofs.YtdiccfonlojlfaaDoorW.PrintMore
attribute [local go_sem] max2_int min2_int max_two min_two max_three min_three max_four min_four   -- for this text's walks alone
set_option linter.unusedVariables false
set_option linter.unusedSimpArgs false

/-! ### neumeref02_Mul: function 18 -/
def neumeref02_Mul.j0 : Nat → Bool → Int → Int → Int → Int → Option (Int × Int × Int)
 | 0, _, _, _, _, _ => none
 | k + 1, x19, x433000, x433001, x434000, x434001 => if x19 = true then (some (0, 0, 2)) else ((neumeref02_abs.f x433000).bind fun t437 => ((neumeref02_gcd.f k t437 x434001).bind fun t438 => ((neumeref02_abs.f x434000).bind fun t439 => ((neumeref02_gcd.f k t439 x433001).bind fun t440 => (if t438 = 0 then (none) else (if t440 = 0 then (none) else (if (wrap64 (Int.tdiv x434000 t440)) = 0 then (if (wrap64 (Int.tdiv x434001 t438)) = 0 then (none) else (if (wrap64 (Int.tdiv x433001 t440)) > (wrap64 (Int.tdiv (1048576 : Int) (wrap64 (Int.tdiv x434001 t438)))) then (some (0, 0, 3)) else ((neumeref02_lowest.f k (wrap64 ((wrap64 (Int.tdiv x433000 t438)) * (wrap64 (Int.tdiv x434000 t440)))) (wrap64 ((wrap64 (Int.tdiv x433001 t440)) * (wrap64 (Int.tdiv x434001 t438))))).bind fun bt441 => (some (bt441.1, bt441.2.1, bt441.2.2))))) else ((neumeref02_abs.f (wrap64 (Int.tdiv x433000 t438))).bind fun t444 => ((neumeref02_abs.f (wrap64 (Int.tdiv x434000 t440))).bind fun t445 => (if t445 = 0 then (none) else (if t444 > (wrap64 (Int.tdiv (1099511627776 : Int) t445)) then (some (0, 0, 3)) else (if (wrap64 (Int.tdiv x434001 t438)) = 0 then (none) else (if (wrap64 (Int.tdiv x433001 t440)) > (wrap64 (Int.tdiv (1048576 : Int) (wrap64 (Int.tdiv x434001 t438)))) then (some (0, 0, 3)) else ((neumeref02_lowest.f k (wrap64 ((wrap64 (Int.tdiv x433000 t438)) * (wrap64 (Int.tdiv x434000 t440)))) (wrap64 ((wrap64 (Int.tdiv x433001 t440)) * (wrap64 (Int.tdiv x434001 t438))))).bind fun bt446 => (some (bt446.1, bt446.2.1, bt446.2.2))))))))))))))))
def neumeref02_Mul.f (k : Nat) (a0_0 : Int) (a0_1 : Int) (a1_0 : Int) (a1_1 : Int) : Option (Int × Int × Int) := (neumeref02_Check.f k a0_0 a0_1).bind fun t435 => (if t435 = true then ((neumeref02_Check.f k a1_0 a1_1).bind fun t436 => (neumeref02_Mul.j0 k (!t436) a0_0 a0_1 a1_0 a1_1)) else (neumeref02_Mul.j0 k true a0_0 a0_1 a1_0 a1_1))
theorem neumeref02_Mul.mono_l : ∀ k, (∀ y0 y1 y2 y3 y4, LeO (neumeref02_Mul.j0 k y0 y1 y2 y3 y4) (neumeref02_Mul.j0 (k + 1) y0 y1 y2 y3 y4))
 | 0 => fun _ _ _ _ _ r h => by simp [neumeref02_Mul.j0] at h
 | k + 1 => by
  have ih0 := neumeref02_Mul.mono_l k
  ·intro y0 y1 y2 y3 y4
   unfold neumeref02_Mul.j0
   repeat' first
   | (with_reducible exact ih0 _ _ _ _ _)
   | (with_reducible exact neumeref02_Check.mono _ _ _)
   | (with_reducible exact neumeref02_gcd.mono _ _ _)
   | (with_reducible exact neumeref02_lowest.mono _ _ _)
   | (with_reducible exact LeO.refl _)
   | (with_reducible exact LeO.none _)
   | (with_reducible refine LeO.ite ?_ ?_)
   | (with_reducible refine LeO.bind ?_ (fun _ => ?_))
   | exact ih0 _ _ _ _ _
   | exact neumeref02_Check.mono _ _ _
   | exact neumeref02_gcd.mono _ _ _
   | exact neumeref02_lowest.mono _ _ _
   | exact LeO.none _
   | refine LeO.ite ?_ ?_
   | refine LeO.bind ?_ (fun _ => ?_)
theorem neumeref02_Mul.mono : ∀ a0 a1 a2 a3 k, LeO (neumeref02_Mul.f k a0 a1 a2 a3) (neumeref02_Mul.f (k + 1) a0 a1 a2 a3) := by
 intro a0 a1 a2 a3 k
 have ih0 := neumeref02_Mul.mono_l k
 unfold neumeref02_Mul.f
 repeat' first
   | (with_reducible exact ih0 _ _ _ _ _)
   | (with_reducible exact neumeref02_Check.mono _ _ _)
   | (with_reducible exact neumeref02_gcd.mono _ _ _)
   | (with_reducible exact neumeref02_lowest.mono _ _ _)
   | (with_reducible exact LeO.refl _)
   | (with_reducible exact LeO.none _)
   | (with_reducible refine LeO.ite ?_ ?_)
   | (with_reducible refine LeO.bind ?_ (fun _ => ?_))
   | exact ih0 _ _ _ _ _
   | exact neumeref02_Check.mono _ _ _
   | exact neumeref02_gcd.mono _ _ _
   | exact neumeref02_lowest.mono _ _ _
   | exact LeO.none _
   | refine LeO.ite ?_ ?_
   | refine LeO.bind ?_ (fun _ => ?_)
def neumeref02_Mul.T3 : Bool × List (List Nat × List Nat) := (true, [([], []), ([0], [0]), ([1], [1]), ([], []), ([3], [3]), ([2, 4, 2], [2, 4]), ([], []), ([6], [6]), ([7, 5], [7]), ([], []), ([9], [9]), ([8, 10, 8], [8, 10]), ([5, 11, 0, 1, 2, 3, 4, 5], [5]), ([11, 12, 0, 1, 2, 3, 4, 5, 6, 7, 8, 9, 10, 11, 12], [11])])
def neumeref02_Mul.B3 : List Nat := [0, 1, 3, 0, 8, 31, 0, 64, 255, 0, 512, 2047, 4095, 8191]
theorem neumeref02_Mul.tab3 : rtab .any (opsOf Tryd.f18 3) = neumeref02_Mul.T3 := by kernel_rfl
theorem neumeref02_Mul.bits3 : waitsOk neumeref02_Mul.T3.2 neumeref02_Mul.B3 = true := by kernel_rfl
def neumeref02_Mul.T4 : Bool × List (List Nat × List Nat) := (true, [([], []), ([0], [0]), ([], []), ([1, 2], [1, 2]), ([], []), ([4], [4]), ([], []), ([5, 6], [5, 6]), ([], []), ([8], [8]), ([], []), ([9, 10], [9, 10]), ([], []), ([12], [12]), ([], []), ([13, 14], [13, 14]), ([3, 0, 1, 2, 3], [3]), ([7, 16, 0, 1, 2, 3, 4, 5, 6, 7, 16], [7]), ([11, 17, 0, 1, 2, 3, 4, 5, 6, 7, 8, 9, 10, 11, 16, 17], [11]), ([15, 18, 0, 1, 2, 3, 4, 5, 6, 7, 8, 9, 10, 11, 12, 13, 14, 15, 16, 17, 18], [15])])
def neumeref02_Mul.B4 : List Nat := [0, 1, 0, 7, 0, 16, 0, 112, 0, 256, 0, 1792, 0, 4096, 0, 28672, 15, 65791, 200703, 524287]
theorem neumeref02_Mul.tab4 : rtab .any (opsOf Tryd.f18 4) = neumeref02_Mul.T4 := by kernel_rfl
theorem neumeref02_Mul.bits4 : waitsOk neumeref02_Mul.T4.2 neumeref02_Mul.B4 = true := by kernel_rfl
set_option maxHeartbeats 8000000 in
set_option maxRecDepth 100000 in
theorem neumeref02_Mul.calls (k : Nat) (a0_0 : Int) (a0_1 : Int) (a1_0 : Int) (a1_1 : Int) (r1 : Int) (r2 : Int) (r3 : Int) (w : World) (h : neumeref02_Mul.f k a0_0 a0_1 a1_0 a1_1 = some (r1, r2, r3)) :
  Calls Tryd.prog 18 #[.agg #[.int .i64 a0_0,.int .i64 a0_1],.agg #[.int .i64 a1_0,.int .i64 a1_1]] w fun e w' => e = .returned (.tuple #[.agg #[.int .i64 r1,.int .i64 r2],.int .i64 r3]) ∧ Below w.heap.size w w' := by
 have hu25 := Tryd.underlying25
 have HB := sd_ (Below.refl w.heap.size w)
 have H : ((neumeref02_Check.f k a0_0 a0_1).bind fun t435 => (if t435 = true then ((neumeref02_Check.f k a1_0 a1_1).bind fun t436 => (neumeref02_Mul.j0 k (!t436) a0_0 a0_1 a1_0 a1_1)) else (neumeref02_Mul.j0 k true a0_0 a0_1 a1_0 a1_1))) = some (r1,r2,r3) := h
 clear h
 have HC3 := sd_ H
 clear H
 go_enter Tryd.func18,Tryd.ntmps18
 go_upto_region 1 with (first|((with_reducible refine gate_dst (N := 2) rfl ?_);refine box_event ?hg (N := 2) ?hd (cs := #[.int .i64 a0_0,.int .i64 a0_1]) (t := 25) ?hr ?_;(case hd => rfl);(case hg => rfl);(case hr => first|(go_simp;done)|(go_simp;rfl));intro gb432 hg w4 hbox hb;have BK432 := sd_ hbox;have GW432 := gw_ HB e0_ hg;have GE432 := GW432;replace HB := hb_ HB e0_ hb;clear hb hbox hg)|((with_reducible refine gate_dst (N := 3) rfl ?_);refine box_event ?hg (N := 3) ?hd (cs := #[.int .i64 a1_0,.int .i64 a1_1]) (t := 25) ?hr ?_;(case hd => rfl);(case hg => rfl);(case hr => first|(go_simp;done)|(go_simp;rfl));intro gb433 hg w5 hbox hb;have BK433 := sd_ hbox;have GW433 := gw_ HB (e_ GE432 e0_) hg;have GE433 := GW433;have NB432_433 := nb_ BK432 hg;have NB433_432 := sy_ NB432_433;replace BK432 := kb_ BK432 hb;replace HB := hb_ HB (e_ GE432 e0_) hb;clear hb hbox hg)|((with_reducible refine gate_dst (N := 4) rfl ?_);refine box_event ?hg (N := 4) ?hd (cs := #[.int .i64 0,.int .i64 0]) (t := 25) ?hr ?_;(case hd => rfl);(case hg => rfl);(case hr => first|(go_simp;done)|(go_simp;rfl));intro gb434 hg w6 hbox hb;have BK434 := sd_ hbox;have GW434 := gw_ HB (e_ GE432 (e_ GE433 e0_)) hg;have GE434 := GW434;have NB432_434 := nb_ BK432 hg;have NB434_432 := sy_ NB432_434;have NB433_434 := nb_ BK433 hg;have NB434_433 := sy_ NB433_434;replace BK432 := kb_ BK432 hb;replace BK433 := kb_ BK433 hb;replace HB := hb_ HB (e_ GE432 (e_ GE433 e0_)) hb;clear hb hbox hg))
 (try simp only [Act.put,ls_,lz_,lc_])
 go_cut [19] (fun v19 wc => ∃ (kq : Nat) (x19_2 : Bool),v19 = .bool x19_2 ∧ Aside0 (neumeref02_Mul.j0 kq x19_2 a0_0 a0_1 a1_0 a1_1 = some (r1,r2,r3)) ∧ Aside0 (kq ≤ k) ∧ Aside0 (wc.heap[gb432]? = some (.cells #[.int .i64 a0_0,.int .i64 a0_1] 25 (0,0))) ∧ Aside0 (wc.heap[gb433]? = some (.cells #[.int .i64 a1_0,.int .i64 a1_1] 25 (0,0))) ∧ Aside0 (wc.heap[gb434]? = some (.cells #[.int .i64 0,.int .i64 0] 25 (0,0))) ∧ Aside0 (Below w.heap.size w wc))
 case first =>
  have H := HC3.out
  clear HC3
  replace H := ob_ H
  obtain ⟨t435,A70,H⟩ := H
  try dsimp only at H
  have A7 := sd_ A70
  clear A70
  by_cases c8 : t435 = true
  ·subst c8
   have H1 : ((neumeref02_Check.f k a1_0 a1_1).bind fun t436 => (neumeref02_Mul.j0 k (!t436) a0_0 a0_1 a1_0 a1_1)) = some (r1,r2,r3) := by rw [if_pos rfl] at H;exact H
   clear H;have H := H1;clear H1
   replace H := ob_ H
   obtain ⟨t436,A90,H⟩ := H
   replace H : (neumeref02_Mul.j0 k (!t436) a0_0 a0_1 a1_0 a1_1) = some (r1,r2,r3) := H
   have A9 := sd_ A90
   clear A90
   have H' := sd_ H
   clear H
   have hnb10 := NB432_433.out
   have hnc10 := NB433_432.out
   have hnb11 := NB432_434.out
   have hnc11 := NB434_432.out
   have hcz12_0 : w6.cell? ⟨gb432,0,none⟩ = some (.int .i64 a0_0) := (kc_ BK432.out 0).trans rfl
   have hcz12_1 : w6.cell? ⟨gb432,1,none⟩ = some (.int .i64 a0_1) := (kc_ BK432.out 1).trans rfl
   have hfz12_0 := kf_ BK432.out 0
   have hfz12_1 := kf_ BK432.out 1
   go_wp2_with (first|((with_reducible refine gate_callee (f := 37) rfl ?_);refine goesL_ (some 13) rfl rfl Tryd.func37 (by kernel_rfl) rfl #[.agg #[.int .i64 a0_0,.int .i64 a0_1]] rfl (by (try simp only [lm_,lq_,lx_]);first|done|rfl|(simp only [ld_,lt_];rfl)) ?_;(with_reducible refine (neumeref02_Check.calls k a0_0 a0_1 true _ A7.out).mono ?_);rintro e w13 ⟨rfl,hb⟩;refine ⟨_,rfl,?_⟩;replace BK432 := kb_ BK432 hb;replace BK433 := kb_ BK433 hb;replace BK434 := kb_ BK434 hb;replace HB := hb_ HB (e_ GE432 (e_ GE433 (e_ GE434 e0_))) hb;(try clear hb);(try clear hb2);(try clear hk);(try clear hi);have hnb14 := NB433_434.out;have hnc14 := NB434_433.out;have hcz15_0 : w13.cell? ⟨gb433,0,none⟩ = some (.int .i64 a1_0) := (kc_ BK433.out 0).trans rfl;have hcz15_1 : w13.cell? ⟨gb433,1,none⟩ = some (.int .i64 a1_1) := (kc_ BK433.out 1).trans rfl;have hfz15_0 := kf_ BK433.out 0;have hfz15_1 := kf_ BK433.out 1)|(go_at_call 37;(with_reducible refine (neumeref02_Check.calls k a1_0 a1_1 t436 _ A9.out).mono ?_);rintro e w16 ⟨rfl,hb⟩;replace BK432 := kb_ BK432 hb;replace BK433 := kb_ BK433 hb;replace BK434 := kb_ BK434 hb;replace HB := hb_ HB (e_ GE432 (e_ GE433 (e_ GE434 e0_))) hb;(try clear hb);(try clear hb2);(try clear hk);(try clear hi)))
   go_meet
   case rel => exact ⟨_,(!t436),(by first|rfl|(simp;done)|(simp [*];done)|(simp [bne];done)),H',⟨by first|omega|exact Nat.le_refl _⟩,⟨by (with_reducible repeat first|apply kn_|apply kd_|apply ka_);exact BK432.out⟩,⟨by (with_reducible repeat first|apply kn_|apply kd_|apply ka_);exact BK433.out⟩,⟨by (with_reducible repeat first|apply kn_|apply kd_|apply ka_);exact BK434.out⟩,⟨by repeat (first|(with_reducible first|exact HB.out|apply ba_|apply pd_|apply d1_|refine bs_ ?_ GE432.out|refine bs_ ?_ GE433.out|refine bs_ ?_ GE434.out)|exact HB.out)⟩⟩
  ·replace c8 := bf_ c8
   subst c8
   have H1 : (neumeref02_Mul.j0 k true a0_0 a0_1 a1_0 a1_1) = some (r1,r2,r3) := by rw [if_neg (show ¬ (false = true) by decide)] at H;exact H
   clear H;have H := H1;clear H1
   have H' := sd_ H
   clear H
   have hnb17 := NB432_433.out
   have hnc17 := NB433_432.out
   have hnb18 := NB432_434.out
   have hnc18 := NB434_432.out
   have hcz19_0 : w6.cell? ⟨gb432,0,none⟩ = some (.int .i64 a0_0) := (kc_ BK432.out 0).trans rfl
   have hcz19_1 : w6.cell? ⟨gb432,1,none⟩ = some (.int .i64 a0_1) := (kc_ BK432.out 1).trans rfl
   have hfz19_0 := kf_ BK432.out 0
   have hfz19_1 := kf_ BK432.out 1
   go_wp2_with (first|((with_reducible refine gate_callee (f := 37) rfl ?_);refine goesL_ (some 13) rfl rfl Tryd.func37 (by kernel_rfl) rfl #[.agg #[.int .i64 a0_0,.int .i64 a0_1]] rfl (by (try simp only [lm_,lq_,lx_]);first|done|rfl|(simp only [ld_,lt_];rfl)) ?_;(with_reducible refine (neumeref02_Check.calls k a0_0 a0_1 false _ A7.out).mono ?_);rintro e w20 ⟨rfl,hb⟩;refine ⟨_,rfl,?_⟩;replace BK432 := kb_ BK432 hb;replace BK433 := kb_ BK433 hb;replace BK434 := kb_ BK434 hb;replace HB := hb_ HB (e_ GE432 (e_ GE433 (e_ GE434 e0_))) hb;(try clear hb);(try clear hb2);(try clear hk);(try clear hi)))
   go_meet
   case rel => exact ⟨_,(true),(by first|rfl|(simp;done)|(simp [*];done)|(simp [bne];done)),H',⟨by first|omega|exact Nat.le_refl _⟩,⟨by (with_reducible repeat first|apply kn_|apply kd_|apply ka_);exact BK432.out⟩,⟨by (with_reducible repeat first|apply kn_|apply kd_|apply ka_);exact BK433.out⟩,⟨by (with_reducible repeat first|apply kn_|apply kd_|apply ka_);exact BK434.out⟩,⟨by repeat (first|(with_reducible first|exact HB.out|apply ba_|apply pd_|apply d1_|refine bs_ ?_ GE432.out|refine bs_ ?_ GE433.out|refine bs_ ?_ GE434.out)|exact HB.out)⟩⟩
 case rest =>
  clear HC3
  try clear c1;try clear p2;try clear c3;try clear c8;try clear c10;try clear c11;try clear c14;try clear c17;try clear c18;try clear hcz12_0;try clear hcz12_1;try clear hcz15_0;try clear hcz15_1;try clear hcz19_0;try clear hcz19_1;try clear hfz12_0;try clear hfz12_1;try clear hfz15_0;try clear hfz15_1;try clear hfz19_0;try clear hfz19_1
  obtain ⟨kq,x19_2,rfl,HA,HJ2,BK432,BK433,BK434,HB⟩ := hcut
  cases kq with
  | zero => exact absurd HA.out (by simp [neumeref02_Mul.j0])
  | succ kj2 =>
   have H := HA.out
   clear HA
   simp only [neumeref02_Mul.j0] at H
   by_cases c21 : x19_2 = true
   ·subst c21
    have H1 : (some (0,0,2)) = some (r1,r2,r3) := by rw [if_pos rfl] at H;exact H
    clear H;have H := H1;clear H1
    simp only [Option.some.injEq,Prod.mk.injEq] at H
    obtain ⟨rfl,rfl,rfl⟩ := H
    have hnb22 := NB434_432.out
    have hnc22 := NB432_434.out
    have hnb23 := NB434_433.out
    have hnc23 := NB433_434.out
    have hcz24_0 : wc.cell? ⟨gb434,0,none⟩ = some (.int .i64 0) := (kc_ BK434.out 0).trans rfl
    have hcz24_1 : wc.cell? ⟨gb434,1,none⟩ = some (.int .i64 0) := (kc_ BK434.out 1).trans rfl
    have hfz24_0 := kf_ BK434.out 0
    have hfz24_1 := kf_ BK434.out 1
    go_wp2
    refine bodyPost_ret (results_ct rfl _ _ gb434 25 #[.int .i64 0,.int .i64 0] (0,0) _ rfl (by (with_reducible repeat first|apply kn_|apply kd_|apply ka_);refine blk_put (cs := #[.int .i64 0,.int .i64 0]) ?_ 1 _ rfl;(with_reducible repeat first|apply kn_|apply kd_|apply ka_);refine blk_put (cs := #[.int .i64 0,.int .i64 0]) ?_ 0 _ rfl;(with_reducible repeat first|apply kn_|apply kd_|apply ka_);exact BK434.out) Tryd.underlying25 rfl (by kernel_rfl)) rfl ?_
    exact ⟨by first|rfl|(simp [errW_none,errW_some] <;> rfl)|(simp [*,errW_none,errW_some] <;> rfl),by repeat (first|(with_reducible first|exact HB.out|apply ba_|apply pd_|apply d1_|refine bs_ ?_ GE432.out|refine bs_ ?_ GE433.out|refine bs_ ?_ GE434.out)|exact HB.out)⟩
   ·replace c21 := bf_ c21
    subst c21
    have H1 : ((neumeref02_abs.f a0_0).bind fun t437 => ((neumeref02_gcd.f kj2 t437 a1_1).bind fun t438 => ((neumeref02_abs.f a1_0).bind fun t439 => ((neumeref02_gcd.f kj2 t439 a0_1).bind fun t440 => (if t438 = 0 then (none) else (if t440 = 0 then (none) else (if (wrap64 (Int.tdiv a1_0 t440)) = 0 then (if (wrap64 (Int.tdiv a1_1 t438)) = 0 then (none) else (if (wrap64 (Int.tdiv a0_1 t440)) > (wrap64 (Int.tdiv (1048576 : Int) (wrap64 (Int.tdiv a1_1 t438)))) then (some (0,0,3)) else ((neumeref02_lowest.f kj2 (wrap64 ((wrap64 (Int.tdiv a0_0 t438)) * (wrap64 (Int.tdiv a1_0 t440)))) (wrap64 ((wrap64 (Int.tdiv a0_1 t440)) * (wrap64 (Int.tdiv a1_1 t438))))).bind fun bt441 => (some (bt441.1,bt441.2.1,bt441.2.2))))) else ((neumeref02_abs.f (wrap64 (Int.tdiv a0_0 t438))).bind fun t444 => ((neumeref02_abs.f (wrap64 (Int.tdiv a1_0 t440))).bind fun t445 => (if t445 = 0 then (none) else (if t444 > (wrap64 (Int.tdiv (1099511627776 : Int) t445)) then (some (0,0,3)) else (if (wrap64 (Int.tdiv a1_1 t438)) = 0 then (none) else (if (wrap64 (Int.tdiv a0_1 t440)) > (wrap64 (Int.tdiv (1048576 : Int) (wrap64 (Int.tdiv a1_1 t438)))) then (some (0,0,3)) else ((neumeref02_lowest.f kj2 (wrap64 ((wrap64 (Int.tdiv a0_0 t438)) * (wrap64 (Int.tdiv a1_0 t440)))) (wrap64 ((wrap64 (Int.tdiv a0_1 t440)) * (wrap64 (Int.tdiv a1_1 t438))))).bind fun bt446 => (some (bt446.1,bt446.2.1,bt446.2.2)))))))))))))))) = some (r1,r2,r3) := by rw [if_neg (show ¬ (false = true) by decide)] at H;exact H
    clear H;have H := H1;clear H1
    replace H := ob_ H
    obtain ⟨t437,A250,H⟩ := H
    try dsimp only at H
    have A25 := sd_ A250
    clear A250
    replace H := ob_ H
    obtain ⟨t438,A260,H⟩ := H
    try dsimp only at H
    have A26 := sd_ A260
    clear A260
    replace H := ob_ H
    obtain ⟨t439,A270,H⟩ := H
    try dsimp only at H
    have A27 := sd_ A270
    clear A270
    replace H := ob_ H
    obtain ⟨t440,A280,H⟩ := H
    try dsimp only at H
    have A28 := sd_ A280
    clear A280
    by_cases c29 : t438 = 0
    ·rw [if_pos c29] at H
     exact absurd H (by simp)
    ·rw [if_neg c29] at H
     have c29b0 : (t438 == 0) = false := beq_eq_false_iff_ne.mpr c29
     have c29b1 : (t438 != 0) = true := bne_iff_ne.mpr c29
     by_cases c30 : t440 = 0
     ·rw [if_pos c30] at H
      exact absurd H (by simp)
     ·rw [if_neg c30] at H
      have c30b0 : (t440 == 0) = false := beq_eq_false_iff_ne.mpr c30
      have c30b1 : (t440 != 0) = true := bne_iff_ne.mpr c30
      by_cases c31 : (wrap64 (Int.tdiv a1_0 t440)) = 0
      ·rw [if_pos c31] at H
       have c31b0 : ((wrap64 (Int.tdiv a1_0 t440)) == 0) = true := beq_iff_eq.mpr c31
       have c31b1 : ((wrap64 (Int.tdiv a1_0 t440)) != 0) = false := bne_eq_false_iff_eq.mpr c31
       clear c31
       by_cases c32 : (wrap64 (Int.tdiv a1_1 t438)) = 0
       ·rw [if_pos c32] at H
        exact absurd H (by simp)
       ·rw [if_neg c32] at H
        have c32b0 : ((wrap64 (Int.tdiv a1_1 t438)) == 0) = false := beq_eq_false_iff_ne.mpr c32
        have c32b1 : ((wrap64 (Int.tdiv a1_1 t438)) != 0) = true := bne_iff_ne.mpr c32
        by_cases c33 : (wrap64 (Int.tdiv a0_1 t440)) > (wrap64 (Int.tdiv (1048576 : Int) (wrap64 (Int.tdiv a1_1 t438))))
        ·rw [if_pos c33] at H
         have c33b0 : decide ((wrap64 (Int.tdiv (1048576 : Int) (wrap64 (Int.tdiv a1_1 t438)))) < (wrap64 (Int.tdiv a0_1 t440))) = true := dt_ c33
         clear c33
         simp only [Option.some.injEq,Prod.mk.injEq] at H
         obtain ⟨rfl,rfl,rfl⟩ := H
         try go_wp2
         replace BK432 := sd_ (kd_ BK432.out)
         replace BK433 := sd_ (kd_ BK433.out)
         replace BK434 := sd_ (kd_ BK434.out)
         replace HB := sd_ (d1_ HB.out)
         refine start_ (n := 14) (S := fun w' => w'.cell? ⟨gb432,0,none⟩ = some (.int .i64 a0_0) ∧ w'.cell? ⟨gb432,1,none⟩ = some (.int .i64 a0_1) ∧ w'.cell? ⟨gb433,0,none⟩ = some (.int .i64 a1_0) ∧ w'.cell? ⟨gb433,1,none⟩ = some (.int .i64 a1_1)) (ds := []) (Array.replicate 14 false) (by kernel_rfl) rfl rfl ⟨(kc_ BK432.out 0).trans rfl,(kc_ BK432.out 1).trans rfl,(kc_ BK433.out 0).trans rfl,(kc_ BK433.out 1).trans rfl⟩ (fun hHeld => ?_);refine with_tabW neumeref02_Mul.tab3 neumeref02_Mul.bits3 (fun HT_ HW_ => ?_)
         generalize wc.drew = w34 at BK432 BK433 BK434 HB hHeld ⊢
         refine pu_ (v := ?_) (a' := ?_) 0 21 (bz 14 1) rfl rfl HT_ (by kernel_rfl) (fun _ _ _ h => h) (by rfl) ?_ ?_ ?_
         rotate_left;(intro w';go_simp;with_reducible rfl);rotate_left;(simp only [Act.put,ls_,lz_,lc_,i64_w,i32_w];rfl)
         refine pu_ (v := ?_) (a' := ?_) 3 24 (bz 14 9) rfl rfl HT_ (by kernel_rfl) (fun _ _ _ h => h) (by rfl) ?_ ?_ ?_
         rotate_left;(intro w';go_simp;with_reducible rfl);rotate_left;(simp only [Act.put,ls_,lz_,lc_,i64_w,i32_w];rfl)
         refine pu_ (v := ?_) (a' := ?_) 6 27 (bz 14 73) rfl rfl HT_ (by kernel_rfl) (fun _ _ _ h => h) (by rfl) ?_ ?_ ?_
         rotate_left;(intro w';go_simp;with_reducible rfl);rotate_left;(simp only [Act.put,ls_,lz_,lc_,i64_w,i32_w];rfl)
         refine pu_ (v := ?_) (a' := ?_) 9 30 (bz 14 585) rfl rfl HT_ (by kernel_rfl) (fun _ _ _ h => h) (by rfl) ?_ ?_ ?_
         rotate_left;(intro w';go_simp;with_reducible rfl);rotate_left;(simp only [Act.put,ls_,lz_,lc_,i64_w,i32_w];rfl)
         refine ta_ (v := ?_) (a' := ?_) 1 22 (bz 14 587) rfl rfl HT_ HW_ (by kernel_rfl) (fun _ _ _ h => h) (by rfl) ?_ hHeld ?_ ?_
         rotate_left
         ·rintro w' ⟨s0,s1,s2,s3⟩
          go_simp
          with_reducible rfl
         rotate_left
         ·simp only [Act.put,ls_,lz_,lc_,i64_w,i32_w]
          rfl
         refine ta_ (v := ?_) (a' := ?_) 4 25 (bz 14 603) rfl rfl HT_ HW_ (by kernel_rfl) (fun _ _ _ h => h) (by rfl) ?_ hHeld ?_ ?_
         rotate_left
         ·rintro w' ⟨s0,s1,s2,s3⟩
          go_simp
          with_reducible rfl
         rotate_left
         ·simp only [Act.put,ls_,lz_,lc_,i64_w,i32_w]
          rfl
         refine ta_ (v := ?_) (a' := ?_) 7 28 (bz 14 731) rfl rfl HT_ HW_ (by kernel_rfl) (fun _ _ _ h => h) (by rfl) ?_ hHeld ?_ ?_
         rotate_left
         ·rintro w' ⟨s0,s1,s2,s3⟩
          go_simp
          with_reducible rfl
         rotate_left
         ·simp only [Act.put,ls_,lz_,lc_,i64_w,i32_w]
          rfl
         refine ta_ (v := ?_) (a' := ?_) 10 31 (bz 14 1755) rfl rfl HT_ HW_ (by kernel_rfl) (fun _ _ _ h => h) (by rfl) ?_ hHeld ?_ ?_
         rotate_left
         ·rintro w' ⟨s0,s1,s2,s3⟩
          go_simp
          with_reducible rfl
         rotate_left
         ·simp only [Act.put,ls_,lz_,lc_,i64_w,i32_w]
          rfl
         refine on_ (N := some 23) 2 (bz 14 1759) rfl rfl HT_ (by kernel_rfl) (by decide) (fun K hK => ?_)
         refine goes_ Tryd.func41 (by kernel_rfl) rfl #[.int .i64 a0_0] (by rfl) rfl rfl (by (try simp only [lm_,lq_,lx_]);first|done|rfl|(simp only [ld_,lt_];rfl)) ?_
         with_reducible refine (neumeref02_abs.calls a0_0 t437 _ A25.out).mono ?_
         rintro e w35 ⟨rfl,hb⟩
         refine ⟨_,rfl,?_⟩
         replace BK432 := kb_ BK432 hb
         replace BK433 := kb_ BK433 hb
         replace BK434 := kb_ BK434 hb
         replace HB := hb_ HB (e_ GE432 (e_ GE433 (e_ GE434 e0_))) hb
         (try clear hb)
         (try clear hb2)
         (try clear hk)
         (try clear hi)
         refine hK.out _ _ ⟨(kc_ BK432.out 0).trans rfl,(kc_ BK432.out 1).trans rfl,(kc_ BK433.out 0).trans rfl,(kc_ BK433.out 1).trans rfl⟩ (fun hHeld => ?_)
         clear hK K
         refine norm_ (a' := ?_) ?_ ?_
         rotate_left
         ·show Act.put _ (some 23) _ = _
          simp only [Act.put,ls_,lz_,lc_,i64_w,i32_w]
          rfl
         refine on_ (N := some 26) 5 (bz 14 1791) rfl rfl HT_ (by kernel_rfl) (by decide) (fun K hK => ?_)
         refine goes_ Tryd.func38 (by kernel_rfl) rfl #[.int .i64 t437,.int .i64 a1_1] (by rfl) rfl rfl (by (try simp only [lm_,lq_,lx_]);first|done|rfl|(simp only [ld_,lt_];rfl)) ?_
         with_reducible refine (neumeref02_gcd.calls kj2 t437 a1_1 t438 _ A26.out).mono ?_
         rintro e w' ⟨rfl,⟨nd,rfl⟩⟩
         refine ⟨_,rfl,?_⟩
         refine hK.out _ _ ⟨(kc_ BK432.out 0).trans rfl,(kc_ BK432.out 1).trans rfl,(kc_ BK433.out 0).trans rfl,(kc_ BK433.out 1).trans rfl⟩ (fun hHeld => ?_)
         clear hK K
         refine norm_ (a' := ?_) ?_ ?_
         rotate_left
         ·show Act.put _ (some 26) _ = _
          simp only [Act.put,ls_,lz_,lc_,i64_w,i32_w]
          rfl
         refine on_ (N := some 29) 8 (bz 14 2047) rfl rfl HT_ (by kernel_rfl) (by decide) (fun K hK => ?_)
         refine goes_ Tryd.func41 (by kernel_rfl) rfl #[.int .i64 a1_0] (by rfl) rfl rfl (by (try simp only [lm_,lq_,lx_]);first|done|rfl|(simp only [ld_,lt_];rfl)) ?_
         with_reducible refine (neumeref02_abs.calls a1_0 t439 _ A27.out).mono ?_
         rintro e w36 ⟨rfl,hb⟩
         refine ⟨_,rfl,?_⟩
         replace BK432 := kb_ BK432 hb
         replace BK433 := kb_ BK433 hb
         replace BK434 := kb_ BK434 hb
         replace HB := hb_ HB (e_ GE432 (e_ GE433 (e_ GE434 e0_))) hb
         (try clear hb)
         (try clear hb2)
         (try clear hk)
         (try clear hi)
         refine hK.out _ _ ⟨(kc_ BK432.out 0).trans rfl,(kc_ BK432.out 1).trans rfl,(kc_ BK433.out 0).trans rfl,(kc_ BK433.out 1).trans rfl⟩ (fun hHeld => ?_)
         clear hK K
         refine norm_ (a' := ?_) ?_ ?_
         rotate_left
         ·show Act.put _ (some 29) _ = _
          simp only [Act.put,ls_,lz_,lc_,i64_w,i32_w]
          rfl
         refine on_ (N := some 32) 11 (bz 14 4095) rfl rfl HT_ (by kernel_rfl) (by decide) (fun K hK => ?_)
         refine goes_ Tryd.func38 (by kernel_rfl) rfl #[.int .i64 t439,.int .i64 a0_1] (by rfl) rfl rfl (by (try simp only [lm_,lq_,lx_]);first|done|rfl|(simp only [ld_,lt_];rfl)) ?_
         with_reducible refine (neumeref02_gcd.calls kj2 t439 a0_1 t440 _ A28.out).mono ?_
         rintro e w' ⟨rfl,⟨nd,rfl⟩⟩
         refine ⟨_,rfl,?_⟩
         refine hK.out _ _ ⟨(kc_ BK432.out 0).trans rfl,(kc_ BK432.out 1).trans rfl,(kc_ BK433.out 0).trans rfl,(kc_ BK433.out 1).trans rfl⟩ (fun hHeld => ?_)
         clear hK K
         refine norm_ (a' := ?_) ?_ ?_
         rotate_left
         ·show Act.put _ (some 32) _ = _
          simp only [Act.put,ls_,lz_,lc_,i64_w,i32_w]
          rfl
         refine pu_ (v := ?_) (a' := ?_) 12 6 (bz 14 8191) rfl rfl HT_ (by kernel_rfl) (fun _ _ _ h => h) (by rfl) ?_ ?_ ?_
         rotate_left;(intro w';go_simp;with_reducible rfl);rotate_left;(simp only [Act.put,ls_,lz_,lc_,i64_w,i32_w];rfl)
         refine pu_ (v := ?_) (a' := ?_) 13 7 (bz 14 16383) rfl rfl HT_ (by kernel_rfl) (fun _ _ _ h => h) (by rfl) ?_ ?_ ?_
         rotate_left;(intro w';go_simp;with_reducible rfl);rotate_left;(simp only [Act.put,ls_,lz_,lc_,i64_w,i32_w];rfl)
         refine done_ (done_of HT_.out (by kernel_rfl)) ?_
         try go_wp2
         (repeat (rw [drewN_self w36];generalize hq_ : World.drewN w36 _ = w36;have n0_ : Aside0 (w36.heap[gb432]? = some (.cells #[.int .i64 a0_0,.int .i64 a0_1] 25 (0,0))) := ⟨by rw [← hq_];exact (kk_ BK432.out)⟩;have n1_ : Aside0 (w36.heap[gb433]? = some (.cells #[.int .i64 a1_0,.int .i64 a1_1] 25 (0,0))) := ⟨by rw [← hq_];exact (kk_ BK433.out)⟩;have n2_ : Aside0 (w36.heap[gb434]? = some (.cells #[.int .i64 0,.int .i64 0] 25 (0,0))) := ⟨by rw [← hq_];exact (kk_ BK434.out)⟩;have n3_ : Aside0 (Below w.heap.size w w36) := ⟨by rw [← hq_];exact (bb_ HB.out (e_ GE432 (e_ GE433 (e_ GE434 e0_))))⟩;clear BK432 BK433 BK434 HB hq_;have BK432 := n0_;have BK433 := n1_;have BK434 := n2_;have HB := n3_;clear n0_ n1_ n2_ n3_))
         replace BK432 := sd_ (kd_ BK432.out)
         replace BK433 := sd_ (kd_ BK433.out)
         replace BK434 := sd_ (kd_ BK434.out)
         replace HB := sd_ (d1_ HB.out)
         refine start_ (n := 20) (S := fun w' => w'.cell? ⟨gb432,0,none⟩ = some (.int .i64 a0_0) ∧ w'.cell? ⟨gb432,1,none⟩ = some (.int .i64 a0_1) ∧ w'.cell? ⟨gb433,0,none⟩ = some (.int .i64 a1_0) ∧ w'.cell? ⟨gb433,1,none⟩ = some (.int .i64 a1_1)) (ds := []) (Array.replicate 20 false) (by kernel_rfl) rfl rfl ⟨(kc_ BK432.out 0).trans rfl,(kc_ BK432.out 1).trans rfl,(kc_ BK433.out 0).trans rfl,(kc_ BK433.out 1).trans rfl⟩ (fun hHeld => ?_);refine with_tabW neumeref02_Mul.tab4 neumeref02_Mul.bits4 (fun HT_ HW_ => ?_)
         generalize w36.drew = w37 at BK432 BK433 BK434 HB hHeld ⊢
         refine pu_ (v := ?_) (a' := ?_) 0 33 (bz 20 1) rfl rfl HT_ (by kernel_rfl) (fun _ _ _ h => h) (by rfl) ?_ ?_ ?_
         rotate_left;(intro w';go_simp;with_reducible rfl);rotate_left;(simp only [Act.put,ls_,lz_,lc_,i64_w,i32_w];rfl)
         refine pu_ (v := ?_) (a' := ?_) 2 35 (bz 20 5) rfl rfl HT_ (by kernel_rfl) (fun _ _ _ h => h) (by rfl) ?_ ?_ ?_
         rotate_left;(intro w';go_simp;with_reducible rfl);rotate_left;(simp only [Act.put,ls_,lz_,lc_,i64_w,i32_w];rfl)
         refine pu_ (v := ?_) (a' := ?_) 4 37 (bz 20 21) rfl rfl HT_ (by kernel_rfl) (fun _ _ _ h => h) (by rfl) ?_ ?_ ?_
         rotate_left;(intro w';go_simp;with_reducible rfl);rotate_left;(simp only [Act.put,ls_,lz_,lc_,i64_w,i32_w];rfl)
         refine pu_ (v := ?_) (a' := ?_) 6 39 (bz 20 85) rfl rfl HT_ (by kernel_rfl) (fun _ _ _ h => h) (by rfl) ?_ ?_ ?_
         rotate_left;(intro w';go_simp;with_reducible rfl);rotate_left;(simp only [Act.put,ls_,lz_,lc_,i64_w,i32_w];rfl)
         refine pu_ (v := ?_) (a' := ?_) 8 41 (bz 20 341) rfl rfl HT_ (by kernel_rfl) (fun _ _ _ h => h) (by rfl) ?_ ?_ ?_
         rotate_left;(intro w';go_simp;with_reducible rfl);rotate_left;(simp only [Act.put,ls_,lz_,lc_,i64_w,i32_w];rfl)
         refine pu_ (v := ?_) (a' := ?_) 10 43 (bz 20 1365) rfl rfl HT_ (by kernel_rfl) (fun _ _ _ h => h) (by rfl) ?_ ?_ ?_
         rotate_left;(intro w';go_simp;with_reducible rfl);rotate_left;(simp only [Act.put,ls_,lz_,lc_,i64_w,i32_w];rfl)
         refine pu_ (v := ?_) (a' := ?_) 12 45 (bz 20 5461) rfl rfl HT_ (by kernel_rfl) (fun _ _ _ h => h) (by rfl) ?_ ?_ ?_
         rotate_left;(intro w';go_simp;with_reducible rfl);rotate_left;(simp only [Act.put,ls_,lz_,lc_,i64_w,i32_w];rfl)
         refine pu_ (v := ?_) (a' := ?_) 14 47 (bz 20 21845) rfl rfl HT_ (by kernel_rfl) (fun _ _ _ h => h) (by rfl) ?_ ?_ ?_
         rotate_left;(intro w';go_simp;with_reducible rfl);rotate_left;(simp only [Act.put,ls_,lz_,lc_,i64_w,i32_w];rfl)
         refine ta_ (v := ?_) (a' := ?_) 1 34 (bz 20 21847) rfl rfl HT_ HW_ (by kernel_rfl) (fun _ _ _ h => h) (by rfl) ?_ hHeld ?_ ?_
         rotate_left
         ·rintro w' ⟨s0,s1,s2,s3⟩
          go_simp
          with_reducible rfl
         rotate_left
         ·simp only [Act.put,ls_,lz_,lc_,i64_w,i32_w]
          rfl
         refine pu_ (v := ?_) (a' := ?_) 3 36 (bz 20 21855) rfl rfl HT_ (by kernel_rfl) (fun _ _ _ h => h) (by rfl) ?_ ?_ ?_
         rotate_left;(intro w';go_simp;with_reducible rfl);rotate_left;(simp only [Act.put,ls_,lz_,lc_,i64_w,i32_w];rfl)
         refine pu_ (v := ?_) (a' := ?_) 16 8 (bz 20 87391) rfl rfl HT_ (by kernel_rfl) (fun _ _ _ h => h) (by rfl) ?_ ?_ ?_
         rotate_left;(intro w';go_simp;with_reducible rfl);rotate_left;(simp only [Act.put,ls_,lz_,lc_,i64_w,i32_w];rfl)
         refine ta_ (v := ?_) (a' := ?_) 5 38 (bz 20 87423) rfl rfl HT_ HW_ (by kernel_rfl) (fun _ _ _ h => h) (by rfl) ?_ hHeld ?_ ?_
         rotate_left
         ·rintro w' ⟨s0,s1,s2,s3⟩
          go_simp
          with_reducible rfl
         rotate_left
         ·simp only [Act.put,ls_,lz_,lc_,i64_w,i32_w]
          rfl
         refine pu_ (v := ?_) (a' := ?_) 7 40 (bz 20 87551) rfl rfl HT_ (by kernel_rfl) (fun _ _ _ h => h) (by rfl) ?_ ?_ ?_
         rotate_left;(intro w';go_simp;with_reducible rfl);rotate_left;(simp only [Act.put,ls_,lz_,lc_,i64_w,i32_w];rfl)
         refine pu_ (v := ?_) (a' := ?_) 17 9 (bz 20 218623) rfl rfl HT_ (by kernel_rfl) (fun _ _ _ h => h) (by rfl) ?_ ?_ ?_
         rotate_left;(intro w';go_simp;with_reducible rfl);rotate_left;(simp only [Act.put,ls_,lz_,lc_,i64_w,i32_w];rfl)
         refine ta_ (v := ?_) (a' := ?_) 9 42 (bz 20 219135) rfl rfl HT_ HW_ (by kernel_rfl) (fun _ _ _ h => h) (by rfl) ?_ hHeld ?_ ?_
         rotate_left
         ·rintro w' ⟨s0,s1,s2,s3⟩
          go_simp
          with_reducible rfl
         rotate_left
         ·simp only [Act.put,ls_,lz_,lc_,i64_w,i32_w]
          rfl
         refine pu_ (v := ?_) (a' := ?_) 11 44 (bz 20 221183) rfl rfl HT_ (by kernel_rfl) (fun _ _ _ h => h) (by rfl) ?_ ?_ ?_
         rotate_left;(intro w';go_simp;with_reducible rfl);rotate_left;(simp only [Act.put,ls_,lz_,lc_,i64_w,i32_w];rfl)
         refine pu_ (v := ?_) (a' := ?_) 18 10 (bz 20 483327) rfl rfl HT_ (by kernel_rfl) (fun _ _ _ h => h) (by rfl) ?_ ?_ ?_
         rotate_left;(intro w';go_simp;with_reducible rfl);rotate_left;(simp only [Act.put,ls_,lz_,lc_,i64_w,i32_w];rfl)
         refine ta_ (v := ?_) (a' := ?_) 13 46 (bz 20 491519) rfl rfl HT_ HW_ (by kernel_rfl) (fun _ _ _ h => h) (by rfl) ?_ hHeld ?_ ?_
         rotate_left
         ·rintro w' ⟨s0,s1,s2,s3⟩
          go_simp
          with_reducible rfl
         rotate_left
         ·simp only [Act.put,ls_,lz_,lc_,i64_w,i32_w]
          rfl
         refine pu_ (v := ?_) (a' := ?_) 15 48 (bz 20 524287) rfl rfl HT_ (by kernel_rfl) (fun _ _ _ h => h) (by rfl) ?_ ?_ ?_
         rotate_left;(intro w';go_simp;with_reducible rfl);rotate_left;(simp only [Act.put,ls_,lz_,lc_,i64_w,i32_w];rfl)
         refine pu_ (v := ?_) (a' := ?_) 19 11 (bz 20 1048575) rfl rfl HT_ (by kernel_rfl) (fun _ _ _ h => h) (by rfl) ?_ ?_ ?_
         rotate_left;(intro w';go_simp;with_reducible rfl);rotate_left;(simp only [Act.put,ls_,lz_,lc_,i64_w,i32_w];rfl)
         refine done_ (done_of HT_.out (by kernel_rfl)) ?_
         have hnb38 := NB434_432.out
         have hnc38 := NB432_434.out
         have hnb39 := NB434_433.out
         have hnc39 := NB433_434.out
         have hcz40_0 : w37.cell? ⟨gb434,0,none⟩ = some (.int .i64 0) := (kc_ BK434.out 0).trans rfl
         have hcz40_1 : w37.cell? ⟨gb434,1,none⟩ = some (.int .i64 0) := (kc_ BK434.out 1).trans rfl
         have hfz40_0 := kf_ BK434.out 0
         have hfz40_1 := kf_ BK434.out 1
         try go_wp2
         refine bodyPost_ret (results_ct rfl _ _ gb434 25 #[.int .i64 0,.int .i64 0] (0,0) _ rfl (by (with_reducible repeat first|apply kn_|apply kd_|apply ka_);refine blk_put (cs := #[.int .i64 0,.int .i64 0]) ?_ 1 _ rfl;(with_reducible repeat first|apply kn_|apply kd_|apply ka_);refine blk_put (cs := #[.int .i64 0,.int .i64 0]) ?_ 0 _ rfl;(with_reducible repeat first|apply kn_|apply kd_|apply ka_);exact BK434.out) Tryd.underlying25 rfl (by kernel_rfl)) rfl ?_
         exact ⟨by first|rfl|(simp [errW_none,errW_some] <;> rfl)|(simp [*,errW_none,errW_some] <;> rfl),by repeat (first|(with_reducible first|exact HB.out|apply ba_|apply pd_|apply d1_|refine bs_ ?_ GE432.out|refine bs_ ?_ GE433.out|refine bs_ ?_ GE434.out)|exact HB.out)⟩
        ·rw [if_neg c33] at H
         have c33b0 : decide ((wrap64 (Int.tdiv (1048576 : Int) (wrap64 (Int.tdiv a1_1 t438)))) < (wrap64 (Int.tdiv a0_1 t440))) = false := df_ c33
         clear c33
         replace H := ob_ H
         obtain ⟨⟨t441,t442,t443⟩,A410,H⟩ := H
         replace H : (some (t441,t442,t443)) = some (r1,r2,r3) := H
         have A41 := sd_ A410
         clear A410
         simp only [Option.some.injEq,Prod.mk.injEq] at H
         obtain ⟨rfl,rfl,rfl⟩ := H
         try go_wp2
         replace BK432 := sd_ (kd_ BK432.out)
         replace BK433 := sd_ (kd_ BK433.out)
         replace BK434 := sd_ (kd_ BK434.out)
         replace HB := sd_ (d1_ HB.out)
         refine start_ (n := 14) (S := fun w' => w'.cell? ⟨gb432,0,none⟩ = some (.int .i64 a0_0) ∧ w'.cell? ⟨gb432,1,none⟩ = some (.int .i64 a0_1) ∧ w'.cell? ⟨gb433,0,none⟩ = some (.int .i64 a1_0) ∧ w'.cell? ⟨gb433,1,none⟩ = some (.int .i64 a1_1)) (ds := []) (Array.replicate 14 false) (by kernel_rfl) rfl rfl ⟨(kc_ BK432.out 0).trans rfl,(kc_ BK432.out 1).trans rfl,(kc_ BK433.out 0).trans rfl,(kc_ BK433.out 1).trans rfl⟩ (fun hHeld => ?_);refine with_tabW neumeref02_Mul.tab3 neumeref02_Mul.bits3 (fun HT_ HW_ => ?_)
         generalize wc.drew = w42 at BK432 BK433 BK434 HB hHeld ⊢
         refine pu_ (v := ?_) (a' := ?_) 0 21 (bz 14 1) rfl rfl HT_ (by kernel_rfl) (fun _ _ _ h => h) (by rfl) ?_ ?_ ?_
         rotate_left;(intro w';go_simp;with_reducible rfl);rotate_left;(simp only [Act.put,ls_,lz_,lc_,i64_w,i32_w];rfl)
         refine pu_ (v := ?_) (a' := ?_) 3 24 (bz 14 9) rfl rfl HT_ (by kernel_rfl) (fun _ _ _ h => h) (by rfl) ?_ ?_ ?_
         rotate_left;(intro w';go_simp;with_reducible rfl);rotate_left;(simp only [Act.put,ls_,lz_,lc_,i64_w,i32_w];rfl)
         refine pu_ (v := ?_) (a' := ?_) 6 27 (bz 14 73) rfl rfl HT_ (by kernel_rfl) (fun _ _ _ h => h) (by rfl) ?_ ?_ ?_
         rotate_left;(intro w';go_simp;with_reducible rfl);rotate_left;(simp only [Act.put,ls_,lz_,lc_,i64_w,i32_w];rfl)
         refine pu_ (v := ?_) (a' := ?_) 9 30 (bz 14 585) rfl rfl HT_ (by kernel_rfl) (fun _ _ _ h => h) (by rfl) ?_ ?_ ?_
         rotate_left;(intro w';go_simp;with_reducible rfl);rotate_left;(simp only [Act.put,ls_,lz_,lc_,i64_w,i32_w];rfl)
         refine ta_ (v := ?_) (a' := ?_) 1 22 (bz 14 587) rfl rfl HT_ HW_ (by kernel_rfl) (fun _ _ _ h => h) (by rfl) ?_ hHeld ?_ ?_
         rotate_left
         ·rintro w' ⟨s0,s1,s2,s3⟩
          go_simp
          with_reducible rfl
         rotate_left
         ·simp only [Act.put,ls_,lz_,lc_,i64_w,i32_w]
          rfl
         refine ta_ (v := ?_) (a' := ?_) 4 25 (bz 14 603) rfl rfl HT_ HW_ (by kernel_rfl) (fun _ _ _ h => h) (by rfl) ?_ hHeld ?_ ?_
         rotate_left
         ·rintro w' ⟨s0,s1,s2,s3⟩
          go_simp
          with_reducible rfl
         rotate_left
         ·simp only [Act.put,ls_,lz_,lc_,i64_w,i32_w]
          rfl
         refine ta_ (v := ?_) (a' := ?_) 7 28 (bz 14 731) rfl rfl HT_ HW_ (by kernel_rfl) (fun _ _ _ h => h) (by rfl) ?_ hHeld ?_ ?_
         rotate_left
         ·rintro w' ⟨s0,s1,s2,s3⟩
          go_simp
          with_reducible rfl
         rotate_left
         ·simp only [Act.put,ls_,lz_,lc_,i64_w,i32_w]
          rfl
         refine ta_ (v := ?_) (a' := ?_) 10 31 (bz 14 1755) rfl rfl HT_ HW_ (by kernel_rfl) (fun _ _ _ h => h) (by rfl) ?_ hHeld ?_ ?_
         rotate_left
         ·rintro w' ⟨s0,s1,s2,s3⟩
          go_simp
          with_reducible rfl
         rotate_left
         ·simp only [Act.put,ls_,lz_,lc_,i64_w,i32_w]
          rfl
         refine on_ (N := some 23) 2 (bz 14 1759) rfl rfl HT_ (by kernel_rfl) (by decide) (fun K hK => ?_)
         refine goes_ Tryd.func41 (by kernel_rfl) rfl #[.int .i64 a0_0] (by rfl) rfl rfl (by (try simp only [lm_,lq_,lx_]);first|done|rfl|(simp only [ld_,lt_];rfl)) ?_
         with_reducible refine (neumeref02_abs.calls a0_0 t437 _ A25.out).mono ?_
         rintro e w43 ⟨rfl,hb⟩
         refine ⟨_,rfl,?_⟩
         replace BK432 := kb_ BK432 hb
         replace BK433 := kb_ BK433 hb
         replace BK434 := kb_ BK434 hb
         replace HB := hb_ HB (e_ GE432 (e_ GE433 (e_ GE434 e0_))) hb
         (try clear hb)
         (try clear hb2)
         (try clear hk)
         (try clear hi)
         refine hK.out _ _ ⟨(kc_ BK432.out 0).trans rfl,(kc_ BK432.out 1).trans rfl,(kc_ BK433.out 0).trans rfl,(kc_ BK433.out 1).trans rfl⟩ (fun hHeld => ?_)
         clear hK K
         refine norm_ (a' := ?_) ?_ ?_
         rotate_left
         ·show Act.put _ (some 23) _ = _
          simp only [Act.put,ls_,lz_,lc_,i64_w,i32_w]
          rfl
         refine on_ (N := some 26) 5 (bz 14 1791) rfl rfl HT_ (by kernel_rfl) (by decide) (fun K hK => ?_)
         refine goes_ Tryd.func38 (by kernel_rfl) rfl #[.int .i64 t437,.int .i64 a1_1] (by rfl) rfl rfl (by (try simp only [lm_,lq_,lx_]);first|done|rfl|(simp only [ld_,lt_];rfl)) ?_
         with_reducible refine (neumeref02_gcd.calls kj2 t437 a1_1 t438 _ A26.out).mono ?_
         rintro e w' ⟨rfl,⟨nd,rfl⟩⟩
         refine ⟨_,rfl,?_⟩
         refine hK.out _ _ ⟨(kc_ BK432.out 0).trans rfl,(kc_ BK432.out 1).trans rfl,(kc_ BK433.out 0).trans rfl,(kc_ BK433.out 1).trans rfl⟩ (fun hHeld => ?_)
         clear hK K
         refine norm_ (a' := ?_) ?_ ?_
         rotate_left
         ·show Act.put _ (some 26) _ = _
          simp only [Act.put,ls_,lz_,lc_,i64_w,i32_w]
          rfl
         refine on_ (N := some 29) 8 (bz 14 2047) rfl rfl HT_ (by kernel_rfl) (by decide) (fun K hK => ?_)
         refine goes_ Tryd.func41 (by kernel_rfl) rfl #[.int .i64 a1_0] (by rfl) rfl rfl (by (try simp only [lm_,lq_,lx_]);first|done|rfl|(simp only [ld_,lt_];rfl)) ?_
         with_reducible refine (neumeref02_abs.calls a1_0 t439 _ A27.out).mono ?_
         rintro e w44 ⟨rfl,hb⟩
         refine ⟨_,rfl,?_⟩
         replace BK432 := kb_ BK432 hb
         replace BK433 := kb_ BK433 hb
         replace BK434 := kb_ BK434 hb
         replace HB := hb_ HB (e_ GE432 (e_ GE433 (e_ GE434 e0_))) hb
         (try clear hb)
         (try clear hb2)
         (try clear hk)
         (try clear hi)
         refine hK.out _ _ ⟨(kc_ BK432.out 0).trans rfl,(kc_ BK432.out 1).trans rfl,(kc_ BK433.out 0).trans rfl,(kc_ BK433.out 1).trans rfl⟩ (fun hHeld => ?_)
         clear hK K
         refine norm_ (a' := ?_) ?_ ?_
         rotate_left
         ·show Act.put _ (some 29) _ = _
          simp only [Act.put,ls_,lz_,lc_,i64_w,i32_w]
          rfl
         refine on_ (N := some 32) 11 (bz 14 4095) rfl rfl HT_ (by kernel_rfl) (by decide) (fun K hK => ?_)
         refine goes_ Tryd.func38 (by kernel_rfl) rfl #[.int .i64 t439,.int .i64 a0_1] (by rfl) rfl rfl (by (try simp only [lm_,lq_,lx_]);first|done|rfl|(simp only [ld_,lt_];rfl)) ?_
         with_reducible refine (neumeref02_gcd.calls kj2 t439 a0_1 t440 _ A28.out).mono ?_
         rintro e w' ⟨rfl,⟨nd,rfl⟩⟩
         refine ⟨_,rfl,?_⟩
         refine hK.out _ _ ⟨(kc_ BK432.out 0).trans rfl,(kc_ BK432.out 1).trans rfl,(kc_ BK433.out 0).trans rfl,(kc_ BK433.out 1).trans rfl⟩ (fun hHeld => ?_)
         clear hK K
         refine norm_ (a' := ?_) ?_ ?_
         rotate_left
         ·show Act.put _ (some 32) _ = _
          simp only [Act.put,ls_,lz_,lc_,i64_w,i32_w]
          rfl
         refine pu_ (v := ?_) (a' := ?_) 12 6 (bz 14 8191) rfl rfl HT_ (by kernel_rfl) (fun _ _ _ h => h) (by rfl) ?_ ?_ ?_
         rotate_left;(intro w';go_simp;with_reducible rfl);rotate_left;(simp only [Act.put,ls_,lz_,lc_,i64_w,i32_w];rfl)
         refine pu_ (v := ?_) (a' := ?_) 13 7 (bz 14 16383) rfl rfl HT_ (by kernel_rfl) (fun _ _ _ h => h) (by rfl) ?_ ?_ ?_
         rotate_left;(intro w';go_simp;with_reducible rfl);rotate_left;(simp only [Act.put,ls_,lz_,lc_,i64_w,i32_w];rfl)
         refine done_ (done_of HT_.out (by kernel_rfl)) ?_
         try go_wp2
         (repeat (rw [drewN_self w44];generalize hq_ : World.drewN w44 _ = w44;have n0_ : Aside0 (w44.heap[gb432]? = some (.cells #[.int .i64 a0_0,.int .i64 a0_1] 25 (0,0))) := ⟨by rw [← hq_];exact (kk_ BK432.out)⟩;have n1_ : Aside0 (w44.heap[gb433]? = some (.cells #[.int .i64 a1_0,.int .i64 a1_1] 25 (0,0))) := ⟨by rw [← hq_];exact (kk_ BK433.out)⟩;have n2_ : Aside0 (w44.heap[gb434]? = some (.cells #[.int .i64 0,.int .i64 0] 25 (0,0))) := ⟨by rw [← hq_];exact (kk_ BK434.out)⟩;have n3_ : Aside0 (Below w.heap.size w w44) := ⟨by rw [← hq_];exact (bb_ HB.out (e_ GE432 (e_ GE433 (e_ GE434 e0_))))⟩;clear BK432 BK433 BK434 HB hq_;have BK432 := n0_;have BK433 := n1_;have BK434 := n2_;have HB := n3_;clear n0_ n1_ n2_ n3_))
         replace BK432 := sd_ (kd_ BK432.out)
         replace BK433 := sd_ (kd_ BK433.out)
         replace BK434 := sd_ (kd_ BK434.out)
         replace HB := sd_ (d1_ HB.out)
         refine start_ (n := 20) (S := fun w' => w'.cell? ⟨gb432,0,none⟩ = some (.int .i64 a0_0) ∧ w'.cell? ⟨gb432,1,none⟩ = some (.int .i64 a0_1) ∧ w'.cell? ⟨gb433,0,none⟩ = some (.int .i64 a1_0) ∧ w'.cell? ⟨gb433,1,none⟩ = some (.int .i64 a1_1)) (ds := []) (Array.replicate 20 false) (by kernel_rfl) rfl rfl ⟨(kc_ BK432.out 0).trans rfl,(kc_ BK432.out 1).trans rfl,(kc_ BK433.out 0).trans rfl,(kc_ BK433.out 1).trans rfl⟩ (fun hHeld => ?_);refine with_tabW neumeref02_Mul.tab4 neumeref02_Mul.bits4 (fun HT_ HW_ => ?_)
         generalize w44.drew = w45 at BK432 BK433 BK434 HB hHeld ⊢
         refine pu_ (v := ?_) (a' := ?_) 0 33 (bz 20 1) rfl rfl HT_ (by kernel_rfl) (fun _ _ _ h => h) (by rfl) ?_ ?_ ?_
         rotate_left;(intro w';go_simp;with_reducible rfl);rotate_left;(simp only [Act.put,ls_,lz_,lc_,i64_w,i32_w];rfl)
         refine pu_ (v := ?_) (a' := ?_) 2 35 (bz 20 5) rfl rfl HT_ (by kernel_rfl) (fun _ _ _ h => h) (by rfl) ?_ ?_ ?_
         rotate_left;(intro w';go_simp;with_reducible rfl);rotate_left;(simp only [Act.put,ls_,lz_,lc_,i64_w,i32_w];rfl)
         refine pu_ (v := ?_) (a' := ?_) 4 37 (bz 20 21) rfl rfl HT_ (by kernel_rfl) (fun _ _ _ h => h) (by rfl) ?_ ?_ ?_
         rotate_left;(intro w';go_simp;with_reducible rfl);rotate_left;(simp only [Act.put,ls_,lz_,lc_,i64_w,i32_w];rfl)
         refine pu_ (v := ?_) (a' := ?_) 6 39 (bz 20 85) rfl rfl HT_ (by kernel_rfl) (fun _ _ _ h => h) (by rfl) ?_ ?_ ?_
         rotate_left;(intro w';go_simp;with_reducible rfl);rotate_left;(simp only [Act.put,ls_,lz_,lc_,i64_w,i32_w];rfl)
         refine pu_ (v := ?_) (a' := ?_) 8 41 (bz 20 341) rfl rfl HT_ (by kernel_rfl) (fun _ _ _ h => h) (by rfl) ?_ ?_ ?_
         rotate_left;(intro w';go_simp;with_reducible rfl);rotate_left;(simp only [Act.put,ls_,lz_,lc_,i64_w,i32_w];rfl)
         refine pu_ (v := ?_) (a' := ?_) 10 43 (bz 20 1365) rfl rfl HT_ (by kernel_rfl) (fun _ _ _ h => h) (by rfl) ?_ ?_ ?_
         rotate_left;(intro w';go_simp;with_reducible rfl);rotate_left;(simp only [Act.put,ls_,lz_,lc_,i64_w,i32_w];rfl)
         refine pu_ (v := ?_) (a' := ?_) 12 45 (bz 20 5461) rfl rfl HT_ (by kernel_rfl) (fun _ _ _ h => h) (by rfl) ?_ ?_ ?_
         rotate_left;(intro w';go_simp;with_reducible rfl);rotate_left;(simp only [Act.put,ls_,lz_,lc_,i64_w,i32_w];rfl)
         refine pu_ (v := ?_) (a' := ?_) 14 47 (bz 20 21845) rfl rfl HT_ (by kernel_rfl) (fun _ _ _ h => h) (by rfl) ?_ ?_ ?_
         rotate_left;(intro w';go_simp;with_reducible rfl);rotate_left;(simp only [Act.put,ls_,lz_,lc_,i64_w,i32_w];rfl)
         refine ta_ (v := ?_) (a' := ?_) 1 34 (bz 20 21847) rfl rfl HT_ HW_ (by kernel_rfl) (fun _ _ _ h => h) (by rfl) ?_ hHeld ?_ ?_
         rotate_left
         ·rintro w' ⟨s0,s1,s2,s3⟩
          go_simp
          with_reducible rfl
         rotate_left
         ·simp only [Act.put,ls_,lz_,lc_,i64_w,i32_w]
          rfl
         refine pu_ (v := ?_) (a' := ?_) 3 36 (bz 20 21855) rfl rfl HT_ (by kernel_rfl) (fun _ _ _ h => h) (by rfl) ?_ ?_ ?_
         rotate_left;(intro w';go_simp;with_reducible rfl);rotate_left;(simp only [Act.put,ls_,lz_,lc_,i64_w,i32_w];rfl)
         refine pu_ (v := ?_) (a' := ?_) 16 8 (bz 20 87391) rfl rfl HT_ (by kernel_rfl) (fun _ _ _ h => h) (by rfl) ?_ ?_ ?_
         rotate_left;(intro w';go_simp;with_reducible rfl);rotate_left;(simp only [Act.put,ls_,lz_,lc_,i64_w,i32_w];rfl)
         refine ta_ (v := ?_) (a' := ?_) 5 38 (bz 20 87423) rfl rfl HT_ HW_ (by kernel_rfl) (fun _ _ _ h => h) (by rfl) ?_ hHeld ?_ ?_
         rotate_left
         ·rintro w' ⟨s0,s1,s2,s3⟩
          go_simp
          with_reducible rfl
         rotate_left
         ·simp only [Act.put,ls_,lz_,lc_,i64_w,i32_w]
          rfl
         refine pu_ (v := ?_) (a' := ?_) 7 40 (bz 20 87551) rfl rfl HT_ (by kernel_rfl) (fun _ _ _ h => h) (by rfl) ?_ ?_ ?_
         rotate_left;(intro w';go_simp;with_reducible rfl);rotate_left;(simp only [Act.put,ls_,lz_,lc_,i64_w,i32_w];rfl)
         refine pu_ (v := ?_) (a' := ?_) 17 9 (bz 20 218623) rfl rfl HT_ (by kernel_rfl) (fun _ _ _ h => h) (by rfl) ?_ ?_ ?_
         rotate_left;(intro w';go_simp;with_reducible rfl);rotate_left;(simp only [Act.put,ls_,lz_,lc_,i64_w,i32_w];rfl)
         refine ta_ (v := ?_) (a' := ?_) 9 42 (bz 20 219135) rfl rfl HT_ HW_ (by kernel_rfl) (fun _ _ _ h => h) (by rfl) ?_ hHeld ?_ ?_
         rotate_left
         ·rintro w' ⟨s0,s1,s2,s3⟩
          go_simp
          with_reducible rfl
         rotate_left
         ·simp only [Act.put,ls_,lz_,lc_,i64_w,i32_w]
          rfl
         refine pu_ (v := ?_) (a' := ?_) 11 44 (bz 20 221183) rfl rfl HT_ (by kernel_rfl) (fun _ _ _ h => h) (by rfl) ?_ ?_ ?_
         rotate_left;(intro w';go_simp;with_reducible rfl);rotate_left;(simp only [Act.put,ls_,lz_,lc_,i64_w,i32_w];rfl)
         refine pu_ (v := ?_) (a' := ?_) 18 10 (bz 20 483327) rfl rfl HT_ (by kernel_rfl) (fun _ _ _ h => h) (by rfl) ?_ ?_ ?_
         rotate_left;(intro w';go_simp;with_reducible rfl);rotate_left;(simp only [Act.put,ls_,lz_,lc_,i64_w,i32_w];rfl)
         refine ta_ (v := ?_) (a' := ?_) 13 46 (bz 20 491519) rfl rfl HT_ HW_ (by kernel_rfl) (fun _ _ _ h => h) (by rfl) ?_ hHeld ?_ ?_
         rotate_left
         ·rintro w' ⟨s0,s1,s2,s3⟩
          go_simp
          with_reducible rfl
         rotate_left
         ·simp only [Act.put,ls_,lz_,lc_,i64_w,i32_w]
          rfl
         refine pu_ (v := ?_) (a' := ?_) 15 48 (bz 20 524287) rfl rfl HT_ (by kernel_rfl) (fun _ _ _ h => h) (by rfl) ?_ ?_ ?_
         rotate_left;(intro w';go_simp;with_reducible rfl);rotate_left;(simp only [Act.put,ls_,lz_,lc_,i64_w,i32_w];rfl)
         refine pu_ (v := ?_) (a' := ?_) 19 11 (bz 20 1048575) rfl rfl HT_ (by kernel_rfl) (fun _ _ _ h => h) (by rfl) ?_ ?_ ?_
         rotate_left;(intro w';go_simp;with_reducible rfl);rotate_left;(simp only [Act.put,ls_,lz_,lc_,i64_w,i32_w];rfl)
         refine done_ (done_of HT_.out (by kernel_rfl)) ?_
         try go_wp2_with (first|((with_reducible refine gate_callee (f := 39) rfl ?_);refine goesL_ (some 72) rfl rfl Tryd.func39 (by kernel_rfl) rfl #[.int .i64 (wrap64 ((wrap64 (Int.tdiv a0_0 t438)) * (wrap64 (Int.tdiv a1_0 t440)))),.int .i64 (wrap64 ((wrap64 (Int.tdiv a0_1 t440)) * (wrap64 (Int.tdiv a1_1 t438))))] rfl (by (try simp only [lm_,lq_,lx_]);first|done|rfl|(simp only [ld_,lt_];rfl)) ?_;(with_reducible refine (neumeref02_lowest.calls kj2 (wrap64 ((wrap64 (Int.tdiv a0_0 t438)) * (wrap64 (Int.tdiv a1_0 t440)))) (wrap64 ((wrap64 (Int.tdiv a0_1 t440)) * (wrap64 (Int.tdiv a1_1 t438)))) t441 t442 t443 _ A41.out).mono ?_);rintro e w46 ⟨rfl,hb⟩;refine ⟨_,rfl,?_⟩;replace BK432 := kb_ BK432 hb;replace BK433 := kb_ BK433 hb;replace BK434 := kb_ BK434 hb;replace HB := hb_ HB (e_ GE432 (e_ GE433 (e_ GE434 e0_))) hb;(try clear hb);(try clear hb2);(try clear hk);(try clear hi);have hnb47 := NB434_432.out;have hnc47 := NB432_434.out;have hnb48 := NB434_433.out;have hnc48 := NB433_434.out;have hcz49_0 : w46.cell? ⟨gb434,0,none⟩ = some (.int .i64 0) := (kc_ BK434.out 0).trans rfl;have hcz49_1 : w46.cell? ⟨gb434,1,none⟩ = some (.int .i64 0) := (kc_ BK434.out 1).trans rfl;have hfz49_0 := kf_ BK434.out 0;have hfz49_1 := kf_ BK434.out 1))
         refine bodyPost_ret (results_ct rfl _ _ gb434 25 #[.int .i64 t441,.int .i64 t442] (0,0) _ rfl (by (with_reducible repeat first|apply kn_|apply kd_|apply ka_);refine blk_put (cs := #[.int .i64 t441,.int .i64 0]) ?_ 1 _ rfl;(with_reducible repeat first|apply kn_|apply kd_|apply ka_);refine blk_put (cs := #[.int .i64 0,.int .i64 0]) ?_ 0 _ rfl;(with_reducible repeat first|apply kn_|apply kd_|apply ka_);exact BK434.out) Tryd.underlying25 rfl (by kernel_rfl)) rfl ?_
         exact ⟨by first|rfl|(simp [errW_none,errW_some] <;> rfl)|(simp [*,errW_none,errW_some] <;> rfl),by repeat (first|(with_reducible first|exact HB.out|apply ba_|apply pd_|apply d1_|refine bs_ ?_ GE432.out|refine bs_ ?_ GE433.out|refine bs_ ?_ GE434.out)|exact HB.out)⟩
      ·rw [if_neg c31] at H
       have c31b0 : ((wrap64 (Int.tdiv a1_0 t440)) == 0) = false := beq_eq_false_iff_ne.mpr c31
       have c31b1 : ((wrap64 (Int.tdiv a1_0 t440)) != 0) = true := bne_iff_ne.mpr c31
       replace H := ob_ H
       obtain ⟨t444,A500,H⟩ := H
       try dsimp only at H
       have A50 := sd_ A500
       clear A500
       replace H := ob_ H
       obtain ⟨t445,A510,H⟩ := H
       try dsimp only at H
       have A51 := sd_ A510
       clear A510
       by_cases c52 : t445 = 0
       ·rw [if_pos c52] at H
        exact absurd H (by simp)
       ·rw [if_neg c52] at H
        have c52b0 : (t445 == 0) = false := beq_eq_false_iff_ne.mpr c52
        have c52b1 : (t445 != 0) = true := bne_iff_ne.mpr c52
        by_cases c53 : t444 > (wrap64 (Int.tdiv (1099511627776 : Int) t445))
        ·rw [if_pos c53] at H
         have c53b0 : decide ((wrap64 (Int.tdiv (1099511627776 : Int) t445)) < t444) = true := dt_ c53
         clear c53
         simp only [Option.some.injEq,Prod.mk.injEq] at H
         obtain ⟨rfl,rfl,rfl⟩ := H
         try go_wp2
         replace BK432 := sd_ (kd_ BK432.out)
         replace BK433 := sd_ (kd_ BK433.out)
         replace BK434 := sd_ (kd_ BK434.out)
         replace HB := sd_ (d1_ HB.out)
         refine start_ (n := 14) (S := fun w' => w'.cell? ⟨gb432,0,none⟩ = some (.int .i64 a0_0) ∧ w'.cell? ⟨gb432,1,none⟩ = some (.int .i64 a0_1) ∧ w'.cell? ⟨gb433,0,none⟩ = some (.int .i64 a1_0) ∧ w'.cell? ⟨gb433,1,none⟩ = some (.int .i64 a1_1)) (ds := []) (Array.replicate 14 false) (by kernel_rfl) rfl rfl ⟨(kc_ BK432.out 0).trans rfl,(kc_ BK432.out 1).trans rfl,(kc_ BK433.out 0).trans rfl,(kc_ BK433.out 1).trans rfl⟩ (fun hHeld => ?_);refine with_tabW neumeref02_Mul.tab3 neumeref02_Mul.bits3 (fun HT_ HW_ => ?_)
         generalize wc.drew = w54 at BK432 BK433 BK434 HB hHeld ⊢
         refine pu_ (v := ?_) (a' := ?_) 0 21 (bz 14 1) rfl rfl HT_ (by kernel_rfl) (fun _ _ _ h => h) (by rfl) ?_ ?_ ?_
         rotate_left;(intro w';go_simp;with_reducible rfl);rotate_left;(simp only [Act.put,ls_,lz_,lc_,i64_w,i32_w];rfl)
         refine pu_ (v := ?_) (a' := ?_) 3 24 (bz 14 9) rfl rfl HT_ (by kernel_rfl) (fun _ _ _ h => h) (by rfl) ?_ ?_ ?_
         rotate_left;(intro w';go_simp;with_reducible rfl);rotate_left;(simp only [Act.put,ls_,lz_,lc_,i64_w,i32_w];rfl)
         refine pu_ (v := ?_) (a' := ?_) 6 27 (bz 14 73) rfl rfl HT_ (by kernel_rfl) (fun _ _ _ h => h) (by rfl) ?_ ?_ ?_
         rotate_left;(intro w';go_simp;with_reducible rfl);rotate_left;(simp only [Act.put,ls_,lz_,lc_,i64_w,i32_w];rfl)
         refine pu_ (v := ?_) (a' := ?_) 9 30 (bz 14 585) rfl rfl HT_ (by kernel_rfl) (fun _ _ _ h => h) (by rfl) ?_ ?_ ?_
         rotate_left;(intro w';go_simp;with_reducible rfl);rotate_left;(simp only [Act.put,ls_,lz_,lc_,i64_w,i32_w];rfl)
         refine ta_ (v := ?_) (a' := ?_) 1 22 (bz 14 587) rfl rfl HT_ HW_ (by kernel_rfl) (fun _ _ _ h => h) (by rfl) ?_ hHeld ?_ ?_
         rotate_left
         ·rintro w' ⟨s0,s1,s2,s3⟩
          go_simp
          with_reducible rfl
         rotate_left
         ·simp only [Act.put,ls_,lz_,lc_,i64_w,i32_w]
          rfl
         refine ta_ (v := ?_) (a' := ?_) 4 25 (bz 14 603) rfl rfl HT_ HW_ (by kernel_rfl) (fun _ _ _ h => h) (by rfl) ?_ hHeld ?_ ?_
         rotate_left
         ·rintro w' ⟨s0,s1,s2,s3⟩
          go_simp
          with_reducible rfl
         rotate_left
         ·simp only [Act.put,ls_,lz_,lc_,i64_w,i32_w]
          rfl
         refine ta_ (v := ?_) (a' := ?_) 7 28 (bz 14 731) rfl rfl HT_ HW_ (by kernel_rfl) (fun _ _ _ h => h) (by rfl) ?_ hHeld ?_ ?_
         rotate_left
         ·rintro w' ⟨s0,s1,s2,s3⟩
          go_simp
          with_reducible rfl
         rotate_left
         ·simp only [Act.put,ls_,lz_,lc_,i64_w,i32_w]
          rfl
         refine ta_ (v := ?_) (a' := ?_) 10 31 (bz 14 1755) rfl rfl HT_ HW_ (by kernel_rfl) (fun _ _ _ h => h) (by rfl) ?_ hHeld ?_ ?_
         rotate_left
         ·rintro w' ⟨s0,s1,s2,s3⟩
          go_simp
          with_reducible rfl
         rotate_left
         ·simp only [Act.put,ls_,lz_,lc_,i64_w,i32_w]
          rfl
         refine on_ (N := some 23) 2 (bz 14 1759) rfl rfl HT_ (by kernel_rfl) (by decide) (fun K hK => ?_)
         refine goes_ Tryd.func41 (by kernel_rfl) rfl #[.int .i64 a0_0] (by rfl) rfl rfl (by (try simp only [lm_,lq_,lx_]);first|done|rfl|(simp only [ld_,lt_];rfl)) ?_
         with_reducible refine (neumeref02_abs.calls a0_0 t437 _ A25.out).mono ?_
         rintro e w55 ⟨rfl,hb⟩
         refine ⟨_,rfl,?_⟩
         replace BK432 := kb_ BK432 hb
         replace BK433 := kb_ BK433 hb
         replace BK434 := kb_ BK434 hb
         replace HB := hb_ HB (e_ GE432 (e_ GE433 (e_ GE434 e0_))) hb
         (try clear hb)
         (try clear hb2)
         (try clear hk)
         (try clear hi)
         refine hK.out _ _ ⟨(kc_ BK432.out 0).trans rfl,(kc_ BK432.out 1).trans rfl,(kc_ BK433.out 0).trans rfl,(kc_ BK433.out 1).trans rfl⟩ (fun hHeld => ?_)
         clear hK K
         refine norm_ (a' := ?_) ?_ ?_
         rotate_left
         ·show Act.put _ (some 23) _ = _
          simp only [Act.put,ls_,lz_,lc_,i64_w,i32_w]
          rfl
         refine on_ (N := some 26) 5 (bz 14 1791) rfl rfl HT_ (by kernel_rfl) (by decide) (fun K hK => ?_)
         refine goes_ Tryd.func38 (by kernel_rfl) rfl #[.int .i64 t437,.int .i64 a1_1] (by rfl) rfl rfl (by (try simp only [lm_,lq_,lx_]);first|done|rfl|(simp only [ld_,lt_];rfl)) ?_
         with_reducible refine (neumeref02_gcd.calls kj2 t437 a1_1 t438 _ A26.out).mono ?_
         rintro e w' ⟨rfl,⟨nd,rfl⟩⟩
         refine ⟨_,rfl,?_⟩
         refine hK.out _ _ ⟨(kc_ BK432.out 0).trans rfl,(kc_ BK432.out 1).trans rfl,(kc_ BK433.out 0).trans rfl,(kc_ BK433.out 1).trans rfl⟩ (fun hHeld => ?_)
         clear hK K
         refine norm_ (a' := ?_) ?_ ?_
         rotate_left
         ·show Act.put _ (some 26) _ = _
          simp only [Act.put,ls_,lz_,lc_,i64_w,i32_w]
          rfl
         refine on_ (N := some 29) 8 (bz 14 2047) rfl rfl HT_ (by kernel_rfl) (by decide) (fun K hK => ?_)
         refine goes_ Tryd.func41 (by kernel_rfl) rfl #[.int .i64 a1_0] (by rfl) rfl rfl (by (try simp only [lm_,lq_,lx_]);first|done|rfl|(simp only [ld_,lt_];rfl)) ?_
         with_reducible refine (neumeref02_abs.calls a1_0 t439 _ A27.out).mono ?_
         rintro e w56 ⟨rfl,hb⟩
         refine ⟨_,rfl,?_⟩
         replace BK432 := kb_ BK432 hb
         replace BK433 := kb_ BK433 hb
         replace BK434 := kb_ BK434 hb
         replace HB := hb_ HB (e_ GE432 (e_ GE433 (e_ GE434 e0_))) hb
         (try clear hb)
         (try clear hb2)
         (try clear hk)
         (try clear hi)
         refine hK.out _ _ ⟨(kc_ BK432.out 0).trans rfl,(kc_ BK432.out 1).trans rfl,(kc_ BK433.out 0).trans rfl,(kc_ BK433.out 1).trans rfl⟩ (fun hHeld => ?_)
         clear hK K
         refine norm_ (a' := ?_) ?_ ?_
         rotate_left
         ·show Act.put _ (some 29) _ = _
          simp only [Act.put,ls_,lz_,lc_,i64_w,i32_w]
          rfl
         refine on_ (N := some 32) 11 (bz 14 4095) rfl rfl HT_ (by kernel_rfl) (by decide) (fun K hK => ?_)
         refine goes_ Tryd.func38 (by kernel_rfl) rfl #[.int .i64 t439,.int .i64 a0_1] (by rfl) rfl rfl (by (try simp only [lm_,lq_,lx_]);first|done|rfl|(simp only [ld_,lt_];rfl)) ?_
         with_reducible refine (neumeref02_gcd.calls kj2 t439 a0_1 t440 _ A28.out).mono ?_
         rintro e w' ⟨rfl,⟨nd,rfl⟩⟩
         refine ⟨_,rfl,?_⟩
         refine hK.out _ _ ⟨(kc_ BK432.out 0).trans rfl,(kc_ BK432.out 1).trans rfl,(kc_ BK433.out 0).trans rfl,(kc_ BK433.out 1).trans rfl⟩ (fun hHeld => ?_)
         clear hK K
         refine norm_ (a' := ?_) ?_ ?_
         rotate_left
         ·show Act.put _ (some 32) _ = _
          simp only [Act.put,ls_,lz_,lc_,i64_w,i32_w]
          rfl
         refine pu_ (v := ?_) (a' := ?_) 12 6 (bz 14 8191) rfl rfl HT_ (by kernel_rfl) (fun _ _ _ h => h) (by rfl) ?_ ?_ ?_
         rotate_left;(intro w';go_simp;with_reducible rfl);rotate_left;(simp only [Act.put,ls_,lz_,lc_,i64_w,i32_w];rfl)
         refine pu_ (v := ?_) (a' := ?_) 13 7 (bz 14 16383) rfl rfl HT_ (by kernel_rfl) (fun _ _ _ h => h) (by rfl) ?_ ?_ ?_
         rotate_left;(intro w';go_simp;with_reducible rfl);rotate_left;(simp only [Act.put,ls_,lz_,lc_,i64_w,i32_w];rfl)
         refine done_ (done_of HT_.out (by kernel_rfl)) ?_
         try go_wp2
         (repeat (rw [drewN_self w56];generalize hq_ : World.drewN w56 _ = w56;have n0_ : Aside0 (w56.heap[gb432]? = some (.cells #[.int .i64 a0_0,.int .i64 a0_1] 25 (0,0))) := ⟨by rw [← hq_];exact (kk_ BK432.out)⟩;have n1_ : Aside0 (w56.heap[gb433]? = some (.cells #[.int .i64 a1_0,.int .i64 a1_1] 25 (0,0))) := ⟨by rw [← hq_];exact (kk_ BK433.out)⟩;have n2_ : Aside0 (w56.heap[gb434]? = some (.cells #[.int .i64 0,.int .i64 0] 25 (0,0))) := ⟨by rw [← hq_];exact (kk_ BK434.out)⟩;have n3_ : Aside0 (Below w.heap.size w w56) := ⟨by rw [← hq_];exact (bb_ HB.out (e_ GE432 (e_ GE433 (e_ GE434 e0_))))⟩;clear BK432 BK433 BK434 HB hq_;have BK432 := n0_;have BK433 := n1_;have BK434 := n2_;have HB := n3_;clear n0_ n1_ n2_ n3_))
         replace BK432 := sd_ (kd_ BK432.out)
         replace BK433 := sd_ (kd_ BK433.out)
         replace BK434 := sd_ (kd_ BK434.out)
         replace HB := sd_ (d1_ HB.out)
         refine start_ (n := 20) (S := fun w' => w'.cell? ⟨gb432,0,none⟩ = some (.int .i64 a0_0) ∧ w'.cell? ⟨gb432,1,none⟩ = some (.int .i64 a0_1) ∧ w'.cell? ⟨gb433,0,none⟩ = some (.int .i64 a1_0) ∧ w'.cell? ⟨gb433,1,none⟩ = some (.int .i64 a1_1)) (ds := []) (Array.replicate 20 false) (by kernel_rfl) rfl rfl ⟨(kc_ BK432.out 0).trans rfl,(kc_ BK432.out 1).trans rfl,(kc_ BK433.out 0).trans rfl,(kc_ BK433.out 1).trans rfl⟩ (fun hHeld => ?_);refine with_tabW neumeref02_Mul.tab4 neumeref02_Mul.bits4 (fun HT_ HW_ => ?_)
         generalize w56.drew = w57 at BK432 BK433 BK434 HB hHeld ⊢
         refine pu_ (v := ?_) (a' := ?_) 0 33 (bz 20 1) rfl rfl HT_ (by kernel_rfl) (fun _ _ _ h => h) (by rfl) ?_ ?_ ?_
         rotate_left;(intro w';go_simp;with_reducible rfl);rotate_left;(simp only [Act.put,ls_,lz_,lc_,i64_w,i32_w];rfl)
         refine pu_ (v := ?_) (a' := ?_) 2 35 (bz 20 5) rfl rfl HT_ (by kernel_rfl) (fun _ _ _ h => h) (by rfl) ?_ ?_ ?_
         rotate_left;(intro w';go_simp;with_reducible rfl);rotate_left;(simp only [Act.put,ls_,lz_,lc_,i64_w,i32_w];rfl)
         refine pu_ (v := ?_) (a' := ?_) 4 37 (bz 20 21) rfl rfl HT_ (by kernel_rfl) (fun _ _ _ h => h) (by rfl) ?_ ?_ ?_
         rotate_left;(intro w';go_simp;with_reducible rfl);rotate_left;(simp only [Act.put,ls_,lz_,lc_,i64_w,i32_w];rfl)
         refine pu_ (v := ?_) (a' := ?_) 6 39 (bz 20 85) rfl rfl HT_ (by kernel_rfl) (fun _ _ _ h => h) (by rfl) ?_ ?_ ?_
         rotate_left;(intro w';go_simp;with_reducible rfl);rotate_left;(simp only [Act.put,ls_,lz_,lc_,i64_w,i32_w];rfl)
         refine pu_ (v := ?_) (a' := ?_) 8 41 (bz 20 341) rfl rfl HT_ (by kernel_rfl) (fun _ _ _ h => h) (by rfl) ?_ ?_ ?_
         rotate_left;(intro w';go_simp;with_reducible rfl);rotate_left;(simp only [Act.put,ls_,lz_,lc_,i64_w,i32_w];rfl)
         refine pu_ (v := ?_) (a' := ?_) 10 43 (bz 20 1365) rfl rfl HT_ (by kernel_rfl) (fun _ _ _ h => h) (by rfl) ?_ ?_ ?_
         rotate_left;(intro w';go_simp;with_reducible rfl);rotate_left;(simp only [Act.put,ls_,lz_,lc_,i64_w,i32_w];rfl)
         refine pu_ (v := ?_) (a' := ?_) 12 45 (bz 20 5461) rfl rfl HT_ (by kernel_rfl) (fun _ _ _ h => h) (by rfl) ?_ ?_ ?_
         rotate_left;(intro w';go_simp;with_reducible rfl);rotate_left;(simp only [Act.put,ls_,lz_,lc_,i64_w,i32_w];rfl)
         refine pu_ (v := ?_) (a' := ?_) 14 47 (bz 20 21845) rfl rfl HT_ (by kernel_rfl) (fun _ _ _ h => h) (by rfl) ?_ ?_ ?_
         rotate_left;(intro w';go_simp;with_reducible rfl);rotate_left;(simp only [Act.put,ls_,lz_,lc_,i64_w,i32_w];rfl)
         refine ta_ (v := ?_) (a' := ?_) 1 34 (bz 20 21847) rfl rfl HT_ HW_ (by kernel_rfl) (fun _ _ _ h => h) (by rfl) ?_ hHeld ?_ ?_
         rotate_left
         ·rintro w' ⟨s0,s1,s2,s3⟩
          go_simp
          with_reducible rfl
         rotate_left
         ·simp only [Act.put,ls_,lz_,lc_,i64_w,i32_w]
          rfl
         refine pu_ (v := ?_) (a' := ?_) 3 36 (bz 20 21855) rfl rfl HT_ (by kernel_rfl) (fun _ _ _ h => h) (by rfl) ?_ ?_ ?_
         rotate_left;(intro w';go_simp;with_reducible rfl);rotate_left;(simp only [Act.put,ls_,lz_,lc_,i64_w,i32_w];rfl)
         refine pu_ (v := ?_) (a' := ?_) 16 8 (bz 20 87391) rfl rfl HT_ (by kernel_rfl) (fun _ _ _ h => h) (by rfl) ?_ ?_ ?_
         rotate_left;(intro w';go_simp;with_reducible rfl);rotate_left;(simp only [Act.put,ls_,lz_,lc_,i64_w,i32_w];rfl)
         refine ta_ (v := ?_) (a' := ?_) 5 38 (bz 20 87423) rfl rfl HT_ HW_ (by kernel_rfl) (fun _ _ _ h => h) (by rfl) ?_ hHeld ?_ ?_
         rotate_left
         ·rintro w' ⟨s0,s1,s2,s3⟩
          go_simp
          with_reducible rfl
         rotate_left
         ·simp only [Act.put,ls_,lz_,lc_,i64_w,i32_w]
          rfl
         refine pu_ (v := ?_) (a' := ?_) 7 40 (bz 20 87551) rfl rfl HT_ (by kernel_rfl) (fun _ _ _ h => h) (by rfl) ?_ ?_ ?_
         rotate_left;(intro w';go_simp;with_reducible rfl);rotate_left;(simp only [Act.put,ls_,lz_,lc_,i64_w,i32_w];rfl)
         refine pu_ (v := ?_) (a' := ?_) 17 9 (bz 20 218623) rfl rfl HT_ (by kernel_rfl) (fun _ _ _ h => h) (by rfl) ?_ ?_ ?_
         rotate_left;(intro w';go_simp;with_reducible rfl);rotate_left;(simp only [Act.put,ls_,lz_,lc_,i64_w,i32_w];rfl)
         refine ta_ (v := ?_) (a' := ?_) 9 42 (bz 20 219135) rfl rfl HT_ HW_ (by kernel_rfl) (fun _ _ _ h => h) (by rfl) ?_ hHeld ?_ ?_
         rotate_left
         ·rintro w' ⟨s0,s1,s2,s3⟩
          go_simp
          with_reducible rfl
         rotate_left
         ·simp only [Act.put,ls_,lz_,lc_,i64_w,i32_w]
          rfl
         refine pu_ (v := ?_) (a' := ?_) 11 44 (bz 20 221183) rfl rfl HT_ (by kernel_rfl) (fun _ _ _ h => h) (by rfl) ?_ ?_ ?_
         rotate_left;(intro w';go_simp;with_reducible rfl);rotate_left;(simp only [Act.put,ls_,lz_,lc_,i64_w,i32_w];rfl)
         refine pu_ (v := ?_) (a' := ?_) 18 10 (bz 20 483327) rfl rfl HT_ (by kernel_rfl) (fun _ _ _ h => h) (by rfl) ?_ ?_ ?_
         rotate_left;(intro w';go_simp;with_reducible rfl);rotate_left;(simp only [Act.put,ls_,lz_,lc_,i64_w,i32_w];rfl)
         refine ta_ (v := ?_) (a' := ?_) 13 46 (bz 20 491519) rfl rfl HT_ HW_ (by kernel_rfl) (fun _ _ _ h => h) (by rfl) ?_ hHeld ?_ ?_
         rotate_left
         ·rintro w' ⟨s0,s1,s2,s3⟩
          go_simp
          with_reducible rfl
         rotate_left
         ·simp only [Act.put,ls_,lz_,lc_,i64_w,i32_w]
          rfl
         refine pu_ (v := ?_) (a' := ?_) 15 48 (bz 20 524287) rfl rfl HT_ (by kernel_rfl) (fun _ _ _ h => h) (by rfl) ?_ ?_ ?_
         rotate_left;(intro w';go_simp;with_reducible rfl);rotate_left;(simp only [Act.put,ls_,lz_,lc_,i64_w,i32_w];rfl)
         refine pu_ (v := ?_) (a' := ?_) 19 11 (bz 20 1048575) rfl rfl HT_ (by kernel_rfl) (fun _ _ _ h => h) (by rfl) ?_ ?_ ?_
         rotate_left;(intro w';go_simp;with_reducible rfl);rotate_left;(simp only [Act.put,ls_,lz_,lc_,i64_w,i32_w];rfl)
         refine done_ (done_of HT_.out (by kernel_rfl)) ?_
         try go_wp2_with (first|(go_at_call 41;(with_reducible refine (neumeref02_abs.calls (wrap64 (Int.tdiv a0_0 t438)) t444 _ A50.out).mono ?_);rintro e w58 ⟨rfl,hb⟩;replace BK432 := kb_ BK432 hb;replace BK433 := kb_ BK433 hb;replace BK434 := kb_ BK434 hb;replace HB := hb_ HB (e_ GE432 (e_ GE433 (e_ GE434 e0_))) hb;(try clear hb);(try clear hb2);(try clear hk);(try clear hi))|(go_at_call 41;(with_reducible refine (neumeref02_abs.calls (wrap64 (Int.tdiv a1_0 t440)) t445 _ A51.out).mono ?_);rintro e w59 ⟨rfl,hb⟩;replace BK432 := kb_ BK432 hb;replace BK433 := kb_ BK433 hb;replace BK434 := kb_ BK434 hb;replace HB := hb_ HB (e_ GE432 (e_ GE433 (e_ GE434 e0_))) hb;(try clear hb);(try clear hb2);(try clear hk);(try clear hi);have hnb60 := NB434_432.out;have hnc60 := NB432_434.out;have hnb61 := NB434_433.out;have hnc61 := NB433_434.out;have hcz62_0 : w59.cell? ⟨gb434,0,none⟩ = some (.int .i64 0) := (kc_ BK434.out 0).trans rfl;have hcz62_1 : w59.cell? ⟨gb434,1,none⟩ = some (.int .i64 0) := (kc_ BK434.out 1).trans rfl;have hfz62_0 := kf_ BK434.out 0;have hfz62_1 := kf_ BK434.out 1))
         refine bodyPost_ret (results_ct rfl _ _ gb434 25 #[.int .i64 0,.int .i64 0] (0,0) _ rfl (by (with_reducible repeat first|apply kn_|apply kd_|apply ka_);refine blk_put (cs := #[.int .i64 0,.int .i64 0]) ?_ 1 _ rfl;(with_reducible repeat first|apply kn_|apply kd_|apply ka_);refine blk_put (cs := #[.int .i64 0,.int .i64 0]) ?_ 0 _ rfl;(with_reducible repeat first|apply kn_|apply kd_|apply ka_);exact BK434.out) Tryd.underlying25 rfl (by kernel_rfl)) rfl ?_
         exact ⟨by first|rfl|(simp [errW_none,errW_some] <;> rfl)|(simp [*,errW_none,errW_some] <;> rfl),by repeat (first|(with_reducible first|exact HB.out|apply ba_|apply pd_|apply d1_|refine bs_ ?_ GE432.out|refine bs_ ?_ GE433.out|refine bs_ ?_ GE434.out)|exact HB.out)⟩
        ·rw [if_neg c53] at H
         have c53b0 : decide ((wrap64 (Int.tdiv (1099511627776 : Int) t445)) < t444) = false := df_ c53
         clear c53
         by_cases c63 : (wrap64 (Int.tdiv a1_1 t438)) = 0
         ·rw [if_pos c63] at H
          exact absurd H (by simp)
         ·rw [if_neg c63] at H
          have c63b0 : ((wrap64 (Int.tdiv a1_1 t438)) == 0) = false := beq_eq_false_iff_ne.mpr c63
          have c63b1 : ((wrap64 (Int.tdiv a1_1 t438)) != 0) = true := bne_iff_ne.mpr c63
          by_cases c64 : (wrap64 (Int.tdiv a0_1 t440)) > (wrap64 (Int.tdiv (1048576 : Int) (wrap64 (Int.tdiv a1_1 t438))))
          ·rw [if_pos c64] at H
           have c64b0 : decide ((wrap64 (Int.tdiv (1048576 : Int) (wrap64 (Int.tdiv a1_1 t438)))) < (wrap64 (Int.tdiv a0_1 t440))) = true := dt_ c64
           clear c64
           simp only [Option.some.injEq,Prod.mk.injEq] at H
           obtain ⟨rfl,rfl,rfl⟩ := H
           try go_wp2
           replace BK432 := sd_ (kd_ BK432.out)
           replace BK433 := sd_ (kd_ BK433.out)
           replace BK434 := sd_ (kd_ BK434.out)
           replace HB := sd_ (d1_ HB.out)
           refine start_ (n := 14) (S := fun w' => w'.cell? ⟨gb432,0,none⟩ = some (.int .i64 a0_0) ∧ w'.cell? ⟨gb432,1,none⟩ = some (.int .i64 a0_1) ∧ w'.cell? ⟨gb433,0,none⟩ = some (.int .i64 a1_0) ∧ w'.cell? ⟨gb433,1,none⟩ = some (.int .i64 a1_1)) (ds := []) (Array.replicate 14 false) (by kernel_rfl) rfl rfl ⟨(kc_ BK432.out 0).trans rfl,(kc_ BK432.out 1).trans rfl,(kc_ BK433.out 0).trans rfl,(kc_ BK433.out 1).trans rfl⟩ (fun hHeld => ?_);refine with_tabW neumeref02_Mul.tab3 neumeref02_Mul.bits3 (fun HT_ HW_ => ?_)
           generalize wc.drew = w65 at BK432 BK433 BK434 HB hHeld ⊢
           refine pu_ (v := ?_) (a' := ?_) 0 21 (bz 14 1) rfl rfl HT_ (by kernel_rfl) (fun _ _ _ h => h) (by rfl) ?_ ?_ ?_
           rotate_left;(intro w';go_simp;with_reducible rfl);rotate_left;(simp only [Act.put,ls_,lz_,lc_,i64_w,i32_w];rfl)
           refine pu_ (v := ?_) (a' := ?_) 3 24 (bz 14 9) rfl rfl HT_ (by kernel_rfl) (fun _ _ _ h => h) (by rfl) ?_ ?_ ?_
           rotate_left;(intro w';go_simp;with_reducible rfl);rotate_left;(simp only [Act.put,ls_,lz_,lc_,i64_w,i32_w];rfl)
           refine pu_ (v := ?_) (a' := ?_) 6 27 (bz 14 73) rfl rfl HT_ (by kernel_rfl) (fun _ _ _ h => h) (by rfl) ?_ ?_ ?_
           rotate_left;(intro w';go_simp;with_reducible rfl);rotate_left;(simp only [Act.put,ls_,lz_,lc_,i64_w,i32_w];rfl)
           refine pu_ (v := ?_) (a' := ?_) 9 30 (bz 14 585) rfl rfl HT_ (by kernel_rfl) (fun _ _ _ h => h) (by rfl) ?_ ?_ ?_
           rotate_left;(intro w';go_simp;with_reducible rfl);rotate_left;(simp only [Act.put,ls_,lz_,lc_,i64_w,i32_w];rfl)
           refine ta_ (v := ?_) (a' := ?_) 1 22 (bz 14 587) rfl rfl HT_ HW_ (by kernel_rfl) (fun _ _ _ h => h) (by rfl) ?_ hHeld ?_ ?_
           rotate_left
           ·rintro w' ⟨s0,s1,s2,s3⟩
            go_simp
            with_reducible rfl
           rotate_left
           ·simp only [Act.put,ls_,lz_,lc_,i64_w,i32_w]
            rfl
           refine ta_ (v := ?_) (a' := ?_) 4 25 (bz 14 603) rfl rfl HT_ HW_ (by kernel_rfl) (fun _ _ _ h => h) (by rfl) ?_ hHeld ?_ ?_
           rotate_left
           ·rintro w' ⟨s0,s1,s2,s3⟩
            go_simp
            with_reducible rfl
           rotate_left
           ·simp only [Act.put,ls_,lz_,lc_,i64_w,i32_w]
            rfl
           refine ta_ (v := ?_) (a' := ?_) 7 28 (bz 14 731) rfl rfl HT_ HW_ (by kernel_rfl) (fun _ _ _ h => h) (by rfl) ?_ hHeld ?_ ?_
           rotate_left
           ·rintro w' ⟨s0,s1,s2,s3⟩
            go_simp
            with_reducible rfl
           rotate_left
           ·simp only [Act.put,ls_,lz_,lc_,i64_w,i32_w]
            rfl
           refine ta_ (v := ?_) (a' := ?_) 10 31 (bz 14 1755) rfl rfl HT_ HW_ (by kernel_rfl) (fun _ _ _ h => h) (by rfl) ?_ hHeld ?_ ?_
           rotate_left
           ·rintro w' ⟨s0,s1,s2,s3⟩
            go_simp
            with_reducible rfl
           rotate_left
           ·simp only [Act.put,ls_,lz_,lc_,i64_w,i32_w]
            rfl
           refine on_ (N := some 23) 2 (bz 14 1759) rfl rfl HT_ (by kernel_rfl) (by decide) (fun K hK => ?_)
           refine goes_ Tryd.func41 (by kernel_rfl) rfl #[.int .i64 a0_0] (by rfl) rfl rfl (by (try simp only [lm_,lq_,lx_]);first|done|rfl|(simp only [ld_,lt_];rfl)) ?_
           with_reducible refine (neumeref02_abs.calls a0_0 t437 _ A25.out).mono ?_
           rintro e w66 ⟨rfl,hb⟩
           refine ⟨_,rfl,?_⟩
           replace BK432 := kb_ BK432 hb
           replace BK433 := kb_ BK433 hb
           replace BK434 := kb_ BK434 hb
           replace HB := hb_ HB (e_ GE432 (e_ GE433 (e_ GE434 e0_))) hb
           (try clear hb)
           (try clear hb2)
           (try clear hk)
           (try clear hi)
           refine hK.out _ _ ⟨(kc_ BK432.out 0).trans rfl,(kc_ BK432.out 1).trans rfl,(kc_ BK433.out 0).trans rfl,(kc_ BK433.out 1).trans rfl⟩ (fun hHeld => ?_)
           clear hK K
           refine norm_ (a' := ?_) ?_ ?_
           rotate_left
           ·show Act.put _ (some 23) _ = _
            simp only [Act.put,ls_,lz_,lc_,i64_w,i32_w]
            rfl
           refine on_ (N := some 26) 5 (bz 14 1791) rfl rfl HT_ (by kernel_rfl) (by decide) (fun K hK => ?_)
           refine goes_ Tryd.func38 (by kernel_rfl) rfl #[.int .i64 t437,.int .i64 a1_1] (by rfl) rfl rfl (by (try simp only [lm_,lq_,lx_]);first|done|rfl|(simp only [ld_,lt_];rfl)) ?_
           with_reducible refine (neumeref02_gcd.calls kj2 t437 a1_1 t438 _ A26.out).mono ?_
           rintro e w' ⟨rfl,⟨nd,rfl⟩⟩
           refine ⟨_,rfl,?_⟩
           refine hK.out _ _ ⟨(kc_ BK432.out 0).trans rfl,(kc_ BK432.out 1).trans rfl,(kc_ BK433.out 0).trans rfl,(kc_ BK433.out 1).trans rfl⟩ (fun hHeld => ?_)
           clear hK K
           refine norm_ (a' := ?_) ?_ ?_
           rotate_left
           ·show Act.put _ (some 26) _ = _
            simp only [Act.put,ls_,lz_,lc_,i64_w,i32_w]
            rfl
           refine on_ (N := some 29) 8 (bz 14 2047) rfl rfl HT_ (by kernel_rfl) (by decide) (fun K hK => ?_)
           refine goes_ Tryd.func41 (by kernel_rfl) rfl #[.int .i64 a1_0] (by rfl) rfl rfl (by (try simp only [lm_,lq_,lx_]);first|done|rfl|(simp only [ld_,lt_];rfl)) ?_
           with_reducible refine (neumeref02_abs.calls a1_0 t439 _ A27.out).mono ?_
           rintro e w67 ⟨rfl,hb⟩
           refine ⟨_,rfl,?_⟩
           replace BK432 := kb_ BK432 hb
           replace BK433 := kb_ BK433 hb
           replace BK434 := kb_ BK434 hb
           replace HB := hb_ HB (e_ GE432 (e_ GE433 (e_ GE434 e0_))) hb
           (try clear hb)
           (try clear hb2)
           (try clear hk)
           (try clear hi)
           refine hK.out _ _ ⟨(kc_ BK432.out 0).trans rfl,(kc_ BK432.out 1).trans rfl,(kc_ BK433.out 0).trans rfl,(kc_ BK433.out 1).trans rfl⟩ (fun hHeld => ?_)
           clear hK K
           refine norm_ (a' := ?_) ?_ ?_
           rotate_left
           ·show Act.put _ (some 29) _ = _
            simp only [Act.put,ls_,lz_,lc_,i64_w,i32_w]
            rfl
           refine on_ (N := some 32) 11 (bz 14 4095) rfl rfl HT_ (by kernel_rfl) (by decide) (fun K hK => ?_)
           refine goes_ Tryd.func38 (by kernel_rfl) rfl #[.int .i64 t439,.int .i64 a0_1] (by rfl) rfl rfl (by (try simp only [lm_,lq_,lx_]);first|done|rfl|(simp only [ld_,lt_];rfl)) ?_
           with_reducible refine (neumeref02_gcd.calls kj2 t439 a0_1 t440 _ A28.out).mono ?_
           rintro e w' ⟨rfl,⟨nd,rfl⟩⟩
           refine ⟨_,rfl,?_⟩
           refine hK.out _ _ ⟨(kc_ BK432.out 0).trans rfl,(kc_ BK432.out 1).trans rfl,(kc_ BK433.out 0).trans rfl,(kc_ BK433.out 1).trans rfl⟩ (fun hHeld => ?_)
           clear hK K
           refine norm_ (a' := ?_) ?_ ?_
           rotate_left
           ·show Act.put _ (some 32) _ = _
            simp only [Act.put,ls_,lz_,lc_,i64_w,i32_w]
            rfl
           refine pu_ (v := ?_) (a' := ?_) 12 6 (bz 14 8191) rfl rfl HT_ (by kernel_rfl) (fun _ _ _ h => h) (by rfl) ?_ ?_ ?_
           rotate_left;(intro w';go_simp;with_reducible rfl);rotate_left;(simp only [Act.put,ls_,lz_,lc_,i64_w,i32_w];rfl)
           refine pu_ (v := ?_) (a' := ?_) 13 7 (bz 14 16383) rfl rfl HT_ (by kernel_rfl) (fun _ _ _ h => h) (by rfl) ?_ ?_ ?_
           rotate_left;(intro w';go_simp;with_reducible rfl);rotate_left;(simp only [Act.put,ls_,lz_,lc_,i64_w,i32_w];rfl)
           refine done_ (done_of HT_.out (by kernel_rfl)) ?_
           try go_wp2
           (repeat (rw [drewN_self w67];generalize hq_ : World.drewN w67 _ = w67;have n0_ : Aside0 (w67.heap[gb432]? = some (.cells #[.int .i64 a0_0,.int .i64 a0_1] 25 (0,0))) := ⟨by rw [← hq_];exact (kk_ BK432.out)⟩;have n1_ : Aside0 (w67.heap[gb433]? = some (.cells #[.int .i64 a1_0,.int .i64 a1_1] 25 (0,0))) := ⟨by rw [← hq_];exact (kk_ BK433.out)⟩;have n2_ : Aside0 (w67.heap[gb434]? = some (.cells #[.int .i64 0,.int .i64 0] 25 (0,0))) := ⟨by rw [← hq_];exact (kk_ BK434.out)⟩;have n3_ : Aside0 (Below w.heap.size w w67) := ⟨by rw [← hq_];exact (bb_ HB.out (e_ GE432 (e_ GE433 (e_ GE434 e0_))))⟩;clear BK432 BK433 BK434 HB hq_;have BK432 := n0_;have BK433 := n1_;have BK434 := n2_;have HB := n3_;clear n0_ n1_ n2_ n3_))
           replace BK432 := sd_ (kd_ BK432.out)
           replace BK433 := sd_ (kd_ BK433.out)
           replace BK434 := sd_ (kd_ BK434.out)
           replace HB := sd_ (d1_ HB.out)
           refine start_ (n := 20) (S := fun w' => w'.cell? ⟨gb432,0,none⟩ = some (.int .i64 a0_0) ∧ w'.cell? ⟨gb432,1,none⟩ = some (.int .i64 a0_1) ∧ w'.cell? ⟨gb433,0,none⟩ = some (.int .i64 a1_0) ∧ w'.cell? ⟨gb433,1,none⟩ = some (.int .i64 a1_1)) (ds := []) (Array.replicate 20 false) (by kernel_rfl) rfl rfl ⟨(kc_ BK432.out 0).trans rfl,(kc_ BK432.out 1).trans rfl,(kc_ BK433.out 0).trans rfl,(kc_ BK433.out 1).trans rfl⟩ (fun hHeld => ?_);refine with_tabW neumeref02_Mul.tab4 neumeref02_Mul.bits4 (fun HT_ HW_ => ?_)
           generalize w67.drew = w68 at BK432 BK433 BK434 HB hHeld ⊢
           refine pu_ (v := ?_) (a' := ?_) 0 33 (bz 20 1) rfl rfl HT_ (by kernel_rfl) (fun _ _ _ h => h) (by rfl) ?_ ?_ ?_
           rotate_left;(intro w';go_simp;with_reducible rfl);rotate_left;(simp only [Act.put,ls_,lz_,lc_,i64_w,i32_w];rfl)
           refine pu_ (v := ?_) (a' := ?_) 2 35 (bz 20 5) rfl rfl HT_ (by kernel_rfl) (fun _ _ _ h => h) (by rfl) ?_ ?_ ?_
           rotate_left;(intro w';go_simp;with_reducible rfl);rotate_left;(simp only [Act.put,ls_,lz_,lc_,i64_w,i32_w];rfl)
           refine pu_ (v := ?_) (a' := ?_) 4 37 (bz 20 21) rfl rfl HT_ (by kernel_rfl) (fun _ _ _ h => h) (by rfl) ?_ ?_ ?_
           rotate_left;(intro w';go_simp;with_reducible rfl);rotate_left;(simp only [Act.put,ls_,lz_,lc_,i64_w,i32_w];rfl)
           refine pu_ (v := ?_) (a' := ?_) 6 39 (bz 20 85) rfl rfl HT_ (by kernel_rfl) (fun _ _ _ h => h) (by rfl) ?_ ?_ ?_
           rotate_left;(intro w';go_simp;with_reducible rfl);rotate_left;(simp only [Act.put,ls_,lz_,lc_,i64_w,i32_w];rfl)
           refine pu_ (v := ?_) (a' := ?_) 8 41 (bz 20 341) rfl rfl HT_ (by kernel_rfl) (fun _ _ _ h => h) (by rfl) ?_ ?_ ?_
           rotate_left;(intro w';go_simp;with_reducible rfl);rotate_left;(simp only [Act.put,ls_,lz_,lc_,i64_w,i32_w];rfl)
           refine pu_ (v := ?_) (a' := ?_) 10 43 (bz 20 1365) rfl rfl HT_ (by kernel_rfl) (fun _ _ _ h => h) (by rfl) ?_ ?_ ?_
           rotate_left;(intro w';go_simp;with_reducible rfl);rotate_left;(simp only [Act.put,ls_,lz_,lc_,i64_w,i32_w];rfl)
           refine pu_ (v := ?_) (a' := ?_) 12 45 (bz 20 5461) rfl rfl HT_ (by kernel_rfl) (fun _ _ _ h => h) (by rfl) ?_ ?_ ?_
           rotate_left;(intro w';go_simp;with_reducible rfl);rotate_left;(simp only [Act.put,ls_,lz_,lc_,i64_w,i32_w];rfl)
           refine pu_ (v := ?_) (a' := ?_) 14 47 (bz 20 21845) rfl rfl HT_ (by kernel_rfl) (fun _ _ _ h => h) (by rfl) ?_ ?_ ?_
           rotate_left;(intro w';go_simp;with_reducible rfl);rotate_left;(simp only [Act.put,ls_,lz_,lc_,i64_w,i32_w];rfl)
           refine ta_ (v := ?_) (a' := ?_) 1 34 (bz 20 21847) rfl rfl HT_ HW_ (by kernel_rfl) (fun _ _ _ h => h) (by rfl) ?_ hHeld ?_ ?_
           rotate_left
           ·rintro w' ⟨s0,s1,s2,s3⟩
            go_simp
            with_reducible rfl
           rotate_left
           ·simp only [Act.put,ls_,lz_,lc_,i64_w,i32_w]
            rfl
           refine pu_ (v := ?_) (a' := ?_) 3 36 (bz 20 21855) rfl rfl HT_ (by kernel_rfl) (fun _ _ _ h => h) (by rfl) ?_ ?_ ?_
           rotate_left;(intro w';go_simp;with_reducible rfl);rotate_left;(simp only [Act.put,ls_,lz_,lc_,i64_w,i32_w];rfl)
           refine pu_ (v := ?_) (a' := ?_) 16 8 (bz 20 87391) rfl rfl HT_ (by kernel_rfl) (fun _ _ _ h => h) (by rfl) ?_ ?_ ?_
           rotate_left;(intro w';go_simp;with_reducible rfl);rotate_left;(simp only [Act.put,ls_,lz_,lc_,i64_w,i32_w];rfl)
           refine ta_ (v := ?_) (a' := ?_) 5 38 (bz 20 87423) rfl rfl HT_ HW_ (by kernel_rfl) (fun _ _ _ h => h) (by rfl) ?_ hHeld ?_ ?_
           rotate_left
           ·rintro w' ⟨s0,s1,s2,s3⟩
            go_simp
            with_reducible rfl
           rotate_left
           ·simp only [Act.put,ls_,lz_,lc_,i64_w,i32_w]
            rfl
           refine pu_ (v := ?_) (a' := ?_) 7 40 (bz 20 87551) rfl rfl HT_ (by kernel_rfl) (fun _ _ _ h => h) (by rfl) ?_ ?_ ?_
           rotate_left;(intro w';go_simp;with_reducible rfl);rotate_left;(simp only [Act.put,ls_,lz_,lc_,i64_w,i32_w];rfl)
           refine pu_ (v := ?_) (a' := ?_) 17 9 (bz 20 218623) rfl rfl HT_ (by kernel_rfl) (fun _ _ _ h => h) (by rfl) ?_ ?_ ?_
           rotate_left;(intro w';go_simp;with_reducible rfl);rotate_left;(simp only [Act.put,ls_,lz_,lc_,i64_w,i32_w];rfl)
           refine ta_ (v := ?_) (a' := ?_) 9 42 (bz 20 219135) rfl rfl HT_ HW_ (by kernel_rfl) (fun _ _ _ h => h) (by rfl) ?_ hHeld ?_ ?_
           rotate_left
           ·rintro w' ⟨s0,s1,s2,s3⟩
            go_simp
            with_reducible rfl
           rotate_left
           ·simp only [Act.put,ls_,lz_,lc_,i64_w,i32_w]
            rfl
           refine pu_ (v := ?_) (a' := ?_) 11 44 (bz 20 221183) rfl rfl HT_ (by kernel_rfl) (fun _ _ _ h => h) (by rfl) ?_ ?_ ?_
           rotate_left;(intro w';go_simp;with_reducible rfl);rotate_left;(simp only [Act.put,ls_,lz_,lc_,i64_w,i32_w];rfl)
           refine pu_ (v := ?_) (a' := ?_) 18 10 (bz 20 483327) rfl rfl HT_ (by kernel_rfl) (fun _ _ _ h => h) (by rfl) ?_ ?_ ?_
           rotate_left;(intro w';go_simp;with_reducible rfl);rotate_left;(simp only [Act.put,ls_,lz_,lc_,i64_w,i32_w];rfl)
           refine ta_ (v := ?_) (a' := ?_) 13 46 (bz 20 491519) rfl rfl HT_ HW_ (by kernel_rfl) (fun _ _ _ h => h) (by rfl) ?_ hHeld ?_ ?_
           rotate_left
           ·rintro w' ⟨s0,s1,s2,s3⟩
            go_simp
            with_reducible rfl
           rotate_left
           ·simp only [Act.put,ls_,lz_,lc_,i64_w,i32_w]
            rfl
           refine pu_ (v := ?_) (a' := ?_) 15 48 (bz 20 524287) rfl rfl HT_ (by kernel_rfl) (fun _ _ _ h => h) (by rfl) ?_ ?_ ?_
           rotate_left;(intro w';go_simp;with_reducible rfl);rotate_left;(simp only [Act.put,ls_,lz_,lc_,i64_w,i32_w];rfl)
           refine pu_ (v := ?_) (a' := ?_) 19 11 (bz 20 1048575) rfl rfl HT_ (by kernel_rfl) (fun _ _ _ h => h) (by rfl) ?_ ?_ ?_
           rotate_left;(intro w';go_simp;with_reducible rfl);rotate_left;(simp only [Act.put,ls_,lz_,lc_,i64_w,i32_w];rfl)
           refine done_ (done_of HT_.out (by kernel_rfl)) ?_
           try go_wp2_with (first|(go_at_call 41;(with_reducible refine (neumeref02_abs.calls (wrap64 (Int.tdiv a0_0 t438)) t444 _ A50.out).mono ?_);rintro e w69 ⟨rfl,hb⟩;replace BK432 := kb_ BK432 hb;replace BK433 := kb_ BK433 hb;replace BK434 := kb_ BK434 hb;replace HB := hb_ HB (e_ GE432 (e_ GE433 (e_ GE434 e0_))) hb;(try clear hb);(try clear hb2);(try clear hk);(try clear hi))|(go_at_call 41;(with_reducible refine (neumeref02_abs.calls (wrap64 (Int.tdiv a1_0 t440)) t445 _ A51.out).mono ?_);rintro e w70 ⟨rfl,hb⟩;replace BK432 := kb_ BK432 hb;replace BK433 := kb_ BK433 hb;replace BK434 := kb_ BK434 hb;replace HB := hb_ HB (e_ GE432 (e_ GE433 (e_ GE434 e0_))) hb;(try clear hb);(try clear hb2);(try clear hk);(try clear hi);have hnb71 := NB434_432.out;have hnc71 := NB432_434.out;have hnb72 := NB434_433.out;have hnc72 := NB433_434.out;have hcz73_0 : w70.cell? ⟨gb434,0,none⟩ = some (.int .i64 0) := (kc_ BK434.out 0).trans rfl;have hcz73_1 : w70.cell? ⟨gb434,1,none⟩ = some (.int .i64 0) := (kc_ BK434.out 1).trans rfl;have hfz73_0 := kf_ BK434.out 0;have hfz73_1 := kf_ BK434.out 1))
           refine bodyPost_ret (results_ct rfl _ _ gb434 25 #[.int .i64 0,.int .i64 0] (0,0) _ rfl (by (with_reducible repeat first|apply kn_|apply kd_|apply ka_);refine blk_put (cs := #[.int .i64 0,.int .i64 0]) ?_ 1 _ rfl;(with_reducible repeat first|apply kn_|apply kd_|apply ka_);refine blk_put (cs := #[.int .i64 0,.int .i64 0]) ?_ 0 _ rfl;(with_reducible repeat first|apply kn_|apply kd_|apply ka_);exact BK434.out) Tryd.underlying25 rfl (by kernel_rfl)) rfl ?_
           exact ⟨by first|rfl|(simp [errW_none,errW_some] <;> rfl)|(simp [*,errW_none,errW_some] <;> rfl),by repeat (first|(with_reducible first|exact HB.out|apply ba_|apply pd_|apply d1_|refine bs_ ?_ GE432.out|refine bs_ ?_ GE433.out|refine bs_ ?_ GE434.out)|exact HB.out)⟩
          ·rw [if_neg c64] at H
           have c64b0 : decide ((wrap64 (Int.tdiv (1048576 : Int) (wrap64 (Int.tdiv a1_1 t438)))) < (wrap64 (Int.tdiv a0_1 t440))) = false := df_ c64
           clear c64
           replace H := ob_ H
           obtain ⟨⟨t446,t447,t448⟩,A740,H⟩ := H
           replace H : (some (t446,t447,t448)) = some (r1,r2,r3) := H
           have A74 := sd_ A740
           clear A740
           simp only [Option.some.injEq,Prod.mk.injEq] at H
           obtain ⟨rfl,rfl,rfl⟩ := H
           try go_wp2
           replace BK432 := sd_ (kd_ BK432.out)
           replace BK433 := sd_ (kd_ BK433.out)
           replace BK434 := sd_ (kd_ BK434.out)
           replace HB := sd_ (d1_ HB.out)
           refine start_ (n := 14) (S := fun w' => w'.cell? ⟨gb432,0,none⟩ = some (.int .i64 a0_0) ∧ w'.cell? ⟨gb432,1,none⟩ = some (.int .i64 a0_1) ∧ w'.cell? ⟨gb433,0,none⟩ = some (.int .i64 a1_0) ∧ w'.cell? ⟨gb433,1,none⟩ = some (.int .i64 a1_1)) (ds := []) (Array.replicate 14 false) (by kernel_rfl) rfl rfl ⟨(kc_ BK432.out 0).trans rfl,(kc_ BK432.out 1).trans rfl,(kc_ BK433.out 0).trans rfl,(kc_ BK433.out 1).trans rfl⟩ (fun hHeld => ?_);refine with_tabW neumeref02_Mul.tab3 neumeref02_Mul.bits3 (fun HT_ HW_ => ?_)
           generalize wc.drew = w75 at BK432 BK433 BK434 HB hHeld ⊢
           refine pu_ (v := ?_) (a' := ?_) 0 21 (bz 14 1) rfl rfl HT_ (by kernel_rfl) (fun _ _ _ h => h) (by rfl) ?_ ?_ ?_
           rotate_left;(intro w';go_simp;with_reducible rfl);rotate_left;(simp only [Act.put,ls_,lz_,lc_,i64_w,i32_w];rfl)
           refine pu_ (v := ?_) (a' := ?_) 3 24 (bz 14 9) rfl rfl HT_ (by kernel_rfl) (fun _ _ _ h => h) (by rfl) ?_ ?_ ?_
           rotate_left;(intro w';go_simp;with_reducible rfl);rotate_left;(simp only [Act.put,ls_,lz_,lc_,i64_w,i32_w];rfl)
           refine pu_ (v := ?_) (a' := ?_) 6 27 (bz 14 73) rfl rfl HT_ (by kernel_rfl) (fun _ _ _ h => h) (by rfl) ?_ ?_ ?_
           rotate_left;(intro w';go_simp;with_reducible rfl);rotate_left;(simp only [Act.put,ls_,lz_,lc_,i64_w,i32_w];rfl)
           refine pu_ (v := ?_) (a' := ?_) 9 30 (bz 14 585) rfl rfl HT_ (by kernel_rfl) (fun _ _ _ h => h) (by rfl) ?_ ?_ ?_
           rotate_left;(intro w';go_simp;with_reducible rfl);rotate_left;(simp only [Act.put,ls_,lz_,lc_,i64_w,i32_w];rfl)
           refine ta_ (v := ?_) (a' := ?_) 1 22 (bz 14 587) rfl rfl HT_ HW_ (by kernel_rfl) (fun _ _ _ h => h) (by rfl) ?_ hHeld ?_ ?_
           rotate_left
           ·rintro w' ⟨s0,s1,s2,s3⟩
            go_simp
            with_reducible rfl
           rotate_left
           ·simp only [Act.put,ls_,lz_,lc_,i64_w,i32_w]
            rfl
           refine ta_ (v := ?_) (a' := ?_) 4 25 (bz 14 603) rfl rfl HT_ HW_ (by kernel_rfl) (fun _ _ _ h => h) (by rfl) ?_ hHeld ?_ ?_
           rotate_left
           ·rintro w' ⟨s0,s1,s2,s3⟩
            go_simp
            with_reducible rfl
           rotate_left
           ·simp only [Act.put,ls_,lz_,lc_,i64_w,i32_w]
            rfl
           refine ta_ (v := ?_) (a' := ?_) 7 28 (bz 14 731) rfl rfl HT_ HW_ (by kernel_rfl) (fun _ _ _ h => h) (by rfl) ?_ hHeld ?_ ?_
           rotate_left
           ·rintro w' ⟨s0,s1,s2,s3⟩
            go_simp
            with_reducible rfl
           rotate_left
           ·simp only [Act.put,ls_,lz_,lc_,i64_w,i32_w]
            rfl
           refine ta_ (v := ?_) (a' := ?_) 10 31 (bz 14 1755) rfl rfl HT_ HW_ (by kernel_rfl) (fun _ _ _ h => h) (by rfl) ?_ hHeld ?_ ?_
           rotate_left
           ·rintro w' ⟨s0,s1,s2,s3⟩
            go_simp
            with_reducible rfl
           rotate_left
           ·simp only [Act.put,ls_,lz_,lc_,i64_w,i32_w]
            rfl
           refine on_ (N := some 23) 2 (bz 14 1759) rfl rfl HT_ (by kernel_rfl) (by decide) (fun K hK => ?_)
           refine goes_ Tryd.func41 (by kernel_rfl) rfl #[.int .i64 a0_0] (by rfl) rfl rfl (by (try simp only [lm_,lq_,lx_]);first|done|rfl|(simp only [ld_,lt_];rfl)) ?_
           with_reducible refine (neumeref02_abs.calls a0_0 t437 _ A25.out).mono ?_
           rintro e w76 ⟨rfl,hb⟩
           refine ⟨_,rfl,?_⟩
           replace BK432 := kb_ BK432 hb
           replace BK433 := kb_ BK433 hb
           replace BK434 := kb_ BK434 hb
           replace HB := hb_ HB (e_ GE432 (e_ GE433 (e_ GE434 e0_))) hb
           (try clear hb)
           (try clear hb2)
           (try clear hk)
           (try clear hi)
           refine hK.out _ _ ⟨(kc_ BK432.out 0).trans rfl,(kc_ BK432.out 1).trans rfl,(kc_ BK433.out 0).trans rfl,(kc_ BK433.out 1).trans rfl⟩ (fun hHeld => ?_)
           clear hK K
           refine norm_ (a' := ?_) ?_ ?_
           rotate_left
           ·show Act.put _ (some 23) _ = _
            simp only [Act.put,ls_,lz_,lc_,i64_w,i32_w]
            rfl
           refine on_ (N := some 26) 5 (bz 14 1791) rfl rfl HT_ (by kernel_rfl) (by decide) (fun K hK => ?_)
           refine goes_ Tryd.func38 (by kernel_rfl) rfl #[.int .i64 t437,.int .i64 a1_1] (by rfl) rfl rfl (by (try simp only [lm_,lq_,lx_]);first|done|rfl|(simp only [ld_,lt_];rfl)) ?_
           with_reducible refine (neumeref02_gcd.calls kj2 t437 a1_1 t438 _ A26.out).mono ?_
           rintro e w' ⟨rfl,⟨nd,rfl⟩⟩
           refine ⟨_,rfl,?_⟩
           refine hK.out _ _ ⟨(kc_ BK432.out 0).trans rfl,(kc_ BK432.out 1).trans rfl,(kc_ BK433.out 0).trans rfl,(kc_ BK433.out 1).trans rfl⟩ (fun hHeld => ?_)
           clear hK K
           refine norm_ (a' := ?_) ?_ ?_
           rotate_left
           ·show Act.put _ (some 26) _ = _
            simp only [Act.put,ls_,lz_,lc_,i64_w,i32_w]
            rfl
           refine on_ (N := some 29) 8 (bz 14 2047) rfl rfl HT_ (by kernel_rfl) (by decide) (fun K hK => ?_)
           refine goes_ Tryd.func41 (by kernel_rfl) rfl #[.int .i64 a1_0] (by rfl) rfl rfl (by (try simp only [lm_,lq_,lx_]);first|done|rfl|(simp only [ld_,lt_];rfl)) ?_
           with_reducible refine (neumeref02_abs.calls a1_0 t439 _ A27.out).mono ?_
           rintro e w77 ⟨rfl,hb⟩
           refine ⟨_,rfl,?_⟩
           replace BK432 := kb_ BK432 hb
           replace BK433 := kb_ BK433 hb
           replace BK434 := kb_ BK434 hb
           replace HB := hb_ HB (e_ GE432 (e_ GE433 (e_ GE434 e0_))) hb
           (try clear hb)
           (try clear hb2)
           (try clear hk)
           (try clear hi)
           refine hK.out _ _ ⟨(kc_ BK432.out 0).trans rfl,(kc_ BK432.out 1).trans rfl,(kc_ BK433.out 0).trans rfl,(kc_ BK433.out 1).trans rfl⟩ (fun hHeld => ?_)
           clear hK K
           refine norm_ (a' := ?_) ?_ ?_
           rotate_left
           ·show Act.put _ (some 29) _ = _
            simp only [Act.put,ls_,lz_,lc_,i64_w,i32_w]
            rfl
           refine on_ (N := some 32) 11 (bz 14 4095) rfl rfl HT_ (by kernel_rfl) (by decide) (fun K hK => ?_)
           refine goes_ Tryd.func38 (by kernel_rfl) rfl #[.int .i64 t439,.int .i64 a0_1] (by rfl) rfl rfl (by (try simp only [lm_,lq_,lx_]);first|done|rfl|(simp only [ld_,lt_];rfl)) ?_
           with_reducible refine (neumeref02_gcd.calls kj2 t439 a0_1 t440 _ A28.out).mono ?_
           rintro e w' ⟨rfl,⟨nd,rfl⟩⟩
           refine ⟨_,rfl,?_⟩
           refine hK.out _ _ ⟨(kc_ BK432.out 0).trans rfl,(kc_ BK432.out 1).trans rfl,(kc_ BK433.out 0).trans rfl,(kc_ BK433.out 1).trans rfl⟩ (fun hHeld => ?_)
           clear hK K
           refine norm_ (a' := ?_) ?_ ?_
           rotate_left
           ·show Act.put _ (some 32) _ = _
            simp only [Act.put,ls_,lz_,lc_,i64_w,i32_w]
            rfl
           refine pu_ (v := ?_) (a' := ?_) 12 6 (bz 14 8191) rfl rfl HT_ (by kernel_rfl) (fun _ _ _ h => h) (by rfl) ?_ ?_ ?_
           rotate_left;(intro w';go_simp;with_reducible rfl);rotate_left;(simp only [Act.put,ls_,lz_,lc_,i64_w,i32_w];rfl)
           refine pu_ (v := ?_) (a' := ?_) 13 7 (bz 14 16383) rfl rfl HT_ (by kernel_rfl) (fun _ _ _ h => h) (by rfl) ?_ ?_ ?_
           rotate_left;(intro w';go_simp;with_reducible rfl);rotate_left;(simp only [Act.put,ls_,lz_,lc_,i64_w,i32_w];rfl)
           refine done_ (done_of HT_.out (by kernel_rfl)) ?_
           try go_wp2
           (repeat (rw [drewN_self w77];generalize hq_ : World.drewN w77 _ = w77;have n0_ : Aside0 (w77.heap[gb432]? = some (.cells #[.int .i64 a0_0,.int .i64 a0_1] 25 (0,0))) := ⟨by rw [← hq_];exact (kk_ BK432.out)⟩;have n1_ : Aside0 (w77.heap[gb433]? = some (.cells #[.int .i64 a1_0,.int .i64 a1_1] 25 (0,0))) := ⟨by rw [← hq_];exact (kk_ BK433.out)⟩;have n2_ : Aside0 (w77.heap[gb434]? = some (.cells #[.int .i64 0,.int .i64 0] 25 (0,0))) := ⟨by rw [← hq_];exact (kk_ BK434.out)⟩;have n3_ : Aside0 (Below w.heap.size w w77) := ⟨by rw [← hq_];exact (bb_ HB.out (e_ GE432 (e_ GE433 (e_ GE434 e0_))))⟩;clear BK432 BK433 BK434 HB hq_;have BK432 := n0_;have BK433 := n1_;have BK434 := n2_;have HB := n3_;clear n0_ n1_ n2_ n3_))
           replace BK432 := sd_ (kd_ BK432.out)
           replace BK433 := sd_ (kd_ BK433.out)
           replace BK434 := sd_ (kd_ BK434.out)
           replace HB := sd_ (d1_ HB.out)
           refine start_ (n := 20) (S := fun w' => w'.cell? ⟨gb432,0,none⟩ = some (.int .i64 a0_0) ∧ w'.cell? ⟨gb432,1,none⟩ = some (.int .i64 a0_1) ∧ w'.cell? ⟨gb433,0,none⟩ = some (.int .i64 a1_0) ∧ w'.cell? ⟨gb433,1,none⟩ = some (.int .i64 a1_1)) (ds := []) (Array.replicate 20 false) (by kernel_rfl) rfl rfl ⟨(kc_ BK432.out 0).trans rfl,(kc_ BK432.out 1).trans rfl,(kc_ BK433.out 0).trans rfl,(kc_ BK433.out 1).trans rfl⟩ (fun hHeld => ?_);refine with_tabW neumeref02_Mul.tab4 neumeref02_Mul.bits4 (fun HT_ HW_ => ?_)
           generalize w77.drew = w78 at BK432 BK433 BK434 HB hHeld ⊢
           refine pu_ (v := ?_) (a' := ?_) 0 33 (bz 20 1) rfl rfl HT_ (by kernel_rfl) (fun _ _ _ h => h) (by rfl) ?_ ?_ ?_
           rotate_left;(intro w';go_simp;with_reducible rfl);rotate_left;(simp only [Act.put,ls_,lz_,lc_,i64_w,i32_w];rfl)
           refine pu_ (v := ?_) (a' := ?_) 2 35 (bz 20 5) rfl rfl HT_ (by kernel_rfl) (fun _ _ _ h => h) (by rfl) ?_ ?_ ?_
           rotate_left;(intro w';go_simp;with_reducible rfl);rotate_left;(simp only [Act.put,ls_,lz_,lc_,i64_w,i32_w];rfl)
           refine pu_ (v := ?_) (a' := ?_) 4 37 (bz 20 21) rfl rfl HT_ (by kernel_rfl) (fun _ _ _ h => h) (by rfl) ?_ ?_ ?_
           rotate_left;(intro w';go_simp;with_reducible rfl);rotate_left;(simp only [Act.put,ls_,lz_,lc_,i64_w,i32_w];rfl)
           refine pu_ (v := ?_) (a' := ?_) 6 39 (bz 20 85) rfl rfl HT_ (by kernel_rfl) (fun _ _ _ h => h) (by rfl) ?_ ?_ ?_
           rotate_left;(intro w';go_simp;with_reducible rfl);rotate_left;(simp only [Act.put,ls_,lz_,lc_,i64_w,i32_w];rfl)
           refine pu_ (v := ?_) (a' := ?_) 8 41 (bz 20 341) rfl rfl HT_ (by kernel_rfl) (fun _ _ _ h => h) (by rfl) ?_ ?_ ?_
           rotate_left;(intro w';go_simp;with_reducible rfl);rotate_left;(simp only [Act.put,ls_,lz_,lc_,i64_w,i32_w];rfl)
           refine pu_ (v := ?_) (a' := ?_) 10 43 (bz 20 1365) rfl rfl HT_ (by kernel_rfl) (fun _ _ _ h => h) (by rfl) ?_ ?_ ?_
           rotate_left;(intro w';go_simp;with_reducible rfl);rotate_left;(simp only [Act.put,ls_,lz_,lc_,i64_w,i32_w];rfl)
           refine pu_ (v := ?_) (a' := ?_) 12 45 (bz 20 5461) rfl rfl HT_ (by kernel_rfl) (fun _ _ _ h => h) (by rfl) ?_ ?_ ?_
           rotate_left;(intro w';go_simp;with_reducible rfl);rotate_left;(simp only [Act.put,ls_,lz_,lc_,i64_w,i32_w];rfl)
           refine pu_ (v := ?_) (a' := ?_) 14 47 (bz 20 21845) rfl rfl HT_ (by kernel_rfl) (fun _ _ _ h => h) (by rfl) ?_ ?_ ?_
           rotate_left;(intro w';go_simp;with_reducible rfl);rotate_left;(simp only [Act.put,ls_,lz_,lc_,i64_w,i32_w];rfl)
           refine ta_ (v := ?_) (a' := ?_) 1 34 (bz 20 21847) rfl rfl HT_ HW_ (by kernel_rfl) (fun _ _ _ h => h) (by rfl) ?_ hHeld ?_ ?_
           rotate_left
           ·rintro w' ⟨s0,s1,s2,s3⟩
            go_simp
            with_reducible rfl
           rotate_left
           ·simp only [Act.put,ls_,lz_,lc_,i64_w,i32_w]
            rfl
           refine pu_ (v := ?_) (a' := ?_) 3 36 (bz 20 21855) rfl rfl HT_ (by kernel_rfl) (fun _ _ _ h => h) (by rfl) ?_ ?_ ?_
           rotate_left;(intro w';go_simp;with_reducible rfl);rotate_left;(simp only [Act.put,ls_,lz_,lc_,i64_w,i32_w];rfl)
           refine pu_ (v := ?_) (a' := ?_) 16 8 (bz 20 87391) rfl rfl HT_ (by kernel_rfl) (fun _ _ _ h => h) (by rfl) ?_ ?_ ?_
           rotate_left;(intro w';go_simp;with_reducible rfl);rotate_left;(simp only [Act.put,ls_,lz_,lc_,i64_w,i32_w];rfl)
           refine ta_ (v := ?_) (a' := ?_) 5 38 (bz 20 87423) rfl rfl HT_ HW_ (by kernel_rfl) (fun _ _ _ h => h) (by rfl) ?_ hHeld ?_ ?_
           rotate_left
           ·rintro w' ⟨s0,s1,s2,s3⟩
            go_simp
            with_reducible rfl
           rotate_left
           ·simp only [Act.put,ls_,lz_,lc_,i64_w,i32_w]
            rfl
           refine pu_ (v := ?_) (a' := ?_) 7 40 (bz 20 87551) rfl rfl HT_ (by kernel_rfl) (fun _ _ _ h => h) (by rfl) ?_ ?_ ?_
           rotate_left;(intro w';go_simp;with_reducible rfl);rotate_left;(simp only [Act.put,ls_,lz_,lc_,i64_w,i32_w];rfl)
           refine pu_ (v := ?_) (a' := ?_) 17 9 (bz 20 218623) rfl rfl HT_ (by kernel_rfl) (fun _ _ _ h => h) (by rfl) ?_ ?_ ?_
           rotate_left;(intro w';go_simp;with_reducible rfl);rotate_left;(simp only [Act.put,ls_,lz_,lc_,i64_w,i32_w];rfl)
           refine ta_ (v := ?_) (a' := ?_) 9 42 (bz 20 219135) rfl rfl HT_ HW_ (by kernel_rfl) (fun _ _ _ h => h) (by rfl) ?_ hHeld ?_ ?_
           rotate_left
           ·rintro w' ⟨s0,s1,s2,s3⟩
            go_simp
            with_reducible rfl
           rotate_left
           ·simp only [Act.put,ls_,lz_,lc_,i64_w,i32_w]
            rfl
           refine pu_ (v := ?_) (a' := ?_) 11 44 (bz 20 221183) rfl rfl HT_ (by kernel_rfl) (fun _ _ _ h => h) (by rfl) ?_ ?_ ?_
           rotate_left;(intro w';go_simp;with_reducible rfl);rotate_left;(simp only [Act.put,ls_,lz_,lc_,i64_w,i32_w];rfl)
           refine pu_ (v := ?_) (a' := ?_) 18 10 (bz 20 483327) rfl rfl HT_ (by kernel_rfl) (fun _ _ _ h => h) (by rfl) ?_ ?_ ?_
           rotate_left;(intro w';go_simp;with_reducible rfl);rotate_left;(simp only [Act.put,ls_,lz_,lc_,i64_w,i32_w];rfl)
           refine ta_ (v := ?_) (a' := ?_) 13 46 (bz 20 491519) rfl rfl HT_ HW_ (by kernel_rfl) (fun _ _ _ h => h) (by rfl) ?_ hHeld ?_ ?_
           rotate_left
           ·rintro w' ⟨s0,s1,s2,s3⟩
            go_simp
            with_reducible rfl
           rotate_left
           ·simp only [Act.put,ls_,lz_,lc_,i64_w,i32_w]
            rfl
           refine pu_ (v := ?_) (a' := ?_) 15 48 (bz 20 524287) rfl rfl HT_ (by kernel_rfl) (fun _ _ _ h => h) (by rfl) ?_ ?_ ?_
           rotate_left;(intro w';go_simp;with_reducible rfl);rotate_left;(simp only [Act.put,ls_,lz_,lc_,i64_w,i32_w];rfl)
           refine pu_ (v := ?_) (a' := ?_) 19 11 (bz 20 1048575) rfl rfl HT_ (by kernel_rfl) (fun _ _ _ h => h) (by rfl) ?_ ?_ ?_
           rotate_left;(intro w';go_simp;with_reducible rfl);rotate_left;(simp only [Act.put,ls_,lz_,lc_,i64_w,i32_w];rfl)
           refine done_ (done_of HT_.out (by kernel_rfl)) ?_
           try go_wp2_with (first|(go_at_call 41;(with_reducible refine (neumeref02_abs.calls (wrap64 (Int.tdiv a0_0 t438)) t444 _ A50.out).mono ?_);rintro e w79 ⟨rfl,hb⟩;replace BK432 := kb_ BK432 hb;replace BK433 := kb_ BK433 hb;replace BK434 := kb_ BK434 hb;replace HB := hb_ HB (e_ GE432 (e_ GE433 (e_ GE434 e0_))) hb;(try clear hb);(try clear hb2);(try clear hk);(try clear hi))|(go_at_call 41;(with_reducible refine (neumeref02_abs.calls (wrap64 (Int.tdiv a1_0 t440)) t445 _ A51.out).mono ?_);rintro e w80 ⟨rfl,hb⟩;replace BK432 := kb_ BK432 hb;replace BK433 := kb_ BK433 hb;replace BK434 := kb_ BK434 hb;replace HB := hb_ HB (e_ GE432 (e_ GE433 (e_ GE434 e0_))) hb;(try clear hb);(try clear hb2);(try clear hk);(try clear hi))|((with_reducible refine gate_callee (f := 39) rfl ?_);refine goesL_ (some 72) rfl rfl Tryd.func39 (by kernel_rfl) rfl #[.int .i64 (wrap64 ((wrap64 (Int.tdiv a0_0 t438)) * (wrap64 (Int.tdiv a1_0 t440)))),.int .i64 (wrap64 ((wrap64 (Int.tdiv a0_1 t440)) * (wrap64 (Int.tdiv a1_1 t438))))] rfl (by (try simp only [lm_,lq_,lx_]);first|done|rfl|(simp only [ld_,lt_];rfl)) ?_;(with_reducible refine (neumeref02_lowest.calls kj2 (wrap64 ((wrap64 (Int.tdiv a0_0 t438)) * (wrap64 (Int.tdiv a1_0 t440)))) (wrap64 ((wrap64 (Int.tdiv a0_1 t440)) * (wrap64 (Int.tdiv a1_1 t438)))) t446 t447 t448 _ A74.out).mono ?_);rintro e w81 ⟨rfl,hb⟩;refine ⟨_,rfl,?_⟩;replace BK432 := kb_ BK432 hb;replace BK433 := kb_ BK433 hb;replace BK434 := kb_ BK434 hb;replace HB := hb_ HB (e_ GE432 (e_ GE433 (e_ GE434 e0_))) hb;(try clear hb);(try clear hb2);(try clear hk);(try clear hi);have hnb82 := NB434_432.out;have hnc82 := NB432_434.out;have hnb83 := NB434_433.out;have hnc83 := NB433_434.out;have hcz84_0 : w81.cell? ⟨gb434,0,none⟩ = some (.int .i64 0) := (kc_ BK434.out 0).trans rfl;have hcz84_1 : w81.cell? ⟨gb434,1,none⟩ = some (.int .i64 0) := (kc_ BK434.out 1).trans rfl;have hfz84_0 := kf_ BK434.out 0;have hfz84_1 := kf_ BK434.out 1))
           refine bodyPost_ret (results_ct rfl _ _ gb434 25 #[.int .i64 t446,.int .i64 t447] (0,0) _ rfl (by (with_reducible repeat first|apply kn_|apply kd_|apply ka_);refine blk_put (cs := #[.int .i64 t446,.int .i64 0]) ?_ 1 _ rfl;(with_reducible repeat first|apply kn_|apply kd_|apply ka_);refine blk_put (cs := #[.int .i64 0,.int .i64 0]) ?_ 0 _ rfl;(with_reducible repeat first|apply kn_|apply kd_|apply ka_);exact BK434.out) Tryd.underlying25 rfl (by kernel_rfl)) rfl ?_
           exact ⟨by first|rfl|(simp [errW_none,errW_some] <;> rfl)|(simp [*,errW_none,errW_some] <;> rfl),by repeat (first|(with_reducible first|exact HB.out|apply ba_|apply pd_|apply d1_|refine bs_ ?_ GE432.out|refine bs_ ?_ GE433.out|refine bs_ ?_ GE434.out)|exact HB.out)⟩

end Go.Proofs.YtdiccfonlojlfaaDoor.P
