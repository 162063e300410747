-- Written by a program of this session (wip/tools/xprint.py, over the kit's print): Lean checks it.
import Derived.Test.YtdiccfonlojlfaaDoorPx0
import Derived.Test.YtdiccfonlojlfaaDoorPx12
import Derived.Test.YtdiccfonlojlfaaDoorPx13
import Derived.Test.YtdiccfonlojlfaaDoorPx14
namespace Go.Proofs.YtdiccfonlojlfaaDoor.P
open Go.RowKit Go.Proofs.YtdiccfonlojlfaaDoorW.PrintWords Go.Proofs.YtdiccfonlojlfaaDoorW.PrintLast Go.Proofs.YtdiccfonlojlfaaDoorW.PrintMore
attribute [local go_sem] max2_int min2_int max_two min_two max_three min_three max_four min_four   -- for this text's walks alone
set_option linter.unusedVariables false
set_option linter.unusedSimpArgs false

/-! ### neumeref02_Div: function 17 -/
def neumeref02_Div.j0 : Nat → Bool → Int → Int → Int → Int → Option (Int × Int × Int)
 | 0, _, _, _, _, _ => none
 | k + 1, x24, x415000, x415001, x416000, x416001 => if x24 = true then (some (0, 0, 2)) else ((neumeref02_abs.f x415000).bind fun t419 => ((neumeref02_abs.f x416000).bind fun t420 => ((neumeref02_gcd.f k t419 t420).bind fun t421 => ((neumeref02_gcd.f k x415001 x416001).bind fun t422 => (if t421 = 0 then (none) else (if t422 = 0 then (none) else (if (wrap64 (Int.tdiv x415000 t421)) = 0 then ((neumeref02_abs.f (wrap64 (Int.tdiv x416000 t421))).bind fun t423 => (if (wrap64 (Int.tdiv x415001 t422)) = 0 then (none) else (if t423 > (wrap64 (Int.tdiv (1048576 : Int) (wrap64 (Int.tdiv x415001 t422)))) then (some (0, 0, 3)) else ((neumeref02_lowest.f k (wrap64 ((wrap64 (Int.tdiv x415000 t421)) * (wrap64 (Int.tdiv x416001 t422)))) (wrap64 ((wrap64 (Int.tdiv x415001 t422)) * (wrap64 (Int.tdiv x416000 t421))))).bind fun bt424 => (some (bt424.1, bt424.2.1, bt424.2.2)))))) else ((neumeref02_abs.f (wrap64 (Int.tdiv x415000 t421))).bind fun t427 => (if (wrap64 (Int.tdiv x416001 t422)) = 0 then (none) else (if t427 > (wrap64 (Int.tdiv (1099511627776 : Int) (wrap64 (Int.tdiv x416001 t422)))) then (some (0, 0, 3)) else ((neumeref02_abs.f (wrap64 (Int.tdiv x416000 t421))).bind fun t428 => (if (wrap64 (Int.tdiv x415001 t422)) = 0 then (none) else (if t428 > (wrap64 (Int.tdiv (1048576 : Int) (wrap64 (Int.tdiv x415001 t422)))) then (some (0, 0, 3)) else ((neumeref02_lowest.f k (wrap64 ((wrap64 (Int.tdiv x415000 t421)) * (wrap64 (Int.tdiv x416001 t422)))) (wrap64 ((wrap64 (Int.tdiv x415001 t422)) * (wrap64 (Int.tdiv x416000 t421))))).bind fun bt429 => (some (bt429.1, bt429.2.1, bt429.2.2))))))))))))))))
def neumeref02_Div.f (k : Nat) (a0_0 : Int) (a0_1 : Int) (a1_0 : Int) (a1_1 : Int) : Option (Int × Int × Int) := (neumeref02_Check.f k a0_0 a0_1).bind fun t417 => (if t417 = true then ((neumeref02_Check.f k a1_0 a1_1).bind fun t418 => (if t418 = true then (neumeref02_Div.j0 k (a1_0 == 0) a0_0 a0_1 a1_0 a1_1) else (neumeref02_Div.j0 k true a0_0 a0_1 a1_0 a1_1))) else (neumeref02_Div.j0 k true a0_0 a0_1 a1_0 a1_1))
theorem neumeref02_Div.mono_l : ∀ k, (∀ y0 y1 y2 y3 y4, LeO (neumeref02_Div.j0 k y0 y1 y2 y3 y4) (neumeref02_Div.j0 (k + 1) y0 y1 y2 y3 y4))
 | 0 => fun _ _ _ _ _ r h => by simp [neumeref02_Div.j0] at h
 | k + 1 => by
  have ih0 := neumeref02_Div.mono_l k
  ·intro y0 y1 y2 y3 y4
   unfold neumeref02_Div.j0
   repeat' first
   | (with_reducible exact ih0 _ _ _ _ _)
   | (with_reducible exact neumeref02_Check.mono _ _ _)
   | (with_reducible exact neumeref02_gcd.mono _ _ _)
   | (with_reducible exact neumeref02_lowest.mono _ _ _)
   | (with_reducible exact LeO.refl _)
   | (with_reducible exact LeO.none _)
   | (with_reducible refine LeO.ite ?_ ?_)
   | (with_reducible refine LeO.bind ?_ (fun _ => ?_))
   | exact ih0 _ _ _ _ _
   | exact neumeref02_Check.mono _ _ _
   | exact neumeref02_gcd.mono _ _ _
   | exact neumeref02_lowest.mono _ _ _
   | exact LeO.none _
   | refine LeO.ite ?_ ?_
   | refine LeO.bind ?_ (fun _ => ?_)
theorem neumeref02_Div.mono : ∀ a0 a1 a2 a3 k, LeO (neumeref02_Div.f k a0 a1 a2 a3) (neumeref02_Div.f (k + 1) a0 a1 a2 a3) := by
 intro a0 a1 a2 a3 k
 have ih0 := neumeref02_Div.mono_l k
 unfold neumeref02_Div.f
 repeat' first
   | (with_reducible exact ih0 _ _ _ _ _)
   | (with_reducible exact neumeref02_Check.mono _ _ _)
   | (with_reducible exact neumeref02_gcd.mono _ _ _)
   | (with_reducible exact neumeref02_lowest.mono _ _ _)
   | (with_reducible exact LeO.refl _)
   | (with_reducible exact LeO.none _)
   | (with_reducible refine LeO.ite ?_ ?_)
   | (with_reducible refine LeO.bind ?_ (fun _ => ?_))
   | exact ih0 _ _ _ _ _
   | exact neumeref02_Check.mono _ _ _
   | exact neumeref02_gcd.mono _ _ _
   | exact neumeref02_lowest.mono _ _ _
   | exact LeO.none _
   | refine LeO.ite ?_ ?_
   | refine LeO.bind ?_ (fun _ => ?_)
def neumeref02_Div.T3 : Bool × List (List Nat × List Nat) := (true, [([], []), ([0], [0]), ([1], [1]), ([], []), ([3], [3]), ([4, 2], [4]), ([2, 5, 5], [2, 5]), ([], []), ([7], [7]), ([], []), ([9], [9]), ([8, 10, 6], [8, 10]), ([6, 11, 0, 1, 2, 3, 4, 5, 6], [6]), ([11, 12, 0, 1, 2, 3, 4, 5, 6, 7, 8, 9, 10, 11, 12], [11])])
def neumeref02_Div.B3 : List Nat := [0, 1, 3, 0, 8, 31, 63, 0, 128, 0, 512, 2047, 4095, 8191]
theorem neumeref02_Div.tab3 : rtab .any (opsOf Tryd.f17 3) = neumeref02_Div.T3 := by kernel_rfl
theorem neumeref02_Div.bits3 : waitsOk neumeref02_Div.T3.2 neumeref02_Div.B3 = true := by kernel_rfl
def neumeref02_Div.T4 : Bool × List (List Nat × List Nat) := (true, [([], []), ([0], [0]), ([], []), ([1, 2], [1, 2]), ([], []), ([4], [4]), ([], []), ([5, 6], [5, 6]), ([], []), ([8], [8]), ([], []), ([9, 10], [9, 10]), ([], []), ([12], [12]), ([], []), ([13, 14], [13, 14]), ([3, 0, 1, 2, 3], [3]), ([7, 16, 0, 1, 2, 3, 4, 5, 6, 7, 16], [7]), ([11, 17, 0, 1, 2, 3, 4, 5, 6, 7, 8, 9, 10, 11, 16, 17], [11]), ([15, 18, 0, 1, 2, 3, 4, 5, 6, 7, 8, 9, 10, 11, 12, 13, 14, 15, 16, 17, 18], [15])])
def neumeref02_Div.B4 : List Nat := [0, 1, 0, 7, 0, 16, 0, 112, 0, 256, 0, 1792, 0, 4096, 0, 28672, 15, 65791, 200703, 524287]
theorem neumeref02_Div.tab4 : rtab .any (opsOf Tryd.f17 4) = neumeref02_Div.T4 := by kernel_rfl
theorem neumeref02_Div.bits4 : waitsOk neumeref02_Div.T4.2 neumeref02_Div.B4 = true := by kernel_rfl
def neumeref02_Div.T5 : Bool × List (List Nat × List Nat) := (true, [([], []), ([0], [0]), ([1], [1]), ([2], [2]), ([3, 2, 2], [2, 3]), ([2], [2]), ([5, 2], [2, 5]), ([4, 6, 2], [2, 4, 6]), ([2, 7], [2, 7]), ([8, 4], [8]), ([9], [9]), ([10, 9, 9], [9, 10]), ([9], [9]), ([12, 9], [9, 12]), ([11, 13, 9], [9, 11, 13]), ([9, 14], [9, 14])])
def neumeref02_Div.B5 : List Nat := [0, 1, 3, 7, 15, 7, 39, 127, 255, 511, 1023, 2047, 1023, 5119, 16383, 32767]
theorem neumeref02_Div.tab5 : rtab .any (opsOf Tryd.f17 5) = neumeref02_Div.T5 := by kernel_rfl
theorem neumeref02_Div.bits5 : waitsOk neumeref02_Div.T5.2 neumeref02_Div.B5 = true := by kernel_rfl
set_option maxHeartbeats 8000000 in
set_option maxRecDepth 100000 in
theorem neumeref02_Div.calls (k : Nat) (a0_0 : Int) (a0_1 : Int) (a1_0 : Int) (a1_1 : Int) (r1 : Int) (r2 : Int) (r3 : Int) (w : World) (h : neumeref02_Div.f k a0_0 a0_1 a1_0 a1_1 = some (r1, r2, r3)) :
  Calls Tryd.prog 17 #[.agg #[.int .i64 a0_0,.int .i64 a0_1],.agg #[.int .i64 a1_0,.int .i64 a1_1]] w fun e w' => e = .returned (.tuple #[.agg #[.int .i64 r1,.int .i64 r2],.int .i64 r3]) ∧ Below w.heap.size w w' := by
 have hu25 := Tryd.underlying25
 have HB := sd_ (Below.refl w.heap.size w)
 have H : ((neumeref02_Check.f k a0_0 a0_1).bind fun t417 => (if t417 = true then ((neumeref02_Check.f k a1_0 a1_1).bind fun t418 => (if t418 = true then (neumeref02_Div.j0 k (a1_0 == 0) a0_0 a0_1 a1_0 a1_1) else (neumeref02_Div.j0 k true a0_0 a0_1 a1_0 a1_1))) else (neumeref02_Div.j0 k true a0_0 a0_1 a1_0 a1_1))) = some (r1,r2,r3) := h
 clear h
 have HC3 := sd_ H
 clear H
 go_enter Tryd.func17,Tryd.ntmps17
 go_upto_region 1 with (first|((with_reducible refine gate_dst (N := 2) rfl ?_);refine box_event ?hg (N := 2) ?hd (cs := #[.int .i64 a0_0,.int .i64 a0_1]) (t := 25) ?hr ?_;(case hd => rfl);(case hg => rfl);(case hr => first|(go_simp;done)|(go_simp;rfl));intro gb414 hg w4 hbox hb;have BK414 := sd_ hbox;have GW414 := gw_ HB e0_ hg;have GE414 := GW414;replace HB := hb_ HB e0_ hb;clear hb hbox hg)|((with_reducible refine gate_dst (N := 3) rfl ?_);refine box_event ?hg (N := 3) ?hd (cs := #[.int .i64 a1_0,.int .i64 a1_1]) (t := 25) ?hr ?_;(case hd => rfl);(case hg => rfl);(case hr => first|(go_simp;done)|(go_simp;rfl));intro gb415 hg w5 hbox hb;have BK415 := sd_ hbox;have GW415 := gw_ HB (e_ GE414 e0_) hg;have GE415 := GW415;have NB414_415 := nb_ BK414 hg;have NB415_414 := sy_ NB414_415;replace BK414 := kb_ BK414 hb;replace HB := hb_ HB (e_ GE414 e0_) hb;clear hb hbox hg)|((with_reducible refine gate_dst (N := 4) rfl ?_);refine box_event ?hg (N := 4) ?hd (cs := #[.int .i64 0,.int .i64 0]) (t := 25) ?hr ?_;(case hd => rfl);(case hg => rfl);(case hr => first|(go_simp;done)|(go_simp;rfl));intro gb416 hg w6 hbox hb;have BK416 := sd_ hbox;have GW416 := gw_ HB (e_ GE414 (e_ GE415 e0_)) hg;have GE416 := GW416;have NB414_416 := nb_ BK414 hg;have NB416_414 := sy_ NB414_416;have NB415_416 := nb_ BK415 hg;have NB416_415 := sy_ NB415_416;replace BK414 := kb_ BK414 hb;replace BK415 := kb_ BK415 hb;replace HB := hb_ HB (e_ GE414 (e_ GE415 e0_)) hb;clear hb hbox hg))
 (try simp only [Act.put,ls_,lz_,lc_])
 go_cut [24] (fun v24 wc => ∃ (kq : Nat) (x24_2 : Bool),v24 = .bool x24_2 ∧ Aside0 (neumeref02_Div.j0 kq x24_2 a0_0 a0_1 a1_0 a1_1 = some (r1,r2,r3)) ∧ Aside0 (kq ≤ k) ∧ Aside0 (wc.heap[gb414]? = some (.cells #[.int .i64 a0_0,.int .i64 a0_1] 25 (0,0))) ∧ Aside0 (wc.heap[gb415]? = some (.cells #[.int .i64 a1_0,.int .i64 a1_1] 25 (0,0))) ∧ Aside0 (wc.heap[gb416]? = some (.cells #[.int .i64 0,.int .i64 0] 25 (0,0))) ∧ Aside0 (Below w.heap.size w wc))
 case first =>
  have H := HC3.out
  clear HC3
  replace H := ob_ H
  obtain ⟨t417,A70,H⟩ := H
  try dsimp only at H
  have A7 := sd_ A70
  clear A70
  by_cases c8 : t417 = true
  ·subst c8
   have H1 : ((neumeref02_Check.f k a1_0 a1_1).bind fun t418 => (if t418 = true then (neumeref02_Div.j0 k (a1_0 == 0) a0_0 a0_1 a1_0 a1_1) else (neumeref02_Div.j0 k true a0_0 a0_1 a1_0 a1_1))) = some (r1,r2,r3) := by rw [if_pos rfl] at H;exact H
   clear H;have H := H1;clear H1
   replace H := ob_ H
   obtain ⟨t418,A90,H⟩ := H
   replace H : (if t418 = true then (neumeref02_Div.j0 k (a1_0 == 0) a0_0 a0_1 a1_0 a1_1) else (neumeref02_Div.j0 k true a0_0 a0_1 a1_0 a1_1)) = some (r1,r2,r3) := H
   have A9 := sd_ A90
   clear A90
   by_cases c10 : t418 = true
   ·subst c10
    have H1 : (neumeref02_Div.j0 k (a1_0 == 0) a0_0 a0_1 a1_0 a1_1) = some (r1,r2,r3) := by rw [if_pos rfl] at H;exact H
    clear H;have H := H1;clear H1
    have H' := sd_ H
    clear H
    have hnb11 := NB414_415.out
    have hnc11 := NB415_414.out
    have hnb12 := NB414_416.out
    have hnc12 := NB416_414.out
    have hcz13_0 : w6.cell? ⟨gb414,0,none⟩ = some (.int .i64 a0_0) := (kc_ BK414.out 0).trans rfl
    have hcz13_1 : w6.cell? ⟨gb414,1,none⟩ = some (.int .i64 a0_1) := (kc_ BK414.out 1).trans rfl
    have hfz13_0 := kf_ BK414.out 0
    have hfz13_1 := kf_ BK414.out 1
    go_wp2_with (first|((with_reducible refine gate_callee (f := 37) rfl ?_);refine goesL_ (some 13) rfl rfl Tryd.func37 (by kernel_rfl) rfl #[.agg #[.int .i64 a0_0,.int .i64 a0_1]] rfl (by (try simp only [lm_,lq_,lx_]);first|done|rfl|(simp only [ld_,lt_];rfl)) ?_;(with_reducible refine (neumeref02_Check.calls k a0_0 a0_1 true _ A7.out).mono ?_);rintro e w14 ⟨rfl,hb⟩;refine ⟨_,rfl,?_⟩;replace BK414 := kb_ BK414 hb;replace BK415 := kb_ BK415 hb;replace BK416 := kb_ BK416 hb;replace HB := hb_ HB (e_ GE414 (e_ GE415 (e_ GE416 e0_))) hb;(try clear hb);(try clear hb2);(try clear hk);(try clear hi);have hnb15 := NB415_416.out;have hnc15 := NB416_415.out;have hcz16_0 : w14.cell? ⟨gb415,0,none⟩ = some (.int .i64 a1_0) := (kc_ BK415.out 0).trans rfl;have hcz16_1 : w14.cell? ⟨gb415,1,none⟩ = some (.int .i64 a1_1) := (kc_ BK415.out 1).trans rfl;have hfz16_0 := kf_ BK415.out 0;have hfz16_1 := kf_ BK415.out 1)|(go_at_call 37;(with_reducible refine (neumeref02_Check.calls k a1_0 a1_1 true _ A9.out).mono ?_);rintro e w17 ⟨rfl,hb⟩;replace BK414 := kb_ BK414 hb;replace BK415 := kb_ BK415 hb;replace BK416 := kb_ BK416 hb;replace HB := hb_ HB (e_ GE414 (e_ GE415 (e_ GE416 e0_))) hb;(try clear hb);(try clear hb2);(try clear hk);(try clear hi);have hcz18_0 : w17.cell? ⟨gb415,0,none⟩ = some (.int .i64 a1_0) := (kc_ BK415.out 0).trans rfl;have hcz18_1 : w17.cell? ⟨gb415,1,none⟩ = some (.int .i64 a1_1) := (kc_ BK415.out 1).trans rfl;have hfz18_0 := kf_ BK415.out 0;have hfz18_1 := kf_ BK415.out 1))
    go_meet
    case rel => exact ⟨_,((a1_0 == 0)),(by first|rfl|(simp;done)|(simp [*];done)|(simp [bne];done)),H',⟨by first|omega|exact Nat.le_refl _⟩,⟨by (with_reducible repeat first|apply kn_|apply kd_|apply ka_);exact BK414.out⟩,⟨by (with_reducible repeat first|apply kn_|apply kd_|apply ka_);exact BK415.out⟩,⟨by (with_reducible repeat first|apply kn_|apply kd_|apply ka_);exact BK416.out⟩,⟨by repeat (first|(with_reducible first|exact HB.out|apply ba_|apply pd_|apply d1_|refine bs_ ?_ GE414.out|refine bs_ ?_ GE415.out|refine bs_ ?_ GE416.out)|exact HB.out)⟩⟩
   ·replace c10 := bf_ c10
    subst c10
    have H1 : (neumeref02_Div.j0 k true a0_0 a0_1 a1_0 a1_1) = some (r1,r2,r3) := by rw [if_neg (show ¬ (false = true) by decide)] at H;exact H
    clear H;have H := H1;clear H1
    have H' := sd_ H
    clear H
    have hnb19 := NB414_415.out
    have hnc19 := NB415_414.out
    have hnb20 := NB414_416.out
    have hnc20 := NB416_414.out
    have hcz21_0 : w6.cell? ⟨gb414,0,none⟩ = some (.int .i64 a0_0) := (kc_ BK414.out 0).trans rfl
    have hcz21_1 : w6.cell? ⟨gb414,1,none⟩ = some (.int .i64 a0_1) := (kc_ BK414.out 1).trans rfl
    have hfz21_0 := kf_ BK414.out 0
    have hfz21_1 := kf_ BK414.out 1
    go_wp2_with (first|((with_reducible refine gate_callee (f := 37) rfl ?_);refine goesL_ (some 13) rfl rfl Tryd.func37 (by kernel_rfl) rfl #[.agg #[.int .i64 a0_0,.int .i64 a0_1]] rfl (by (try simp only [lm_,lq_,lx_]);first|done|rfl|(simp only [ld_,lt_];rfl)) ?_;(with_reducible refine (neumeref02_Check.calls k a0_0 a0_1 true _ A7.out).mono ?_);rintro e w22 ⟨rfl,hb⟩;refine ⟨_,rfl,?_⟩;replace BK414 := kb_ BK414 hb;replace BK415 := kb_ BK415 hb;replace BK416 := kb_ BK416 hb;replace HB := hb_ HB (e_ GE414 (e_ GE415 (e_ GE416 e0_))) hb;(try clear hb);(try clear hb2);(try clear hk);(try clear hi);have hnb23 := NB415_416.out;have hnc23 := NB416_415.out;have hcz24_0 : w22.cell? ⟨gb415,0,none⟩ = some (.int .i64 a1_0) := (kc_ BK415.out 0).trans rfl;have hcz24_1 : w22.cell? ⟨gb415,1,none⟩ = some (.int .i64 a1_1) := (kc_ BK415.out 1).trans rfl;have hfz24_0 := kf_ BK415.out 0;have hfz24_1 := kf_ BK415.out 1)|(go_at_call 37;(with_reducible refine (neumeref02_Check.calls k a1_0 a1_1 false _ A9.out).mono ?_);rintro e w25 ⟨rfl,hb⟩;replace BK414 := kb_ BK414 hb;replace BK415 := kb_ BK415 hb;replace BK416 := kb_ BK416 hb;replace HB := hb_ HB (e_ GE414 (e_ GE415 (e_ GE416 e0_))) hb;(try clear hb);(try clear hb2);(try clear hk);(try clear hi)))
    go_meet
    case rel => exact ⟨_,(true),(by first|rfl|(simp;done)|(simp [*];done)|(simp [bne];done)),H',⟨by first|omega|exact Nat.le_refl _⟩,⟨by (with_reducible repeat first|apply kn_|apply kd_|apply ka_);exact BK414.out⟩,⟨by (with_reducible repeat first|apply kn_|apply kd_|apply ka_);exact BK415.out⟩,⟨by (with_reducible repeat first|apply kn_|apply kd_|apply ka_);exact BK416.out⟩,⟨by repeat (first|(with_reducible first|exact HB.out|apply ba_|apply pd_|apply d1_|refine bs_ ?_ GE414.out|refine bs_ ?_ GE415.out|refine bs_ ?_ GE416.out)|exact HB.out)⟩⟩
  ·replace c8 := bf_ c8
   subst c8
   have H1 : (neumeref02_Div.j0 k true a0_0 a0_1 a1_0 a1_1) = some (r1,r2,r3) := by rw [if_neg (show ¬ (false = true) by decide)] at H;exact H
   clear H;have H := H1;clear H1
   have H' := sd_ H
   clear H
   have hnb26 := NB414_415.out
   have hnc26 := NB415_414.out
   have hnb27 := NB414_416.out
   have hnc27 := NB416_414.out
   have hcz28_0 : w6.cell? ⟨gb414,0,none⟩ = some (.int .i64 a0_0) := (kc_ BK414.out 0).trans rfl
   have hcz28_1 : w6.cell? ⟨gb414,1,none⟩ = some (.int .i64 a0_1) := (kc_ BK414.out 1).trans rfl
   have hfz28_0 := kf_ BK414.out 0
   have hfz28_1 := kf_ BK414.out 1
   go_wp2_with (first|((with_reducible refine gate_callee (f := 37) rfl ?_);refine goesL_ (some 13) rfl rfl Tryd.func37 (by kernel_rfl) rfl #[.agg #[.int .i64 a0_0,.int .i64 a0_1]] rfl (by (try simp only [lm_,lq_,lx_]);first|done|rfl|(simp only [ld_,lt_];rfl)) ?_;(with_reducible refine (neumeref02_Check.calls k a0_0 a0_1 false _ A7.out).mono ?_);rintro e w29 ⟨rfl,hb⟩;refine ⟨_,rfl,?_⟩;replace BK414 := kb_ BK414 hb;replace BK415 := kb_ BK415 hb;replace BK416 := kb_ BK416 hb;replace HB := hb_ HB (e_ GE414 (e_ GE415 (e_ GE416 e0_))) hb;(try clear hb);(try clear hb2);(try clear hk);(try clear hi)))
   go_meet
   case rel => exact ⟨_,(true),(by first|rfl|(simp;done)|(simp [*];done)|(simp [bne];done)),H',⟨by first|omega|exact Nat.le_refl _⟩,⟨by (with_reducible repeat first|apply kn_|apply kd_|apply ka_);exact BK414.out⟩,⟨by (with_reducible repeat first|apply kn_|apply kd_|apply ka_);exact BK415.out⟩,⟨by (with_reducible repeat first|apply kn_|apply kd_|apply ka_);exact BK416.out⟩,⟨by repeat (first|(with_reducible first|exact HB.out|apply ba_|apply pd_|apply d1_|refine bs_ ?_ GE414.out|refine bs_ ?_ GE415.out|refine bs_ ?_ GE416.out)|exact HB.out)⟩⟩
 case rest =>
  clear HC3
  try clear c1;try clear c2;try clear p2;try clear c3;try clear c8;try clear c10;try clear c11;try clear c12;try clear c15;try clear c17;try clear c19;try clear c20;try clear c23;try clear c26;try clear c27;try clear hcz13_0;try clear hcz13_1;try clear hcz16_0;try clear hcz16_1;try clear hcz18_0;try clear hcz18_1;try clear hcz21_0;try clear hcz21_1;try clear hcz24_0;try clear hcz24_1;try clear hcz28_0;try clear hcz28_1;try clear hfz13_0;try clear hfz13_1;try clear hfz16_0;try clear hfz16_1;try clear hfz18_0;try clear hfz18_1;try clear hfz21_0;try clear hfz21_1;try clear hfz24_0;try clear hfz24_1;try clear hfz28_0;try clear hfz28_1
  obtain ⟨kq,x24_2,rfl,HA,HJ2,BK414,BK415,BK416,HB⟩ := hcut
  cases kq with
  | zero => exact absurd HA.out (by simp [neumeref02_Div.j0])
  | succ kj2 =>
   have H := HA.out
   clear HA
   simp only [neumeref02_Div.j0] at H
   by_cases c30 : x24_2 = true
   ·subst c30
    have H1 : (some (0,0,2)) = some (r1,r2,r3) := by rw [if_pos rfl] at H;exact H
    clear H;have H := H1;clear H1
    simp only [Option.some.injEq,Prod.mk.injEq] at H
    obtain ⟨rfl,rfl,rfl⟩ := H
    have hnb31 := NB416_414.out
    have hnc31 := NB414_416.out
    have hnb32 := NB416_415.out
    have hnc32 := NB415_416.out
    have hcz33_0 : wc.cell? ⟨gb416,0,none⟩ = some (.int .i64 0) := (kc_ BK416.out 0).trans rfl
    have hcz33_1 : wc.cell? ⟨gb416,1,none⟩ = some (.int .i64 0) := (kc_ BK416.out 1).trans rfl
    have hfz33_0 := kf_ BK416.out 0
    have hfz33_1 := kf_ BK416.out 1
    go_wp2
    refine bodyPost_ret (results_ct rfl _ _ gb416 25 #[.int .i64 0,.int .i64 0] (0,0) _ rfl (by (with_reducible repeat first|apply kn_|apply kd_|apply ka_);refine blk_put (cs := #[.int .i64 0,.int .i64 0]) ?_ 1 _ rfl;(with_reducible repeat first|apply kn_|apply kd_|apply ka_);refine blk_put (cs := #[.int .i64 0,.int .i64 0]) ?_ 0 _ rfl;(with_reducible repeat first|apply kn_|apply kd_|apply ka_);exact BK416.out) Tryd.underlying25 rfl (by kernel_rfl)) rfl ?_
    exact ⟨by first|rfl|(simp [errW_none,errW_some] <;> rfl)|(simp [*,errW_none,errW_some] <;> rfl),by repeat (first|(with_reducible first|exact HB.out|apply ba_|apply pd_|apply d1_|refine bs_ ?_ GE414.out|refine bs_ ?_ GE415.out|refine bs_ ?_ GE416.out)|exact HB.out)⟩
   ·replace c30 := bf_ c30
    subst c30
    have H1 : ((neumeref02_abs.f a0_0).bind fun t419 => ((neumeref02_abs.f a1_0).bind fun t420 => ((neumeref02_gcd.f kj2 t419 t420).bind fun t421 => ((neumeref02_gcd.f kj2 a0_1 a1_1).bind fun t422 => (if t421 = 0 then (none) else (if t422 = 0 then (none) else (if (wrap64 (Int.tdiv a0_0 t421)) = 0 then ((neumeref02_abs.f (wrap64 (Int.tdiv a1_0 t421))).bind fun t423 => (if (wrap64 (Int.tdiv a0_1 t422)) = 0 then (none) else (if t423 > (wrap64 (Int.tdiv (1048576 : Int) (wrap64 (Int.tdiv a0_1 t422)))) then (some (0,0,3)) else ((neumeref02_lowest.f kj2 (wrap64 ((wrap64 (Int.tdiv a0_0 t421)) * (wrap64 (Int.tdiv a1_1 t422)))) (wrap64 ((wrap64 (Int.tdiv a0_1 t422)) * (wrap64 (Int.tdiv a1_0 t421))))).bind fun bt424 => (some (bt424.1,bt424.2.1,bt424.2.2)))))) else ((neumeref02_abs.f (wrap64 (Int.tdiv a0_0 t421))).bind fun t427 => (if (wrap64 (Int.tdiv a1_1 t422)) = 0 then (none) else (if t427 > (wrap64 (Int.tdiv (1099511627776 : Int) (wrap64 (Int.tdiv a1_1 t422)))) then (some (0,0,3)) else ((neumeref02_abs.f (wrap64 (Int.tdiv a1_0 t421))).bind fun t428 => (if (wrap64 (Int.tdiv a0_1 t422)) = 0 then (none) else (if t428 > (wrap64 (Int.tdiv (1048576 : Int) (wrap64 (Int.tdiv a0_1 t422)))) then (some (0,0,3)) else ((neumeref02_lowest.f kj2 (wrap64 ((wrap64 (Int.tdiv a0_0 t421)) * (wrap64 (Int.tdiv a1_1 t422)))) (wrap64 ((wrap64 (Int.tdiv a0_1 t422)) * (wrap64 (Int.tdiv a1_0 t421))))).bind fun bt429 => (some (bt429.1,bt429.2.1,bt429.2.2)))))))))))))))) = some (r1,r2,r3) := by rw [if_neg (show ¬ (false = true) by decide)] at H;exact H
    clear H;have H := H1;clear H1
    replace H := ob_ H
    obtain ⟨t419,A340,H⟩ := H
    try dsimp only at H
    have A34 := sd_ A340
    clear A340
    replace H := ob_ H
    obtain ⟨t420,A350,H⟩ := H
    try dsimp only at H
    have A35 := sd_ A350
    clear A350
    replace H := ob_ H
    obtain ⟨t421,A360,H⟩ := H
    try dsimp only at H
    have A36 := sd_ A360
    clear A360
    replace H := ob_ H
    obtain ⟨t422,A370,H⟩ := H
    try dsimp only at H
    have A37 := sd_ A370
    clear A370
    by_cases c38 : t421 = 0
    ·rw [if_pos c38] at H
     exact absurd H (by simp)
    ·rw [if_neg c38] at H
     have c38b0 : (t421 == 0) = false := beq_eq_false_iff_ne.mpr c38
     have c38b1 : (t421 != 0) = true := bne_iff_ne.mpr c38
     by_cases c39 : t422 = 0
     ·rw [if_pos c39] at H
      exact absurd H (by simp)
     ·rw [if_neg c39] at H
      have c39b0 : (t422 == 0) = false := beq_eq_false_iff_ne.mpr c39
      have c39b1 : (t422 != 0) = true := bne_iff_ne.mpr c39
      by_cases c40 : (wrap64 (Int.tdiv a0_0 t421)) = 0
      ·rw [if_pos c40] at H
       have c40b0 : ((wrap64 (Int.tdiv a0_0 t421)) == 0) = true := beq_iff_eq.mpr c40
       have c40b1 : ((wrap64 (Int.tdiv a0_0 t421)) != 0) = false := bne_eq_false_iff_eq.mpr c40
       clear c40
       replace H := ob_ H
       obtain ⟨t423,A410,H⟩ := H
       try dsimp only at H
       have A41 := sd_ A410
       clear A410
       by_cases c42 : (wrap64 (Int.tdiv a0_1 t422)) = 0
       ·rw [if_pos c42] at H
        exact absurd H (by simp)
       ·rw [if_neg c42] at H
        have c42b0 : ((wrap64 (Int.tdiv a0_1 t422)) == 0) = false := beq_eq_false_iff_ne.mpr c42
        have c42b1 : ((wrap64 (Int.tdiv a0_1 t422)) != 0) = true := bne_iff_ne.mpr c42
        by_cases c43 : t423 > (wrap64 (Int.tdiv (1048576 : Int) (wrap64 (Int.tdiv a0_1 t422))))
        ·rw [if_pos c43] at H
         have c43b0 : decide ((wrap64 (Int.tdiv (1048576 : Int) (wrap64 (Int.tdiv a0_1 t422)))) < t423) = true := dt_ c43
         clear c43
         simp only [Option.some.injEq,Prod.mk.injEq] at H
         obtain ⟨rfl,rfl,rfl⟩ := H
         try go_wp2
         replace BK414 := sd_ (kd_ BK414.out)
         replace BK415 := sd_ (kd_ BK415.out)
         replace BK416 := sd_ (kd_ BK416.out)
         replace HB := sd_ (d1_ HB.out)
         refine start_ (n := 14) (S := fun w' => w'.cell? ⟨gb414,0,none⟩ = some (.int .i64 a0_0) ∧ w'.cell? ⟨gb414,1,none⟩ = some (.int .i64 a0_1) ∧ w'.cell? ⟨gb415,0,none⟩ = some (.int .i64 a1_0) ∧ w'.cell? ⟨gb415,1,none⟩ = some (.int .i64 a1_1)) (ds := []) (Array.replicate 14 false) (by kernel_rfl) rfl rfl ⟨(kc_ BK414.out 0).trans rfl,(kc_ BK414.out 1).trans rfl,(kc_ BK415.out 0).trans rfl,(kc_ BK415.out 1).trans rfl⟩ (fun hHeld => ?_);refine with_tabW neumeref02_Div.tab3 neumeref02_Div.bits3 (fun HT_ HW_ => ?_)
         generalize wc.drew = w44 at BK414 BK415 BK416 HB hHeld ⊢
         refine pu_ (v := ?_) (a' := ?_) 0 26 (bz 14 1) rfl rfl HT_ (by kernel_rfl) (fun _ _ _ h => h) (by rfl) ?_ ?_ ?_
         rotate_left;(intro w';go_simp;with_reducible rfl);rotate_left;(simp only [Act.put,ls_,lz_,lc_,i64_w,i32_w];rfl)
         refine pu_ (v := ?_) (a' := ?_) 3 29 (bz 14 9) rfl rfl HT_ (by kernel_rfl) (fun _ _ _ h => h) (by rfl) ?_ ?_ ?_
         rotate_left;(intro w';go_simp;with_reducible rfl);rotate_left;(simp only [Act.put,ls_,lz_,lc_,i64_w,i32_w];rfl)
         refine pu_ (v := ?_) (a' := ?_) 7 33 (bz 14 137) rfl rfl HT_ (by kernel_rfl) (fun _ _ _ h => h) (by rfl) ?_ ?_ ?_
         rotate_left;(intro w';go_simp;with_reducible rfl);rotate_left;(simp only [Act.put,ls_,lz_,lc_,i64_w,i32_w];rfl)
         refine pu_ (v := ?_) (a' := ?_) 9 35 (bz 14 649) rfl rfl HT_ (by kernel_rfl) (fun _ _ _ h => h) (by rfl) ?_ ?_ ?_
         rotate_left;(intro w';go_simp;with_reducible rfl);rotate_left;(simp only [Act.put,ls_,lz_,lc_,i64_w,i32_w];rfl)
         refine ta_ (v := ?_) (a' := ?_) 1 27 (bz 14 651) rfl rfl HT_ HW_ (by kernel_rfl) (fun _ _ _ h => h) (by rfl) ?_ hHeld ?_ ?_
         rotate_left
         ·rintro w' ⟨s0,s1,s2,s3⟩
          go_simp
          with_reducible rfl
         rotate_left
         ·simp only [Act.put,ls_,lz_,lc_,i64_w,i32_w]
          rfl
         refine ta_ (v := ?_) (a' := ?_) 4 30 (bz 14 667) rfl rfl HT_ HW_ (by kernel_rfl) (fun _ _ _ h => h) (by rfl) ?_ hHeld ?_ ?_
         rotate_left
         ·rintro w' ⟨s0,s1,s2,s3⟩
          go_simp
          with_reducible rfl
         rotate_left
         ·simp only [Act.put,ls_,lz_,lc_,i64_w,i32_w]
          rfl
         refine ta_ (v := ?_) (a' := ?_) 8 34 (bz 14 923) rfl rfl HT_ HW_ (by kernel_rfl) (fun _ _ _ h => h) (by rfl) ?_ hHeld ?_ ?_
         rotate_left
         ·rintro w' ⟨s0,s1,s2,s3⟩
          go_simp
          with_reducible rfl
         rotate_left
         ·simp only [Act.put,ls_,lz_,lc_,i64_w,i32_w]
          rfl
         refine ta_ (v := ?_) (a' := ?_) 10 36 (bz 14 1947) rfl rfl HT_ HW_ (by kernel_rfl) (fun _ _ _ h => h) (by rfl) ?_ hHeld ?_ ?_
         rotate_left
         ·rintro w' ⟨s0,s1,s2,s3⟩
          go_simp
          with_reducible rfl
         rotate_left
         ·simp only [Act.put,ls_,lz_,lc_,i64_w,i32_w]
          rfl
         refine on_ (N := some 28) 2 (bz 14 1951) rfl rfl HT_ (by kernel_rfl) (by decide) (fun K hK => ?_)
         refine goes_ Tryd.func41 (by kernel_rfl) rfl #[.int .i64 a0_0] (by rfl) rfl rfl (by (try simp only [lm_,lq_,lx_]);first|done|rfl|(simp only [ld_,lt_];rfl)) ?_
         with_reducible refine (neumeref02_abs.calls a0_0 t419 _ A34.out).mono ?_
         rintro e w45 ⟨rfl,hb⟩
         refine ⟨_,rfl,?_⟩
         replace BK414 := kb_ BK414 hb
         replace BK415 := kb_ BK415 hb
         replace BK416 := kb_ BK416 hb
         replace HB := hb_ HB (e_ GE414 (e_ GE415 (e_ GE416 e0_))) hb
         (try clear hb)
         (try clear hb2)
         (try clear hk)
         (try clear hi)
         refine hK.out _ _ ⟨(kc_ BK414.out 0).trans rfl,(kc_ BK414.out 1).trans rfl,(kc_ BK415.out 0).trans rfl,(kc_ BK415.out 1).trans rfl⟩ (fun hHeld => ?_)
         clear hK K
         refine norm_ (a' := ?_) ?_ ?_
         rotate_left
         ·show Act.put _ (some 28) _ = _
          simp only [Act.put,ls_,lz_,lc_,i64_w,i32_w]
          rfl
         refine on_ (N := some 31) 5 (bz 14 1983) rfl rfl HT_ (by kernel_rfl) (by decide) (fun K hK => ?_)
         refine goes_ Tryd.func41 (by kernel_rfl) rfl #[.int .i64 a1_0] (by rfl) rfl rfl (by (try simp only [lm_,lq_,lx_]);first|done|rfl|(simp only [ld_,lt_];rfl)) ?_
         with_reducible refine (neumeref02_abs.calls a1_0 t420 _ A35.out).mono ?_
         rintro e w46 ⟨rfl,hb⟩
         refine ⟨_,rfl,?_⟩
         replace BK414 := kb_ BK414 hb
         replace BK415 := kb_ BK415 hb
         replace BK416 := kb_ BK416 hb
         replace HB := hb_ HB (e_ GE414 (e_ GE415 (e_ GE416 e0_))) hb
         (try clear hb)
         (try clear hb2)
         (try clear hk)
         (try clear hi)
         refine hK.out _ _ ⟨(kc_ BK414.out 0).trans rfl,(kc_ BK414.out 1).trans rfl,(kc_ BK415.out 0).trans rfl,(kc_ BK415.out 1).trans rfl⟩ (fun hHeld => ?_)
         clear hK K
         refine norm_ (a' := ?_) ?_ ?_
         rotate_left
         ·show Act.put _ (some 31) _ = _
          simp only [Act.put,ls_,lz_,lc_,i64_w,i32_w]
          rfl
         refine on_ (N := some 32) 6 (bz 14 2047) rfl rfl HT_ (by kernel_rfl) (by decide) (fun K hK => ?_)
         refine goes_ Tryd.func38 (by kernel_rfl) rfl #[.int .i64 t419,.int .i64 t420] (by rfl) rfl rfl (by (try simp only [lm_,lq_,lx_]);first|done|rfl|(simp only [ld_,lt_];rfl)) ?_
         with_reducible refine (neumeref02_gcd.calls kj2 t419 t420 t421 _ A36.out).mono ?_
         rintro e w' ⟨rfl,⟨nd,rfl⟩⟩
         refine ⟨_,rfl,?_⟩
         refine hK.out _ _ ⟨(kc_ BK414.out 0).trans rfl,(kc_ BK414.out 1).trans rfl,(kc_ BK415.out 0).trans rfl,(kc_ BK415.out 1).trans rfl⟩ (fun hHeld => ?_)
         clear hK K
         refine norm_ (a' := ?_) ?_ ?_
         rotate_left
         ·show Act.put _ (some 32) _ = _
          simp only [Act.put,ls_,lz_,lc_,i64_w,i32_w]
          rfl
         refine on_ (N := some 37) 11 (bz 14 4095) rfl rfl HT_ (by kernel_rfl) (by decide) (fun K hK => ?_)
         refine goes_ Tryd.func38 (by kernel_rfl) rfl #[.int .i64 a0_1,.int .i64 a1_1] (by rfl) rfl rfl (by (try simp only [lm_,lq_,lx_]);first|done|rfl|(simp only [ld_,lt_];rfl)) ?_
         with_reducible refine (neumeref02_gcd.calls kj2 a0_1 a1_1 t422 _ A37.out).mono ?_
         rintro e w' ⟨rfl,⟨nd,rfl⟩⟩
         refine ⟨_,rfl,?_⟩
         refine hK.out _ _ ⟨(kc_ BK414.out 0).trans rfl,(kc_ BK414.out 1).trans rfl,(kc_ BK415.out 0).trans rfl,(kc_ BK415.out 1).trans rfl⟩ (fun hHeld => ?_)
         clear hK K
         refine norm_ (a' := ?_) ?_ ?_
         rotate_left
         ·show Act.put _ (some 37) _ = _
          simp only [Act.put,ls_,lz_,lc_,i64_w,i32_w]
          rfl
         refine pu_ (v := ?_) (a' := ?_) 12 6 (bz 14 8191) rfl rfl HT_ (by kernel_rfl) (fun _ _ _ h => h) (by rfl) ?_ ?_ ?_
         rotate_left;(intro w';go_simp;with_reducible rfl);rotate_left;(simp only [Act.put,ls_,lz_,lc_,i64_w,i32_w];rfl)
         refine pu_ (v := ?_) (a' := ?_) 13 7 (bz 14 16383) rfl rfl HT_ (by kernel_rfl) (fun _ _ _ h => h) (by rfl) ?_ ?_ ?_
         rotate_left;(intro w';go_simp;with_reducible rfl);rotate_left;(simp only [Act.put,ls_,lz_,lc_,i64_w,i32_w];rfl)
         refine done_ (done_of HT_.out (by kernel_rfl)) ?_
         try go_wp2
         (repeat (rw [drewN_self w46];generalize hq_ : World.drewN w46 _ = w46;have n0_ : Aside0 (w46.heap[gb414]? = some (.cells #[.int .i64 a0_0,.int .i64 a0_1] 25 (0,0))) := ⟨by rw [← hq_];exact (kk_ BK414.out)⟩;have n1_ : Aside0 (w46.heap[gb415]? = some (.cells #[.int .i64 a1_0,.int .i64 a1_1] 25 (0,0))) := ⟨by rw [← hq_];exact (kk_ BK415.out)⟩;have n2_ : Aside0 (w46.heap[gb416]? = some (.cells #[.int .i64 0,.int .i64 0] 25 (0,0))) := ⟨by rw [← hq_];exact (kk_ BK416.out)⟩;have n3_ : Aside0 (Below w.heap.size w w46) := ⟨by rw [← hq_];exact (bb_ HB.out (e_ GE414 (e_ GE415 (e_ GE416 e0_))))⟩;clear BK414 BK415 BK416 HB hq_;have BK414 := n0_;have BK415 := n1_;have BK416 := n2_;have HB := n3_;clear n0_ n1_ n2_ n3_))
         replace BK414 := sd_ (kd_ BK414.out)
         replace BK415 := sd_ (kd_ BK415.out)
         replace BK416 := sd_ (kd_ BK416.out)
         replace HB := sd_ (d1_ HB.out)
         refine start_ (n := 20) (S := fun w' => w'.cell? ⟨gb414,0,none⟩ = some (.int .i64 a0_0) ∧ w'.cell? ⟨gb414,1,none⟩ = some (.int .i64 a0_1) ∧ w'.cell? ⟨gb415,0,none⟩ = some (.int .i64 a1_0) ∧ w'.cell? ⟨gb415,1,none⟩ = some (.int .i64 a1_1)) (ds := []) (Array.replicate 20 false) (by kernel_rfl) rfl rfl ⟨(kc_ BK414.out 0).trans rfl,(kc_ BK414.out 1).trans rfl,(kc_ BK415.out 0).trans rfl,(kc_ BK415.out 1).trans rfl⟩ (fun hHeld => ?_);refine with_tabW neumeref02_Div.tab4 neumeref02_Div.bits4 (fun HT_ HW_ => ?_)
         generalize w46.drew = w47 at BK414 BK415 BK416 HB hHeld ⊢
         refine pu_ (v := ?_) (a' := ?_) 0 38 (bz 20 1) rfl rfl HT_ (by kernel_rfl) (fun _ _ _ h => h) (by rfl) ?_ ?_ ?_
         rotate_left;(intro w';go_simp;with_reducible rfl);rotate_left;(simp only [Act.put,ls_,lz_,lc_,i64_w,i32_w];rfl)
         refine pu_ (v := ?_) (a' := ?_) 2 40 (bz 20 5) rfl rfl HT_ (by kernel_rfl) (fun _ _ _ h => h) (by rfl) ?_ ?_ ?_
         rotate_left;(intro w';go_simp;with_reducible rfl);rotate_left;(simp only [Act.put,ls_,lz_,lc_,i64_w,i32_w];rfl)
         refine pu_ (v := ?_) (a' := ?_) 4 42 (bz 20 21) rfl rfl HT_ (by kernel_rfl) (fun _ _ _ h => h) (by rfl) ?_ ?_ ?_
         rotate_left;(intro w';go_simp;with_reducible rfl);rotate_left;(simp only [Act.put,ls_,lz_,lc_,i64_w,i32_w];rfl)
         refine pu_ (v := ?_) (a' := ?_) 6 44 (bz 20 85) rfl rfl HT_ (by kernel_rfl) (fun _ _ _ h => h) (by rfl) ?_ ?_ ?_
         rotate_left;(intro w';go_simp;with_reducible rfl);rotate_left;(simp only [Act.put,ls_,lz_,lc_,i64_w,i32_w];rfl)
         refine pu_ (v := ?_) (a' := ?_) 8 46 (bz 20 341) rfl rfl HT_ (by kernel_rfl) (fun _ _ _ h => h) (by rfl) ?_ ?_ ?_
         rotate_left;(intro w';go_simp;with_reducible rfl);rotate_left;(simp only [Act.put,ls_,lz_,lc_,i64_w,i32_w];rfl)
         refine pu_ (v := ?_) (a' := ?_) 10 48 (bz 20 1365) rfl rfl HT_ (by kernel_rfl) (fun _ _ _ h => h) (by rfl) ?_ ?_ ?_
         rotate_left;(intro w';go_simp;with_reducible rfl);rotate_left;(simp only [Act.put,ls_,lz_,lc_,i64_w,i32_w];rfl)
         refine pu_ (v := ?_) (a' := ?_) 12 50 (bz 20 5461) rfl rfl HT_ (by kernel_rfl) (fun _ _ _ h => h) (by rfl) ?_ ?_ ?_
         rotate_left;(intro w';go_simp;with_reducible rfl);rotate_left;(simp only [Act.put,ls_,lz_,lc_,i64_w,i32_w];rfl)
         refine pu_ (v := ?_) (a' := ?_) 14 52 (bz 20 21845) rfl rfl HT_ (by kernel_rfl) (fun _ _ _ h => h) (by rfl) ?_ ?_ ?_
         rotate_left;(intro w';go_simp;with_reducible rfl);rotate_left;(simp only [Act.put,ls_,lz_,lc_,i64_w,i32_w];rfl)
         refine ta_ (v := ?_) (a' := ?_) 1 39 (bz 20 21847) rfl rfl HT_ HW_ (by kernel_rfl) (fun _ _ _ h => h) (by rfl) ?_ hHeld ?_ ?_
         rotate_left
         ·rintro w' ⟨s0,s1,s2,s3⟩
          go_simp
          with_reducible rfl
         rotate_left
         ·simp only [Act.put,ls_,lz_,lc_,i64_w,i32_w]
          rfl
         refine pu_ (v := ?_) (a' := ?_) 3 41 (bz 20 21855) rfl rfl HT_ (by kernel_rfl) (fun _ _ _ h => h) (by rfl) ?_ ?_ ?_
         rotate_left;(intro w';go_simp;with_reducible rfl);rotate_left;(simp only [Act.put,ls_,lz_,lc_,i64_w,i32_w];rfl)
         refine pu_ (v := ?_) (a' := ?_) 16 8 (bz 20 87391) rfl rfl HT_ (by kernel_rfl) (fun _ _ _ h => h) (by rfl) ?_ ?_ ?_
         rotate_left;(intro w';go_simp;with_reducible rfl);rotate_left;(simp only [Act.put,ls_,lz_,lc_,i64_w,i32_w];rfl)
         refine ta_ (v := ?_) (a' := ?_) 5 43 (bz 20 87423) rfl rfl HT_ HW_ (by kernel_rfl) (fun _ _ _ h => h) (by rfl) ?_ hHeld ?_ ?_
         rotate_left
         ·rintro w' ⟨s0,s1,s2,s3⟩
          go_simp
          with_reducible rfl
         rotate_left
         ·simp only [Act.put,ls_,lz_,lc_,i64_w,i32_w]
          rfl
         refine pu_ (v := ?_) (a' := ?_) 7 45 (bz 20 87551) rfl rfl HT_ (by kernel_rfl) (fun _ _ _ h => h) (by rfl) ?_ ?_ ?_
         rotate_left;(intro w';go_simp;with_reducible rfl);rotate_left;(simp only [Act.put,ls_,lz_,lc_,i64_w,i32_w];rfl)
         refine pu_ (v := ?_) (a' := ?_) 17 9 (bz 20 218623) rfl rfl HT_ (by kernel_rfl) (fun _ _ _ h => h) (by rfl) ?_ ?_ ?_
         rotate_left;(intro w';go_simp;with_reducible rfl);rotate_left;(simp only [Act.put,ls_,lz_,lc_,i64_w,i32_w];rfl)
         refine ta_ (v := ?_) (a' := ?_) 9 47 (bz 20 219135) rfl rfl HT_ HW_ (by kernel_rfl) (fun _ _ _ h => h) (by rfl) ?_ hHeld ?_ ?_
         rotate_left
         ·rintro w' ⟨s0,s1,s2,s3⟩
          go_simp
          with_reducible rfl
         rotate_left
         ·simp only [Act.put,ls_,lz_,lc_,i64_w,i32_w]
          rfl
         refine pu_ (v := ?_) (a' := ?_) 11 49 (bz 20 221183) rfl rfl HT_ (by kernel_rfl) (fun _ _ _ h => h) (by rfl) ?_ ?_ ?_
         rotate_left;(intro w';go_simp;with_reducible rfl);rotate_left;(simp only [Act.put,ls_,lz_,lc_,i64_w,i32_w];rfl)
         refine pu_ (v := ?_) (a' := ?_) 18 10 (bz 20 483327) rfl rfl HT_ (by kernel_rfl) (fun _ _ _ h => h) (by rfl) ?_ ?_ ?_
         rotate_left;(intro w';go_simp;with_reducible rfl);rotate_left;(simp only [Act.put,ls_,lz_,lc_,i64_w,i32_w];rfl)
         refine ta_ (v := ?_) (a' := ?_) 13 51 (bz 20 491519) rfl rfl HT_ HW_ (by kernel_rfl) (fun _ _ _ h => h) (by rfl) ?_ hHeld ?_ ?_
         rotate_left
         ·rintro w' ⟨s0,s1,s2,s3⟩
          go_simp
          with_reducible rfl
         rotate_left
         ·simp only [Act.put,ls_,lz_,lc_,i64_w,i32_w]
          rfl
         refine pu_ (v := ?_) (a' := ?_) 15 53 (bz 20 524287) rfl rfl HT_ (by kernel_rfl) (fun _ _ _ h => h) (by rfl) ?_ ?_ ?_
         rotate_left;(intro w';go_simp;with_reducible rfl);rotate_left;(simp only [Act.put,ls_,lz_,lc_,i64_w,i32_w];rfl)
         refine pu_ (v := ?_) (a' := ?_) 19 11 (bz 20 1048575) rfl rfl HT_ (by kernel_rfl) (fun _ _ _ h => h) (by rfl) ?_ ?_ ?_
         rotate_left;(intro w';go_simp;with_reducible rfl);rotate_left;(simp only [Act.put,ls_,lz_,lc_,i64_w,i32_w];rfl)
         refine done_ (done_of HT_.out (by kernel_rfl)) ?_
         try go_wp2
         replace BK414 := sd_ (kd_ BK414.out)
         replace BK415 := sd_ (kd_ BK415.out)
         replace BK416 := sd_ (kd_ BK416.out)
         replace HB := sd_ (d1_ HB.out)
         refine start_ (n := 16) (S := fun w' => True) (ds := []) (Array.replicate 16 false) (by kernel_rfl) rfl rfl trivial (fun hHeld => ?_);refine with_tabW neumeref02_Div.tab5 neumeref02_Div.bits5 (fun HT_ HW_ => ?_)
         generalize w47.drew = w48 at BK414 BK415 BK416 HB hHeld ⊢
         refine pu_ (v := ?_) (a' := ?_) 0 54 (bz 16 1) rfl rfl HT_ (by kernel_rfl) (fun _ _ _ h => h) (by rfl) ?_ ?_ ?_
         rotate_left;(intro w';go_simp;with_reducible rfl);rotate_left;(simp only [Act.put,ls_,lz_,lc_,i64_w,i32_w];rfl)
         refine pu_ (v := ?_) (a' := ?_) 1 55 (bz 16 3) rfl rfl HT_ (by kernel_rfl) (fun _ _ _ h => h) (by rfl) ?_ ?_ ?_
         rotate_left;(intro w';go_simp;with_reducible rfl);rotate_left;(simp only [Act.put,ls_,lz_,lc_,i64_w,i32_w];rfl)
         refine pu_ (v := ?_) (a' := ?_) 2 56 (bz 16 7) rfl rfl HT_ (by kernel_rfl) (fun _ _ _ h => h) (by rfl) ?_ ?_ ?_
         rotate_left;(intro w';go_simp;with_reducible rfl);rotate_left;(simp only [Act.put,ls_,lz_,lc_,i64_w,i32_w];rfl)
         refine pz_ (a' := ?_) 3 57 (bz 16 15) rfl rfl HT_ (by kernel_rfl) (fun _ _ _ h => h) (by rfl) ?_ ?_
         rotate_left
         ·simp only [Act.put,ls_,lz_,lc_,i64_w,i32_w]
          rfl
         refine pz_ (a' := ?_) 4 58 (bz 16 31) rfl rfl HT_ (by kernel_rfl) (fun _ _ _ h => h) (by rfl) ?_ ?_
         rotate_left
         ·simp only [Act.put,ls_,lz_,lc_,i64_w,i32_w]
          rfl
         refine pz_ (a' := ?_) 5 59 (bz 16 63) rfl rfl HT_ (by kernel_rfl) (fun _ _ _ h => h) (by rfl) ?_ ?_
         rotate_left
         ·simp only [Act.put,ls_,lz_,lc_,i64_w,i32_w]
          rfl
         refine pz_ (a' := ?_) 6 60 (bz 16 127) rfl rfl HT_ (by kernel_rfl) (fun _ _ _ h => h) (by rfl) ?_ ?_
         rotate_left
         ·simp only [Act.put,ls_,lz_,lc_,i64_w,i32_w]
          rfl
         refine pz_ (a' := ?_) 7 61 (bz 16 255) rfl rfl HT_ (by kernel_rfl) (fun _ _ _ h => h) (by rfl) ?_ ?_
         rotate_left
         ·simp only [Act.put,ls_,lz_,lc_,i64_w,i32_w]
          rfl
         refine pu_ (v := ?_) (a' := ?_) 8 62 (bz 16 511) rfl rfl HT_ (by kernel_rfl) (fun _ _ _ h => h) (by rfl) ?_ ?_ ?_
         rotate_left;(intro w';go_simp;with_reducible rfl);rotate_left;(simp only [Act.put,ls_,lz_,lc_,i64_w,i32_w];rfl)
         refine pu_ (v := ?_) (a' := ?_) 9 63 (bz 16 1023) rfl rfl HT_ (by kernel_rfl) (fun _ _ _ h => h) (by rfl) ?_ ?_ ?_
         rotate_left;(intro w';go_simp;with_reducible rfl);rotate_left;(simp only [Act.put,ls_,lz_,lc_,i64_w,i32_w];rfl)
         refine pu_ (v := ?_) (a' := ?_) 10 64 (bz 16 2047) rfl rfl HT_ (by kernel_rfl) (fun _ _ _ h => h) (by rfl) ?_ ?_ ?_
         rotate_left;(intro w';go_simp;with_reducible rfl);rotate_left;(simp only [Act.put,ls_,lz_,lc_,i64_w,i32_w];rfl)
         refine pu_ (v := ?_) (a' := ?_) 12 66 (bz 16 6143) rfl rfl HT_ (by kernel_rfl) (fun _ _ _ h => h) (by rfl) ?_ ?_ ?_
         rotate_left;(intro w';go_simp;with_reducible rfl);rotate_left;(simp only [Act.put,ls_,lz_,lc_,i64_w,i32_w];rfl)
         refine pu_ (v := ?_) (a' := ?_) 13 67 (bz 16 14335) rfl rfl HT_ (by kernel_rfl) (fun _ _ _ h => h) (by rfl) ?_ ?_ ?_
         rotate_left;(intro w';go_simp;with_reducible rfl);rotate_left;(simp only [Act.put,ls_,lz_,lc_,i64_w,i32_w];rfl)
         refine on_ (N := some 65) 11 (bz 16 16383) rfl rfl HT_ (by kernel_rfl) (by decide) (fun K hK => ?_)
         refine goes_ Tryd.func41 (by kernel_rfl) rfl #[.int .i64 (wrap64 (Int.tdiv a1_0 t421))] (by rfl) rfl rfl (by (try simp only [lm_,lq_,lx_]);first|done|rfl|(simp only [ld_,lt_];rfl)) ?_
         with_reducible refine (neumeref02_abs.calls (wrap64 (Int.tdiv a1_0 t421)) t423 _ A41.out).mono ?_
         rintro e w49 ⟨rfl,hb⟩
         refine ⟨_,rfl,?_⟩
         replace BK414 := kb_ BK414 hb
         replace BK415 := kb_ BK415 hb
         replace BK416 := kb_ BK416 hb
         replace HB := hb_ HB (e_ GE414 (e_ GE415 (e_ GE416 e0_))) hb
         (try clear hb)
         (try clear hb2)
         (try clear hk)
         (try clear hi)
         refine hK.out _ _ trivial (fun hHeld => ?_)
         clear hK K
         refine norm_ (a' := ?_) ?_ ?_
         rotate_left
         ·show Act.put _ (some 65) _ = _
          simp only [Act.put,ls_,lz_,lc_,i64_w,i32_w]
          rfl
         refine pu_ (v := ?_) (a' := ?_) 14 68 (bz 16 32767) rfl rfl HT_ (by kernel_rfl) (fun _ _ _ h => h) (by rfl) ?_ ?_ ?_
         rotate_left;(intro w';go_simp;with_reducible rfl);rotate_left;(simp only [Act.put,ls_,lz_,lc_,i64_w,i32_w];rfl)
         refine pu_ (v := ?_) (a' := ?_) 15 69 (bz 16 65535) rfl rfl HT_ (by kernel_rfl) (fun _ _ _ h => h) (by rfl) ?_ ?_ ?_
         rotate_left;(intro w';go_simp;with_reducible rfl);rotate_left;(simp only [Act.put,ls_,lz_,lc_,i64_w,i32_w];rfl)
         refine done_ (done_of HT_.out (by kernel_rfl)) ?_
         have hnb50 := NB416_414.out
         have hnc50 := NB414_416.out
         have hnb51 := NB416_415.out
         have hnc51 := NB415_416.out
         have hcz52_0 : w49.cell? ⟨gb416,0,none⟩ = some (.int .i64 0) := (kc_ BK416.out 0).trans rfl
         have hcz52_1 : w49.cell? ⟨gb416,1,none⟩ = some (.int .i64 0) := (kc_ BK416.out 1).trans rfl
         have hfz52_0 := kf_ BK416.out 0
         have hfz52_1 := kf_ BK416.out 1
         try go_wp2
         refine bodyPost_ret (results_ct rfl _ _ gb416 25 #[.int .i64 0,.int .i64 0] (0,0) _ rfl (by (with_reducible repeat first|apply kn_|apply kd_|apply ka_);refine blk_put (cs := #[.int .i64 0,.int .i64 0]) ?_ 1 _ rfl;(with_reducible repeat first|apply kn_|apply kd_|apply ka_);refine blk_put (cs := #[.int .i64 0,.int .i64 0]) ?_ 0 _ rfl;(with_reducible repeat first|apply kn_|apply kd_|apply ka_);exact BK416.out) Tryd.underlying25 rfl (by kernel_rfl)) rfl ?_
         exact ⟨by first|rfl|(simp [errW_none,errW_some] <;> rfl)|(simp [*,errW_none,errW_some] <;> rfl),by repeat (first|(with_reducible first|exact HB.out|apply ba_|apply pd_|apply d1_|refine bs_ ?_ GE414.out|refine bs_ ?_ GE415.out|refine bs_ ?_ GE416.out)|exact HB.out)⟩
        ·rw [if_neg c43] at H
         have c43b0 : decide ((wrap64 (Int.tdiv (1048576 : Int) (wrap64 (Int.tdiv a0_1 t422)))) < t423) = false := df_ c43
         clear c43
         replace H := ob_ H
         obtain ⟨⟨t424,t425,t426⟩,A530,H⟩ := H
         replace H : (some (t424,t425,t426)) = some (r1,r2,r3) := H
         have A53 := sd_ A530
         clear A530
         simp only [Option.some.injEq,Prod.mk.injEq] at H
         obtain ⟨rfl,rfl,rfl⟩ := H
         try go_wp2
         replace BK414 := sd_ (kd_ BK414.out)
         replace BK415 := sd_ (kd_ BK415.out)
         replace BK416 := sd_ (kd_ BK416.out)
         replace HB := sd_ (d1_ HB.out)
         refine start_ (n := 14) (S := fun w' => w'.cell? ⟨gb414,0,none⟩ = some (.int .i64 a0_0) ∧ w'.cell? ⟨gb414,1,none⟩ = some (.int .i64 a0_1) ∧ w'.cell? ⟨gb415,0,none⟩ = some (.int .i64 a1_0) ∧ w'.cell? ⟨gb415,1,none⟩ = some (.int .i64 a1_1)) (ds := []) (Array.replicate 14 false) (by kernel_rfl) rfl rfl ⟨(kc_ BK414.out 0).trans rfl,(kc_ BK414.out 1).trans rfl,(kc_ BK415.out 0).trans rfl,(kc_ BK415.out 1).trans rfl⟩ (fun hHeld => ?_);refine with_tabW neumeref02_Div.tab3 neumeref02_Div.bits3 (fun HT_ HW_ => ?_)
         generalize wc.drew = w54 at BK414 BK415 BK416 HB hHeld ⊢
         refine pu_ (v := ?_) (a' := ?_) 0 26 (bz 14 1) rfl rfl HT_ (by kernel_rfl) (fun _ _ _ h => h) (by rfl) ?_ ?_ ?_
         rotate_left;(intro w';go_simp;with_reducible rfl);rotate_left;(simp only [Act.put,ls_,lz_,lc_,i64_w,i32_w];rfl)
         refine pu_ (v := ?_) (a' := ?_) 3 29 (bz 14 9) rfl rfl HT_ (by kernel_rfl) (fun _ _ _ h => h) (by rfl) ?_ ?_ ?_
         rotate_left;(intro w';go_simp;with_reducible rfl);rotate_left;(simp only [Act.put,ls_,lz_,lc_,i64_w,i32_w];rfl)
         refine pu_ (v := ?_) (a' := ?_) 7 33 (bz 14 137) rfl rfl HT_ (by kernel_rfl) (fun _ _ _ h => h) (by rfl) ?_ ?_ ?_
         rotate_left;(intro w';go_simp;with_reducible rfl);rotate_left;(simp only [Act.put,ls_,lz_,lc_,i64_w,i32_w];rfl)
         refine pu_ (v := ?_) (a' := ?_) 9 35 (bz 14 649) rfl rfl HT_ (by kernel_rfl) (fun _ _ _ h => h) (by rfl) ?_ ?_ ?_
         rotate_left;(intro w';go_simp;with_reducible rfl);rotate_left;(simp only [Act.put,ls_,lz_,lc_,i64_w,i32_w];rfl)
         refine ta_ (v := ?_) (a' := ?_) 1 27 (bz 14 651) rfl rfl HT_ HW_ (by kernel_rfl) (fun _ _ _ h => h) (by rfl) ?_ hHeld ?_ ?_
         rotate_left
         ·rintro w' ⟨s0,s1,s2,s3⟩
          go_simp
          with_reducible rfl
         rotate_left
         ·simp only [Act.put,ls_,lz_,lc_,i64_w,i32_w]
          rfl
         refine ta_ (v := ?_) (a' := ?_) 4 30 (bz 14 667) rfl rfl HT_ HW_ (by kernel_rfl) (fun _ _ _ h => h) (by rfl) ?_ hHeld ?_ ?_
         rotate_left
         ·rintro w' ⟨s0,s1,s2,s3⟩
          go_simp
          with_reducible rfl
         rotate_left
         ·simp only [Act.put,ls_,lz_,lc_,i64_w,i32_w]
          rfl
         refine ta_ (v := ?_) (a' := ?_) 8 34 (bz 14 923) rfl rfl HT_ HW_ (by kernel_rfl) (fun _ _ _ h => h) (by rfl) ?_ hHeld ?_ ?_
         rotate_left
         ·rintro w' ⟨s0,s1,s2,s3⟩
          go_simp
          with_reducible rfl
         rotate_left
         ·simp only [Act.put,ls_,lz_,lc_,i64_w,i32_w]
          rfl
         refine ta_ (v := ?_) (a' := ?_) 10 36 (bz 14 1947) rfl rfl HT_ HW_ (by kernel_rfl) (fun _ _ _ h => h) (by rfl) ?_ hHeld ?_ ?_
         rotate_left
         ·rintro w' ⟨s0,s1,s2,s3⟩
          go_simp
          with_reducible rfl
         rotate_left
         ·simp only [Act.put,ls_,lz_,lc_,i64_w,i32_w]
          rfl
         refine on_ (N := some 28) 2 (bz 14 1951) rfl rfl HT_ (by kernel_rfl) (by decide) (fun K hK => ?_)
         refine goes_ Tryd.func41 (by kernel_rfl) rfl #[.int .i64 a0_0] (by rfl) rfl rfl (by (try simp only [lm_,lq_,lx_]);first|done|rfl|(simp only [ld_,lt_];rfl)) ?_
         with_reducible refine (neumeref02_abs.calls a0_0 t419 _ A34.out).mono ?_
         rintro e w55 ⟨rfl,hb⟩
         refine ⟨_,rfl,?_⟩
         replace BK414 := kb_ BK414 hb
         replace BK415 := kb_ BK415 hb
         replace BK416 := kb_ BK416 hb
         replace HB := hb_ HB (e_ GE414 (e_ GE415 (e_ GE416 e0_))) hb
         (try clear hb)
         (try clear hb2)
         (try clear hk)
         (try clear hi)
         refine hK.out _ _ ⟨(kc_ BK414.out 0).trans rfl,(kc_ BK414.out 1).trans rfl,(kc_ BK415.out 0).trans rfl,(kc_ BK415.out 1).trans rfl⟩ (fun hHeld => ?_)
         clear hK K
         refine norm_ (a' := ?_) ?_ ?_
         rotate_left
         ·show Act.put _ (some 28) _ = _
          simp only [Act.put,ls_,lz_,lc_,i64_w,i32_w]
          rfl
         refine on_ (N := some 31) 5 (bz 14 1983) rfl rfl HT_ (by kernel_rfl) (by decide) (fun K hK => ?_)
         refine goes_ Tryd.func41 (by kernel_rfl) rfl #[.int .i64 a1_0] (by rfl) rfl rfl (by (try simp only [lm_,lq_,lx_]);first|done|rfl|(simp only [ld_,lt_];rfl)) ?_
         with_reducible refine (neumeref02_abs.calls a1_0 t420 _ A35.out).mono ?_
         rintro e w56 ⟨rfl,hb⟩
         refine ⟨_,rfl,?_⟩
         replace BK414 := kb_ BK414 hb
         replace BK415 := kb_ BK415 hb
         replace BK416 := kb_ BK416 hb
         replace HB := hb_ HB (e_ GE414 (e_ GE415 (e_ GE416 e0_))) hb
         (try clear hb)
         (try clear hb2)
         (try clear hk)
         (try clear hi)
         refine hK.out _ _ ⟨(kc_ BK414.out 0).trans rfl,(kc_ BK414.out 1).trans rfl,(kc_ BK415.out 0).trans rfl,(kc_ BK415.out 1).trans rfl⟩ (fun hHeld => ?_)
         clear hK K
         refine norm_ (a' := ?_) ?_ ?_
         rotate_left
         ·show Act.put _ (some 31) _ = _
          simp only [Act.put,ls_,lz_,lc_,i64_w,i32_w]
          rfl
         refine on_ (N := some 32) 6 (bz 14 2047) rfl rfl HT_ (by kernel_rfl) (by decide) (fun K hK => ?_)
         refine goes_ Tryd.func38 (by kernel_rfl) rfl #[.int .i64 t419,.int .i64 t420] (by rfl) rfl rfl (by (try simp only [lm_,lq_,lx_]);first|done|rfl|(simp only [ld_,lt_];rfl)) ?_
         with_reducible refine (neumeref02_gcd.calls kj2 t419 t420 t421 _ A36.out).mono ?_
         rintro e w' ⟨rfl,⟨nd,rfl⟩⟩
         refine ⟨_,rfl,?_⟩
         refine hK.out _ _ ⟨(kc_ BK414.out 0).trans rfl,(kc_ BK414.out 1).trans rfl,(kc_ BK415.out 0).trans rfl,(kc_ BK415.out 1).trans rfl⟩ (fun hHeld => ?_)
         clear hK K
         refine norm_ (a' := ?_) ?_ ?_
         rotate_left
         ·show Act.put _ (some 32) _ = _
          simp only [Act.put,ls_,lz_,lc_,i64_w,i32_w]
          rfl
         refine on_ (N := some 37) 11 (bz 14 4095) rfl rfl HT_ (by kernel_rfl) (by decide) (fun K hK => ?_)
         refine goes_ Tryd.func38 (by kernel_rfl) rfl #[.int .i64 a0_1,.int .i64 a1_1] (by rfl) rfl rfl (by (try simp only [lm_,lq_,lx_]);first|done|rfl|(simp only [ld_,lt_];rfl)) ?_
         with_reducible refine (neumeref02_gcd.calls kj2 a0_1 a1_1 t422 _ A37.out).mono ?_
         rintro e w' ⟨rfl,⟨nd,rfl⟩⟩
         refine ⟨_,rfl,?_⟩
         refine hK.out _ _ ⟨(kc_ BK414.out 0).trans rfl,(kc_ BK414.out 1).trans rfl,(kc_ BK415.out 0).trans rfl,(kc_ BK415.out 1).trans rfl⟩ (fun hHeld => ?_)
         clear hK K
         refine norm_ (a' := ?_) ?_ ?_
         rotate_left
         ·show Act.put _ (some 37) _ = _
          simp only [Act.put,ls_,lz_,lc_,i64_w,i32_w]
          rfl
         refine pu_ (v := ?_) (a' := ?_) 12 6 (bz 14 8191) rfl rfl HT_ (by kernel_rfl) (fun _ _ _ h => h) (by rfl) ?_ ?_ ?_
         rotate_left;(intro w';go_simp;with_reducible rfl);rotate_left;(simp only [Act.put,ls_,lz_,lc_,i64_w,i32_w];rfl)
         refine pu_ (v := ?_) (a' := ?_) 13 7 (bz 14 16383) rfl rfl HT_ (by kernel_rfl) (fun _ _ _ h => h) (by rfl) ?_ ?_ ?_
         rotate_left;(intro w';go_simp;with_reducible rfl);rotate_left;(simp only [Act.put,ls_,lz_,lc_,i64_w,i32_w];rfl)
         refine done_ (done_of HT_.out (by kernel_rfl)) ?_
         try go_wp2
         (repeat (rw [drewN_self w56];generalize hq_ : World.drewN w56 _ = w56;have n0_ : Aside0 (w56.heap[gb414]? = some (.cells #[.int .i64 a0_0,.int .i64 a0_1] 25 (0,0))) := ⟨by rw [← hq_];exact (kk_ BK414.out)⟩;have n1_ : Aside0 (w56.heap[gb415]? = some (.cells #[.int .i64 a1_0,.int .i64 a1_1] 25 (0,0))) := ⟨by rw [← hq_];exact (kk_ BK415.out)⟩;have n2_ : Aside0 (w56.heap[gb416]? = some (.cells #[.int .i64 0,.int .i64 0] 25 (0,0))) := ⟨by rw [← hq_];exact (kk_ BK416.out)⟩;have n3_ : Aside0 (Below w.heap.size w w56) := ⟨by rw [← hq_];exact (bb_ HB.out (e_ GE414 (e_ GE415 (e_ GE416 e0_))))⟩;clear BK414 BK415 BK416 HB hq_;have BK414 := n0_;have BK415 := n1_;have BK416 := n2_;have HB := n3_;clear n0_ n1_ n2_ n3_))
         replace BK414 := sd_ (kd_ BK414.out)
         replace BK415 := sd_ (kd_ BK415.out)
         replace BK416 := sd_ (kd_ BK416.out)
         replace HB := sd_ (d1_ HB.out)
         refine start_ (n := 20) (S := fun w' => w'.cell? ⟨gb414,0,none⟩ = some (.int .i64 a0_0) ∧ w'.cell? ⟨gb414,1,none⟩ = some (.int .i64 a0_1) ∧ w'.cell? ⟨gb415,0,none⟩ = some (.int .i64 a1_0) ∧ w'.cell? ⟨gb415,1,none⟩ = some (.int .i64 a1_1)) (ds := []) (Array.replicate 20 false) (by kernel_rfl) rfl rfl ⟨(kc_ BK414.out 0).trans rfl,(kc_ BK414.out 1).trans rfl,(kc_ BK415.out 0).trans rfl,(kc_ BK415.out 1).trans rfl⟩ (fun hHeld => ?_);refine with_tabW neumeref02_Div.tab4 neumeref02_Div.bits4 (fun HT_ HW_ => ?_)
         generalize w56.drew = w57 at BK414 BK415 BK416 HB hHeld ⊢
         refine pu_ (v := ?_) (a' := ?_) 0 38 (bz 20 1) rfl rfl HT_ (by kernel_rfl) (fun _ _ _ h => h) (by rfl) ?_ ?_ ?_
         rotate_left;(intro w';go_simp;with_reducible rfl);rotate_left;(simp only [Act.put,ls_,lz_,lc_,i64_w,i32_w];rfl)
         refine pu_ (v := ?_) (a' := ?_) 2 40 (bz 20 5) rfl rfl HT_ (by kernel_rfl) (fun _ _ _ h => h) (by rfl) ?_ ?_ ?_
         rotate_left;(intro w';go_simp;with_reducible rfl);rotate_left;(simp only [Act.put,ls_,lz_,lc_,i64_w,i32_w];rfl)
         refine pu_ (v := ?_) (a' := ?_) 4 42 (bz 20 21) rfl rfl HT_ (by kernel_rfl) (fun _ _ _ h => h) (by rfl) ?_ ?_ ?_
         rotate_left;(intro w';go_simp;with_reducible rfl);rotate_left;(simp only [Act.put,ls_,lz_,lc_,i64_w,i32_w];rfl)
         refine pu_ (v := ?_) (a' := ?_) 6 44 (bz 20 85) rfl rfl HT_ (by kernel_rfl) (fun _ _ _ h => h) (by rfl) ?_ ?_ ?_
         rotate_left;(intro w';go_simp;with_reducible rfl);rotate_left;(simp only [Act.put,ls_,lz_,lc_,i64_w,i32_w];rfl)
         refine pu_ (v := ?_) (a' := ?_) 8 46 (bz 20 341) rfl rfl HT_ (by kernel_rfl) (fun _ _ _ h => h) (by rfl) ?_ ?_ ?_
         rotate_left;(intro w';go_simp;with_reducible rfl);rotate_left;(simp only [Act.put,ls_,lz_,lc_,i64_w,i32_w];rfl)
         refine pu_ (v := ?_) (a' := ?_) 10 48 (bz 20 1365) rfl rfl HT_ (by kernel_rfl) (fun _ _ _ h => h) (by rfl) ?_ ?_ ?_
         rotate_left;(intro w';go_simp;with_reducible rfl);rotate_left;(simp only [Act.put,ls_,lz_,lc_,i64_w,i32_w];rfl)
         refine pu_ (v := ?_) (a' := ?_) 12 50 (bz 20 5461) rfl rfl HT_ (by kernel_rfl) (fun _ _ _ h => h) (by rfl) ?_ ?_ ?_
         rotate_left;(intro w';go_simp;with_reducible rfl);rotate_left;(simp only [Act.put,ls_,lz_,lc_,i64_w,i32_w];rfl)
         refine pu_ (v := ?_) (a' := ?_) 14 52 (bz 20 21845) rfl rfl HT_ (by kernel_rfl) (fun _ _ _ h => h) (by rfl) ?_ ?_ ?_
         rotate_left;(intro w';go_simp;with_reducible rfl);rotate_left;(simp only [Act.put,ls_,lz_,lc_,i64_w,i32_w];rfl)
         refine ta_ (v := ?_) (a' := ?_) 1 39 (bz 20 21847) rfl rfl HT_ HW_ (by kernel_rfl) (fun _ _ _ h => h) (by rfl) ?_ hHeld ?_ ?_
         rotate_left
         ·rintro w' ⟨s0,s1,s2,s3⟩
          go_simp
          with_reducible rfl
         rotate_left
         ·simp only [Act.put,ls_,lz_,lc_,i64_w,i32_w]
          rfl
         refine pu_ (v := ?_) (a' := ?_) 3 41 (bz 20 21855) rfl rfl HT_ (by kernel_rfl) (fun _ _ _ h => h) (by rfl) ?_ ?_ ?_
         rotate_left;(intro w';go_simp;with_reducible rfl);rotate_left;(simp only [Act.put,ls_,lz_,lc_,i64_w,i32_w];rfl)
         refine pu_ (v := ?_) (a' := ?_) 16 8 (bz 20 87391) rfl rfl HT_ (by kernel_rfl) (fun _ _ _ h => h) (by rfl) ?_ ?_ ?_
         rotate_left;(intro w';go_simp;with_reducible rfl);rotate_left;(simp only [Act.put,ls_,lz_,lc_,i64_w,i32_w];rfl)
         refine ta_ (v := ?_) (a' := ?_) 5 43 (bz 20 87423) rfl rfl HT_ HW_ (by kernel_rfl) (fun _ _ _ h => h) (by rfl) ?_ hHeld ?_ ?_
         rotate_left
         ·rintro w' ⟨s0,s1,s2,s3⟩
          go_simp
          with_reducible rfl
         rotate_left
         ·simp only [Act.put,ls_,lz_,lc_,i64_w,i32_w]
          rfl
         refine pu_ (v := ?_) (a' := ?_) 7 45 (bz 20 87551) rfl rfl HT_ (by kernel_rfl) (fun _ _ _ h => h) (by rfl) ?_ ?_ ?_
         rotate_left;(intro w';go_simp;with_reducible rfl);rotate_left;(simp only [Act.put,ls_,lz_,lc_,i64_w,i32_w];rfl)
         refine pu_ (v := ?_) (a' := ?_) 17 9 (bz 20 218623) rfl rfl HT_ (by kernel_rfl) (fun _ _ _ h => h) (by rfl) ?_ ?_ ?_
         rotate_left;(intro w';go_simp;with_reducible rfl);rotate_left;(simp only [Act.put,ls_,lz_,lc_,i64_w,i32_w];rfl)
         refine ta_ (v := ?_) (a' := ?_) 9 47 (bz 20 219135) rfl rfl HT_ HW_ (by kernel_rfl) (fun _ _ _ h => h) (by rfl) ?_ hHeld ?_ ?_
         rotate_left
         ·rintro w' ⟨s0,s1,s2,s3⟩
          go_simp
          with_reducible rfl
         rotate_left
         ·simp only [Act.put,ls_,lz_,lc_,i64_w,i32_w]
          rfl
         refine pu_ (v := ?_) (a' := ?_) 11 49 (bz 20 221183) rfl rfl HT_ (by kernel_rfl) (fun _ _ _ h => h) (by rfl) ?_ ?_ ?_
         rotate_left;(intro w';go_simp;with_reducible rfl);rotate_left;(simp only [Act.put,ls_,lz_,lc_,i64_w,i32_w];rfl)
         refine pu_ (v := ?_) (a' := ?_) 18 10 (bz 20 483327) rfl rfl HT_ (by kernel_rfl) (fun _ _ _ h => h) (by rfl) ?_ ?_ ?_
         rotate_left;(intro w';go_simp;with_reducible rfl);rotate_left;(simp only [Act.put,ls_,lz_,lc_,i64_w,i32_w];rfl)
         refine ta_ (v := ?_) (a' := ?_) 13 51 (bz 20 491519) rfl rfl HT_ HW_ (by kernel_rfl) (fun _ _ _ h => h) (by rfl) ?_ hHeld ?_ ?_
         rotate_left
         ·rintro w' ⟨s0,s1,s2,s3⟩
          go_simp
          with_reducible rfl
         rotate_left
         ·simp only [Act.put,ls_,lz_,lc_,i64_w,i32_w]
          rfl
         refine pu_ (v := ?_) (a' := ?_) 15 53 (bz 20 524287) rfl rfl HT_ (by kernel_rfl) (fun _ _ _ h => h) (by rfl) ?_ ?_ ?_
         rotate_left;(intro w';go_simp;with_reducible rfl);rotate_left;(simp only [Act.put,ls_,lz_,lc_,i64_w,i32_w];rfl)
         refine pu_ (v := ?_) (a' := ?_) 19 11 (bz 20 1048575) rfl rfl HT_ (by kernel_rfl) (fun _ _ _ h => h) (by rfl) ?_ ?_ ?_
         rotate_left;(intro w';go_simp;with_reducible rfl);rotate_left;(simp only [Act.put,ls_,lz_,lc_,i64_w,i32_w];rfl)
         refine done_ (done_of HT_.out (by kernel_rfl)) ?_
         try go_wp2
         replace BK414 := sd_ (kd_ BK414.out)
         replace BK415 := sd_ (kd_ BK415.out)
         replace BK416 := sd_ (kd_ BK416.out)
         replace HB := sd_ (d1_ HB.out)
         refine start_ (n := 16) (S := fun w' => True) (ds := []) (Array.replicate 16 false) (by kernel_rfl) rfl rfl trivial (fun hHeld => ?_);refine with_tabW neumeref02_Div.tab5 neumeref02_Div.bits5 (fun HT_ HW_ => ?_)
         generalize w57.drew = w58 at BK414 BK415 BK416 HB hHeld ⊢
         refine pu_ (v := ?_) (a' := ?_) 0 54 (bz 16 1) rfl rfl HT_ (by kernel_rfl) (fun _ _ _ h => h) (by rfl) ?_ ?_ ?_
         rotate_left;(intro w';go_simp;with_reducible rfl);rotate_left;(simp only [Act.put,ls_,lz_,lc_,i64_w,i32_w];rfl)
         refine pu_ (v := ?_) (a' := ?_) 1 55 (bz 16 3) rfl rfl HT_ (by kernel_rfl) (fun _ _ _ h => h) (by rfl) ?_ ?_ ?_
         rotate_left;(intro w';go_simp;with_reducible rfl);rotate_left;(simp only [Act.put,ls_,lz_,lc_,i64_w,i32_w];rfl)
         refine pu_ (v := ?_) (a' := ?_) 2 56 (bz 16 7) rfl rfl HT_ (by kernel_rfl) (fun _ _ _ h => h) (by rfl) ?_ ?_ ?_
         rotate_left;(intro w';go_simp;with_reducible rfl);rotate_left;(simp only [Act.put,ls_,lz_,lc_,i64_w,i32_w];rfl)
         refine pz_ (a' := ?_) 3 57 (bz 16 15) rfl rfl HT_ (by kernel_rfl) (fun _ _ _ h => h) (by rfl) ?_ ?_
         rotate_left
         ·simp only [Act.put,ls_,lz_,lc_,i64_w,i32_w]
          rfl
         refine pz_ (a' := ?_) 4 58 (bz 16 31) rfl rfl HT_ (by kernel_rfl) (fun _ _ _ h => h) (by rfl) ?_ ?_
         rotate_left
         ·simp only [Act.put,ls_,lz_,lc_,i64_w,i32_w]
          rfl
         refine pz_ (a' := ?_) 5 59 (bz 16 63) rfl rfl HT_ (by kernel_rfl) (fun _ _ _ h => h) (by rfl) ?_ ?_
         rotate_left
         ·simp only [Act.put,ls_,lz_,lc_,i64_w,i32_w]
          rfl
         refine pz_ (a' := ?_) 6 60 (bz 16 127) rfl rfl HT_ (by kernel_rfl) (fun _ _ _ h => h) (by rfl) ?_ ?_
         rotate_left
         ·simp only [Act.put,ls_,lz_,lc_,i64_w,i32_w]
          rfl
         refine pz_ (a' := ?_) 7 61 (bz 16 255) rfl rfl HT_ (by kernel_rfl) (fun _ _ _ h => h) (by rfl) ?_ ?_
         rotate_left
         ·simp only [Act.put,ls_,lz_,lc_,i64_w,i32_w]
          rfl
         refine pu_ (v := ?_) (a' := ?_) 8 62 (bz 16 511) rfl rfl HT_ (by kernel_rfl) (fun _ _ _ h => h) (by rfl) ?_ ?_ ?_
         rotate_left;(intro w';go_simp;with_reducible rfl);rotate_left;(simp only [Act.put,ls_,lz_,lc_,i64_w,i32_w];rfl)
         refine pu_ (v := ?_) (a' := ?_) 9 63 (bz 16 1023) rfl rfl HT_ (by kernel_rfl) (fun _ _ _ h => h) (by rfl) ?_ ?_ ?_
         rotate_left;(intro w';go_simp;with_reducible rfl);rotate_left;(simp only [Act.put,ls_,lz_,lc_,i64_w,i32_w];rfl)
         refine pu_ (v := ?_) (a' := ?_) 10 64 (bz 16 2047) rfl rfl HT_ (by kernel_rfl) (fun _ _ _ h => h) (by rfl) ?_ ?_ ?_
         rotate_left;(intro w';go_simp;with_reducible rfl);rotate_left;(simp only [Act.put,ls_,lz_,lc_,i64_w,i32_w];rfl)
         refine pu_ (v := ?_) (a' := ?_) 12 66 (bz 16 6143) rfl rfl HT_ (by kernel_rfl) (fun _ _ _ h => h) (by rfl) ?_ ?_ ?_
         rotate_left;(intro w';go_simp;with_reducible rfl);rotate_left;(simp only [Act.put,ls_,lz_,lc_,i64_w,i32_w];rfl)
         refine pu_ (v := ?_) (a' := ?_) 13 67 (bz 16 14335) rfl rfl HT_ (by kernel_rfl) (fun _ _ _ h => h) (by rfl) ?_ ?_ ?_
         rotate_left;(intro w';go_simp;with_reducible rfl);rotate_left;(simp only [Act.put,ls_,lz_,lc_,i64_w,i32_w];rfl)
         refine on_ (N := some 65) 11 (bz 16 16383) rfl rfl HT_ (by kernel_rfl) (by decide) (fun K hK => ?_)
         refine goes_ Tryd.func41 (by kernel_rfl) rfl #[.int .i64 (wrap64 (Int.tdiv a1_0 t421))] (by rfl) rfl rfl (by (try simp only [lm_,lq_,lx_]);first|done|rfl|(simp only [ld_,lt_];rfl)) ?_
         with_reducible refine (neumeref02_abs.calls (wrap64 (Int.tdiv a1_0 t421)) t423 _ A41.out).mono ?_
         rintro e w59 ⟨rfl,hb⟩
         refine ⟨_,rfl,?_⟩
         replace BK414 := kb_ BK414 hb
         replace BK415 := kb_ BK415 hb
         replace BK416 := kb_ BK416 hb
         replace HB := hb_ HB (e_ GE414 (e_ GE415 (e_ GE416 e0_))) hb
         (try clear hb)
         (try clear hb2)
         (try clear hk)
         (try clear hi)
         refine hK.out _ _ trivial (fun hHeld => ?_)
         clear hK K
         refine norm_ (a' := ?_) ?_ ?_
         rotate_left
         ·show Act.put _ (some 65) _ = _
          simp only [Act.put,ls_,lz_,lc_,i64_w,i32_w]
          rfl
         refine pu_ (v := ?_) (a' := ?_) 14 68 (bz 16 32767) rfl rfl HT_ (by kernel_rfl) (fun _ _ _ h => h) (by rfl) ?_ ?_ ?_
         rotate_left;(intro w';go_simp;with_reducible rfl);rotate_left;(simp only [Act.put,ls_,lz_,lc_,i64_w,i32_w];rfl)
         refine pu_ (v := ?_) (a' := ?_) 15 69 (bz 16 65535) rfl rfl HT_ (by kernel_rfl) (fun _ _ _ h => h) (by rfl) ?_ ?_ ?_
         rotate_left;(intro w';go_simp;with_reducible rfl);rotate_left;(simp only [Act.put,ls_,lz_,lc_,i64_w,i32_w];rfl)
         refine done_ (done_of HT_.out (by kernel_rfl)) ?_
         try go_wp2_with (first|((with_reducible refine gate_callee (f := 39) rfl ?_);refine goesL_ (some 77) rfl rfl Tryd.func39 (by kernel_rfl) rfl #[.int .i64 (wrap64 ((wrap64 (Int.tdiv a0_0 t421)) * (wrap64 (Int.tdiv a1_1 t422)))),.int .i64 (wrap64 ((wrap64 (Int.tdiv a0_1 t422)) * (wrap64 (Int.tdiv a1_0 t421))))] rfl (by (try simp only [lm_,lq_,lx_]);first|done|rfl|(simp only [ld_,lt_];rfl)) ?_;(with_reducible refine (neumeref02_lowest.calls kj2 (wrap64 ((wrap64 (Int.tdiv a0_0 t421)) * (wrap64 (Int.tdiv a1_1 t422)))) (wrap64 ((wrap64 (Int.tdiv a0_1 t422)) * (wrap64 (Int.tdiv a1_0 t421)))) t424 t425 t426 _ A53.out).mono ?_);rintro e w60 ⟨rfl,hb⟩;refine ⟨_,rfl,?_⟩;replace BK414 := kb_ BK414 hb;replace BK415 := kb_ BK415 hb;replace BK416 := kb_ BK416 hb;replace HB := hb_ HB (e_ GE414 (e_ GE415 (e_ GE416 e0_))) hb;(try clear hb);(try clear hb2);(try clear hk);(try clear hi);have hnb61 := NB416_414.out;have hnc61 := NB414_416.out;have hnb62 := NB416_415.out;have hnc62 := NB415_416.out;have hcz63_0 : w60.cell? ⟨gb416,0,none⟩ = some (.int .i64 0) := (kc_ BK416.out 0).trans rfl;have hcz63_1 : w60.cell? ⟨gb416,1,none⟩ = some (.int .i64 0) := (kc_ BK416.out 1).trans rfl;have hfz63_0 := kf_ BK416.out 0;have hfz63_1 := kf_ BK416.out 1))
         refine bodyPost_ret (results_ct rfl _ _ gb416 25 #[.int .i64 t424,.int .i64 t425] (0,0) _ rfl (by (with_reducible repeat first|apply kn_|apply kd_|apply ka_);refine blk_put (cs := #[.int .i64 t424,.int .i64 0]) ?_ 1 _ rfl;(with_reducible repeat first|apply kn_|apply kd_|apply ka_);refine blk_put (cs := #[.int .i64 0,.int .i64 0]) ?_ 0 _ rfl;(with_reducible repeat first|apply kn_|apply kd_|apply ka_);exact BK416.out) Tryd.underlying25 rfl (by kernel_rfl)) rfl ?_
         exact ⟨by first|rfl|(simp [errW_none,errW_some] <;> rfl)|(simp [*,errW_none,errW_some] <;> rfl),by repeat (first|(with_reducible first|exact HB.out|apply ba_|apply pd_|apply d1_|refine bs_ ?_ GE414.out|refine bs_ ?_ GE415.out|refine bs_ ?_ GE416.out)|exact HB.out)⟩
      ·rw [if_neg c40] at H
       have c40b0 : ((wrap64 (Int.tdiv a0_0 t421)) == 0) = false := beq_eq_false_iff_ne.mpr c40
       have c40b1 : ((wrap64 (Int.tdiv a0_0 t421)) != 0) = true := bne_iff_ne.mpr c40
       replace H := ob_ H
       obtain ⟨t427,A640,H⟩ := H
       try dsimp only at H
       have A64 := sd_ A640
       clear A640
       by_cases c65 : (wrap64 (Int.tdiv a1_1 t422)) = 0
       ·rw [if_pos c65] at H
        exact absurd H (by simp)
       ·rw [if_neg c65] at H
        have c65b0 : ((wrap64 (Int.tdiv a1_1 t422)) == 0) = false := beq_eq_false_iff_ne.mpr c65
        have c65b1 : ((wrap64 (Int.tdiv a1_1 t422)) != 0) = true := bne_iff_ne.mpr c65
        by_cases c66 : t427 > (wrap64 (Int.tdiv (1099511627776 : Int) (wrap64 (Int.tdiv a1_1 t422))))
        ·rw [if_pos c66] at H
         have c66b0 : decide ((wrap64 (Int.tdiv (1099511627776 : Int) (wrap64 (Int.tdiv a1_1 t422)))) < t427) = true := dt_ c66
         clear c66
         simp only [Option.some.injEq,Prod.mk.injEq] at H
         obtain ⟨rfl,rfl,rfl⟩ := H
         try go_wp2
         replace BK414 := sd_ (kd_ BK414.out)
         replace BK415 := sd_ (kd_ BK415.out)
         replace BK416 := sd_ (kd_ BK416.out)
         replace HB := sd_ (d1_ HB.out)
         refine start_ (n := 14) (S := fun w' => w'.cell? ⟨gb414,0,none⟩ = some (.int .i64 a0_0) ∧ w'.cell? ⟨gb414,1,none⟩ = some (.int .i64 a0_1) ∧ w'.cell? ⟨gb415,0,none⟩ = some (.int .i64 a1_0) ∧ w'.cell? ⟨gb415,1,none⟩ = some (.int .i64 a1_1)) (ds := []) (Array.replicate 14 false) (by kernel_rfl) rfl rfl ⟨(kc_ BK414.out 0).trans rfl,(kc_ BK414.out 1).trans rfl,(kc_ BK415.out 0).trans rfl,(kc_ BK415.out 1).trans rfl⟩ (fun hHeld => ?_);refine with_tabW neumeref02_Div.tab3 neumeref02_Div.bits3 (fun HT_ HW_ => ?_)
         generalize wc.drew = w67 at BK414 BK415 BK416 HB hHeld ⊢
         refine pu_ (v := ?_) (a' := ?_) 0 26 (bz 14 1) rfl rfl HT_ (by kernel_rfl) (fun _ _ _ h => h) (by rfl) ?_ ?_ ?_
         rotate_left;(intro w';go_simp;with_reducible rfl);rotate_left;(simp only [Act.put,ls_,lz_,lc_,i64_w,i32_w];rfl)
         refine pu_ (v := ?_) (a' := ?_) 3 29 (bz 14 9) rfl rfl HT_ (by kernel_rfl) (fun _ _ _ h => h) (by rfl) ?_ ?_ ?_
         rotate_left;(intro w';go_simp;with_reducible rfl);rotate_left;(simp only [Act.put,ls_,lz_,lc_,i64_w,i32_w];rfl)
         refine pu_ (v := ?_) (a' := ?_) 7 33 (bz 14 137) rfl rfl HT_ (by kernel_rfl) (fun _ _ _ h => h) (by rfl) ?_ ?_ ?_
         rotate_left;(intro w';go_simp;with_reducible rfl);rotate_left;(simp only [Act.put,ls_,lz_,lc_,i64_w,i32_w];rfl)
         refine pu_ (v := ?_) (a' := ?_) 9 35 (bz 14 649) rfl rfl HT_ (by kernel_rfl) (fun _ _ _ h => h) (by rfl) ?_ ?_ ?_
         rotate_left;(intro w';go_simp;with_reducible rfl);rotate_left;(simp only [Act.put,ls_,lz_,lc_,i64_w,i32_w];rfl)
         refine ta_ (v := ?_) (a' := ?_) 1 27 (bz 14 651) rfl rfl HT_ HW_ (by kernel_rfl) (fun _ _ _ h => h) (by rfl) ?_ hHeld ?_ ?_
         rotate_left
         ·rintro w' ⟨s0,s1,s2,s3⟩
          go_simp
          with_reducible rfl
         rotate_left
         ·simp only [Act.put,ls_,lz_,lc_,i64_w,i32_w]
          rfl
         refine ta_ (v := ?_) (a' := ?_) 4 30 (bz 14 667) rfl rfl HT_ HW_ (by kernel_rfl) (fun _ _ _ h => h) (by rfl) ?_ hHeld ?_ ?_
         rotate_left
         ·rintro w' ⟨s0,s1,s2,s3⟩
          go_simp
          with_reducible rfl
         rotate_left
         ·simp only [Act.put,ls_,lz_,lc_,i64_w,i32_w]
          rfl
         refine ta_ (v := ?_) (a' := ?_) 8 34 (bz 14 923) rfl rfl HT_ HW_ (by kernel_rfl) (fun _ _ _ h => h) (by rfl) ?_ hHeld ?_ ?_
         rotate_left
         ·rintro w' ⟨s0,s1,s2,s3⟩
          go_simp
          with_reducible rfl
         rotate_left
         ·simp only [Act.put,ls_,lz_,lc_,i64_w,i32_w]
          rfl
         refine ta_ (v := ?_) (a' := ?_) 10 36 (bz 14 1947) rfl rfl HT_ HW_ (by kernel_rfl) (fun _ _ _ h => h) (by rfl) ?_ hHeld ?_ ?_
         rotate_left
         ·rintro w' ⟨s0,s1,s2,s3⟩
          go_simp
          with_reducible rfl
         rotate_left
         ·simp only [Act.put,ls_,lz_,lc_,i64_w,i32_w]
          rfl
         refine on_ (N := some 28) 2 (bz 14 1951) rfl rfl HT_ (by kernel_rfl) (by decide) (fun K hK => ?_)
         refine goes_ Tryd.func41 (by kernel_rfl) rfl #[.int .i64 a0_0] (by rfl) rfl rfl (by (try simp only [lm_,lq_,lx_]);first|done|rfl|(simp only [ld_,lt_];rfl)) ?_
         with_reducible refine (neumeref02_abs.calls a0_0 t419 _ A34.out).mono ?_
         rintro e w68 ⟨rfl,hb⟩
         refine ⟨_,rfl,?_⟩
         replace BK414 := kb_ BK414 hb
         replace BK415 := kb_ BK415 hb
         replace BK416 := kb_ BK416 hb
         replace HB := hb_ HB (e_ GE414 (e_ GE415 (e_ GE416 e0_))) hb
         (try clear hb)
         (try clear hb2)
         (try clear hk)
         (try clear hi)
         refine hK.out _ _ ⟨(kc_ BK414.out 0).trans rfl,(kc_ BK414.out 1).trans rfl,(kc_ BK415.out 0).trans rfl,(kc_ BK415.out 1).trans rfl⟩ (fun hHeld => ?_)
         clear hK K
         refine norm_ (a' := ?_) ?_ ?_
         rotate_left
         ·show Act.put _ (some 28) _ = _
          simp only [Act.put,ls_,lz_,lc_,i64_w,i32_w]
          rfl
         refine on_ (N := some 31) 5 (bz 14 1983) rfl rfl HT_ (by kernel_rfl) (by decide) (fun K hK => ?_)
         refine goes_ Tryd.func41 (by kernel_rfl) rfl #[.int .i64 a1_0] (by rfl) rfl rfl (by (try simp only [lm_,lq_,lx_]);first|done|rfl|(simp only [ld_,lt_];rfl)) ?_
         with_reducible refine (neumeref02_abs.calls a1_0 t420 _ A35.out).mono ?_
         rintro e w69 ⟨rfl,hb⟩
         refine ⟨_,rfl,?_⟩
         replace BK414 := kb_ BK414 hb
         replace BK415 := kb_ BK415 hb
         replace BK416 := kb_ BK416 hb
         replace HB := hb_ HB (e_ GE414 (e_ GE415 (e_ GE416 e0_))) hb
         (try clear hb)
         (try clear hb2)
         (try clear hk)
         (try clear hi)
         refine hK.out _ _ ⟨(kc_ BK414.out 0).trans rfl,(kc_ BK414.out 1).trans rfl,(kc_ BK415.out 0).trans rfl,(kc_ BK415.out 1).trans rfl⟩ (fun hHeld => ?_)
         clear hK K
         refine norm_ (a' := ?_) ?_ ?_
         rotate_left
         ·show Act.put _ (some 31) _ = _
          simp only [Act.put,ls_,lz_,lc_,i64_w,i32_w]
          rfl
         refine on_ (N := some 32) 6 (bz 14 2047) rfl rfl HT_ (by kernel_rfl) (by decide) (fun K hK => ?_)
         refine goes_ Tryd.func38 (by kernel_rfl) rfl #[.int .i64 t419,.int .i64 t420] (by rfl) rfl rfl (by (try simp only [lm_,lq_,lx_]);first|done|rfl|(simp only [ld_,lt_];rfl)) ?_
         with_reducible refine (neumeref02_gcd.calls kj2 t419 t420 t421 _ A36.out).mono ?_
         rintro e w' ⟨rfl,⟨nd,rfl⟩⟩
         refine ⟨_,rfl,?_⟩
         refine hK.out _ _ ⟨(kc_ BK414.out 0).trans rfl,(kc_ BK414.out 1).trans rfl,(kc_ BK415.out 0).trans rfl,(kc_ BK415.out 1).trans rfl⟩ (fun hHeld => ?_)
         clear hK K
         refine norm_ (a' := ?_) ?_ ?_
         rotate_left
         ·show Act.put _ (some 32) _ = _
          simp only [Act.put,ls_,lz_,lc_,i64_w,i32_w]
          rfl
         refine on_ (N := some 37) 11 (bz 14 4095) rfl rfl HT_ (by kernel_rfl) (by decide) (fun K hK => ?_)
         refine goes_ Tryd.func38 (by kernel_rfl) rfl #[.int .i64 a0_1,.int .i64 a1_1] (by rfl) rfl rfl (by (try simp only [lm_,lq_,lx_]);first|done|rfl|(simp only [ld_,lt_];rfl)) ?_
         with_reducible refine (neumeref02_gcd.calls kj2 a0_1 a1_1 t422 _ A37.out).mono ?_
         rintro e w' ⟨rfl,⟨nd,rfl⟩⟩
         refine ⟨_,rfl,?_⟩
         refine hK.out _ _ ⟨(kc_ BK414.out 0).trans rfl,(kc_ BK414.out 1).trans rfl,(kc_ BK415.out 0).trans rfl,(kc_ BK415.out 1).trans rfl⟩ (fun hHeld => ?_)
         clear hK K
         refine norm_ (a' := ?_) ?_ ?_
         rotate_left
         ·show Act.put _ (some 37) _ = _
          simp only [Act.put,ls_,lz_,lc_,i64_w,i32_w]
          rfl
         refine pu_ (v := ?_) (a' := ?_) 12 6 (bz 14 8191) rfl rfl HT_ (by kernel_rfl) (fun _ _ _ h => h) (by rfl) ?_ ?_ ?_
         rotate_left;(intro w';go_simp;with_reducible rfl);rotate_left;(simp only [Act.put,ls_,lz_,lc_,i64_w,i32_w];rfl)
         refine pu_ (v := ?_) (a' := ?_) 13 7 (bz 14 16383) rfl rfl HT_ (by kernel_rfl) (fun _ _ _ h => h) (by rfl) ?_ ?_ ?_
         rotate_left;(intro w';go_simp;with_reducible rfl);rotate_left;(simp only [Act.put,ls_,lz_,lc_,i64_w,i32_w];rfl)
         refine done_ (done_of HT_.out (by kernel_rfl)) ?_
         try go_wp2
         (repeat (rw [drewN_self w69];generalize hq_ : World.drewN w69 _ = w69;have n0_ : Aside0 (w69.heap[gb414]? = some (.cells #[.int .i64 a0_0,.int .i64 a0_1] 25 (0,0))) := ⟨by rw [← hq_];exact (kk_ BK414.out)⟩;have n1_ : Aside0 (w69.heap[gb415]? = some (.cells #[.int .i64 a1_0,.int .i64 a1_1] 25 (0,0))) := ⟨by rw [← hq_];exact (kk_ BK415.out)⟩;have n2_ : Aside0 (w69.heap[gb416]? = some (.cells #[.int .i64 0,.int .i64 0] 25 (0,0))) := ⟨by rw [← hq_];exact (kk_ BK416.out)⟩;have n3_ : Aside0 (Below w.heap.size w w69) := ⟨by rw [← hq_];exact (bb_ HB.out (e_ GE414 (e_ GE415 (e_ GE416 e0_))))⟩;clear BK414 BK415 BK416 HB hq_;have BK414 := n0_;have BK415 := n1_;have BK416 := n2_;have HB := n3_;clear n0_ n1_ n2_ n3_))
         replace BK414 := sd_ (kd_ BK414.out)
         replace BK415 := sd_ (kd_ BK415.out)
         replace BK416 := sd_ (kd_ BK416.out)
         replace HB := sd_ (d1_ HB.out)
         refine start_ (n := 20) (S := fun w' => w'.cell? ⟨gb414,0,none⟩ = some (.int .i64 a0_0) ∧ w'.cell? ⟨gb414,1,none⟩ = some (.int .i64 a0_1) ∧ w'.cell? ⟨gb415,0,none⟩ = some (.int .i64 a1_0) ∧ w'.cell? ⟨gb415,1,none⟩ = some (.int .i64 a1_1)) (ds := []) (Array.replicate 20 false) (by kernel_rfl) rfl rfl ⟨(kc_ BK414.out 0).trans rfl,(kc_ BK414.out 1).trans rfl,(kc_ BK415.out 0).trans rfl,(kc_ BK415.out 1).trans rfl⟩ (fun hHeld => ?_);refine with_tabW neumeref02_Div.tab4 neumeref02_Div.bits4 (fun HT_ HW_ => ?_)
         generalize w69.drew = w70 at BK414 BK415 BK416 HB hHeld ⊢
         refine pu_ (v := ?_) (a' := ?_) 0 38 (bz 20 1) rfl rfl HT_ (by kernel_rfl) (fun _ _ _ h => h) (by rfl) ?_ ?_ ?_
         rotate_left;(intro w';go_simp;with_reducible rfl);rotate_left;(simp only [Act.put,ls_,lz_,lc_,i64_w,i32_w];rfl)
         refine pu_ (v := ?_) (a' := ?_) 2 40 (bz 20 5) rfl rfl HT_ (by kernel_rfl) (fun _ _ _ h => h) (by rfl) ?_ ?_ ?_
         rotate_left;(intro w';go_simp;with_reducible rfl);rotate_left;(simp only [Act.put,ls_,lz_,lc_,i64_w,i32_w];rfl)
         refine pu_ (v := ?_) (a' := ?_) 4 42 (bz 20 21) rfl rfl HT_ (by kernel_rfl) (fun _ _ _ h => h) (by rfl) ?_ ?_ ?_
         rotate_left;(intro w';go_simp;with_reducible rfl);rotate_left;(simp only [Act.put,ls_,lz_,lc_,i64_w,i32_w];rfl)
         refine pu_ (v := ?_) (a' := ?_) 6 44 (bz 20 85) rfl rfl HT_ (by kernel_rfl) (fun _ _ _ h => h) (by rfl) ?_ ?_ ?_
         rotate_left;(intro w';go_simp;with_reducible rfl);rotate_left;(simp only [Act.put,ls_,lz_,lc_,i64_w,i32_w];rfl)
         refine pu_ (v := ?_) (a' := ?_) 8 46 (bz 20 341) rfl rfl HT_ (by kernel_rfl) (fun _ _ _ h => h) (by rfl) ?_ ?_ ?_
         rotate_left;(intro w';go_simp;with_reducible rfl);rotate_left;(simp only [Act.put,ls_,lz_,lc_,i64_w,i32_w];rfl)
         refine pu_ (v := ?_) (a' := ?_) 10 48 (bz 20 1365) rfl rfl HT_ (by kernel_rfl) (fun _ _ _ h => h) (by rfl) ?_ ?_ ?_
         rotate_left;(intro w';go_simp;with_reducible rfl);rotate_left;(simp only [Act.put,ls_,lz_,lc_,i64_w,i32_w];rfl)
         refine pu_ (v := ?_) (a' := ?_) 12 50 (bz 20 5461) rfl rfl HT_ (by kernel_rfl) (fun _ _ _ h => h) (by rfl) ?_ ?_ ?_
         rotate_left;(intro w';go_simp;with_reducible rfl);rotate_left;(simp only [Act.put,ls_,lz_,lc_,i64_w,i32_w];rfl)
         refine pu_ (v := ?_) (a' := ?_) 14 52 (bz 20 21845) rfl rfl HT_ (by kernel_rfl) (fun _ _ _ h => h) (by rfl) ?_ ?_ ?_
         rotate_left;(intro w';go_simp;with_reducible rfl);rotate_left;(simp only [Act.put,ls_,lz_,lc_,i64_w,i32_w];rfl)
         refine ta_ (v := ?_) (a' := ?_) 1 39 (bz 20 21847) rfl rfl HT_ HW_ (by kernel_rfl) (fun _ _ _ h => h) (by rfl) ?_ hHeld ?_ ?_
         rotate_left
         ·rintro w' ⟨s0,s1,s2,s3⟩
          go_simp
          with_reducible rfl
         rotate_left
         ·simp only [Act.put,ls_,lz_,lc_,i64_w,i32_w]
          rfl
         refine pu_ (v := ?_) (a' := ?_) 3 41 (bz 20 21855) rfl rfl HT_ (by kernel_rfl) (fun _ _ _ h => h) (by rfl) ?_ ?_ ?_
         rotate_left;(intro w';go_simp;with_reducible rfl);rotate_left;(simp only [Act.put,ls_,lz_,lc_,i64_w,i32_w];rfl)
         refine pu_ (v := ?_) (a' := ?_) 16 8 (bz 20 87391) rfl rfl HT_ (by kernel_rfl) (fun _ _ _ h => h) (by rfl) ?_ ?_ ?_
         rotate_left;(intro w';go_simp;with_reducible rfl);rotate_left;(simp only [Act.put,ls_,lz_,lc_,i64_w,i32_w];rfl)
         refine ta_ (v := ?_) (a' := ?_) 5 43 (bz 20 87423) rfl rfl HT_ HW_ (by kernel_rfl) (fun _ _ _ h => h) (by rfl) ?_ hHeld ?_ ?_
         rotate_left
         ·rintro w' ⟨s0,s1,s2,s3⟩
          go_simp
          with_reducible rfl
         rotate_left
         ·simp only [Act.put,ls_,lz_,lc_,i64_w,i32_w]
          rfl
         refine pu_ (v := ?_) (a' := ?_) 7 45 (bz 20 87551) rfl rfl HT_ (by kernel_rfl) (fun _ _ _ h => h) (by rfl) ?_ ?_ ?_
         rotate_left;(intro w';go_simp;with_reducible rfl);rotate_left;(simp only [Act.put,ls_,lz_,lc_,i64_w,i32_w];rfl)
         refine pu_ (v := ?_) (a' := ?_) 17 9 (bz 20 218623) rfl rfl HT_ (by kernel_rfl) (fun _ _ _ h => h) (by rfl) ?_ ?_ ?_
         rotate_left;(intro w';go_simp;with_reducible rfl);rotate_left;(simp only [Act.put,ls_,lz_,lc_,i64_w,i32_w];rfl)
         refine ta_ (v := ?_) (a' := ?_) 9 47 (bz 20 219135) rfl rfl HT_ HW_ (by kernel_rfl) (fun _ _ _ h => h) (by rfl) ?_ hHeld ?_ ?_
         rotate_left
         ·rintro w' ⟨s0,s1,s2,s3⟩
          go_simp
          with_reducible rfl
         rotate_left
         ·simp only [Act.put,ls_,lz_,lc_,i64_w,i32_w]
          rfl
         refine pu_ (v := ?_) (a' := ?_) 11 49 (bz 20 221183) rfl rfl HT_ (by kernel_rfl) (fun _ _ _ h => h) (by rfl) ?_ ?_ ?_
         rotate_left;(intro w';go_simp;with_reducible rfl);rotate_left;(simp only [Act.put,ls_,lz_,lc_,i64_w,i32_w];rfl)
         refine pu_ (v := ?_) (a' := ?_) 18 10 (bz 20 483327) rfl rfl HT_ (by kernel_rfl) (fun _ _ _ h => h) (by rfl) ?_ ?_ ?_
         rotate_left;(intro w';go_simp;with_reducible rfl);rotate_left;(simp only [Act.put,ls_,lz_,lc_,i64_w,i32_w];rfl)
         refine ta_ (v := ?_) (a' := ?_) 13 51 (bz 20 491519) rfl rfl HT_ HW_ (by kernel_rfl) (fun _ _ _ h => h) (by rfl) ?_ hHeld ?_ ?_
         rotate_left
         ·rintro w' ⟨s0,s1,s2,s3⟩
          go_simp
          with_reducible rfl
         rotate_left
         ·simp only [Act.put,ls_,lz_,lc_,i64_w,i32_w]
          rfl
         refine pu_ (v := ?_) (a' := ?_) 15 53 (bz 20 524287) rfl rfl HT_ (by kernel_rfl) (fun _ _ _ h => h) (by rfl) ?_ ?_ ?_
         rotate_left;(intro w';go_simp;with_reducible rfl);rotate_left;(simp only [Act.put,ls_,lz_,lc_,i64_w,i32_w];rfl)
         refine pu_ (v := ?_) (a' := ?_) 19 11 (bz 20 1048575) rfl rfl HT_ (by kernel_rfl) (fun _ _ _ h => h) (by rfl) ?_ ?_ ?_
         rotate_left;(intro w';go_simp;with_reducible rfl);rotate_left;(simp only [Act.put,ls_,lz_,lc_,i64_w,i32_w];rfl)
         refine done_ (done_of HT_.out (by kernel_rfl)) ?_
         try go_wp2
         replace BK414 := sd_ (kd_ BK414.out)
         replace BK415 := sd_ (kd_ BK415.out)
         replace BK416 := sd_ (kd_ BK416.out)
         replace HB := sd_ (d1_ HB.out)
         refine start_ (n := 16) (S := fun w' => True) (ds := []) (Array.replicate 16 false) (by kernel_rfl) rfl rfl trivial (fun hHeld => ?_);refine with_tabW neumeref02_Div.tab5 neumeref02_Div.bits5 (fun HT_ HW_ => ?_)
         generalize w70.drew = w71 at BK414 BK415 BK416 HB hHeld ⊢
         refine pu_ (v := ?_) (a' := ?_) 0 54 (bz 16 1) rfl rfl HT_ (by kernel_rfl) (fun _ _ _ h => h) (by rfl) ?_ ?_ ?_
         rotate_left;(intro w';go_simp;with_reducible rfl);rotate_left;(simp only [Act.put,ls_,lz_,lc_,i64_w,i32_w];rfl)
         refine pu_ (v := ?_) (a' := ?_) 1 55 (bz 16 3) rfl rfl HT_ (by kernel_rfl) (fun _ _ _ h => h) (by rfl) ?_ ?_ ?_
         rotate_left;(intro w';go_simp;with_reducible rfl);rotate_left;(simp only [Act.put,ls_,lz_,lc_,i64_w,i32_w];rfl)
         refine pu_ (v := ?_) (a' := ?_) 2 56 (bz 16 7) rfl rfl HT_ (by kernel_rfl) (fun _ _ _ h => h) (by rfl) ?_ ?_ ?_
         rotate_left;(intro w';go_simp;with_reducible rfl);rotate_left;(simp only [Act.put,ls_,lz_,lc_,i64_w,i32_w];rfl)
         refine pu_ (v := ?_) (a' := ?_) 3 57 (bz 16 15) rfl rfl HT_ (by kernel_rfl) (fun _ _ _ h => h) (by rfl) ?_ ?_ ?_
         rotate_left;(intro w';go_simp;with_reducible rfl);rotate_left;(simp only [Act.put,ls_,lz_,lc_,i64_w,i32_w];rfl)
         refine pu_ (v := ?_) (a' := ?_) 5 59 (bz 16 47) rfl rfl HT_ (by kernel_rfl) (fun _ _ _ h => h) (by rfl) ?_ ?_ ?_
         rotate_left;(intro w';go_simp;with_reducible rfl);rotate_left;(simp only [Act.put,ls_,lz_,lc_,i64_w,i32_w];rfl)
         refine pu_ (v := ?_) (a' := ?_) 6 60 (bz 16 111) rfl rfl HT_ (by kernel_rfl) (fun _ _ _ h => h) (by rfl) ?_ ?_ ?_
         rotate_left;(intro w';go_simp;with_reducible rfl);rotate_left;(simp only [Act.put,ls_,lz_,lc_,i64_w,i32_w];rfl)
         refine on_ (N := some 58) 4 (bz 16 127) rfl rfl HT_ (by kernel_rfl) (by decide) (fun K hK => ?_)
         refine goes_ Tryd.func41 (by kernel_rfl) rfl #[.int .i64 (wrap64 (Int.tdiv a0_0 t421))] (by rfl) rfl rfl (by (try simp only [lm_,lq_,lx_]);first|done|rfl|(simp only [ld_,lt_];rfl)) ?_
         with_reducible refine (neumeref02_abs.calls (wrap64 (Int.tdiv a0_0 t421)) t427 _ A64.out).mono ?_
         rintro e w72 ⟨rfl,hb⟩
         refine ⟨_,rfl,?_⟩
         replace BK414 := kb_ BK414 hb
         replace BK415 := kb_ BK415 hb
         replace BK416 := kb_ BK416 hb
         replace HB := hb_ HB (e_ GE414 (e_ GE415 (e_ GE416 e0_))) hb
         (try clear hb)
         (try clear hb2)
         (try clear hk)
         (try clear hi)
         refine hK.out _ _ trivial (fun hHeld => ?_)
         clear hK K
         refine norm_ (a' := ?_) ?_ ?_
         rotate_left
         ·show Act.put _ (some 58) _ = _
          simp only [Act.put,ls_,lz_,lc_,i64_w,i32_w]
          rfl
         refine pu_ (v := ?_) (a' := ?_) 7 61 (bz 16 255) rfl rfl HT_ (by kernel_rfl) (fun _ _ _ h => h) (by rfl) ?_ ?_ ?_
         rotate_left;(intro w';go_simp;with_reducible rfl);rotate_left;(simp only [Act.put,ls_,lz_,lc_,i64_w,i32_w];rfl)
         refine pu_ (v := ?_) (a' := ?_) 8 62 (bz 16 511) rfl rfl HT_ (by kernel_rfl) (fun _ _ _ h => h) (by rfl) ?_ ?_ ?_
         rotate_left;(intro w';go_simp;with_reducible rfl);rotate_left;(simp only [Act.put,ls_,lz_,lc_,i64_w,i32_w];rfl)
         refine pu_ (v := ?_) (a' := ?_) 9 63 (bz 16 1023) rfl rfl HT_ (by kernel_rfl) (fun _ _ _ h => h) (by rfl) ?_ ?_ ?_
         rotate_left;(intro w';go_simp;with_reducible rfl);rotate_left;(simp only [Act.put,ls_,lz_,lc_,i64_w,i32_w];rfl)
         refine pz_ (a' := ?_) 10 64 (bz 16 2047) rfl rfl HT_ (by kernel_rfl) (fun _ _ _ h => h) (by rfl) ?_ ?_
         rotate_left
         ·simp only [Act.put,ls_,lz_,lc_,i64_w,i32_w]
          rfl
         refine pz_ (a' := ?_) 11 65 (bz 16 4095) rfl rfl HT_ (by kernel_rfl) (fun _ _ _ h => h) (by rfl) ?_ ?_
         rotate_left
         ·simp only [Act.put,ls_,lz_,lc_,i64_w,i32_w]
          rfl
         refine pz_ (a' := ?_) 12 66 (bz 16 8191) rfl rfl HT_ (by kernel_rfl) (fun _ _ _ h => h) (by rfl) ?_ ?_
         rotate_left
         ·simp only [Act.put,ls_,lz_,lc_,i64_w,i32_w]
          rfl
         refine pz_ (a' := ?_) 13 67 (bz 16 16383) rfl rfl HT_ (by kernel_rfl) (fun _ _ _ h => h) (by rfl) ?_ ?_
         rotate_left
         ·simp only [Act.put,ls_,lz_,lc_,i64_w,i32_w]
          rfl
         refine pz_ (a' := ?_) 14 68 (bz 16 32767) rfl rfl HT_ (by kernel_rfl) (fun _ _ _ h => h) (by rfl) ?_ ?_
         rotate_left
         ·simp only [Act.put,ls_,lz_,lc_,i64_w,i32_w]
          rfl
         refine pu_ (v := ?_) (a' := ?_) 15 69 (bz 16 65535) rfl rfl HT_ (by kernel_rfl) (fun _ _ _ h => h) (by rfl) ?_ ?_ ?_
         rotate_left;(intro w';go_simp;with_reducible rfl);rotate_left;(simp only [Act.put,ls_,lz_,lc_,i64_w,i32_w];rfl)
         refine done_ (done_of HT_.out (by kernel_rfl)) ?_
         have hnb73 := NB416_414.out
         have hnc73 := NB414_416.out
         have hnb74 := NB416_415.out
         have hnc74 := NB415_416.out
         have hcz75_0 : w72.cell? ⟨gb416,0,none⟩ = some (.int .i64 0) := (kc_ BK416.out 0).trans rfl
         have hcz75_1 : w72.cell? ⟨gb416,1,none⟩ = some (.int .i64 0) := (kc_ BK416.out 1).trans rfl
         have hfz75_0 := kf_ BK416.out 0
         have hfz75_1 := kf_ BK416.out 1
         try go_wp2
         refine bodyPost_ret (results_ct rfl _ _ gb416 25 #[.int .i64 0,.int .i64 0] (0,0) _ rfl (by (with_reducible repeat first|apply kn_|apply kd_|apply ka_);refine blk_put (cs := #[.int .i64 0,.int .i64 0]) ?_ 1 _ rfl;(with_reducible repeat first|apply kn_|apply kd_|apply ka_);refine blk_put (cs := #[.int .i64 0,.int .i64 0]) ?_ 0 _ rfl;(with_reducible repeat first|apply kn_|apply kd_|apply ka_);exact BK416.out) Tryd.underlying25 rfl (by kernel_rfl)) rfl ?_
         exact ⟨by first|rfl|(simp [errW_none,errW_some] <;> rfl)|(simp [*,errW_none,errW_some] <;> rfl),by repeat (first|(with_reducible first|exact HB.out|apply ba_|apply pd_|apply d1_|refine bs_ ?_ GE414.out|refine bs_ ?_ GE415.out|refine bs_ ?_ GE416.out)|exact HB.out)⟩
        ·rw [if_neg c66] at H
         have c66b0 : decide ((wrap64 (Int.tdiv (1099511627776 : Int) (wrap64 (Int.tdiv a1_1 t422)))) < t427) = false := df_ c66
         clear c66
         replace H := ob_ H
         obtain ⟨t428,A760,H⟩ := H
         try dsimp only at H
         have A76 := sd_ A760
         clear A760
         by_cases c77 : (wrap64 (Int.tdiv a0_1 t422)) = 0
         ·rw [if_pos c77] at H
          exact absurd H (by simp)
         ·rw [if_neg c77] at H
          have c77b0 : ((wrap64 (Int.tdiv a0_1 t422)) == 0) = false := beq_eq_false_iff_ne.mpr c77
          have c77b1 : ((wrap64 (Int.tdiv a0_1 t422)) != 0) = true := bne_iff_ne.mpr c77
          by_cases c78 : t428 > (wrap64 (Int.tdiv (1048576 : Int) (wrap64 (Int.tdiv a0_1 t422))))
          ·rw [if_pos c78] at H
           have c78b0 : decide ((wrap64 (Int.tdiv (1048576 : Int) (wrap64 (Int.tdiv a0_1 t422)))) < t428) = true := dt_ c78
           clear c78
           simp only [Option.some.injEq,Prod.mk.injEq] at H
           obtain ⟨rfl,rfl,rfl⟩ := H
           try go_wp2
           replace BK414 := sd_ (kd_ BK414.out)
           replace BK415 := sd_ (kd_ BK415.out)
           replace BK416 := sd_ (kd_ BK416.out)
           replace HB := sd_ (d1_ HB.out)
           refine start_ (n := 14) (S := fun w' => w'.cell? ⟨gb414,0,none⟩ = some (.int .i64 a0_0) ∧ w'.cell? ⟨gb414,1,none⟩ = some (.int .i64 a0_1) ∧ w'.cell? ⟨gb415,0,none⟩ = some (.int .i64 a1_0) ∧ w'.cell? ⟨gb415,1,none⟩ = some (.int .i64 a1_1)) (ds := []) (Array.replicate 14 false) (by kernel_rfl) rfl rfl ⟨(kc_ BK414.out 0).trans rfl,(kc_ BK414.out 1).trans rfl,(kc_ BK415.out 0).trans rfl,(kc_ BK415.out 1).trans rfl⟩ (fun hHeld => ?_);refine with_tabW neumeref02_Div.tab3 neumeref02_Div.bits3 (fun HT_ HW_ => ?_)
           generalize wc.drew = w79 at BK414 BK415 BK416 HB hHeld ⊢
           refine pu_ (v := ?_) (a' := ?_) 0 26 (bz 14 1) rfl rfl HT_ (by kernel_rfl) (fun _ _ _ h => h) (by rfl) ?_ ?_ ?_
           rotate_left;(intro w';go_simp;with_reducible rfl);rotate_left;(simp only [Act.put,ls_,lz_,lc_,i64_w,i32_w];rfl)
           refine pu_ (v := ?_) (a' := ?_) 3 29 (bz 14 9) rfl rfl HT_ (by kernel_rfl) (fun _ _ _ h => h) (by rfl) ?_ ?_ ?_
           rotate_left;(intro w';go_simp;with_reducible rfl);rotate_left;(simp only [Act.put,ls_,lz_,lc_,i64_w,i32_w];rfl)
           refine pu_ (v := ?_) (a' := ?_) 7 33 (bz 14 137) rfl rfl HT_ (by kernel_rfl) (fun _ _ _ h => h) (by rfl) ?_ ?_ ?_
           rotate_left;(intro w';go_simp;with_reducible rfl);rotate_left;(simp only [Act.put,ls_,lz_,lc_,i64_w,i32_w];rfl)
           refine pu_ (v := ?_) (a' := ?_) 9 35 (bz 14 649) rfl rfl HT_ (by kernel_rfl) (fun _ _ _ h => h) (by rfl) ?_ ?_ ?_
           rotate_left;(intro w';go_simp;with_reducible rfl);rotate_left;(simp only [Act.put,ls_,lz_,lc_,i64_w,i32_w];rfl)
           refine ta_ (v := ?_) (a' := ?_) 1 27 (bz 14 651) rfl rfl HT_ HW_ (by kernel_rfl) (fun _ _ _ h => h) (by rfl) ?_ hHeld ?_ ?_
           rotate_left
           ·rintro w' ⟨s0,s1,s2,s3⟩
            go_simp
            with_reducible rfl
           rotate_left
           ·simp only [Act.put,ls_,lz_,lc_,i64_w,i32_w]
            rfl
           refine ta_ (v := ?_) (a' := ?_) 4 30 (bz 14 667) rfl rfl HT_ HW_ (by kernel_rfl) (fun _ _ _ h => h) (by rfl) ?_ hHeld ?_ ?_
           rotate_left
           ·rintro w' ⟨s0,s1,s2,s3⟩
            go_simp
            with_reducible rfl
           rotate_left
           ·simp only [Act.put,ls_,lz_,lc_,i64_w,i32_w]
            rfl
           refine ta_ (v := ?_) (a' := ?_) 8 34 (bz 14 923) rfl rfl HT_ HW_ (by kernel_rfl) (fun _ _ _ h => h) (by rfl) ?_ hHeld ?_ ?_
           rotate_left
           ·rintro w' ⟨s0,s1,s2,s3⟩
            go_simp
            with_reducible rfl
           rotate_left
           ·simp only [Act.put,ls_,lz_,lc_,i64_w,i32_w]
            rfl
           refine ta_ (v := ?_) (a' := ?_) 10 36 (bz 14 1947) rfl rfl HT_ HW_ (by kernel_rfl) (fun _ _ _ h => h) (by rfl) ?_ hHeld ?_ ?_
           rotate_left
           ·rintro w' ⟨s0,s1,s2,s3⟩
            go_simp
            with_reducible rfl
           rotate_left
           ·simp only [Act.put,ls_,lz_,lc_,i64_w,i32_w]
            rfl
           refine on_ (N := some 28) 2 (bz 14 1951) rfl rfl HT_ (by kernel_rfl) (by decide) (fun K hK => ?_)
           refine goes_ Tryd.func41 (by kernel_rfl) rfl #[.int .i64 a0_0] (by rfl) rfl rfl (by (try simp only [lm_,lq_,lx_]);first|done|rfl|(simp only [ld_,lt_];rfl)) ?_
           with_reducible refine (neumeref02_abs.calls a0_0 t419 _ A34.out).mono ?_
           rintro e w80 ⟨rfl,hb⟩
           refine ⟨_,rfl,?_⟩
           replace BK414 := kb_ BK414 hb
           replace BK415 := kb_ BK415 hb
           replace BK416 := kb_ BK416 hb
           replace HB := hb_ HB (e_ GE414 (e_ GE415 (e_ GE416 e0_))) hb
           (try clear hb)
           (try clear hb2)
           (try clear hk)
           (try clear hi)
           refine hK.out _ _ ⟨(kc_ BK414.out 0).trans rfl,(kc_ BK414.out 1).trans rfl,(kc_ BK415.out 0).trans rfl,(kc_ BK415.out 1).trans rfl⟩ (fun hHeld => ?_)
           clear hK K
           refine norm_ (a' := ?_) ?_ ?_
           rotate_left
           ·show Act.put _ (some 28) _ = _
            simp only [Act.put,ls_,lz_,lc_,i64_w,i32_w]
            rfl
           refine on_ (N := some 31) 5 (bz 14 1983) rfl rfl HT_ (by kernel_rfl) (by decide) (fun K hK => ?_)
           refine goes_ Tryd.func41 (by kernel_rfl) rfl #[.int .i64 a1_0] (by rfl) rfl rfl (by (try simp only [lm_,lq_,lx_]);first|done|rfl|(simp only [ld_,lt_];rfl)) ?_
           with_reducible refine (neumeref02_abs.calls a1_0 t420 _ A35.out).mono ?_
           rintro e w81 ⟨rfl,hb⟩
           refine ⟨_,rfl,?_⟩
           replace BK414 := kb_ BK414 hb
           replace BK415 := kb_ BK415 hb
           replace BK416 := kb_ BK416 hb
           replace HB := hb_ HB (e_ GE414 (e_ GE415 (e_ GE416 e0_))) hb
           (try clear hb)
           (try clear hb2)
           (try clear hk)
           (try clear hi)
           refine hK.out _ _ ⟨(kc_ BK414.out 0).trans rfl,(kc_ BK414.out 1).trans rfl,(kc_ BK415.out 0).trans rfl,(kc_ BK415.out 1).trans rfl⟩ (fun hHeld => ?_)
           clear hK K
           refine norm_ (a' := ?_) ?_ ?_
           rotate_left
           ·show Act.put _ (some 31) _ = _
            simp only [Act.put,ls_,lz_,lc_,i64_w,i32_w]
            rfl
           refine on_ (N := some 32) 6 (bz 14 2047) rfl rfl HT_ (by kernel_rfl) (by decide) (fun K hK => ?_)
           refine goes_ Tryd.func38 (by kernel_rfl) rfl #[.int .i64 t419,.int .i64 t420] (by rfl) rfl rfl (by (try simp only [lm_,lq_,lx_]);first|done|rfl|(simp only [ld_,lt_];rfl)) ?_
           with_reducible refine (neumeref02_gcd.calls kj2 t419 t420 t421 _ A36.out).mono ?_
           rintro e w' ⟨rfl,⟨nd,rfl⟩⟩
           refine ⟨_,rfl,?_⟩
           refine hK.out _ _ ⟨(kc_ BK414.out 0).trans rfl,(kc_ BK414.out 1).trans rfl,(kc_ BK415.out 0).trans rfl,(kc_ BK415.out 1).trans rfl⟩ (fun hHeld => ?_)
           clear hK K
           refine norm_ (a' := ?_) ?_ ?_
           rotate_left
           ·show Act.put _ (some 32) _ = _
            simp only [Act.put,ls_,lz_,lc_,i64_w,i32_w]
            rfl
           refine on_ (N := some 37) 11 (bz 14 4095) rfl rfl HT_ (by kernel_rfl) (by decide) (fun K hK => ?_)
           refine goes_ Tryd.func38 (by kernel_rfl) rfl #[.int .i64 a0_1,.int .i64 a1_1] (by rfl) rfl rfl (by (try simp only [lm_,lq_,lx_]);first|done|rfl|(simp only [ld_,lt_];rfl)) ?_
           with_reducible refine (neumeref02_gcd.calls kj2 a0_1 a1_1 t422 _ A37.out).mono ?_
           rintro e w' ⟨rfl,⟨nd,rfl⟩⟩
           refine ⟨_,rfl,?_⟩
           refine hK.out _ _ ⟨(kc_ BK414.out 0).trans rfl,(kc_ BK414.out 1).trans rfl,(kc_ BK415.out 0).trans rfl,(kc_ BK415.out 1).trans rfl⟩ (fun hHeld => ?_)
           clear hK K
           refine norm_ (a' := ?_) ?_ ?_
           rotate_left
           ·show Act.put _ (some 37) _ = _
            simp only [Act.put,ls_,lz_,lc_,i64_w,i32_w]
            rfl
           refine pu_ (v := ?_) (a' := ?_) 12 6 (bz 14 8191) rfl rfl HT_ (by kernel_rfl) (fun _ _ _ h => h) (by rfl) ?_ ?_ ?_
           rotate_left;(intro w';go_simp;with_reducible rfl);rotate_left;(simp only [Act.put,ls_,lz_,lc_,i64_w,i32_w];rfl)
           refine pu_ (v := ?_) (a' := ?_) 13 7 (bz 14 16383) rfl rfl HT_ (by kernel_rfl) (fun _ _ _ h => h) (by rfl) ?_ ?_ ?_
           rotate_left;(intro w';go_simp;with_reducible rfl);rotate_left;(simp only [Act.put,ls_,lz_,lc_,i64_w,i32_w];rfl)
           refine done_ (done_of HT_.out (by kernel_rfl)) ?_
           try go_wp2
           (repeat (rw [drewN_self w81];generalize hq_ : World.drewN w81 _ = w81;have n0_ : Aside0 (w81.heap[gb414]? = some (.cells #[.int .i64 a0_0,.int .i64 a0_1] 25 (0,0))) := ⟨by rw [← hq_];exact (kk_ BK414.out)⟩;have n1_ : Aside0 (w81.heap[gb415]? = some (.cells #[.int .i64 a1_0,.int .i64 a1_1] 25 (0,0))) := ⟨by rw [← hq_];exact (kk_ BK415.out)⟩;have n2_ : Aside0 (w81.heap[gb416]? = some (.cells #[.int .i64 0,.int .i64 0] 25 (0,0))) := ⟨by rw [← hq_];exact (kk_ BK416.out)⟩;have n3_ : Aside0 (Below w.heap.size w w81) := ⟨by rw [← hq_];exact (bb_ HB.out (e_ GE414 (e_ GE415 (e_ GE416 e0_))))⟩;clear BK414 BK415 BK416 HB hq_;have BK414 := n0_;have BK415 := n1_;have BK416 := n2_;have HB := n3_;clear n0_ n1_ n2_ n3_))
           replace BK414 := sd_ (kd_ BK414.out)
           replace BK415 := sd_ (kd_ BK415.out)
           replace BK416 := sd_ (kd_ BK416.out)
           replace HB := sd_ (d1_ HB.out)
           refine start_ (n := 20) (S := fun w' => w'.cell? ⟨gb414,0,none⟩ = some (.int .i64 a0_0) ∧ w'.cell? ⟨gb414,1,none⟩ = some (.int .i64 a0_1) ∧ w'.cell? ⟨gb415,0,none⟩ = some (.int .i64 a1_0) ∧ w'.cell? ⟨gb415,1,none⟩ = some (.int .i64 a1_1)) (ds := []) (Array.replicate 20 false) (by kernel_rfl) rfl rfl ⟨(kc_ BK414.out 0).trans rfl,(kc_ BK414.out 1).trans rfl,(kc_ BK415.out 0).trans rfl,(kc_ BK415.out 1).trans rfl⟩ (fun hHeld => ?_);refine with_tabW neumeref02_Div.tab4 neumeref02_Div.bits4 (fun HT_ HW_ => ?_)
           generalize w81.drew = w82 at BK414 BK415 BK416 HB hHeld ⊢
           refine pu_ (v := ?_) (a' := ?_) 0 38 (bz 20 1) rfl rfl HT_ (by kernel_rfl) (fun _ _ _ h => h) (by rfl) ?_ ?_ ?_
           rotate_left;(intro w';go_simp;with_reducible rfl);rotate_left;(simp only [Act.put,ls_,lz_,lc_,i64_w,i32_w];rfl)
           refine pu_ (v := ?_) (a' := ?_) 2 40 (bz 20 5) rfl rfl HT_ (by kernel_rfl) (fun _ _ _ h => h) (by rfl) ?_ ?_ ?_
           rotate_left;(intro w';go_simp;with_reducible rfl);rotate_left;(simp only [Act.put,ls_,lz_,lc_,i64_w,i32_w];rfl)
           refine pu_ (v := ?_) (a' := ?_) 4 42 (bz 20 21) rfl rfl HT_ (by kernel_rfl) (fun _ _ _ h => h) (by rfl) ?_ ?_ ?_
           rotate_left;(intro w';go_simp;with_reducible rfl);rotate_left;(simp only [Act.put,ls_,lz_,lc_,i64_w,i32_w];rfl)
           refine pu_ (v := ?_) (a' := ?_) 6 44 (bz 20 85) rfl rfl HT_ (by kernel_rfl) (fun _ _ _ h => h) (by rfl) ?_ ?_ ?_
           rotate_left;(intro w';go_simp;with_reducible rfl);rotate_left;(simp only [Act.put,ls_,lz_,lc_,i64_w,i32_w];rfl)
           refine pu_ (v := ?_) (a' := ?_) 8 46 (bz 20 341) rfl rfl HT_ (by kernel_rfl) (fun _ _ _ h => h) (by rfl) ?_ ?_ ?_
           rotate_left;(intro w';go_simp;with_reducible rfl);rotate_left;(simp only [Act.put,ls_,lz_,lc_,i64_w,i32_w];rfl)
           refine pu_ (v := ?_) (a' := ?_) 10 48 (bz 20 1365) rfl rfl HT_ (by kernel_rfl) (fun _ _ _ h => h) (by rfl) ?_ ?_ ?_
           rotate_left;(intro w';go_simp;with_reducible rfl);rotate_left;(simp only [Act.put,ls_,lz_,lc_,i64_w,i32_w];rfl)
           refine pu_ (v := ?_) (a' := ?_) 12 50 (bz 20 5461) rfl rfl HT_ (by kernel_rfl) (fun _ _ _ h => h) (by rfl) ?_ ?_ ?_
           rotate_left;(intro w';go_simp;with_reducible rfl);rotate_left;(simp only [Act.put,ls_,lz_,lc_,i64_w,i32_w];rfl)
           refine pu_ (v := ?_) (a' := ?_) 14 52 (bz 20 21845) rfl rfl HT_ (by kernel_rfl) (fun _ _ _ h => h) (by rfl) ?_ ?_ ?_
           rotate_left;(intro w';go_simp;with_reducible rfl);rotate_left;(simp only [Act.put,ls_,lz_,lc_,i64_w,i32_w];rfl)
           refine ta_ (v := ?_) (a' := ?_) 1 39 (bz 20 21847) rfl rfl HT_ HW_ (by kernel_rfl) (fun _ _ _ h => h) (by rfl) ?_ hHeld ?_ ?_
           rotate_left
           ·rintro w' ⟨s0,s1,s2,s3⟩
            go_simp
            with_reducible rfl
           rotate_left
           ·simp only [Act.put,ls_,lz_,lc_,i64_w,i32_w]
            rfl
           refine pu_ (v := ?_) (a' := ?_) 3 41 (bz 20 21855) rfl rfl HT_ (by kernel_rfl) (fun _ _ _ h => h) (by rfl) ?_ ?_ ?_
           rotate_left;(intro w';go_simp;with_reducible rfl);rotate_left;(simp only [Act.put,ls_,lz_,lc_,i64_w,i32_w];rfl)
           refine pu_ (v := ?_) (a' := ?_) 16 8 (bz 20 87391) rfl rfl HT_ (by kernel_rfl) (fun _ _ _ h => h) (by rfl) ?_ ?_ ?_
           rotate_left;(intro w';go_simp;with_reducible rfl);rotate_left;(simp only [Act.put,ls_,lz_,lc_,i64_w,i32_w];rfl)
           refine ta_ (v := ?_) (a' := ?_) 5 43 (bz 20 87423) rfl rfl HT_ HW_ (by kernel_rfl) (fun _ _ _ h => h) (by rfl) ?_ hHeld ?_ ?_
           rotate_left
           ·rintro w' ⟨s0,s1,s2,s3⟩
            go_simp
            with_reducible rfl
           rotate_left
           ·simp only [Act.put,ls_,lz_,lc_,i64_w,i32_w]
            rfl
           refine pu_ (v := ?_) (a' := ?_) 7 45 (bz 20 87551) rfl rfl HT_ (by kernel_rfl) (fun _ _ _ h => h) (by rfl) ?_ ?_ ?_
           rotate_left;(intro w';go_simp;with_reducible rfl);rotate_left;(simp only [Act.put,ls_,lz_,lc_,i64_w,i32_w];rfl)
           refine pu_ (v := ?_) (a' := ?_) 17 9 (bz 20 218623) rfl rfl HT_ (by kernel_rfl) (fun _ _ _ h => h) (by rfl) ?_ ?_ ?_
           rotate_left;(intro w';go_simp;with_reducible rfl);rotate_left;(simp only [Act.put,ls_,lz_,lc_,i64_w,i32_w];rfl)
           refine ta_ (v := ?_) (a' := ?_) 9 47 (bz 20 219135) rfl rfl HT_ HW_ (by kernel_rfl) (fun _ _ _ h => h) (by rfl) ?_ hHeld ?_ ?_
           rotate_left
           ·rintro w' ⟨s0,s1,s2,s3⟩
            go_simp
            with_reducible rfl
           rotate_left
           ·simp only [Act.put,ls_,lz_,lc_,i64_w,i32_w]
            rfl
           refine pu_ (v := ?_) (a' := ?_) 11 49 (bz 20 221183) rfl rfl HT_ (by kernel_rfl) (fun _ _ _ h => h) (by rfl) ?_ ?_ ?_
           rotate_left;(intro w';go_simp;with_reducible rfl);rotate_left;(simp only [Act.put,ls_,lz_,lc_,i64_w,i32_w];rfl)
           refine pu_ (v := ?_) (a' := ?_) 18 10 (bz 20 483327) rfl rfl HT_ (by kernel_rfl) (fun _ _ _ h => h) (by rfl) ?_ ?_ ?_
           rotate_left;(intro w';go_simp;with_reducible rfl);rotate_left;(simp only [Act.put,ls_,lz_,lc_,i64_w,i32_w];rfl)
           refine ta_ (v := ?_) (a' := ?_) 13 51 (bz 20 491519) rfl rfl HT_ HW_ (by kernel_rfl) (fun _ _ _ h => h) (by rfl) ?_ hHeld ?_ ?_
           rotate_left
           ·rintro w' ⟨s0,s1,s2,s3⟩
            go_simp
            with_reducible rfl
           rotate_left
           ·simp only [Act.put,ls_,lz_,lc_,i64_w,i32_w]
            rfl
           refine pu_ (v := ?_) (a' := ?_) 15 53 (bz 20 524287) rfl rfl HT_ (by kernel_rfl) (fun _ _ _ h => h) (by rfl) ?_ ?_ ?_
           rotate_left;(intro w';go_simp;with_reducible rfl);rotate_left;(simp only [Act.put,ls_,lz_,lc_,i64_w,i32_w];rfl)
           refine pu_ (v := ?_) (a' := ?_) 19 11 (bz 20 1048575) rfl rfl HT_ (by kernel_rfl) (fun _ _ _ h => h) (by rfl) ?_ ?_ ?_
           rotate_left;(intro w';go_simp;with_reducible rfl);rotate_left;(simp only [Act.put,ls_,lz_,lc_,i64_w,i32_w];rfl)
           refine done_ (done_of HT_.out (by kernel_rfl)) ?_
           try go_wp2
           replace BK414 := sd_ (kd_ BK414.out)
           replace BK415 := sd_ (kd_ BK415.out)
           replace BK416 := sd_ (kd_ BK416.out)
           replace HB := sd_ (d1_ HB.out)
           refine start_ (n := 16) (S := fun w' => True) (ds := []) (Array.replicate 16 false) (by kernel_rfl) rfl rfl trivial (fun hHeld => ?_);refine with_tabW neumeref02_Div.tab5 neumeref02_Div.bits5 (fun HT_ HW_ => ?_)
           generalize w82.drew = w83 at BK414 BK415 BK416 HB hHeld ⊢
           refine pu_ (v := ?_) (a' := ?_) 0 54 (bz 16 1) rfl rfl HT_ (by kernel_rfl) (fun _ _ _ h => h) (by rfl) ?_ ?_ ?_
           rotate_left;(intro w';go_simp;with_reducible rfl);rotate_left;(simp only [Act.put,ls_,lz_,lc_,i64_w,i32_w];rfl)
           refine pu_ (v := ?_) (a' := ?_) 1 55 (bz 16 3) rfl rfl HT_ (by kernel_rfl) (fun _ _ _ h => h) (by rfl) ?_ ?_ ?_
           rotate_left;(intro w';go_simp;with_reducible rfl);rotate_left;(simp only [Act.put,ls_,lz_,lc_,i64_w,i32_w];rfl)
           refine pu_ (v := ?_) (a' := ?_) 2 56 (bz 16 7) rfl rfl HT_ (by kernel_rfl) (fun _ _ _ h => h) (by rfl) ?_ ?_ ?_
           rotate_left;(intro w';go_simp;with_reducible rfl);rotate_left;(simp only [Act.put,ls_,lz_,lc_,i64_w,i32_w];rfl)
           refine pu_ (v := ?_) (a' := ?_) 3 57 (bz 16 15) rfl rfl HT_ (by kernel_rfl) (fun _ _ _ h => h) (by rfl) ?_ ?_ ?_
           rotate_left;(intro w';go_simp;with_reducible rfl);rotate_left;(simp only [Act.put,ls_,lz_,lc_,i64_w,i32_w];rfl)
           refine pu_ (v := ?_) (a' := ?_) 5 59 (bz 16 47) rfl rfl HT_ (by kernel_rfl) (fun _ _ _ h => h) (by rfl) ?_ ?_ ?_
           rotate_left;(intro w';go_simp;with_reducible rfl);rotate_left;(simp only [Act.put,ls_,lz_,lc_,i64_w,i32_w];rfl)
           refine pu_ (v := ?_) (a' := ?_) 6 60 (bz 16 111) rfl rfl HT_ (by kernel_rfl) (fun _ _ _ h => h) (by rfl) ?_ ?_ ?_
           rotate_left;(intro w';go_simp;with_reducible rfl);rotate_left;(simp only [Act.put,ls_,lz_,lc_,i64_w,i32_w];rfl)
           refine on_ (N := some 58) 4 (bz 16 127) rfl rfl HT_ (by kernel_rfl) (by decide) (fun K hK => ?_)
           refine goes_ Tryd.func41 (by kernel_rfl) rfl #[.int .i64 (wrap64 (Int.tdiv a0_0 t421))] (by rfl) rfl rfl (by (try simp only [lm_,lq_,lx_]);first|done|rfl|(simp only [ld_,lt_];rfl)) ?_
           with_reducible refine (neumeref02_abs.calls (wrap64 (Int.tdiv a0_0 t421)) t427 _ A64.out).mono ?_
           rintro e w84 ⟨rfl,hb⟩
           refine ⟨_,rfl,?_⟩
           replace BK414 := kb_ BK414 hb
           replace BK415 := kb_ BK415 hb
           replace BK416 := kb_ BK416 hb
           replace HB := hb_ HB (e_ GE414 (e_ GE415 (e_ GE416 e0_))) hb
           (try clear hb)
           (try clear hb2)
           (try clear hk)
           (try clear hi)
           refine hK.out _ _ trivial (fun hHeld => ?_)
           clear hK K
           refine norm_ (a' := ?_) ?_ ?_
           rotate_left
           ·show Act.put _ (some 58) _ = _
            simp only [Act.put,ls_,lz_,lc_,i64_w,i32_w]
            rfl
           refine pu_ (v := ?_) (a' := ?_) 7 61 (bz 16 255) rfl rfl HT_ (by kernel_rfl) (fun _ _ _ h => h) (by rfl) ?_ ?_ ?_
           rotate_left;(intro w';go_simp;with_reducible rfl);rotate_left;(simp only [Act.put,ls_,lz_,lc_,i64_w,i32_w];rfl)
           refine pu_ (v := ?_) (a' := ?_) 8 62 (bz 16 511) rfl rfl HT_ (by kernel_rfl) (fun _ _ _ h => h) (by rfl) ?_ ?_ ?_
           rotate_left;(intro w';go_simp;with_reducible rfl);rotate_left;(simp only [Act.put,ls_,lz_,lc_,i64_w,i32_w];rfl)
           refine pu_ (v := ?_) (a' := ?_) 9 63 (bz 16 1023) rfl rfl HT_ (by kernel_rfl) (fun _ _ _ h => h) (by rfl) ?_ ?_ ?_
           rotate_left;(intro w';go_simp;with_reducible rfl);rotate_left;(simp only [Act.put,ls_,lz_,lc_,i64_w,i32_w];rfl)
           refine pu_ (v := ?_) (a' := ?_) 10 64 (bz 16 2047) rfl rfl HT_ (by kernel_rfl) (fun _ _ _ h => h) (by rfl) ?_ ?_ ?_
           rotate_left;(intro w';go_simp;with_reducible rfl);rotate_left;(simp only [Act.put,ls_,lz_,lc_,i64_w,i32_w];rfl)
           refine pu_ (v := ?_) (a' := ?_) 12 66 (bz 16 6143) rfl rfl HT_ (by kernel_rfl) (fun _ _ _ h => h) (by rfl) ?_ ?_ ?_
           rotate_left;(intro w';go_simp;with_reducible rfl);rotate_left;(simp only [Act.put,ls_,lz_,lc_,i64_w,i32_w];rfl)
           refine pu_ (v := ?_) (a' := ?_) 13 67 (bz 16 14335) rfl rfl HT_ (by kernel_rfl) (fun _ _ _ h => h) (by rfl) ?_ ?_ ?_
           rotate_left;(intro w';go_simp;with_reducible rfl);rotate_left;(simp only [Act.put,ls_,lz_,lc_,i64_w,i32_w];rfl)
           refine on_ (N := some 65) 11 (bz 16 16383) rfl rfl HT_ (by kernel_rfl) (by decide) (fun K hK => ?_)
           refine goes_ Tryd.func41 (by kernel_rfl) rfl #[.int .i64 (wrap64 (Int.tdiv a1_0 t421))] (by rfl) rfl rfl (by (try simp only [lm_,lq_,lx_]);first|done|rfl|(simp only [ld_,lt_];rfl)) ?_
           with_reducible refine (neumeref02_abs.calls (wrap64 (Int.tdiv a1_0 t421)) t428 _ A76.out).mono ?_
           rintro e w85 ⟨rfl,hb⟩
           refine ⟨_,rfl,?_⟩
           replace BK414 := kb_ BK414 hb
           replace BK415 := kb_ BK415 hb
           replace BK416 := kb_ BK416 hb
           replace HB := hb_ HB (e_ GE414 (e_ GE415 (e_ GE416 e0_))) hb
           (try clear hb)
           (try clear hb2)
           (try clear hk)
           (try clear hi)
           refine hK.out _ _ trivial (fun hHeld => ?_)
           clear hK K
           refine norm_ (a' := ?_) ?_ ?_
           rotate_left
           ·show Act.put _ (some 65) _ = _
            simp only [Act.put,ls_,lz_,lc_,i64_w,i32_w]
            rfl
           refine pu_ (v := ?_) (a' := ?_) 14 68 (bz 16 32767) rfl rfl HT_ (by kernel_rfl) (fun _ _ _ h => h) (by rfl) ?_ ?_ ?_
           rotate_left;(intro w';go_simp;with_reducible rfl);rotate_left;(simp only [Act.put,ls_,lz_,lc_,i64_w,i32_w];rfl)
           refine pu_ (v := ?_) (a' := ?_) 15 69 (bz 16 65535) rfl rfl HT_ (by kernel_rfl) (fun _ _ _ h => h) (by rfl) ?_ ?_ ?_
           rotate_left;(intro w';go_simp;with_reducible rfl);rotate_left;(simp only [Act.put,ls_,lz_,lc_,i64_w,i32_w];rfl)
           refine done_ (done_of HT_.out (by kernel_rfl)) ?_
           have hnb86 := NB416_414.out
           have hnc86 := NB414_416.out
           have hnb87 := NB416_415.out
           have hnc87 := NB415_416.out
           have hcz88_0 : w85.cell? ⟨gb416,0,none⟩ = some (.int .i64 0) := (kc_ BK416.out 0).trans rfl
           have hcz88_1 : w85.cell? ⟨gb416,1,none⟩ = some (.int .i64 0) := (kc_ BK416.out 1).trans rfl
           have hfz88_0 := kf_ BK416.out 0
           have hfz88_1 := kf_ BK416.out 1
           try go_wp2
           refine bodyPost_ret (results_ct rfl _ _ gb416 25 #[.int .i64 0,.int .i64 0] (0,0) _ rfl (by (with_reducible repeat first|apply kn_|apply kd_|apply ka_);refine blk_put (cs := #[.int .i64 0,.int .i64 0]) ?_ 1 _ rfl;(with_reducible repeat first|apply kn_|apply kd_|apply ka_);refine blk_put (cs := #[.int .i64 0,.int .i64 0]) ?_ 0 _ rfl;(with_reducible repeat first|apply kn_|apply kd_|apply ka_);exact BK416.out) Tryd.underlying25 rfl (by kernel_rfl)) rfl ?_
           exact ⟨by first|rfl|(simp [errW_none,errW_some] <;> rfl)|(simp [*,errW_none,errW_some] <;> rfl),by repeat (first|(with_reducible first|exact HB.out|apply ba_|apply pd_|apply d1_|refine bs_ ?_ GE414.out|refine bs_ ?_ GE415.out|refine bs_ ?_ GE416.out)|exact HB.out)⟩
          ·rw [if_neg c78] at H
           have c78b0 : decide ((wrap64 (Int.tdiv (1048576 : Int) (wrap64 (Int.tdiv a0_1 t422)))) < t428) = false := df_ c78
           clear c78
           replace H := ob_ H
           obtain ⟨⟨t429,t430,t431⟩,A890,H⟩ := H
           replace H : (some (t429,t430,t431)) = some (r1,r2,r3) := H
           have A89 := sd_ A890
           clear A890
           simp only [Option.some.injEq,Prod.mk.injEq] at H
           obtain ⟨rfl,rfl,rfl⟩ := H
           try go_wp2
           replace BK414 := sd_ (kd_ BK414.out)
           replace BK415 := sd_ (kd_ BK415.out)
           replace BK416 := sd_ (kd_ BK416.out)
           replace HB := sd_ (d1_ HB.out)
           refine start_ (n := 14) (S := fun w' => w'.cell? ⟨gb414,0,none⟩ = some (.int .i64 a0_0) ∧ w'.cell? ⟨gb414,1,none⟩ = some (.int .i64 a0_1) ∧ w'.cell? ⟨gb415,0,none⟩ = some (.int .i64 a1_0) ∧ w'.cell? ⟨gb415,1,none⟩ = some (.int .i64 a1_1)) (ds := []) (Array.replicate 14 false) (by kernel_rfl) rfl rfl ⟨(kc_ BK414.out 0).trans rfl,(kc_ BK414.out 1).trans rfl,(kc_ BK415.out 0).trans rfl,(kc_ BK415.out 1).trans rfl⟩ (fun hHeld => ?_);refine with_tabW neumeref02_Div.tab3 neumeref02_Div.bits3 (fun HT_ HW_ => ?_)
           generalize wc.drew = w90 at BK414 BK415 BK416 HB hHeld ⊢
           refine pu_ (v := ?_) (a' := ?_) 0 26 (bz 14 1) rfl rfl HT_ (by kernel_rfl) (fun _ _ _ h => h) (by rfl) ?_ ?_ ?_
           rotate_left;(intro w';go_simp;with_reducible rfl);rotate_left;(simp only [Act.put,ls_,lz_,lc_,i64_w,i32_w];rfl)
           refine pu_ (v := ?_) (a' := ?_) 3 29 (bz 14 9) rfl rfl HT_ (by kernel_rfl) (fun _ _ _ h => h) (by rfl) ?_ ?_ ?_
           rotate_left;(intro w';go_simp;with_reducible rfl);rotate_left;(simp only [Act.put,ls_,lz_,lc_,i64_w,i32_w];rfl)
           refine pu_ (v := ?_) (a' := ?_) 7 33 (bz 14 137) rfl rfl HT_ (by kernel_rfl) (fun _ _ _ h => h) (by rfl) ?_ ?_ ?_
           rotate_left;(intro w';go_simp;with_reducible rfl);rotate_left;(simp only [Act.put,ls_,lz_,lc_,i64_w,i32_w];rfl)
           refine pu_ (v := ?_) (a' := ?_) 9 35 (bz 14 649) rfl rfl HT_ (by kernel_rfl) (fun _ _ _ h => h) (by rfl) ?_ ?_ ?_
           rotate_left;(intro w';go_simp;with_reducible rfl);rotate_left;(simp only [Act.put,ls_,lz_,lc_,i64_w,i32_w];rfl)
           refine ta_ (v := ?_) (a' := ?_) 1 27 (bz 14 651) rfl rfl HT_ HW_ (by kernel_rfl) (fun _ _ _ h => h) (by rfl) ?_ hHeld ?_ ?_
           rotate_left
           ·rintro w' ⟨s0,s1,s2,s3⟩
            go_simp
            with_reducible rfl
           rotate_left
           ·simp only [Act.put,ls_,lz_,lc_,i64_w,i32_w]
            rfl
           refine ta_ (v := ?_) (a' := ?_) 4 30 (bz 14 667) rfl rfl HT_ HW_ (by kernel_rfl) (fun _ _ _ h => h) (by rfl) ?_ hHeld ?_ ?_
           rotate_left
           ·rintro w' ⟨s0,s1,s2,s3⟩
            go_simp
            with_reducible rfl
           rotate_left
           ·simp only [Act.put,ls_,lz_,lc_,i64_w,i32_w]
            rfl
           refine ta_ (v := ?_) (a' := ?_) 8 34 (bz 14 923) rfl rfl HT_ HW_ (by kernel_rfl) (fun _ _ _ h => h) (by rfl) ?_ hHeld ?_ ?_
           rotate_left
           ·rintro w' ⟨s0,s1,s2,s3⟩
            go_simp
            with_reducible rfl
           rotate_left
           ·simp only [Act.put,ls_,lz_,lc_,i64_w,i32_w]
            rfl
           refine ta_ (v := ?_) (a' := ?_) 10 36 (bz 14 1947) rfl rfl HT_ HW_ (by kernel_rfl) (fun _ _ _ h => h) (by rfl) ?_ hHeld ?_ ?_
           rotate_left
           ·rintro w' ⟨s0,s1,s2,s3⟩
            go_simp
            with_reducible rfl
           rotate_left
           ·simp only [Act.put,ls_,lz_,lc_,i64_w,i32_w]
            rfl
           refine on_ (N := some 28) 2 (bz 14 1951) rfl rfl HT_ (by kernel_rfl) (by decide) (fun K hK => ?_)
           refine goes_ Tryd.func41 (by kernel_rfl) rfl #[.int .i64 a0_0] (by rfl) rfl rfl (by (try simp only [lm_,lq_,lx_]);first|done|rfl|(simp only [ld_,lt_];rfl)) ?_
           with_reducible refine (neumeref02_abs.calls a0_0 t419 _ A34.out).mono ?_
           rintro e w91 ⟨rfl,hb⟩
           refine ⟨_,rfl,?_⟩
           replace BK414 := kb_ BK414 hb
           replace BK415 := kb_ BK415 hb
           replace BK416 := kb_ BK416 hb
           replace HB := hb_ HB (e_ GE414 (e_ GE415 (e_ GE416 e0_))) hb
           (try clear hb)
           (try clear hb2)
           (try clear hk)
           (try clear hi)
           refine hK.out _ _ ⟨(kc_ BK414.out 0).trans rfl,(kc_ BK414.out 1).trans rfl,(kc_ BK415.out 0).trans rfl,(kc_ BK415.out 1).trans rfl⟩ (fun hHeld => ?_)
           clear hK K
           refine norm_ (a' := ?_) ?_ ?_
           rotate_left
           ·show Act.put _ (some 28) _ = _
            simp only [Act.put,ls_,lz_,lc_,i64_w,i32_w]
            rfl
           refine on_ (N := some 31) 5 (bz 14 1983) rfl rfl HT_ (by kernel_rfl) (by decide) (fun K hK => ?_)
           refine goes_ Tryd.func41 (by kernel_rfl) rfl #[.int .i64 a1_0] (by rfl) rfl rfl (by (try simp only [lm_,lq_,lx_]);first|done|rfl|(simp only [ld_,lt_];rfl)) ?_
           with_reducible refine (neumeref02_abs.calls a1_0 t420 _ A35.out).mono ?_
           rintro e w92 ⟨rfl,hb⟩
           refine ⟨_,rfl,?_⟩
           replace BK414 := kb_ BK414 hb
           replace BK415 := kb_ BK415 hb
           replace BK416 := kb_ BK416 hb
           replace HB := hb_ HB (e_ GE414 (e_ GE415 (e_ GE416 e0_))) hb
           (try clear hb)
           (try clear hb2)
           (try clear hk)
           (try clear hi)
           refine hK.out _ _ ⟨(kc_ BK414.out 0).trans rfl,(kc_ BK414.out 1).trans rfl,(kc_ BK415.out 0).trans rfl,(kc_ BK415.out 1).trans rfl⟩ (fun hHeld => ?_)
           clear hK K
           refine norm_ (a' := ?_) ?_ ?_
           rotate_left
           ·show Act.put _ (some 31) _ = _
            simp only [Act.put,ls_,lz_,lc_,i64_w,i32_w]
            rfl
           refine on_ (N := some 32) 6 (bz 14 2047) rfl rfl HT_ (by kernel_rfl) (by decide) (fun K hK => ?_)
           refine goes_ Tryd.func38 (by kernel_rfl) rfl #[.int .i64 t419,.int .i64 t420] (by rfl) rfl rfl (by (try simp only [lm_,lq_,lx_]);first|done|rfl|(simp only [ld_,lt_];rfl)) ?_
           with_reducible refine (neumeref02_gcd.calls kj2 t419 t420 t421 _ A36.out).mono ?_
           rintro e w' ⟨rfl,⟨nd,rfl⟩⟩
           refine ⟨_,rfl,?_⟩
           refine hK.out _ _ ⟨(kc_ BK414.out 0).trans rfl,(kc_ BK414.out 1).trans rfl,(kc_ BK415.out 0).trans rfl,(kc_ BK415.out 1).trans rfl⟩ (fun hHeld => ?_)
           clear hK K
           refine norm_ (a' := ?_) ?_ ?_
           rotate_left
           ·show Act.put _ (some 32) _ = _
            simp only [Act.put,ls_,lz_,lc_,i64_w,i32_w]
            rfl
           refine on_ (N := some 37) 11 (bz 14 4095) rfl rfl HT_ (by kernel_rfl) (by decide) (fun K hK => ?_)
           refine goes_ Tryd.func38 (by kernel_rfl) rfl #[.int .i64 a0_1,.int .i64 a1_1] (by rfl) rfl rfl (by (try simp only [lm_,lq_,lx_]);first|done|rfl|(simp only [ld_,lt_];rfl)) ?_
           with_reducible refine (neumeref02_gcd.calls kj2 a0_1 a1_1 t422 _ A37.out).mono ?_
           rintro e w' ⟨rfl,⟨nd,rfl⟩⟩
           refine ⟨_,rfl,?_⟩
           refine hK.out _ _ ⟨(kc_ BK414.out 0).trans rfl,(kc_ BK414.out 1).trans rfl,(kc_ BK415.out 0).trans rfl,(kc_ BK415.out 1).trans rfl⟩ (fun hHeld => ?_)
           clear hK K
           refine norm_ (a' := ?_) ?_ ?_
           rotate_left
           ·show Act.put _ (some 37) _ = _
            simp only [Act.put,ls_,lz_,lc_,i64_w,i32_w]
            rfl
           refine pu_ (v := ?_) (a' := ?_) 12 6 (bz 14 8191) rfl rfl HT_ (by kernel_rfl) (fun _ _ _ h => h) (by rfl) ?_ ?_ ?_
           rotate_left;(intro w';go_simp;with_reducible rfl);rotate_left;(simp only [Act.put,ls_,lz_,lc_,i64_w,i32_w];rfl)
           refine pu_ (v := ?_) (a' := ?_) 13 7 (bz 14 16383) rfl rfl HT_ (by kernel_rfl) (fun _ _ _ h => h) (by rfl) ?_ ?_ ?_
           rotate_left;(intro w';go_simp;with_reducible rfl);rotate_left;(simp only [Act.put,ls_,lz_,lc_,i64_w,i32_w];rfl)
           refine done_ (done_of HT_.out (by kernel_rfl)) ?_
           try go_wp2
           (repeat (rw [drewN_self w92];generalize hq_ : World.drewN w92 _ = w92;have n0_ : Aside0 (w92.heap[gb414]? = some (.cells #[.int .i64 a0_0,.int .i64 a0_1] 25 (0,0))) := ⟨by rw [← hq_];exact (kk_ BK414.out)⟩;have n1_ : Aside0 (w92.heap[gb415]? = some (.cells #[.int .i64 a1_0,.int .i64 a1_1] 25 (0,0))) := ⟨by rw [← hq_];exact (kk_ BK415.out)⟩;have n2_ : Aside0 (w92.heap[gb416]? = some (.cells #[.int .i64 0,.int .i64 0] 25 (0,0))) := ⟨by rw [← hq_];exact (kk_ BK416.out)⟩;have n3_ : Aside0 (Below w.heap.size w w92) := ⟨by rw [← hq_];exact (bb_ HB.out (e_ GE414 (e_ GE415 (e_ GE416 e0_))))⟩;clear BK414 BK415 BK416 HB hq_;have BK414 := n0_;have BK415 := n1_;have BK416 := n2_;have HB := n3_;clear n0_ n1_ n2_ n3_))
           replace BK414 := sd_ (kd_ BK414.out)
           replace BK415 := sd_ (kd_ BK415.out)
           replace BK416 := sd_ (kd_ BK416.out)
           replace HB := sd_ (d1_ HB.out)
           refine start_ (n := 20) (S := fun w' => w'.cell? ⟨gb414,0,none⟩ = some (.int .i64 a0_0) ∧ w'.cell? ⟨gb414,1,none⟩ = some (.int .i64 a0_1) ∧ w'.cell? ⟨gb415,0,none⟩ = some (.int .i64 a1_0) ∧ w'.cell? ⟨gb415,1,none⟩ = some (.int .i64 a1_1)) (ds := []) (Array.replicate 20 false) (by kernel_rfl) rfl rfl ⟨(kc_ BK414.out 0).trans rfl,(kc_ BK414.out 1).trans rfl,(kc_ BK415.out 0).trans rfl,(kc_ BK415.out 1).trans rfl⟩ (fun hHeld => ?_);refine with_tabW neumeref02_Div.tab4 neumeref02_Div.bits4 (fun HT_ HW_ => ?_)
           generalize w92.drew = w93 at BK414 BK415 BK416 HB hHeld ⊢
           refine pu_ (v := ?_) (a' := ?_) 0 38 (bz 20 1) rfl rfl HT_ (by kernel_rfl) (fun _ _ _ h => h) (by rfl) ?_ ?_ ?_
           rotate_left;(intro w';go_simp;with_reducible rfl);rotate_left;(simp only [Act.put,ls_,lz_,lc_,i64_w,i32_w];rfl)
           refine pu_ (v := ?_) (a' := ?_) 2 40 (bz 20 5) rfl rfl HT_ (by kernel_rfl) (fun _ _ _ h => h) (by rfl) ?_ ?_ ?_
           rotate_left;(intro w';go_simp;with_reducible rfl);rotate_left;(simp only [Act.put,ls_,lz_,lc_,i64_w,i32_w];rfl)
           refine pu_ (v := ?_) (a' := ?_) 4 42 (bz 20 21) rfl rfl HT_ (by kernel_rfl) (fun _ _ _ h => h) (by rfl) ?_ ?_ ?_
           rotate_left;(intro w';go_simp;with_reducible rfl);rotate_left;(simp only [Act.put,ls_,lz_,lc_,i64_w,i32_w];rfl)
           refine pu_ (v := ?_) (a' := ?_) 6 44 (bz 20 85) rfl rfl HT_ (by kernel_rfl) (fun _ _ _ h => h) (by rfl) ?_ ?_ ?_
           rotate_left;(intro w';go_simp;with_reducible rfl);rotate_left;(simp only [Act.put,ls_,lz_,lc_,i64_w,i32_w];rfl)
           refine pu_ (v := ?_) (a' := ?_) 8 46 (bz 20 341) rfl rfl HT_ (by kernel_rfl) (fun _ _ _ h => h) (by rfl) ?_ ?_ ?_
           rotate_left;(intro w';go_simp;with_reducible rfl);rotate_left;(simp only [Act.put,ls_,lz_,lc_,i64_w,i32_w];rfl)
           refine pu_ (v := ?_) (a' := ?_) 10 48 (bz 20 1365) rfl rfl HT_ (by kernel_rfl) (fun _ _ _ h => h) (by rfl) ?_ ?_ ?_
           rotate_left;(intro w';go_simp;with_reducible rfl);rotate_left;(simp only [Act.put,ls_,lz_,lc_,i64_w,i32_w];rfl)
           refine pu_ (v := ?_) (a' := ?_) 12 50 (bz 20 5461) rfl rfl HT_ (by kernel_rfl) (fun _ _ _ h => h) (by rfl) ?_ ?_ ?_
           rotate_left;(intro w';go_simp;with_reducible rfl);rotate_left;(simp only [Act.put,ls_,lz_,lc_,i64_w,i32_w];rfl)
           refine pu_ (v := ?_) (a' := ?_) 14 52 (bz 20 21845) rfl rfl HT_ (by kernel_rfl) (fun _ _ _ h => h) (by rfl) ?_ ?_ ?_
           rotate_left;(intro w';go_simp;with_reducible rfl);rotate_left;(simp only [Act.put,ls_,lz_,lc_,i64_w,i32_w];rfl)
           refine ta_ (v := ?_) (a' := ?_) 1 39 (bz 20 21847) rfl rfl HT_ HW_ (by kernel_rfl) (fun _ _ _ h => h) (by rfl) ?_ hHeld ?_ ?_
           rotate_left
           ·rintro w' ⟨s0,s1,s2,s3⟩
            go_simp
            with_reducible rfl
           rotate_left
           ·simp only [Act.put,ls_,lz_,lc_,i64_w,i32_w]
            rfl
           refine pu_ (v := ?_) (a' := ?_) 3 41 (bz 20 21855) rfl rfl HT_ (by kernel_rfl) (fun _ _ _ h => h) (by rfl) ?_ ?_ ?_
           rotate_left;(intro w';go_simp;with_reducible rfl);rotate_left;(simp only [Act.put,ls_,lz_,lc_,i64_w,i32_w];rfl)
           refine pu_ (v := ?_) (a' := ?_) 16 8 (bz 20 87391) rfl rfl HT_ (by kernel_rfl) (fun _ _ _ h => h) (by rfl) ?_ ?_ ?_
           rotate_left;(intro w';go_simp;with_reducible rfl);rotate_left;(simp only [Act.put,ls_,lz_,lc_,i64_w,i32_w];rfl)
           refine ta_ (v := ?_) (a' := ?_) 5 43 (bz 20 87423) rfl rfl HT_ HW_ (by kernel_rfl) (fun _ _ _ h => h) (by rfl) ?_ hHeld ?_ ?_
           rotate_left
           ·rintro w' ⟨s0,s1,s2,s3⟩
            go_simp
            with_reducible rfl
           rotate_left
           ·simp only [Act.put,ls_,lz_,lc_,i64_w,i32_w]
            rfl
           refine pu_ (v := ?_) (a' := ?_) 7 45 (bz 20 87551) rfl rfl HT_ (by kernel_rfl) (fun _ _ _ h => h) (by rfl) ?_ ?_ ?_
           rotate_left;(intro w';go_simp;with_reducible rfl);rotate_left;(simp only [Act.put,ls_,lz_,lc_,i64_w,i32_w];rfl)
           refine pu_ (v := ?_) (a' := ?_) 17 9 (bz 20 218623) rfl rfl HT_ (by kernel_rfl) (fun _ _ _ h => h) (by rfl) ?_ ?_ ?_
           rotate_left;(intro w';go_simp;with_reducible rfl);rotate_left;(simp only [Act.put,ls_,lz_,lc_,i64_w,i32_w];rfl)
           refine ta_ (v := ?_) (a' := ?_) 9 47 (bz 20 219135) rfl rfl HT_ HW_ (by kernel_rfl) (fun _ _ _ h => h) (by rfl) ?_ hHeld ?_ ?_
           rotate_left
           ·rintro w' ⟨s0,s1,s2,s3⟩
            go_simp
            with_reducible rfl
           rotate_left
           ·simp only [Act.put,ls_,lz_,lc_,i64_w,i32_w]
            rfl
           refine pu_ (v := ?_) (a' := ?_) 11 49 (bz 20 221183) rfl rfl HT_ (by kernel_rfl) (fun _ _ _ h => h) (by rfl) ?_ ?_ ?_
           rotate_left;(intro w';go_simp;with_reducible rfl);rotate_left;(simp only [Act.put,ls_,lz_,lc_,i64_w,i32_w];rfl)
           refine pu_ (v := ?_) (a' := ?_) 18 10 (bz 20 483327) rfl rfl HT_ (by kernel_rfl) (fun _ _ _ h => h) (by rfl) ?_ ?_ ?_
           rotate_left;(intro w';go_simp;with_reducible rfl);rotate_left;(simp only [Act.put,ls_,lz_,lc_,i64_w,i32_w];rfl)
           refine ta_ (v := ?_) (a' := ?_) 13 51 (bz 20 491519) rfl rfl HT_ HW_ (by kernel_rfl) (fun _ _ _ h => h) (by rfl) ?_ hHeld ?_ ?_
           rotate_left
           ·rintro w' ⟨s0,s1,s2,s3⟩
            go_simp
            with_reducible rfl
           rotate_left
           ·simp only [Act.put,ls_,lz_,lc_,i64_w,i32_w]
            rfl
           refine pu_ (v := ?_) (a' := ?_) 15 53 (bz 20 524287) rfl rfl HT_ (by kernel_rfl) (fun _ _ _ h => h) (by rfl) ?_ ?_ ?_
           rotate_left;(intro w';go_simp;with_reducible rfl);rotate_left;(simp only [Act.put,ls_,lz_,lc_,i64_w,i32_w];rfl)
           refine pu_ (v := ?_) (a' := ?_) 19 11 (bz 20 1048575) rfl rfl HT_ (by kernel_rfl) (fun _ _ _ h => h) (by rfl) ?_ ?_ ?_
           rotate_left;(intro w';go_simp;with_reducible rfl);rotate_left;(simp only [Act.put,ls_,lz_,lc_,i64_w,i32_w];rfl)
           refine done_ (done_of HT_.out (by kernel_rfl)) ?_
           try go_wp2
           replace BK414 := sd_ (kd_ BK414.out)
           replace BK415 := sd_ (kd_ BK415.out)
           replace BK416 := sd_ (kd_ BK416.out)
           replace HB := sd_ (d1_ HB.out)
           refine start_ (n := 16) (S := fun w' => True) (ds := []) (Array.replicate 16 false) (by kernel_rfl) rfl rfl trivial (fun hHeld => ?_);refine with_tabW neumeref02_Div.tab5 neumeref02_Div.bits5 (fun HT_ HW_ => ?_)
           generalize w93.drew = w94 at BK414 BK415 BK416 HB hHeld ⊢
           refine pu_ (v := ?_) (a' := ?_) 0 54 (bz 16 1) rfl rfl HT_ (by kernel_rfl) (fun _ _ _ h => h) (by rfl) ?_ ?_ ?_
           rotate_left;(intro w';go_simp;with_reducible rfl);rotate_left;(simp only [Act.put,ls_,lz_,lc_,i64_w,i32_w];rfl)
           refine pu_ (v := ?_) (a' := ?_) 1 55 (bz 16 3) rfl rfl HT_ (by kernel_rfl) (fun _ _ _ h => h) (by rfl) ?_ ?_ ?_
           rotate_left;(intro w';go_simp;with_reducible rfl);rotate_left;(simp only [Act.put,ls_,lz_,lc_,i64_w,i32_w];rfl)
           refine pu_ (v := ?_) (a' := ?_) 2 56 (bz 16 7) rfl rfl HT_ (by kernel_rfl) (fun _ _ _ h => h) (by rfl) ?_ ?_ ?_
           rotate_left;(intro w';go_simp;with_reducible rfl);rotate_left;(simp only [Act.put,ls_,lz_,lc_,i64_w,i32_w];rfl)
           refine pu_ (v := ?_) (a' := ?_) 3 57 (bz 16 15) rfl rfl HT_ (by kernel_rfl) (fun _ _ _ h => h) (by rfl) ?_ ?_ ?_
           rotate_left;(intro w';go_simp;with_reducible rfl);rotate_left;(simp only [Act.put,ls_,lz_,lc_,i64_w,i32_w];rfl)
           refine pu_ (v := ?_) (a' := ?_) 5 59 (bz 16 47) rfl rfl HT_ (by kernel_rfl) (fun _ _ _ h => h) (by rfl) ?_ ?_ ?_
           rotate_left;(intro w';go_simp;with_reducible rfl);rotate_left;(simp only [Act.put,ls_,lz_,lc_,i64_w,i32_w];rfl)
           refine pu_ (v := ?_) (a' := ?_) 6 60 (bz 16 111) rfl rfl HT_ (by kernel_rfl) (fun _ _ _ h => h) (by rfl) ?_ ?_ ?_
           rotate_left;(intro w';go_simp;with_reducible rfl);rotate_left;(simp only [Act.put,ls_,lz_,lc_,i64_w,i32_w];rfl)
           refine on_ (N := some 58) 4 (bz 16 127) rfl rfl HT_ (by kernel_rfl) (by decide) (fun K hK => ?_)
           refine goes_ Tryd.func41 (by kernel_rfl) rfl #[.int .i64 (wrap64 (Int.tdiv a0_0 t421))] (by rfl) rfl rfl (by (try simp only [lm_,lq_,lx_]);first|done|rfl|(simp only [ld_,lt_];rfl)) ?_
           with_reducible refine (neumeref02_abs.calls (wrap64 (Int.tdiv a0_0 t421)) t427 _ A64.out).mono ?_
           rintro e w95 ⟨rfl,hb⟩
           refine ⟨_,rfl,?_⟩
           replace BK414 := kb_ BK414 hb
           replace BK415 := kb_ BK415 hb
           replace BK416 := kb_ BK416 hb
           replace HB := hb_ HB (e_ GE414 (e_ GE415 (e_ GE416 e0_))) hb
           (try clear hb)
           (try clear hb2)
           (try clear hk)
           (try clear hi)
           refine hK.out _ _ trivial (fun hHeld => ?_)
           clear hK K
           refine norm_ (a' := ?_) ?_ ?_
           rotate_left
           ·show Act.put _ (some 58) _ = _
            simp only [Act.put,ls_,lz_,lc_,i64_w,i32_w]
            rfl
           refine pu_ (v := ?_) (a' := ?_) 7 61 (bz 16 255) rfl rfl HT_ (by kernel_rfl) (fun _ _ _ h => h) (by rfl) ?_ ?_ ?_
           rotate_left;(intro w';go_simp;with_reducible rfl);rotate_left;(simp only [Act.put,ls_,lz_,lc_,i64_w,i32_w];rfl)
           refine pu_ (v := ?_) (a' := ?_) 8 62 (bz 16 511) rfl rfl HT_ (by kernel_rfl) (fun _ _ _ h => h) (by rfl) ?_ ?_ ?_
           rotate_left;(intro w';go_simp;with_reducible rfl);rotate_left;(simp only [Act.put,ls_,lz_,lc_,i64_w,i32_w];rfl)
           refine pu_ (v := ?_) (a' := ?_) 9 63 (bz 16 1023) rfl rfl HT_ (by kernel_rfl) (fun _ _ _ h => h) (by rfl) ?_ ?_ ?_
           rotate_left;(intro w';go_simp;with_reducible rfl);rotate_left;(simp only [Act.put,ls_,lz_,lc_,i64_w,i32_w];rfl)
           refine pu_ (v := ?_) (a' := ?_) 10 64 (bz 16 2047) rfl rfl HT_ (by kernel_rfl) (fun _ _ _ h => h) (by rfl) ?_ ?_ ?_
           rotate_left;(intro w';go_simp;with_reducible rfl);rotate_left;(simp only [Act.put,ls_,lz_,lc_,i64_w,i32_w];rfl)
           refine pu_ (v := ?_) (a' := ?_) 12 66 (bz 16 6143) rfl rfl HT_ (by kernel_rfl) (fun _ _ _ h => h) (by rfl) ?_ ?_ ?_
           rotate_left;(intro w';go_simp;with_reducible rfl);rotate_left;(simp only [Act.put,ls_,lz_,lc_,i64_w,i32_w];rfl)
           refine pu_ (v := ?_) (a' := ?_) 13 67 (bz 16 14335) rfl rfl HT_ (by kernel_rfl) (fun _ _ _ h => h) (by rfl) ?_ ?_ ?_
           rotate_left;(intro w';go_simp;with_reducible rfl);rotate_left;(simp only [Act.put,ls_,lz_,lc_,i64_w,i32_w];rfl)
           refine on_ (N := some 65) 11 (bz 16 16383) rfl rfl HT_ (by kernel_rfl) (by decide) (fun K hK => ?_)
           refine goes_ Tryd.func41 (by kernel_rfl) rfl #[.int .i64 (wrap64 (Int.tdiv a1_0 t421))] (by rfl) rfl rfl (by (try simp only [lm_,lq_,lx_]);first|done|rfl|(simp only [ld_,lt_];rfl)) ?_
           with_reducible refine (neumeref02_abs.calls (wrap64 (Int.tdiv a1_0 t421)) t428 _ A76.out).mono ?_
           rintro e w96 ⟨rfl,hb⟩
           refine ⟨_,rfl,?_⟩
           replace BK414 := kb_ BK414 hb
           replace BK415 := kb_ BK415 hb
           replace BK416 := kb_ BK416 hb
           replace HB := hb_ HB (e_ GE414 (e_ GE415 (e_ GE416 e0_))) hb
           (try clear hb)
           (try clear hb2)
           (try clear hk)
           (try clear hi)
           refine hK.out _ _ trivial (fun hHeld => ?_)
           clear hK K
           refine norm_ (a' := ?_) ?_ ?_
           rotate_left
           ·show Act.put _ (some 65) _ = _
            simp only [Act.put,ls_,lz_,lc_,i64_w,i32_w]
            rfl
           refine pu_ (v := ?_) (a' := ?_) 14 68 (bz 16 32767) rfl rfl HT_ (by kernel_rfl) (fun _ _ _ h => h) (by rfl) ?_ ?_ ?_
           rotate_left;(intro w';go_simp;with_reducible rfl);rotate_left;(simp only [Act.put,ls_,lz_,lc_,i64_w,i32_w];rfl)
           refine pu_ (v := ?_) (a' := ?_) 15 69 (bz 16 65535) rfl rfl HT_ (by kernel_rfl) (fun _ _ _ h => h) (by rfl) ?_ ?_ ?_
           rotate_left;(intro w';go_simp;with_reducible rfl);rotate_left;(simp only [Act.put,ls_,lz_,lc_,i64_w,i32_w];rfl)
           refine done_ (done_of HT_.out (by kernel_rfl)) ?_
           try go_wp2_with (first|((with_reducible refine gate_callee (f := 39) rfl ?_);refine goesL_ (some 77) rfl rfl Tryd.func39 (by kernel_rfl) rfl #[.int .i64 (wrap64 ((wrap64 (Int.tdiv a0_0 t421)) * (wrap64 (Int.tdiv a1_1 t422)))),.int .i64 (wrap64 ((wrap64 (Int.tdiv a0_1 t422)) * (wrap64 (Int.tdiv a1_0 t421))))] rfl (by (try simp only [lm_,lq_,lx_]);first|done|rfl|(simp only [ld_,lt_];rfl)) ?_;(with_reducible refine (neumeref02_lowest.calls kj2 (wrap64 ((wrap64 (Int.tdiv a0_0 t421)) * (wrap64 (Int.tdiv a1_1 t422)))) (wrap64 ((wrap64 (Int.tdiv a0_1 t422)) * (wrap64 (Int.tdiv a1_0 t421)))) t429 t430 t431 _ A89.out).mono ?_);rintro e w97 ⟨rfl,hb⟩;refine ⟨_,rfl,?_⟩;replace BK414 := kb_ BK414 hb;replace BK415 := kb_ BK415 hb;replace BK416 := kb_ BK416 hb;replace HB := hb_ HB (e_ GE414 (e_ GE415 (e_ GE416 e0_))) hb;(try clear hb);(try clear hb2);(try clear hk);(try clear hi);have hnb98 := NB416_414.out;have hnc98 := NB414_416.out;have hnb99 := NB416_415.out;have hnc99 := NB415_416.out;have hcz100_0 : w97.cell? ⟨gb416,0,none⟩ = some (.int .i64 0) := (kc_ BK416.out 0).trans rfl;have hcz100_1 : w97.cell? ⟨gb416,1,none⟩ = some (.int .i64 0) := (kc_ BK416.out 1).trans rfl;have hfz100_0 := kf_ BK416.out 0;have hfz100_1 := kf_ BK416.out 1))
           refine bodyPost_ret (results_ct rfl _ _ gb416 25 #[.int .i64 t429,.int .i64 t430] (0,0) _ rfl (by (with_reducible repeat first|apply kn_|apply kd_|apply ka_);refine blk_put (cs := #[.int .i64 t429,.int .i64 0]) ?_ 1 _ rfl;(with_reducible repeat first|apply kn_|apply kd_|apply ka_);refine blk_put (cs := #[.int .i64 0,.int .i64 0]) ?_ 0 _ rfl;(with_reducible repeat first|apply kn_|apply kd_|apply ka_);exact BK416.out) Tryd.underlying25 rfl (by kernel_rfl)) rfl ?_
           exact ⟨by first|rfl|(simp [errW_none,errW_some] <;> rfl)|(simp [*,errW_none,errW_some] <;> rfl),by repeat (first|(with_reducible first|exact HB.out|apply ba_|apply pd_|apply d1_|refine bs_ ?_ GE414.out|refine bs_ ?_ GE415.out|refine bs_ ?_ GE416.out)|exact HB.out)⟩

end Go.Proofs.YtdiccfonlojlfaaDoor.P
