-- Written by a program of this session (wip/tools/xprint.py, over the kit's print): Lean checks it.
import Derived.Test.YtmbdbinbdiiapaaDoorPx0
import Derived.Test.YtmbdbinbdiiapaaDoorPx8
import Derived.Test.YtmbdbinbdiiapaaDoorPx10
import Derived.Test.YtmbdbinbdiiapaaDoorPx11
import Derived.Test.YtmbdbinbdiiapaaDoorPx12
import Derived.Test.YtmbdbinbdiiapaaDoorPx14
namespace Go.Proofs.YtmbdbinbdiiapaaDoor.P
open Go.RowKit Go.Proofs.YtmbdbinbdiiapaaDoorW.PrintWords Go.Proofs.YtmbdbinbdiiapaaDoorW.PrintLast Go.Proofs.YtmbdbinbdiiapaaDoorW.PrintMore
attribute [local go_sem] max2_int min2_int max_two min_two max_three min_three max_four min_four   -- for this text's walks alone
set_option linter.unusedVariables false
set_option linter.unusedSimpArgs false

/-! ### neumeref02_Mod: function 20 -/
def neumeref02_Mod.j0 : Nat → Bool → Int → Int → Int → Int → Option (Int × Int × Int)
 | 0, _, _, _, _, _ => none
 | k + 1, x22, x364000, x364001, x365000, x365001 => if x22 = true then (some (0, 0, 2)) else ((neumeref02_Div.f k x364000 x364001 x365000 x365001).bind fun bt368 => (if bt368.2.2 = 0 then ((neumeref02_Floor.f k bt368.1 bt368.2.1).bind fun t372 => ((neumeref02_Mul.f k x365000 x365001 t372 1).bind fun bt373 => (if bt373.2.2 = 0 then ((neumeref02_Sub.f k x364000 x364001 bt373.1 bt373.2.1).bind fun bt377 => (some (bt377.1, bt377.2.1, bt377.2.2))) else (some (0, 0, bt373.2.2))))) else (some (0, 0, bt368.2.2))))
def neumeref02_Mod.f (k : Nat) (a0_0 : Int) (a0_1 : Int) (a1_0 : Int) (a1_1 : Int) : Option (Int × Int × Int) := (neumeref02_Check.f k a0_0 a0_1).bind fun t366 => (if t366 = true then ((neumeref02_Check.f k a1_0 a1_1).bind fun t367 => (if t367 = true then (neumeref02_Mod.j0 k (decide (a1_0 ≤ 0)) a0_0 a0_1 a1_0 a1_1) else (neumeref02_Mod.j0 k true a0_0 a0_1 a1_0 a1_1))) else (neumeref02_Mod.j0 k true a0_0 a0_1 a1_0 a1_1))
theorem neumeref02_Mod.mono_l : ∀ k, (∀ y0 y1 y2 y3 y4, LeO (neumeref02_Mod.j0 k y0 y1 y2 y3 y4) (neumeref02_Mod.j0 (k + 1) y0 y1 y2 y3 y4))
 | 0 => fun _ _ _ _ _ r h => by simp [neumeref02_Mod.j0] at h
 | k + 1 => by
  have ih0 := neumeref02_Mod.mono_l k
  ·intro y0 y1 y2 y3 y4
   unfold neumeref02_Mod.j0
   repeat' first
   | (with_reducible exact ih0 _ _ _ _ _)
   | (with_reducible exact neumeref02_Check.mono _ _ _)
   | (with_reducible exact neumeref02_Div.mono _ _ _ _ _)
   | (with_reducible exact neumeref02_Floor.mono _ _ _)
   | (with_reducible exact neumeref02_Mul.mono _ _ _ _ _)
   | (with_reducible exact neumeref02_Sub.mono _ _ _ _ _)
   | (with_reducible exact LeO.refl _)
   | (with_reducible exact LeO.none _)
   | (with_reducible refine LeO.ite ?_ ?_)
   | (with_reducible refine LeO.bind ?_ (fun _ => ?_))
   | exact ih0 _ _ _ _ _
   | exact neumeref02_Check.mono _ _ _
   | exact neumeref02_Div.mono _ _ _ _ _
   | exact neumeref02_Floor.mono _ _ _
   | exact neumeref02_Mul.mono _ _ _ _ _
   | exact neumeref02_Sub.mono _ _ _ _ _
   | exact LeO.none _
   | refine LeO.ite ?_ ?_
   | refine LeO.bind ?_ (fun _ => ?_)
theorem neumeref02_Mod.mono : ∀ a0 a1 a2 a3 k, LeO (neumeref02_Mod.f k a0 a1 a2 a3) (neumeref02_Mod.f (k + 1) a0 a1 a2 a3) := by
 intro a0 a1 a2 a3 k
 have ih0 := neumeref02_Mod.mono_l k
 unfold neumeref02_Mod.f
 repeat' first
   | (with_reducible exact ih0 _ _ _ _ _)
   | (with_reducible exact neumeref02_Check.mono _ _ _)
   | (with_reducible exact neumeref02_Div.mono _ _ _ _ _)
   | (with_reducible exact neumeref02_Floor.mono _ _ _)
   | (with_reducible exact neumeref02_Mul.mono _ _ _ _ _)
   | (with_reducible exact neumeref02_Sub.mono _ _ _ _ _)
   | (with_reducible exact LeO.refl _)
   | (with_reducible exact LeO.none _)
   | (with_reducible refine LeO.ite ?_ ?_)
   | (with_reducible refine LeO.bind ?_ (fun _ => ?_))
   | exact ih0 _ _ _ _ _
   | exact neumeref02_Check.mono _ _ _
   | exact neumeref02_Div.mono _ _ _ _ _
   | exact neumeref02_Floor.mono _ _ _
   | exact neumeref02_Mul.mono _ _ _ _ _
   | exact neumeref02_Sub.mono _ _ _ _ _
   | exact LeO.none _
   | refine LeO.ite ?_ ?_
   | refine LeO.bind ?_ (fun _ => ?_)
def neumeref02_Mod.T6 : Bool × List (List Nat × List Nat) := (true, [([], []), ([], []), ([1], [1]), ([2], [2]), ([0, 3, 2], [0, 3]), ([4], [4]), ([5], [5]), ([5], [5]), ([], []), ([8, 6, 4, 0, 1, 2, 3, 4, 5, 6, 8], [6, 8]), ([7, 9, 0, 1, 2, 3, 4, 5, 6, 7, 8, 9], [7])])
def neumeref02_Mod.B6 : List Nat := [0, 0, 2, 6, 15, 31, 63, 63, 0, 383, 1023]
theorem neumeref02_Mod.tab6 : rtab .any (opsOf Tryd.f20 6) = neumeref02_Mod.T6 := by kernel_rfl
theorem neumeref02_Mod.bits6 : waitsOk neumeref02_Mod.T6.2 neumeref02_Mod.B6 = true := by kernel_rfl
set_option maxHeartbeats 8000000 in
set_option maxRecDepth 100000 in
theorem neumeref02_Mod.calls (k : Nat) (a0_0 : Int) (a0_1 : Int) (a1_0 : Int) (a1_1 : Int) (r1 : Int) (r2 : Int) (r3 : Int) (w : World) (h : neumeref02_Mod.f k a0_0 a0_1 a1_0 a1_1 = some (r1, r2, r3)) :
  Calls Tryd.prog 20 #[.agg #[.int .i64 a0_0,.int .i64 a0_1],.agg #[.int .i64 a1_0,.int .i64 a1_1]] w fun e w' => e = .returned (.tuple #[.agg #[.int .i64 r1,.int .i64 r2],.int .i64 r3]) ∧ Below w.heap.size w w' := by
 have hu23 := Tryd.underlying23
 have HB := sd_ (Below.refl w.heap.size w)
 have H : ((neumeref02_Check.f k a0_0 a0_1).bind fun t366 => (if t366 = true then ((neumeref02_Check.f k a1_0 a1_1).bind fun t367 => (if t367 = true then (neumeref02_Mod.j0 k (decide (a1_0 ≤ 0)) a0_0 a0_1 a1_0 a1_1) else (neumeref02_Mod.j0 k true a0_0 a0_1 a1_0 a1_1))) else (neumeref02_Mod.j0 k true a0_0 a0_1 a1_0 a1_1))) = some (r1,r2,r3) := h
 clear h
 have HC3 := sd_ H
 clear H
 go_enter Tryd.func20,Tryd.ntmps20
 go_upto_region 1 with (first|((with_reducible refine gate_dst (N := 2) rfl ?_);refine box_event ?hg (N := 2) ?hd (cs := #[.int .i64 a0_0,.int .i64 a0_1]) (t := 23) ?hr ?_;(case hd => rfl);(case hg => rfl);(case hr => first|(go_simp;done)|(go_simp;rfl));intro gb363 hg w4 hbox hb;have BK363 := sd_ hbox;have GW363 := gw_ HB e0_ hg;have GE363 := GW363;replace HB := hb_ HB e0_ hb;clear hb hbox hg)|((with_reducible refine gate_dst (N := 3) rfl ?_);refine box_event ?hg (N := 3) ?hd (cs := #[.int .i64 a1_0,.int .i64 a1_1]) (t := 23) ?hr ?_;(case hd => rfl);(case hg => rfl);(case hr => first|(go_simp;done)|(go_simp;rfl));intro gb364 hg w5 hbox hb;have BK364 := sd_ hbox;have GW364 := gw_ HB (e_ GE363 e0_) hg;have GE364 := GW364;have NB363_364 := nb_ BK363 hg;have NB364_363 := sy_ NB363_364;replace BK363 := kb_ BK363 hb;replace HB := hb_ HB (e_ GE363 e0_) hb;clear hb hbox hg)|((with_reducible refine gate_dst (N := 4) rfl ?_);refine box_event ?hg (N := 4) ?hd (cs := #[.int .i64 0,.int .i64 0]) (t := 23) ?hr ?_;(case hd => rfl);(case hg => rfl);(case hr => first|(go_simp;done)|(go_simp;rfl));intro gb365 hg w6 hbox hb;have BK365 := sd_ hbox;have GW365 := gw_ HB (e_ GE363 (e_ GE364 e0_)) hg;have GE365 := GW365;have NB363_365 := nb_ BK363 hg;have NB365_363 := sy_ NB363_365;have NB364_365 := nb_ BK364 hg;have NB365_364 := sy_ NB364_365;replace BK363 := kb_ BK363 hb;replace BK364 := kb_ BK364 hb;replace HB := hb_ HB (e_ GE363 (e_ GE364 e0_)) hb;clear hb hbox hg))
 (try simp only [Act.put,ls_,lz_,lc_])
 go_cut [22] (fun v22 wc => ∃ (kq : Nat) (x22_2 : Bool),v22 = .bool x22_2 ∧ Aside0 (neumeref02_Mod.j0 kq x22_2 a0_0 a0_1 a1_0 a1_1 = some (r1,r2,r3)) ∧ Aside0 (kq ≤ k) ∧ Aside0 (wc.heap[gb363]? = some (.cells #[.int .i64 a0_0,.int .i64 a0_1] 23 (0,0))) ∧ Aside0 (wc.heap[gb364]? = some (.cells #[.int .i64 a1_0,.int .i64 a1_1] 23 (0,0))) ∧ Aside0 (wc.heap[gb365]? = some (.cells #[.int .i64 0,.int .i64 0] 23 (0,0))) ∧ Aside0 (Below w.heap.size w wc))
 case first =>
  have H := HC3.out
  clear HC3
  replace H := ob_ H
  obtain ⟨t366,A70,H⟩ := H
  replace H : (if t366 = true then ((neumeref02_Check.f k a1_0 a1_1).bind fun t367 => (if t367 = true then (neumeref02_Mod.j0 k (decide (a1_0 ≤ 0)) a0_0 a0_1 a1_0 a1_1) else (neumeref02_Mod.j0 k true a0_0 a0_1 a1_0 a1_1))) else (neumeref02_Mod.j0 k true a0_0 a0_1 a1_0 a1_1)) = some (r1,r2,r3) := H
  have A7 := sd_ A70
  clear A70
  by_cases c8 : t366 = true
  ·subst c8
   have H1 : ((neumeref02_Check.f k a1_0 a1_1).bind fun t367 => (if t367 = true then (neumeref02_Mod.j0 k (decide (a1_0 ≤ 0)) a0_0 a0_1 a1_0 a1_1) else (neumeref02_Mod.j0 k true a0_0 a0_1 a1_0 a1_1))) = some (r1,r2,r3) := by rw [if_pos rfl] at H;exact H
   clear H;have H := H1;clear H1
   replace H := ob_ H
   obtain ⟨t367,A90,H⟩ := H
   replace H : (if t367 = true then (neumeref02_Mod.j0 k (decide (a1_0 ≤ 0)) a0_0 a0_1 a1_0 a1_1) else (neumeref02_Mod.j0 k true a0_0 a0_1 a1_0 a1_1)) = some (r1,r2,r3) := H
   have A9 := sd_ A90
   clear A90
   by_cases c10 : t367 = true
   ·subst c10
    have H1 : (neumeref02_Mod.j0 k (decide (a1_0 ≤ 0)) a0_0 a0_1 a1_0 a1_1) = some (r1,r2,r3) := by rw [if_pos rfl] at H;exact H
    clear H;have H := H1;clear H1
    have H' := sd_ H
    clear H
    have hnb11 := NB363_364.out
    have hnc11 := NB364_363.out
    have hnb12 := NB363_365.out
    have hnc12 := NB365_363.out
    have hcz13_0 : w6.cell? ⟨gb363,0,none⟩ = some (.int .i64 a0_0) := (kc_ BK363.out 0).trans rfl
    have hcz13_1 : w6.cell? ⟨gb363,1,none⟩ = some (.int .i64 a0_1) := (kc_ BK363.out 1).trans rfl
    have hfz13_0 := kf_ BK363.out 0
    have hfz13_1 := kf_ BK363.out 1
    go_wp2_with (first|((with_reducible refine gate_callee (f := 30) rfl ?_);refine goesL_ (some 11) rfl rfl Tryd.func30 (by kernel_rfl) rfl #[.agg #[.int .i64 a0_0,.int .i64 a0_1]] rfl (by (try simp only [lm_,lq_,lx_]);first|done|rfl|(simp only [ld_,lt_];rfl)) ?_;(with_reducible refine (neumeref02_Check.calls k a0_0 a0_1 true _ A7.out).mono ?_);rintro e w14 ⟨rfl,hb⟩;refine ⟨_,rfl,?_⟩;replace BK363 := kb_ BK363 hb;replace BK364 := kb_ BK364 hb;replace BK365 := kb_ BK365 hb;replace HB := hb_ HB (e_ GE363 (e_ GE364 (e_ GE365 e0_))) hb;(try clear hb);(try clear hb2);(try clear hk);(try clear hi);have hnb15 := NB364_365.out;have hnc15 := NB365_364.out;have hcz16_0 : w14.cell? ⟨gb364,0,none⟩ = some (.int .i64 a1_0) := (kc_ BK364.out 0).trans rfl;have hcz16_1 : w14.cell? ⟨gb364,1,none⟩ = some (.int .i64 a1_1) := (kc_ BK364.out 1).trans rfl;have hfz16_0 := kf_ BK364.out 0;have hfz16_1 := kf_ BK364.out 1)|(go_at_call 30;(with_reducible refine (neumeref02_Check.calls k a1_0 a1_1 true _ A9.out).mono ?_);rintro e w17 ⟨rfl,hb⟩;replace BK363 := kb_ BK363 hb;replace BK364 := kb_ BK364 hb;replace BK365 := kb_ BK365 hb;replace HB := hb_ HB (e_ GE363 (e_ GE364 (e_ GE365 e0_))) hb;(try clear hb);(try clear hb2);(try clear hk);(try clear hi);have hcz18_0 : w17.cell? ⟨gb364,0,none⟩ = some (.int .i64 a1_0) := (kc_ BK364.out 0).trans rfl;have hcz18_1 : w17.cell? ⟨gb364,1,none⟩ = some (.int .i64 a1_1) := (kc_ BK364.out 1).trans rfl;have hfz18_0 := kf_ BK364.out 0;have hfz18_1 := kf_ BK364.out 1))
    go_meet
    case rel => exact ⟨_,(decide (a1_0 ≤ 0)),(by first|rfl|(simp;done)|(simp [*];done)|(simp [bne];done)),H',⟨by first|omega|exact Nat.le_refl _⟩,⟨by (with_reducible repeat first|apply kn_|apply kd_|apply ka_);exact BK363.out⟩,⟨by (with_reducible repeat first|apply kn_|apply kd_|apply ka_);exact BK364.out⟩,⟨by (with_reducible repeat first|apply kn_|apply kd_|apply ka_);exact BK365.out⟩,⟨by repeat (first|(with_reducible first|exact HB.out|apply ba_|apply pd_|apply d1_|refine bs_ ?_ GE363.out|refine bs_ ?_ GE364.out|refine bs_ ?_ GE365.out)|exact HB.out)⟩⟩
   ·replace c10 := bf_ c10
    subst c10
    have H1 : (neumeref02_Mod.j0 k true a0_0 a0_1 a1_0 a1_1) = some (r1,r2,r3) := by rw [if_neg (show ¬ (false = true) by decide)] at H;exact H
    clear H;have H := H1;clear H1
    have H' := sd_ H
    clear H
    have hnb19 := NB363_364.out
    have hnc19 := NB364_363.out
    have hnb20 := NB363_365.out
    have hnc20 := NB365_363.out
    have hcz21_0 : w6.cell? ⟨gb363,0,none⟩ = some (.int .i64 a0_0) := (kc_ BK363.out 0).trans rfl
    have hcz21_1 : w6.cell? ⟨gb363,1,none⟩ = some (.int .i64 a0_1) := (kc_ BK363.out 1).trans rfl
    have hfz21_0 := kf_ BK363.out 0
    have hfz21_1 := kf_ BK363.out 1
    go_wp2_with (first|((with_reducible refine gate_callee (f := 30) rfl ?_);refine goesL_ (some 11) rfl rfl Tryd.func30 (by kernel_rfl) rfl #[.agg #[.int .i64 a0_0,.int .i64 a0_1]] rfl (by (try simp only [lm_,lq_,lx_]);first|done|rfl|(simp only [ld_,lt_];rfl)) ?_;(with_reducible refine (neumeref02_Check.calls k a0_0 a0_1 true _ A7.out).mono ?_);rintro e w22 ⟨rfl,hb⟩;refine ⟨_,rfl,?_⟩;replace BK363 := kb_ BK363 hb;replace BK364 := kb_ BK364 hb;replace BK365 := kb_ BK365 hb;replace HB := hb_ HB (e_ GE363 (e_ GE364 (e_ GE365 e0_))) hb;(try clear hb);(try clear hb2);(try clear hk);(try clear hi);have hnb23 := NB364_365.out;have hnc23 := NB365_364.out;have hcz24_0 : w22.cell? ⟨gb364,0,none⟩ = some (.int .i64 a1_0) := (kc_ BK364.out 0).trans rfl;have hcz24_1 : w22.cell? ⟨gb364,1,none⟩ = some (.int .i64 a1_1) := (kc_ BK364.out 1).trans rfl;have hfz24_0 := kf_ BK364.out 0;have hfz24_1 := kf_ BK364.out 1)|(go_at_call 30;(with_reducible refine (neumeref02_Check.calls k a1_0 a1_1 false _ A9.out).mono ?_);rintro e w25 ⟨rfl,hb⟩;replace BK363 := kb_ BK363 hb;replace BK364 := kb_ BK364 hb;replace BK365 := kb_ BK365 hb;replace HB := hb_ HB (e_ GE363 (e_ GE364 (e_ GE365 e0_))) hb;(try clear hb);(try clear hb2);(try clear hk);(try clear hi)))
    go_meet
    case rel => exact ⟨_,(true),(by first|rfl|(simp;done)|(simp [*];done)|(simp [bne];done)),H',⟨by first|omega|exact Nat.le_refl _⟩,⟨by (with_reducible repeat first|apply kn_|apply kd_|apply ka_);exact BK363.out⟩,⟨by (with_reducible repeat first|apply kn_|apply kd_|apply ka_);exact BK364.out⟩,⟨by (with_reducible repeat first|apply kn_|apply kd_|apply ka_);exact BK365.out⟩,⟨by repeat (first|(with_reducible first|exact HB.out|apply ba_|apply pd_|apply d1_|refine bs_ ?_ GE363.out|refine bs_ ?_ GE364.out|refine bs_ ?_ GE365.out)|exact HB.out)⟩⟩
  ·replace c8 := bf_ c8
   subst c8
   have H1 : (neumeref02_Mod.j0 k true a0_0 a0_1 a1_0 a1_1) = some (r1,r2,r3) := by rw [if_neg (show ¬ (false = true) by decide)] at H;exact H
   clear H;have H := H1;clear H1
   have H' := sd_ H
   clear H
   have hnb26 := NB363_364.out
   have hnc26 := NB364_363.out
   have hnb27 := NB363_365.out
   have hnc27 := NB365_363.out
   have hcz28_0 : w6.cell? ⟨gb363,0,none⟩ = some (.int .i64 a0_0) := (kc_ BK363.out 0).trans rfl
   have hcz28_1 : w6.cell? ⟨gb363,1,none⟩ = some (.int .i64 a0_1) := (kc_ BK363.out 1).trans rfl
   have hfz28_0 := kf_ BK363.out 0
   have hfz28_1 := kf_ BK363.out 1
   go_wp2_with (first|((with_reducible refine gate_callee (f := 30) rfl ?_);refine goesL_ (some 11) rfl rfl Tryd.func30 (by kernel_rfl) rfl #[.agg #[.int .i64 a0_0,.int .i64 a0_1]] rfl (by (try simp only [lm_,lq_,lx_]);first|done|rfl|(simp only [ld_,lt_];rfl)) ?_;(with_reducible refine (neumeref02_Check.calls k a0_0 a0_1 false _ A7.out).mono ?_);rintro e w29 ⟨rfl,hb⟩;refine ⟨_,rfl,?_⟩;replace BK363 := kb_ BK363 hb;replace BK364 := kb_ BK364 hb;replace BK365 := kb_ BK365 hb;replace HB := hb_ HB (e_ GE363 (e_ GE364 (e_ GE365 e0_))) hb;(try clear hb);(try clear hb2);(try clear hk);(try clear hi)))
   go_meet
   case rel => exact ⟨_,(true),(by first|rfl|(simp;done)|(simp [*];done)|(simp [bne];done)),H',⟨by first|omega|exact Nat.le_refl _⟩,⟨by (with_reducible repeat first|apply kn_|apply kd_|apply ka_);exact BK363.out⟩,⟨by (with_reducible repeat first|apply kn_|apply kd_|apply ka_);exact BK364.out⟩,⟨by (with_reducible repeat first|apply kn_|apply kd_|apply ka_);exact BK365.out⟩,⟨by repeat (first|(with_reducible first|exact HB.out|apply ba_|apply pd_|apply d1_|refine bs_ ?_ GE363.out|refine bs_ ?_ GE364.out|refine bs_ ?_ GE365.out)|exact HB.out)⟩⟩
 case rest =>
  clear HC3
  try clear c1;try clear c2;try clear p2;try clear c3;try clear c8;try clear c10;try clear c11;try clear c12;try clear c15;try clear c19;try clear c20;try clear c23;try clear c26;try clear c27;try clear hcz13_0;try clear hcz13_1;try clear hcz16_0;try clear hcz16_1;try clear hcz18_0;try clear hcz18_1;try clear hcz21_0;try clear hcz21_1;try clear hcz24_0;try clear hcz24_1;try clear hcz28_0;try clear hcz28_1;try clear hfz13_0;try clear hfz13_1;try clear hfz16_0;try clear hfz16_1;try clear hfz18_0;try clear hfz18_1;try clear hfz21_0;try clear hfz21_1;try clear hfz24_0;try clear hfz24_1;try clear hfz28_0;try clear hfz28_1
  obtain ⟨kq,x22_2,rfl,HA,HJ2,BK363,BK364,BK365,HB⟩ := hcut
  cases kq with
  | zero => exact absurd HA.out (by simp [neumeref02_Mod.j0])
  | succ kj2 =>
   have H := HA.out
   clear HA
   simp only [neumeref02_Mod.j0] at H
   by_cases c30 : x22_2 = true
   ·subst c30
    have H1 : (some (0,0,2)) = some (r1,r2,r3) := by rw [if_pos rfl] at H;exact H
    clear H;have H := H1;clear H1
    simp only [Option.some.injEq,Prod.mk.injEq] at H
    obtain ⟨rfl,rfl,rfl⟩ := H
    have hnb31 := NB365_363.out
    have hnc31 := NB363_365.out
    have hnb32 := NB365_364.out
    have hnc32 := NB364_365.out
    have hcz33_0 : wc.cell? ⟨gb365,0,none⟩ = some (.int .i64 0) := (kc_ BK365.out 0).trans rfl
    have hcz33_1 : wc.cell? ⟨gb365,1,none⟩ = some (.int .i64 0) := (kc_ BK365.out 1).trans rfl
    have hfz33_0 := kf_ BK365.out 0
    have hfz33_1 := kf_ BK365.out 1
    go_wp2
    refine bodyPost_ret (results_ct rfl _ _ gb365 23 #[.int .i64 0,.int .i64 0] (0,0) _ rfl (by (with_reducible repeat first|apply kn_|apply kd_|apply ka_);refine blk_put (cs := #[.int .i64 0,.int .i64 0]) ?_ 1 _ rfl;(with_reducible repeat first|apply kn_|apply kd_|apply ka_);refine blk_put (cs := #[.int .i64 0,.int .i64 0]) ?_ 0 _ rfl;(with_reducible repeat first|apply kn_|apply kd_|apply ka_);exact BK365.out) Tryd.underlying23 rfl (by kernel_rfl)) rfl ?_
    exact ⟨by first|rfl|(simp [errW_none,errW_some] <;> rfl)|(simp [*,errW_none,errW_some] <;> rfl),by repeat (first|(with_reducible first|exact HB.out|apply ba_|apply pd_|apply d1_|refine bs_ ?_ GE363.out|refine bs_ ?_ GE364.out|refine bs_ ?_ GE365.out)|exact HB.out)⟩
   ·replace c30 := bf_ c30
    subst c30
    have H1 : ((neumeref02_Div.f kj2 a0_0 a0_1 a1_0 a1_1).bind fun bt368 => (if bt368.2.2 = 0 then ((neumeref02_Floor.f kj2 bt368.1 bt368.2.1).bind fun t372 => ((neumeref02_Mul.f kj2 a1_0 a1_1 t372 1).bind fun bt373 => (if bt373.2.2 = 0 then ((neumeref02_Sub.f kj2 a0_0 a0_1 bt373.1 bt373.2.1).bind fun bt377 => (some (bt377.1,bt377.2.1,bt377.2.2))) else (some (0,0,bt373.2.2))))) else (some (0,0,bt368.2.2)))) = some (r1,r2,r3) := by rw [if_neg (show ¬ (false = true) by decide)] at H;exact H
    clear H;have H := H1;clear H1
    replace H := ob_ H
    obtain ⟨⟨t368,t369,t370⟩,A340,H⟩ := H
    replace H : (if t370 = 0 then ((neumeref02_Floor.f kj2 t368 t369).bind fun t372 => ((neumeref02_Mul.f kj2 a1_0 a1_1 t372 1).bind fun bt373 => (if bt373.2.2 = 0 then ((neumeref02_Sub.f kj2 a0_0 a0_1 bt373.1 bt373.2.1).bind fun bt377 => (some (bt377.1,bt377.2.1,bt377.2.2))) else (some (0,0,bt373.2.2))))) else (some (0,0,t370))) = some (r1,r2,r3) := H
    have A34 := sd_ A340
    clear A340
    by_cases c35 : t370 = 0
    ·rw [if_pos c35] at H
     have c35b0 : (t370 == 0) = true := beq_iff_eq.mpr c35
     have c35b1 : (t370 != 0) = false := bne_eq_false_iff_eq.mpr c35
     clear c35
     replace H := ob_ H
     obtain ⟨t372,A360,H⟩ := H
     replace H : ((neumeref02_Mul.f kj2 a1_0 a1_1 t372 1).bind fun bt373 => (if bt373.2.2 = 0 then ((neumeref02_Sub.f kj2 a0_0 a0_1 bt373.1 bt373.2.1).bind fun bt377 => (some (bt377.1,bt377.2.1,bt377.2.2))) else (some (0,0,bt373.2.2)))) = some (r1,r2,r3) := H
     have A36 := sd_ A360
     clear A360
     replace H := ob_ H
     obtain ⟨⟨t373,t374,t375⟩,A370,H⟩ := H
     replace H : (if t375 = 0 then ((neumeref02_Sub.f kj2 a0_0 a0_1 t373 t374).bind fun bt377 => (some (bt377.1,bt377.2.1,bt377.2.2))) else (some (0,0,t375))) = some (r1,r2,r3) := H
     have A37 := sd_ A370
     clear A370
     by_cases c38 : t375 = 0
     ·rw [if_pos c38] at H
      have c38b0 : (t375 == 0) = true := beq_iff_eq.mpr c38
      have c38b1 : (t375 != 0) = false := bne_eq_false_iff_eq.mpr c38
      clear c38
      replace H := ob_ H
      obtain ⟨⟨t377,t378,t379⟩,A390,H⟩ := H
      replace H : (some (t377,t378,t379)) = some (r1,r2,r3) := H
      have A39 := sd_ A390
      clear A390
      simp only [Option.some.injEq,Prod.mk.injEq] at H
      obtain ⟨rfl,rfl,rfl⟩ := H
      have hnb40 := NB363_364.out
      have hnc40 := NB364_363.out
      have hnb41 := NB363_365.out
      have hnc41 := NB365_363.out
      have hcz42_0 : wc.cell? ⟨gb363,0,none⟩ = some (.int .i64 a0_0) := (kc_ BK363.out 0).trans rfl
      have hcz42_1 : wc.cell? ⟨gb363,1,none⟩ = some (.int .i64 a0_1) := (kc_ BK363.out 1).trans rfl
      have hfz42_0 := kf_ BK363.out 0
      have hfz42_1 := kf_ BK363.out 1
      have hnb43 := NB364_365.out
      have hnc43 := NB365_364.out
      have hcz44_0 : wc.cell? ⟨gb364,0,none⟩ = some (.int .i64 a1_0) := (kc_ BK364.out 0).trans rfl
      have hcz44_1 : wc.cell? ⟨gb364,1,none⟩ = some (.int .i64 a1_1) := (kc_ BK364.out 1).trans rfl
      have hfz44_0 := kf_ BK364.out 0
      have hfz44_1 := kf_ BK364.out 1
      try go_wp2_with (first|((with_reducible refine gate_callee (f := 15) rfl ?_);refine goesL_ (some 27) rfl rfl Tryd.func15 (by kernel_rfl) rfl #[.agg #[.int .i64 a0_0,.int .i64 a0_1],.agg #[.int .i64 a1_0,.int .i64 a1_1]] rfl (by (try simp only [lm_,lq_,lx_]);first|done|rfl|(simp only [ld_,lt_];rfl)) ?_;(with_reducible refine (neumeref02_Div.calls kj2 a0_0 a0_1 a1_0 a1_1 t368 t369 t370 _ A34.out).mono ?_);rintro e w45 ⟨rfl,hb⟩;refine ⟨_,rfl,?_⟩;replace BK363 := kb_ BK363 hb;replace BK364 := kb_ BK364 hb;replace BK365 := kb_ BK365 hb;replace HB := hb_ HB (e_ GE363 (e_ GE364 (e_ GE365 e0_))) hb;(try clear hb);(try clear hb2);(try clear hk);(try clear hi))|((with_reducible refine gate_dst (N := 6) rfl ?_);refine box_event ?hg (N := 6) ?hd (cs := #[.int .i64 0,.int .i64 0]) (t := 23) ?hr ?_;(case hd => rfl);(case hg => rfl);(case hr => first|(go_simp;done)|(go_simp;rfl));intro gb371 hg w46 hbox hb;have BK371 := sd_ hbox;have GW371 := gw_ HB (e_ GE363 (e_ GE364 (e_ GE365 e0_))) hg;have GE371 := GW371;have NB363_371 := nb_ BK363 hg;have NB371_363 := sy_ NB363_371;have NB364_371 := nb_ BK364 hg;have NB371_364 := sy_ NB364_371;have NB365_371 := nb_ BK365 hg;have NB371_365 := sy_ NB365_371;replace BK363 := kb_ BK363 hb;replace BK364 := kb_ BK364 hb;replace BK365 := kb_ BK365 hb;replace HB := hb_ HB (e_ GE363 (e_ GE364 (e_ GE365 e0_))) hb;clear hb hbox hg;have hnb47 := NB371_363.out;have hnc47 := NB363_371.out;have hnb48 := NB371_364.out;have hnc48 := NB364_371.out;have hnb49 := NB371_365.out;have hnc49 := NB365_371.out;have hcz50_0 : w46.cell? ⟨gb371,0,none⟩ = some (.int .i64 0) := (kc_ BK371.out 0).trans rfl;have hcz50_1 : w46.cell? ⟨gb371,1,none⟩ = some (.int .i64 0) := (kc_ BK371.out 1).trans rfl;have hfz50_0 := kf_ BK371.out 0;have hfz50_1 := kf_ BK371.out 1))
      have n0_ : Aside0 (((w46.setCell ⟨gb371,0,none⟩ (.int .i64 t368)).setCell ⟨gb371,1,none⟩ (.int .i64 t369)).heap[gb363]? = some (.cells #[.int .i64 a0_0,.int .i64 a0_1] 23 (0,0))) := ⟨by (with_reducible repeat first|apply kn_|apply kd_|apply ka_);refine blk_far ?_ NB363_371.out _;(with_reducible repeat first|apply kn_|apply kd_|apply ka_);refine blk_far ?_ NB363_371.out _;(with_reducible repeat first|apply kn_|apply kd_|apply ka_);exact BK363.out⟩
      have n1_ : Aside0 (((w46.setCell ⟨gb371,0,none⟩ (.int .i64 t368)).setCell ⟨gb371,1,none⟩ (.int .i64 t369)).heap[gb364]? = some (.cells #[.int .i64 a1_0,.int .i64 a1_1] 23 (0,0))) := ⟨by (with_reducible repeat first|apply kn_|apply kd_|apply ka_);refine blk_far ?_ NB364_371.out _;(with_reducible repeat first|apply kn_|apply kd_|apply ka_);refine blk_far ?_ NB364_371.out _;(with_reducible repeat first|apply kn_|apply kd_|apply ka_);exact BK364.out⟩
      have n2_ : Aside0 (((w46.setCell ⟨gb371,0,none⟩ (.int .i64 t368)).setCell ⟨gb371,1,none⟩ (.int .i64 t369)).heap[gb365]? = some (.cells #[.int .i64 0,.int .i64 0] 23 (0,0))) := ⟨by (with_reducible repeat first|apply kn_|apply kd_|apply ka_);refine blk_far ?_ NB365_371.out _;(with_reducible repeat first|apply kn_|apply kd_|apply ka_);refine blk_far ?_ NB365_371.out _;(with_reducible repeat first|apply kn_|apply kd_|apply ka_);exact BK365.out⟩
      have n3_ : Aside0 (((w46.setCell ⟨gb371,0,none⟩ (.int .i64 t368)).setCell ⟨gb371,1,none⟩ (.int .i64 t369)).heap[gb371]? = some (.cells #[.int .i64 t368,.int .i64 t369] 23 (0,0))) := ⟨by (with_reducible repeat first|apply kn_|apply kd_|apply ka_);refine blk_put (cs := #[.int .i64 t368,.int .i64 0]) ?_ 1 _ rfl;(with_reducible repeat first|apply kn_|apply kd_|apply ka_);refine blk_put (cs := #[.int .i64 0,.int .i64 0]) ?_ 0 _ rfl;(with_reducible repeat first|apply kn_|apply kd_|apply ka_);exact BK371.out⟩
      have n4_ : Aside0 (Below w.heap.size w ((w46.setCell ⟨gb371,0,none⟩ (.int .i64 t368)).setCell ⟨gb371,1,none⟩ (.int .i64 t369))) := ⟨by repeat (first|(with_reducible first|exact HB.out|apply ba_|apply pd_|apply d1_|refine bs_ ?_ GE363.out|refine bs_ ?_ GE364.out|refine bs_ ?_ GE365.out|refine bs_ ?_ GE371.out)|exact HB.out)⟩
      (try clear BK363)
      (try clear BK364)
      (try clear BK365)
      (try clear BK371)
      (try clear HB)
      generalize ((w46.setCell ⟨gb371,0,none⟩ (.int .i64 t368)).setCell ⟨gb371,1,none⟩ (.int .i64 t369)) = w51 at n0_ n1_ n2_ n3_ n4_ ⊢
      have BK363 := n0_
      have BK364 := n1_
      have BK365 := n2_
      have BK371 := n3_
      have HB := n4_
      clear n0_ n1_ n2_ n3_ n4_
      replace BK363 := sd_ (kd_ BK363.out)
      replace BK364 := sd_ (kd_ BK364.out)
      replace BK365 := sd_ (kd_ BK365.out)
      replace BK371 := sd_ (kd_ BK371.out)
      replace HB := sd_ (d1_ HB.out)
      refine start_ (n := 11) (S := fun w' => w'.cell? ⟨gb364,0,none⟩ = some (.int .i64 a1_0) ∧ w'.cell? ⟨gb364,1,none⟩ = some (.int .i64 a1_1) ∧ w'.cell? ⟨gb371,0,none⟩ = some (.int .i64 t368) ∧ w'.cell? ⟨gb371,1,none⟩ = some (.int .i64 t369)) (ds := []) (Array.replicate 11 false) (by kernel_rfl) rfl rfl ⟨(kc_ BK364.out 0).trans rfl,(kc_ BK364.out 1).trans rfl,(kc_ BK371.out 0).trans rfl,(kc_ BK371.out 1).trans rfl⟩ (fun hHeld => ?_);refine with_tabW neumeref02_Mod.tab6 neumeref02_Mod.bits6 (fun HT_ HW_ => ?_)
      generalize w51.drew = w52 at BK363 BK364 BK365 BK371 HB hHeld ⊢
      refine ta_ (v := ?_) (a' := ?_) 0 35 (bz 11 1) rfl rfl HT_ HW_ (by kernel_rfl) (fun _ _ _ h => h) (by rfl) ?_ hHeld ?_ ?_
      rotate_left
      ·rintro w' ⟨s0,s1,s2,s3⟩
       go_simp
       with_reducible rfl
      rotate_left
      ·simp only [Act.put,ls_,lz_,lc_,i64_w,i32_w]
       rfl
      refine ta_ (v := ?_) (a' := ?_) 1 36 (bz 11 3) rfl rfl HT_ HW_ (by kernel_rfl) (fun _ _ _ h => h) (by rfl) ?_ hHeld ?_ ?_
      rotate_left
      ·rintro w' ⟨s0,s1,s2,s3⟩
       go_simp
       with_reducible rfl
      rotate_left
      ·simp only [Act.put,ls_,lz_,lc_,i64_w,i32_w]
       rfl
      refine join_ (σ := Nat) 2 (bz 11 511) (fun s_ => [(37,.int .i64 t372),(39,.tuple #[.agg #[.int .i64 t373,.int .i64 t374],.int .i64 t375]),(8,.pointer (some ⟨s_,0,none⟩)),(38,.agg #[.int .i64 t372,.int .i64 1]),(34,.tuple #[.agg #[.int .i64 t373,.int .i64 t374],.int .i64 t375]),(40,.agg #[.int .i64 t373,.int .i64 t374]),(41,.int .i64 t375)]) (fun s_ w' => (w'.cell? ⟨gb364,0,none⟩ = some (.int .i64 a1_0) ∧ w'.cell? ⟨gb364,1,none⟩ = some (.int .i64 a1_1) ∧ w'.cell? ⟨gb371,0,none⟩ = some (.int .i64 t368) ∧ w'.cell? ⟨gb371,1,none⟩ = some (.int .i64 t369)) ∧ (w'.heap[gb363]? = some (.cells #[.int .i64 a0_0,.int .i64 a0_1] 23 (0,0))) ∧ (w'.heap[gb364]? = some (.cells #[.int .i64 a1_0,.int .i64 a1_1] 23 (0,0))) ∧ (w'.heap[gb365]? = some (.cells #[.int .i64 0,.int .i64 0] 23 (0,0))) ∧ (w'.heap[gb371]? = some (.cells #[.int .i64 t368,.int .i64 t369] 23 (0,0))) ∧ (w'.heap[s_]? = some (.cells #[.int .i64 0,.int .i64 0] 23 (0,0))) ∧ (w.heap.size ≤ s_) ∧ (w.heap.size ≤ s_) ∧ (gb363 ≠ s_) ∧ (s_ ≠ gb363) ∧ (gb364 ≠ s_) ∧ (s_ ≠ gb364) ∧ (gb365 ≠ s_) ∧ (s_ ≠ gb365) ∧ (gb371 ≠ s_) ∧ (s_ ≠ gb371) ∧ (Below w.heap.size w w')) ?_ ?_
      rotate_left
      ·intro hCont
       refine two_ (i := 2) (j := 8) (Ni := some 37) (Nj := some 8) (bz 11 7) (bz 11 259) rfl rfl rfl rfl (two_of HT_.out (by kernel_rfl)) (by decide) (by decide) (fun K hK => ?_) (fun K hK => ?_)
       ·skip
        refine goes_ Tryd.func26 (by kernel_rfl) rfl #[.agg #[.int .i64 t368,.int .i64 t369]] (by rfl) rfl rfl (by (try simp only [lm_,lq_,lx_]);first|done|rfl|(simp only [ld_,lt_];rfl)) ?_
        with_reducible refine (neumeref02_Floor.calls kj2 t368 t369 t372 _ A36.out).mono ?_
        rintro e w53 ⟨rfl,hb⟩
        refine ⟨_,rfl,?_⟩
        replace BK363 := kb_ BK363 hb
        replace BK364 := kb_ BK364 hb
        replace BK365 := kb_ BK365 hb
        replace BK371 := kb_ BK371 hb
        replace HB := hb_ HB (e_ GE363 (e_ GE364 (e_ GE365 (e_ GE371 e0_)))) hb
        (try clear hb)
        (try clear hb2)
        (try clear hk)
        (try clear hi)
        refine hK.out _ _ ⟨(kc_ BK364.out 0).trans rfl,(kc_ BK364.out 1).trans rfl,(kc_ BK371.out 0).trans rfl,(kc_ BK371.out 1).trans rfl⟩ (fun hHeld => ?_)
        clear hK K
        refine norm_ (a' := ?_) ?_ ?_
        rotate_left
        ·show Act.put _ (some 37) _ = _
         simp only [Act.put,ls_,lz_,lc_,i64_w,i32_w]
         rfl
        refine pu_ (v := ?_) (a' := ?_) 3 38 (bz 11 15) rfl rfl HT_ (by kernel_rfl) (fun _ _ _ h => h) (by rfl) ?_ ?_ ?_
        rotate_left;(intro w';go_simp;with_reducible rfl);rotate_left;(simp only [Act.put,ls_,lz_,lc_,i64_w,i32_w];rfl)
        refine two_ (i := 4) (j := 8) (Ni := some 39) (Nj := some 8) (bz 11 31) (bz 11 271) rfl rfl rfl rfl (two_of HT_.out (by kernel_rfl)) (by decide) (by decide) (fun K hK => ?_) (fun K hK => ?_)
        ·skip
         refine goes_ Tryd.func13 (by kernel_rfl) rfl #[.agg #[.int .i64 a1_0,.int .i64 a1_1],.agg #[.int .i64 t372,.int .i64 1]] (by rfl) rfl rfl (by (try simp only [lm_,lq_,lx_]);first|done|rfl|(simp only [ld_,lt_];rfl)) ?_
         with_reducible refine (neumeref02_Mul.calls kj2 a1_0 a1_1 t372 1 t373 t374 t375 _ A37.out).mono ?_
         rintro e w54 ⟨rfl,hb⟩
         refine ⟨_,rfl,?_⟩
         replace BK363 := kb_ BK363 hb
         replace BK364 := kb_ BK364 hb
         replace BK365 := kb_ BK365 hb
         replace BK371 := kb_ BK371 hb
         replace HB := hb_ HB (e_ GE363 (e_ GE364 (e_ GE365 (e_ GE371 e0_)))) hb
         (try clear hb)
         (try clear hb2)
         (try clear hk)
         (try clear hi)
         refine hK.out _ _ ⟨(kc_ BK364.out 0).trans rfl,(kc_ BK364.out 1).trans rfl,(kc_ BK371.out 0).trans rfl,(kc_ BK371.out 1).trans rfl⟩ (fun hHeld => ?_)
         clear hK K
         refine norm_ (a' := ?_) ?_ ?_
         rotate_left
         ·show Act.put _ (some 39) _ = _
          simp only [Act.put,ls_,lz_,lc_,i64_w,i32_w]
          rfl
         refine pu_ (v := ?_) (a' := ?_) 5 34 (bz 11 63) rfl rfl HT_ (by kernel_rfl) (fun _ _ _ h => h) (by rfl) ?_ ?_ ?_
         rotate_left;(intro w';go_simp;with_reducible rfl);rotate_left;(simp only [Act.put,ls_,lz_,lc_,i64_w,i32_w];rfl)
         refine pu_ (v := ?_) (a' := ?_) 6 40 (bz 11 127) rfl rfl HT_ (by kernel_rfl) (fun _ _ _ h => h) (by rfl) ?_ ?_ ?_
         rotate_left;(intro w';go_simp;with_reducible rfl);rotate_left;(simp only [Act.put,ls_,lz_,lc_,i64_w,i32_w];rfl)
         refine pu_ (v := ?_) (a' := ?_) 7 41 (bz 11 255) rfl rfl HT_ (by kernel_rfl) (fun _ _ _ h => h) (by rfl) ?_ ?_ ?_
         rotate_left;(intro w';go_simp;with_reducible rfl);rotate_left;(simp only [Act.put,ls_,lz_,lc_,i64_w,i32_w];rfl)
         refine on_ (N := some 8) 8 (bz 11 511) rfl rfl HT_ (by kernel_rfl) (by decide) (fun K hK => ?_)
         refine box_step ?hg (N := 8) ?hd (cs := #[.int .i64 0,.int .i64 0]) (t := 23) ?hr ?_;(case hd => rfl);(case hg => rfl);(case hr => first|(go_simp;done)|(go_simp;rfl))
         intro gb376 hg w55 hbox hb
         have BK376 := sd_ hbox
         have GW376 := gw_ HB (e_ GE363 (e_ GE364 (e_ GE365 (e_ GE371 e0_)))) hg
         have GE376 := GW376
         have NB363_376 := nb_ BK363 hg
         have NB376_363 := sy_ NB363_376
         have NB364_376 := nb_ BK364 hg
         have NB376_364 := sy_ NB364_376
         have NB365_376 := nb_ BK365 hg
         have NB376_365 := sy_ NB365_376
         have NB371_376 := nb_ BK371 hg
         have NB376_371 := sy_ NB371_376
         replace BK363 := kb_ BK363 hb
         replace BK364 := kb_ BK364 hb
         replace BK365 := kb_ BK365 hb
         replace BK371 := kb_ BK371 hb
         replace HB := hb_ HB (e_ GE363 (e_ GE364 (e_ GE365 (e_ GE371 e0_)))) hb
         clear hb hbox hg
         refine hK.out _ _ ⟨(kc_ BK364.out 0).trans rfl,(kc_ BK364.out 1).trans rfl,(kc_ BK371.out 0).trans rfl,(kc_ BK371.out 1).trans rfl⟩ (fun hHeld => ?_)
         clear hK K
         refine norm_ (a' := ?_) ?_ ?_
         rotate_left
         ·show Act.put _ (some 8) _ = _
          simp only [Act.put,ls_,lz_,lc_,i64_w,i32_w]
          rfl
         exact norm_ (by simp only [putAll,Act.put,ls_,lz_,lc_]) (hCont (gb376) _ ⟨hHeld,(kk_ BK363.out),(kk_ BK364.out),(kk_ BK365.out),(kk_ BK371.out),(kk_ BK376.out),GW376.out,GE376.out,NB363_376.out,NB376_363.out,NB364_376.out,NB376_364.out,NB365_376.out,NB376_365.out,NB371_376.out,NB376_371.out,(bb_ HB.out (e_ GE363 (e_ GE364 (e_ GE365 (e_ GE371 (e_ GE376 e0_))))))⟩)
        ·skip
         refine box_step ?hg (N := 8) ?hd (cs := #[.int .i64 0,.int .i64 0]) (t := 23) ?hr ?_;(case hd => rfl);(case hg => rfl);(case hr => first|(go_simp;done)|(go_simp;rfl))
         intro gb376 hg w54 hbox hb
         have BK376 := sd_ hbox
         have GW376 := gw_ HB (e_ GE363 (e_ GE364 (e_ GE365 (e_ GE371 e0_)))) hg
         have GE376 := GW376
         have NB363_376 := nb_ BK363 hg
         have NB376_363 := sy_ NB363_376
         have NB364_376 := nb_ BK364 hg
         have NB376_364 := sy_ NB364_376
         have NB365_376 := nb_ BK365 hg
         have NB376_365 := sy_ NB365_376
         have NB371_376 := nb_ BK371 hg
         have NB376_371 := sy_ NB371_376
         replace BK363 := kb_ BK363 hb
         replace BK364 := kb_ BK364 hb
         replace BK365 := kb_ BK365 hb
         replace BK371 := kb_ BK371 hb
         replace HB := hb_ HB (e_ GE363 (e_ GE364 (e_ GE365 (e_ GE371 e0_)))) hb
         clear hb hbox hg
         refine hK.out _ _ ⟨(kc_ BK364.out 0).trans rfl,(kc_ BK364.out 1).trans rfl,(kc_ BK371.out 0).trans rfl,(kc_ BK371.out 1).trans rfl⟩ (fun hHeld => ?_)
         clear hK K
         refine norm_ (a' := ?_) ?_ ?_
         rotate_left
         ·show Act.put _ (some 8) _ = _
          simp only [Act.put,ls_,lz_,lc_,i64_w,i32_w]
          rfl
         refine on_ (N := some 39) 4 (bz 11 287) rfl rfl HT_ (by kernel_rfl) (by decide) (fun K hK => ?_)
         refine goes_ Tryd.func13 (by kernel_rfl) rfl #[.agg #[.int .i64 a1_0,.int .i64 a1_1],.agg #[.int .i64 t372,.int .i64 1]] (by rfl) rfl rfl (by (try simp only [lm_,lq_,lx_]);first|done|rfl|(simp only [ld_,lt_];rfl)) ?_
         with_reducible refine (neumeref02_Mul.calls kj2 a1_0 a1_1 t372 1 t373 t374 t375 _ A37.out).mono ?_
         rintro e w55 ⟨rfl,hb⟩
         refine ⟨_,rfl,?_⟩
         replace BK363 := kb_ BK363 hb
         replace BK364 := kb_ BK364 hb
         replace BK365 := kb_ BK365 hb
         replace BK371 := kb_ BK371 hb
         replace BK376 := kb_ BK376 hb
         replace HB := hb_ HB (e_ GE363 (e_ GE364 (e_ GE365 (e_ GE371 (e_ GE376 e0_))))) hb
         (try clear hb)
         (try clear hb2)
         (try clear hk)
         (try clear hi)
         refine hK.out _ _ ⟨(kc_ BK364.out 0).trans rfl,(kc_ BK364.out 1).trans rfl,(kc_ BK371.out 0).trans rfl,(kc_ BK371.out 1).trans rfl⟩ (fun hHeld => ?_)
         clear hK K
         refine norm_ (a' := ?_) ?_ ?_
         rotate_left
         ·show Act.put _ (some 39) _ = _
          simp only [Act.put,ls_,lz_,lc_,i64_w,i32_w]
          rfl
         refine pu_ (v := ?_) (a' := ?_) 5 34 (bz 11 319) rfl rfl HT_ (by kernel_rfl) (fun _ _ _ h => h) (by rfl) ?_ ?_ ?_
         rotate_left;(intro w';go_simp;with_reducible rfl);rotate_left;(simp only [Act.put,ls_,lz_,lc_,i64_w,i32_w];rfl)
         refine pu_ (v := ?_) (a' := ?_) 6 40 (bz 11 383) rfl rfl HT_ (by kernel_rfl) (fun _ _ _ h => h) (by rfl) ?_ ?_ ?_
         rotate_left;(intro w';go_simp;with_reducible rfl);rotate_left;(simp only [Act.put,ls_,lz_,lc_,i64_w,i32_w];rfl)
         refine pu_ (v := ?_) (a' := ?_) 7 41 (bz 11 511) rfl rfl HT_ (by kernel_rfl) (fun _ _ _ h => h) (by rfl) ?_ ?_ ?_
         rotate_left;(intro w';go_simp;with_reducible rfl);rotate_left;(simp only [Act.put,ls_,lz_,lc_,i64_w,i32_w];rfl)
         exact norm_ (by simp only [putAll,Act.put,ls_,lz_,lc_]) (hCont (gb376) _ ⟨hHeld,(kk_ BK363.out),(kk_ BK364.out),(kk_ BK365.out),(kk_ BK371.out),(kk_ BK376.out),GW376.out,GE376.out,NB363_376.out,NB376_363.out,NB364_376.out,NB376_364.out,NB365_376.out,NB376_365.out,NB371_376.out,NB376_371.out,(bb_ HB.out (e_ GE363 (e_ GE364 (e_ GE365 (e_ GE371 (e_ GE376 e0_))))))⟩)
       ·skip
        refine box_step ?hg (N := 8) ?hd (cs := #[.int .i64 0,.int .i64 0]) (t := 23) ?hr ?_;(case hd => rfl);(case hg => rfl);(case hr => first|(go_simp;done)|(go_simp;rfl))
        intro gb376 hg w53 hbox hb
        have BK376 := sd_ hbox
        have GW376 := gw_ HB (e_ GE363 (e_ GE364 (e_ GE365 (e_ GE371 e0_)))) hg
        have GE376 := GW376
        have NB363_376 := nb_ BK363 hg
        have NB376_363 := sy_ NB363_376
        have NB364_376 := nb_ BK364 hg
        have NB376_364 := sy_ NB364_376
        have NB365_376 := nb_ BK365 hg
        have NB376_365 := sy_ NB365_376
        have NB371_376 := nb_ BK371 hg
        have NB376_371 := sy_ NB371_376
        replace BK363 := kb_ BK363 hb
        replace BK364 := kb_ BK364 hb
        replace BK365 := kb_ BK365 hb
        replace BK371 := kb_ BK371 hb
        replace HB := hb_ HB (e_ GE363 (e_ GE364 (e_ GE365 (e_ GE371 e0_)))) hb
        clear hb hbox hg
        refine hK.out _ _ ⟨(kc_ BK364.out 0).trans rfl,(kc_ BK364.out 1).trans rfl,(kc_ BK371.out 0).trans rfl,(kc_ BK371.out 1).trans rfl⟩ (fun hHeld => ?_)
        clear hK K
        refine norm_ (a' := ?_) ?_ ?_
        rotate_left
        ·show Act.put _ (some 8) _ = _
         simp only [Act.put,ls_,lz_,lc_,i64_w,i32_w]
         rfl
        refine on_ (N := some 37) 2 (bz 11 263) rfl rfl HT_ (by kernel_rfl) (by decide) (fun K hK => ?_)
        refine goes_ Tryd.func26 (by kernel_rfl) rfl #[.agg #[.int .i64 t368,.int .i64 t369]] (by rfl) rfl rfl (by (try simp only [lm_,lq_,lx_]);first|done|rfl|(simp only [ld_,lt_];rfl)) ?_
        with_reducible refine (neumeref02_Floor.calls kj2 t368 t369 t372 _ A36.out).mono ?_
        rintro e w54 ⟨rfl,hb⟩
        refine ⟨_,rfl,?_⟩
        replace BK363 := kb_ BK363 hb
        replace BK364 := kb_ BK364 hb
        replace BK365 := kb_ BK365 hb
        replace BK371 := kb_ BK371 hb
        replace BK376 := kb_ BK376 hb
        replace HB := hb_ HB (e_ GE363 (e_ GE364 (e_ GE365 (e_ GE371 (e_ GE376 e0_))))) hb
        (try clear hb)
        (try clear hb2)
        (try clear hk)
        (try clear hi)
        refine hK.out _ _ ⟨(kc_ BK364.out 0).trans rfl,(kc_ BK364.out 1).trans rfl,(kc_ BK371.out 0).trans rfl,(kc_ BK371.out 1).trans rfl⟩ (fun hHeld => ?_)
        clear hK K
        refine norm_ (a' := ?_) ?_ ?_
        rotate_left
        ·show Act.put _ (some 37) _ = _
         simp only [Act.put,ls_,lz_,lc_,i64_w,i32_w]
         rfl
        refine pu_ (v := ?_) (a' := ?_) 3 38 (bz 11 271) rfl rfl HT_ (by kernel_rfl) (fun _ _ _ h => h) (by rfl) ?_ ?_ ?_
        rotate_left;(intro w';go_simp;with_reducible rfl);rotate_left;(simp only [Act.put,ls_,lz_,lc_,i64_w,i32_w];rfl)
        refine on_ (N := some 39) 4 (bz 11 287) rfl rfl HT_ (by kernel_rfl) (by decide) (fun K hK => ?_)
        refine goes_ Tryd.func13 (by kernel_rfl) rfl #[.agg #[.int .i64 a1_0,.int .i64 a1_1],.agg #[.int .i64 t372,.int .i64 1]] (by rfl) rfl rfl (by (try simp only [lm_,lq_,lx_]);first|done|rfl|(simp only [ld_,lt_];rfl)) ?_
        with_reducible refine (neumeref02_Mul.calls kj2 a1_0 a1_1 t372 1 t373 t374 t375 _ A37.out).mono ?_
        rintro e w55 ⟨rfl,hb⟩
        refine ⟨_,rfl,?_⟩
        replace BK363 := kb_ BK363 hb
        replace BK364 := kb_ BK364 hb
        replace BK365 := kb_ BK365 hb
        replace BK371 := kb_ BK371 hb
        replace BK376 := kb_ BK376 hb
        replace HB := hb_ HB (e_ GE363 (e_ GE364 (e_ GE365 (e_ GE371 (e_ GE376 e0_))))) hb
        (try clear hb)
        (try clear hb2)
        (try clear hk)
        (try clear hi)
        refine hK.out _ _ ⟨(kc_ BK364.out 0).trans rfl,(kc_ BK364.out 1).trans rfl,(kc_ BK371.out 0).trans rfl,(kc_ BK371.out 1).trans rfl⟩ (fun hHeld => ?_)
        clear hK K
        refine norm_ (a' := ?_) ?_ ?_
        rotate_left
        ·show Act.put _ (some 39) _ = _
         simp only [Act.put,ls_,lz_,lc_,i64_w,i32_w]
         rfl
        refine pu_ (v := ?_) (a' := ?_) 5 34 (bz 11 319) rfl rfl HT_ (by kernel_rfl) (fun _ _ _ h => h) (by rfl) ?_ ?_ ?_
        rotate_left;(intro w';go_simp;with_reducible rfl);rotate_left;(simp only [Act.put,ls_,lz_,lc_,i64_w,i32_w];rfl)
        refine pu_ (v := ?_) (a' := ?_) 6 40 (bz 11 383) rfl rfl HT_ (by kernel_rfl) (fun _ _ _ h => h) (by rfl) ?_ ?_ ?_
        rotate_left;(intro w';go_simp;with_reducible rfl);rotate_left;(simp only [Act.put,ls_,lz_,lc_,i64_w,i32_w];rfl)
        refine pu_ (v := ?_) (a' := ?_) 7 41 (bz 11 511) rfl rfl HT_ (by kernel_rfl) (fun _ _ _ h => h) (by rfl) ?_ ?_ ?_
        rotate_left;(intro w';go_simp;with_reducible rfl);rotate_left;(simp only [Act.put,ls_,lz_,lc_,i64_w,i32_w];rfl)
        exact norm_ (by simp only [putAll,Act.put,ls_,lz_,lc_]) (hCont (gb376) _ ⟨hHeld,(kk_ BK363.out),(kk_ BK364.out),(kk_ BK365.out),(kk_ BK371.out),(kk_ BK376.out),GW376.out,GE376.out,NB363_376.out,NB376_363.out,NB364_376.out,NB376_364.out,NB365_376.out,NB376_365.out,NB371_376.out,NB376_371.out,(bb_ HB.out (e_ GE363 (e_ GE364 (e_ GE365 (e_ GE371 (e_ GE376 e0_))))))⟩)
      rintro gb376 w56 ⟨hS_,h0_,h1_,h2_,h3_,h4_,h5_,h6_,h7_,h8_,h9_,h10_,h11_,h12_,h13_,h14_,h15_⟩
      have n0_ : Aside0 (w56.heap[gb363]? = some (.cells #[.int .i64 a0_0,.int .i64 a0_1] 23 (0,0))) := ⟨h0_⟩
      have n1_ : Aside0 (w56.heap[gb364]? = some (.cells #[.int .i64 a1_0,.int .i64 a1_1] 23 (0,0))) := ⟨h1_⟩
      have n2_ : Aside0 (w56.heap[gb365]? = some (.cells #[.int .i64 0,.int .i64 0] 23 (0,0))) := ⟨h2_⟩
      have n3_ : Aside0 (w56.heap[gb371]? = some (.cells #[.int .i64 t368,.int .i64 t369] 23 (0,0))) := ⟨h3_⟩
      have n4_ : Aside0 (w56.heap[gb376]? = some (.cells #[.int .i64 0,.int .i64 0] 23 (0,0))) := ⟨h4_⟩
      have n5_ : Aside0 (w.heap.size ≤ gb376) := ⟨h5_⟩
      have n6_ : Aside0 (w.heap.size ≤ gb376) := ⟨h6_⟩
      have n7_ : Aside0 (gb363 ≠ gb376) := ⟨h7_⟩
      have n8_ : Aside0 (gb376 ≠ gb363) := ⟨h8_⟩
      have n9_ : Aside0 (gb364 ≠ gb376) := ⟨h9_⟩
      have n10_ : Aside0 (gb376 ≠ gb364) := ⟨h10_⟩
      have n11_ : Aside0 (gb365 ≠ gb376) := ⟨h11_⟩
      have n12_ : Aside0 (gb376 ≠ gb365) := ⟨h12_⟩
      have n13_ : Aside0 (gb371 ≠ gb376) := ⟨h13_⟩
      have n14_ : Aside0 (gb376 ≠ gb371) := ⟨h14_⟩
      have n15_ : Aside0 (Below w.heap.size w w56) := ⟨h15_⟩
      clear BK363
      clear BK364
      clear BK365
      clear BK371
      clear HB
      clear h0_ h1_ h2_ h3_ h4_ h5_ h6_ h7_ h8_ h9_ h10_ h11_ h12_ h13_ h14_ h15_
      have BK363 := n0_
      have BK364 := n1_
      have BK365 := n2_
      have BK371 := n3_
      have BK376 := n4_
      have GW376 := n5_
      have GE376 := n6_
      have NB363_376 := n7_
      have NB376_363 := n8_
      have NB364_376 := n9_
      have NB376_364 := n10_
      have NB365_376 := n11_
      have NB376_365 := n12_
      have NB371_376 := n13_
      have NB376_371 := n14_
      have HB := n15_
      clear n0_ n1_ n2_ n3_ n4_ n5_ n6_ n7_ n8_ n9_ n10_ n11_ n12_ n13_ n14_ n15_
      have hHeld : w56.cell? ⟨gb364,0,none⟩ = some (.int .i64 a1_0) ∧ w56.cell? ⟨gb364,1,none⟩ = some (.int .i64 a1_1) ∧ w56.cell? ⟨gb371,0,none⟩ = some (.int .i64 t368) ∧ w56.cell? ⟨gb371,1,none⟩ = some (.int .i64 t369) := hS_
      refine norm_ (a' := ?_) ?_ ?_
      rotate_left
      ·simp only [putAll,Act.put,ls_,lz_,lc_]
       rfl
      refine on_ (N := none) 9 (bz 11 1023) rfl rfl HT_ (by kernel_rfl) (by decide) (fun K hK => ?_)
      have hs57 : w56.cell? ⟨gb376,0,none⟩ = some (.int .i64 0) := (kc_ BK376.out 0).trans rfl
      have hfs57 := kf_ BK376.out 0
      have hns57_0 := NB363_376.out
      have hns57_1 := NB364_376.out
      have hns57_2 := NB365_376.out
      have hns57_3 := NB371_376.out
      have hms57_0 := NB376_363.out
      have hms57_1 := NB376_364.out
      have hms57_2 := NB376_365.out
      have hms57_3 := NB376_371.out
      have hs58 : w56.cell? ⟨gb376,1,none⟩ = some (.int .i64 0) := (kc_ BK376.out 1).trans rfl
      have hfs58 := kf_ BK376.out 1
      have hns58_0 := NB363_376.out
      have hns58_1 := NB364_376.out
      have hns58_2 := NB365_376.out
      have hns58_3 := NB371_376.out
      have hms58_0 := NB376_363.out
      have hms58_1 := NB376_364.out
      have hms58_2 := NB376_365.out
      have hms58_3 := NB376_371.out
      refine skip_ (w1 := ?_) (by rfl) rfl ?_ ?_
      rotate_left
      ·go_simp
       rfl
      refine hK.out _ _ ⟨((cell_far (p := ⟨gb376,_,none⟩) NB364_376.out _).trans (((cell_far (p := ⟨gb376,_,none⟩) NB364_376.out _).trans (hHeld.1)))),((cell_far (p := ⟨gb376,_,none⟩) NB364_376.out _).trans (((cell_far (p := ⟨gb376,_,none⟩) NB364_376.out _).trans (hHeld.2.1)))),((cell_far (p := ⟨gb376,_,none⟩) NB371_376.out _).trans (((cell_far (p := ⟨gb376,_,none⟩) NB371_376.out _).trans (hHeld.2.2.1)))),((cell_far (p := ⟨gb376,_,none⟩) NB371_376.out _).trans (((cell_far (p := ⟨gb376,_,none⟩) NB371_376.out _).trans (hHeld.2.2.2))))⟩ (fun hHeld => ?_)
      clear hK K
      refine pu_ (v := ?_) (a' := ?_) 10 9 (bz 11 2047) rfl rfl HT_ (by kernel_rfl) (fun _ _ _ h => h) (by rfl) ?_ ?_ ?_
      rotate_left;(intro w';go_simp;with_reducible rfl);rotate_left;(simp only [Act.put,ls_,lz_,lc_,i64_w,i32_w];rfl)
      refine done_ (done_of HT_.out (by kernel_rfl)) ?_
      have hnb59 := NB363_376.out
      have hnc59 := NB376_363.out
      have hcz60_0 : w56.cell? ⟨gb363,0,none⟩ = some (.int .i64 a0_0) := (kc_ BK363.out 0).trans rfl
      have hcz60_1 : w56.cell? ⟨gb363,1,none⟩ = some (.int .i64 a0_1) := (kc_ BK363.out 1).trans rfl
      have hfz60_0 := kf_ BK363.out 0
      have hfz60_1 := kf_ BK363.out 1
      have hnb61 := NB376_364.out
      have hnc61 := NB364_376.out
      have hnb62 := NB376_365.out
      have hnc62 := NB365_376.out
      have hnb63 := NB376_371.out
      have hnc63 := NB371_376.out
      have hcz64_0 : w56.cell? ⟨gb376,0,none⟩ = some (.int .i64 0) := (kc_ BK376.out 0).trans rfl
      have hcz64_1 : w56.cell? ⟨gb376,1,none⟩ = some (.int .i64 0) := (kc_ BK376.out 1).trans rfl
      have hfz64_0 := kf_ BK376.out 0
      have hfz64_1 := kf_ BK376.out 1
      try go_wp2_with (first|((with_reducible refine gate_callee (f := 11) rfl ?_);refine goesL_ (some 48) rfl rfl Tryd.func11 (by kernel_rfl) rfl #[.agg #[.int .i64 a0_0,.int .i64 a0_1],.agg #[.int .i64 t373,.int .i64 t374]] rfl (by (try simp only [lm_,lq_,lx_]);first|done|rfl|(simp only [ld_,lt_];rfl)) ?_;(with_reducible refine (neumeref02_Sub.calls kj2 a0_0 a0_1 t373 t374 t377 t378 t379 _ A39.out).mono ?_);rintro e w65 ⟨rfl,hb⟩;refine ⟨_,rfl,?_⟩;replace BK363 := sd_ (blk_below (g := gb363) (o := .cells #[.int .i64 a0_0,.int .i64 a0_1] 23 (0,0)) (by (with_reducible repeat first|apply kn_|apply kd_|apply ka_);refine blk_far ?_ NB363_376.out _;(with_reducible repeat first|apply kn_|apply kd_|apply ka_);refine blk_far ?_ NB363_376.out _;(with_reducible repeat first|apply kn_|apply kd_|apply ka_);exact BK363.out) hb);replace BK364 := sd_ (blk_below (g := gb364) (o := .cells #[.int .i64 a1_0,.int .i64 a1_1] 23 (0,0)) (by (with_reducible repeat first|apply kn_|apply kd_|apply ka_);refine blk_far ?_ NB364_376.out _;(with_reducible repeat first|apply kn_|apply kd_|apply ka_);refine blk_far ?_ NB364_376.out _;(with_reducible repeat first|apply kn_|apply kd_|apply ka_);exact BK364.out) hb);replace BK365 := sd_ (blk_below (g := gb365) (o := .cells #[.int .i64 0,.int .i64 0] 23 (0,0)) (by (with_reducible repeat first|apply kn_|apply kd_|apply ka_);refine blk_far ?_ NB365_376.out _;(with_reducible repeat first|apply kn_|apply kd_|apply ka_);refine blk_far ?_ NB365_376.out _;(with_reducible repeat first|apply kn_|apply kd_|apply ka_);exact BK365.out) hb);replace BK371 := sd_ (blk_below (g := gb371) (o := .cells #[.int .i64 t368,.int .i64 t369] 23 (0,0)) (by (with_reducible repeat first|apply kn_|apply kd_|apply ka_);refine blk_far ?_ NB371_376.out _;(with_reducible repeat first|apply kn_|apply kd_|apply ka_);refine blk_far ?_ NB371_376.out _;(with_reducible repeat first|apply kn_|apply kd_|apply ka_);exact BK371.out) hb);replace BK376 := sd_ (blk_below (g := gb376) (o := .cells #[.int .i64 t373,.int .i64 t374] 23 (0,0)) (by (with_reducible repeat first|apply kn_|apply kd_|apply ka_);refine blk_put (cs := #[.int .i64 t373,.int .i64 0]) ?_ 1 _ rfl;(with_reducible repeat first|apply kn_|apply kd_|apply ka_);refine blk_put (cs := #[.int .i64 0,.int .i64 0]) ?_ 0 _ rfl;(with_reducible repeat first|apply kn_|apply kd_|apply ka_);exact BK376.out) hb);replace HB := hb_ HB (e_ GE363 (e_ GE364 (e_ GE365 (e_ GE371 (e_ GE376 e0_))))) hb;(try clear hb);(try clear hb2);(try clear hk);(try clear hi);have hcz66_0 : w65.cell? ⟨gb365,0,none⟩ = some (.int .i64 0) := (kc_ BK365.out 0).trans rfl;have hcz66_1 : w65.cell? ⟨gb365,1,none⟩ = some (.int .i64 0) := (kc_ BK365.out 1).trans rfl;have hfz66_0 := kf_ BK365.out 0;have hfz66_1 := kf_ BK365.out 1))
      refine bodyPost_ret (results_ct rfl _ _ gb365 23 #[.int .i64 t377,.int .i64 t378] (0,0) _ rfl (by (with_reducible repeat first|apply kn_|apply kd_|apply ka_);refine blk_put (cs := #[.int .i64 t377,.int .i64 0]) ?_ 1 _ rfl;(with_reducible repeat first|apply kn_|apply kd_|apply ka_);refine blk_put (cs := #[.int .i64 0,.int .i64 0]) ?_ 0 _ rfl;(with_reducible repeat first|apply kn_|apply kd_|apply ka_);exact BK365.out) Tryd.underlying23 rfl (by kernel_rfl)) rfl ?_
      exact ⟨by first|rfl|(simp [errW_none,errW_some] <;> rfl)|(simp [*,errW_none,errW_some] <;> rfl),by repeat (first|(with_reducible first|exact HB.out|apply ba_|apply pd_|apply d1_|refine bs_ ?_ GE363.out|refine bs_ ?_ GE364.out|refine bs_ ?_ GE365.out|refine bs_ ?_ GE371.out|refine bs_ ?_ GE376.out)|exact HB.out)⟩
     ·rw [if_neg c38] at H
      have c38b0 : (t375 == 0) = false := beq_eq_false_iff_ne.mpr c38
      have c38b1 : (t375 != 0) = true := bne_iff_ne.mpr c38
      simp only [Option.some.injEq,Prod.mk.injEq] at H
      obtain ⟨rfl,rfl,rfl⟩ := H
      have hnb67 := NB363_364.out
      have hnc67 := NB364_363.out
      have hnb68 := NB363_365.out
      have hnc68 := NB365_363.out
      have hcz69_0 : wc.cell? ⟨gb363,0,none⟩ = some (.int .i64 a0_0) := (kc_ BK363.out 0).trans rfl
      have hcz69_1 : wc.cell? ⟨gb363,1,none⟩ = some (.int .i64 a0_1) := (kc_ BK363.out 1).trans rfl
      have hfz69_0 := kf_ BK363.out 0
      have hfz69_1 := kf_ BK363.out 1
      have hnb70 := NB364_365.out
      have hnc70 := NB365_364.out
      have hcz71_0 : wc.cell? ⟨gb364,0,none⟩ = some (.int .i64 a1_0) := (kc_ BK364.out 0).trans rfl
      have hcz71_1 : wc.cell? ⟨gb364,1,none⟩ = some (.int .i64 a1_1) := (kc_ BK364.out 1).trans rfl
      have hfz71_0 := kf_ BK364.out 0
      have hfz71_1 := kf_ BK364.out 1
      try go_wp2_with (first|((with_reducible refine gate_callee (f := 15) rfl ?_);refine goesL_ (some 27) rfl rfl Tryd.func15 (by kernel_rfl) rfl #[.agg #[.int .i64 a0_0,.int .i64 a0_1],.agg #[.int .i64 a1_0,.int .i64 a1_1]] rfl (by (try simp only [lm_,lq_,lx_]);first|done|rfl|(simp only [ld_,lt_];rfl)) ?_;(with_reducible refine (neumeref02_Div.calls kj2 a0_0 a0_1 a1_0 a1_1 t368 t369 t370 _ A34.out).mono ?_);rintro e w72 ⟨rfl,hb⟩;refine ⟨_,rfl,?_⟩;replace BK363 := kb_ BK363 hb;replace BK364 := kb_ BK364 hb;replace BK365 := kb_ BK365 hb;replace HB := hb_ HB (e_ GE363 (e_ GE364 (e_ GE365 e0_))) hb;(try clear hb);(try clear hb2);(try clear hk);(try clear hi))|((with_reducible refine gate_dst (N := 6) rfl ?_);refine box_event ?hg (N := 6) ?hd (cs := #[.int .i64 0,.int .i64 0]) (t := 23) ?hr ?_;(case hd => rfl);(case hg => rfl);(case hr => first|(go_simp;done)|(go_simp;rfl));intro gb371 hg w73 hbox hb;have BK371 := sd_ hbox;have GW371 := gw_ HB (e_ GE363 (e_ GE364 (e_ GE365 e0_))) hg;have GE371 := GW371;have NB363_371 := nb_ BK363 hg;have NB371_363 := sy_ NB363_371;have NB364_371 := nb_ BK364 hg;have NB371_364 := sy_ NB364_371;have NB365_371 := nb_ BK365 hg;have NB371_365 := sy_ NB365_371;replace BK363 := kb_ BK363 hb;replace BK364 := kb_ BK364 hb;replace BK365 := kb_ BK365 hb;replace HB := hb_ HB (e_ GE363 (e_ GE364 (e_ GE365 e0_))) hb;clear hb hbox hg;have hnb74 := NB371_363.out;have hnc74 := NB363_371.out;have hnb75 := NB371_364.out;have hnc75 := NB364_371.out;have hnb76 := NB371_365.out;have hnc76 := NB365_371.out;have hcz77_0 : w73.cell? ⟨gb371,0,none⟩ = some (.int .i64 0) := (kc_ BK371.out 0).trans rfl;have hcz77_1 : w73.cell? ⟨gb371,1,none⟩ = some (.int .i64 0) := (kc_ BK371.out 1).trans rfl;have hfz77_0 := kf_ BK371.out 0;have hfz77_1 := kf_ BK371.out 1))
      have n0_ : Aside0 (((w73.setCell ⟨gb371,0,none⟩ (.int .i64 t368)).setCell ⟨gb371,1,none⟩ (.int .i64 t369)).heap[gb363]? = some (.cells #[.int .i64 a0_0,.int .i64 a0_1] 23 (0,0))) := ⟨by (with_reducible repeat first|apply kn_|apply kd_|apply ka_);refine blk_far ?_ NB363_371.out _;(with_reducible repeat first|apply kn_|apply kd_|apply ka_);refine blk_far ?_ NB363_371.out _;(with_reducible repeat first|apply kn_|apply kd_|apply ka_);exact BK363.out⟩
      have n1_ : Aside0 (((w73.setCell ⟨gb371,0,none⟩ (.int .i64 t368)).setCell ⟨gb371,1,none⟩ (.int .i64 t369)).heap[gb364]? = some (.cells #[.int .i64 a1_0,.int .i64 a1_1] 23 (0,0))) := ⟨by (with_reducible repeat first|apply kn_|apply kd_|apply ka_);refine blk_far ?_ NB364_371.out _;(with_reducible repeat first|apply kn_|apply kd_|apply ka_);refine blk_far ?_ NB364_371.out _;(with_reducible repeat first|apply kn_|apply kd_|apply ka_);exact BK364.out⟩
      have n2_ : Aside0 (((w73.setCell ⟨gb371,0,none⟩ (.int .i64 t368)).setCell ⟨gb371,1,none⟩ (.int .i64 t369)).heap[gb365]? = some (.cells #[.int .i64 0,.int .i64 0] 23 (0,0))) := ⟨by (with_reducible repeat first|apply kn_|apply kd_|apply ka_);refine blk_far ?_ NB365_371.out _;(with_reducible repeat first|apply kn_|apply kd_|apply ka_);refine blk_far ?_ NB365_371.out _;(with_reducible repeat first|apply kn_|apply kd_|apply ka_);exact BK365.out⟩
      have n3_ : Aside0 (((w73.setCell ⟨gb371,0,none⟩ (.int .i64 t368)).setCell ⟨gb371,1,none⟩ (.int .i64 t369)).heap[gb371]? = some (.cells #[.int .i64 t368,.int .i64 t369] 23 (0,0))) := ⟨by (with_reducible repeat first|apply kn_|apply kd_|apply ka_);refine blk_put (cs := #[.int .i64 t368,.int .i64 0]) ?_ 1 _ rfl;(with_reducible repeat first|apply kn_|apply kd_|apply ka_);refine blk_put (cs := #[.int .i64 0,.int .i64 0]) ?_ 0 _ rfl;(with_reducible repeat first|apply kn_|apply kd_|apply ka_);exact BK371.out⟩
      have n4_ : Aside0 (Below w.heap.size w ((w73.setCell ⟨gb371,0,none⟩ (.int .i64 t368)).setCell ⟨gb371,1,none⟩ (.int .i64 t369))) := ⟨by repeat (first|(with_reducible first|exact HB.out|apply ba_|apply pd_|apply d1_|refine bs_ ?_ GE363.out|refine bs_ ?_ GE364.out|refine bs_ ?_ GE365.out|refine bs_ ?_ GE371.out)|exact HB.out)⟩
      (try clear BK363)
      (try clear BK364)
      (try clear BK365)
      (try clear BK371)
      (try clear HB)
      generalize ((w73.setCell ⟨gb371,0,none⟩ (.int .i64 t368)).setCell ⟨gb371,1,none⟩ (.int .i64 t369)) = w78 at n0_ n1_ n2_ n3_ n4_ ⊢
      have BK363 := n0_
      have BK364 := n1_
      have BK365 := n2_
      have BK371 := n3_
      have HB := n4_
      clear n0_ n1_ n2_ n3_ n4_
      replace BK363 := sd_ (kd_ BK363.out)
      replace BK364 := sd_ (kd_ BK364.out)
      replace BK365 := sd_ (kd_ BK365.out)
      replace BK371 := sd_ (kd_ BK371.out)
      replace HB := sd_ (d1_ HB.out)
      refine start_ (n := 11) (S := fun w' => w'.cell? ⟨gb364,0,none⟩ = some (.int .i64 a1_0) ∧ w'.cell? ⟨gb364,1,none⟩ = some (.int .i64 a1_1) ∧ w'.cell? ⟨gb371,0,none⟩ = some (.int .i64 t368) ∧ w'.cell? ⟨gb371,1,none⟩ = some (.int .i64 t369)) (ds := []) (Array.replicate 11 false) (by kernel_rfl) rfl rfl ⟨(kc_ BK364.out 0).trans rfl,(kc_ BK364.out 1).trans rfl,(kc_ BK371.out 0).trans rfl,(kc_ BK371.out 1).trans rfl⟩ (fun hHeld => ?_);refine with_tabW neumeref02_Mod.tab6 neumeref02_Mod.bits6 (fun HT_ HW_ => ?_)
      generalize w78.drew = w79 at BK363 BK364 BK365 BK371 HB hHeld ⊢
      refine ta_ (v := ?_) (a' := ?_) 0 35 (bz 11 1) rfl rfl HT_ HW_ (by kernel_rfl) (fun _ _ _ h => h) (by rfl) ?_ hHeld ?_ ?_
      rotate_left
      ·rintro w' ⟨s0,s1,s2,s3⟩
       go_simp
       with_reducible rfl
      rotate_left
      ·simp only [Act.put,ls_,lz_,lc_,i64_w,i32_w]
       rfl
      refine ta_ (v := ?_) (a' := ?_) 1 36 (bz 11 3) rfl rfl HT_ HW_ (by kernel_rfl) (fun _ _ _ h => h) (by rfl) ?_ hHeld ?_ ?_
      rotate_left
      ·rintro w' ⟨s0,s1,s2,s3⟩
       go_simp
       with_reducible rfl
      rotate_left
      ·simp only [Act.put,ls_,lz_,lc_,i64_w,i32_w]
       rfl
      refine join_ (σ := Nat) 2 (bz 11 511) (fun s_ => [(37,.int .i64 t372),(39,.tuple #[.agg #[.int .i64 t373,.int .i64 t374],.int .i64 t375]),(8,.pointer (some ⟨s_,0,none⟩)),(38,.agg #[.int .i64 t372,.int .i64 1]),(34,.tuple #[.agg #[.int .i64 t373,.int .i64 t374],.int .i64 t375]),(40,.agg #[.int .i64 t373,.int .i64 t374]),(41,.int .i64 t375)]) (fun s_ w' => (w'.cell? ⟨gb364,0,none⟩ = some (.int .i64 a1_0) ∧ w'.cell? ⟨gb364,1,none⟩ = some (.int .i64 a1_1) ∧ w'.cell? ⟨gb371,0,none⟩ = some (.int .i64 t368) ∧ w'.cell? ⟨gb371,1,none⟩ = some (.int .i64 t369)) ∧ (w'.heap[gb363]? = some (.cells #[.int .i64 a0_0,.int .i64 a0_1] 23 (0,0))) ∧ (w'.heap[gb364]? = some (.cells #[.int .i64 a1_0,.int .i64 a1_1] 23 (0,0))) ∧ (w'.heap[gb365]? = some (.cells #[.int .i64 0,.int .i64 0] 23 (0,0))) ∧ (w'.heap[gb371]? = some (.cells #[.int .i64 t368,.int .i64 t369] 23 (0,0))) ∧ (w'.heap[s_]? = some (.cells #[.int .i64 0,.int .i64 0] 23 (0,0))) ∧ (w.heap.size ≤ s_) ∧ (w.heap.size ≤ s_) ∧ (gb363 ≠ s_) ∧ (s_ ≠ gb363) ∧ (gb364 ≠ s_) ∧ (s_ ≠ gb364) ∧ (gb365 ≠ s_) ∧ (s_ ≠ gb365) ∧ (gb371 ≠ s_) ∧ (s_ ≠ gb371) ∧ (Below w.heap.size w w')) ?_ ?_
      rotate_left
      ·intro hCont
       refine two_ (i := 2) (j := 8) (Ni := some 37) (Nj := some 8) (bz 11 7) (bz 11 259) rfl rfl rfl rfl (two_of HT_.out (by kernel_rfl)) (by decide) (by decide) (fun K hK => ?_) (fun K hK => ?_)
       ·skip
        refine goes_ Tryd.func26 (by kernel_rfl) rfl #[.agg #[.int .i64 t368,.int .i64 t369]] (by rfl) rfl rfl (by (try simp only [lm_,lq_,lx_]);first|done|rfl|(simp only [ld_,lt_];rfl)) ?_
        with_reducible refine (neumeref02_Floor.calls kj2 t368 t369 t372 _ A36.out).mono ?_
        rintro e w80 ⟨rfl,hb⟩
        refine ⟨_,rfl,?_⟩
        replace BK363 := kb_ BK363 hb
        replace BK364 := kb_ BK364 hb
        replace BK365 := kb_ BK365 hb
        replace BK371 := kb_ BK371 hb
        replace HB := hb_ HB (e_ GE363 (e_ GE364 (e_ GE365 (e_ GE371 e0_)))) hb
        (try clear hb)
        (try clear hb2)
        (try clear hk)
        (try clear hi)
        refine hK.out _ _ ⟨(kc_ BK364.out 0).trans rfl,(kc_ BK364.out 1).trans rfl,(kc_ BK371.out 0).trans rfl,(kc_ BK371.out 1).trans rfl⟩ (fun hHeld => ?_)
        clear hK K
        refine norm_ (a' := ?_) ?_ ?_
        rotate_left
        ·show Act.put _ (some 37) _ = _
         simp only [Act.put,ls_,lz_,lc_,i64_w,i32_w]
         rfl
        refine pu_ (v := ?_) (a' := ?_) 3 38 (bz 11 15) rfl rfl HT_ (by kernel_rfl) (fun _ _ _ h => h) (by rfl) ?_ ?_ ?_
        rotate_left;(intro w';go_simp;with_reducible rfl);rotate_left;(simp only [Act.put,ls_,lz_,lc_,i64_w,i32_w];rfl)
        refine two_ (i := 4) (j := 8) (Ni := some 39) (Nj := some 8) (bz 11 31) (bz 11 271) rfl rfl rfl rfl (two_of HT_.out (by kernel_rfl)) (by decide) (by decide) (fun K hK => ?_) (fun K hK => ?_)
        ·skip
         refine goes_ Tryd.func13 (by kernel_rfl) rfl #[.agg #[.int .i64 a1_0,.int .i64 a1_1],.agg #[.int .i64 t372,.int .i64 1]] (by rfl) rfl rfl (by (try simp only [lm_,lq_,lx_]);first|done|rfl|(simp only [ld_,lt_];rfl)) ?_
         with_reducible refine (neumeref02_Mul.calls kj2 a1_0 a1_1 t372 1 t373 t374 t375 _ A37.out).mono ?_
         rintro e w81 ⟨rfl,hb⟩
         refine ⟨_,rfl,?_⟩
         replace BK363 := kb_ BK363 hb
         replace BK364 := kb_ BK364 hb
         replace BK365 := kb_ BK365 hb
         replace BK371 := kb_ BK371 hb
         replace HB := hb_ HB (e_ GE363 (e_ GE364 (e_ GE365 (e_ GE371 e0_)))) hb
         (try clear hb)
         (try clear hb2)
         (try clear hk)
         (try clear hi)
         refine hK.out _ _ ⟨(kc_ BK364.out 0).trans rfl,(kc_ BK364.out 1).trans rfl,(kc_ BK371.out 0).trans rfl,(kc_ BK371.out 1).trans rfl⟩ (fun hHeld => ?_)
         clear hK K
         refine norm_ (a' := ?_) ?_ ?_
         rotate_left
         ·show Act.put _ (some 39) _ = _
          simp only [Act.put,ls_,lz_,lc_,i64_w,i32_w]
          rfl
         refine pu_ (v := ?_) (a' := ?_) 5 34 (bz 11 63) rfl rfl HT_ (by kernel_rfl) (fun _ _ _ h => h) (by rfl) ?_ ?_ ?_
         rotate_left;(intro w';go_simp;with_reducible rfl);rotate_left;(simp only [Act.put,ls_,lz_,lc_,i64_w,i32_w];rfl)
         refine pu_ (v := ?_) (a' := ?_) 6 40 (bz 11 127) rfl rfl HT_ (by kernel_rfl) (fun _ _ _ h => h) (by rfl) ?_ ?_ ?_
         rotate_left;(intro w';go_simp;with_reducible rfl);rotate_left;(simp only [Act.put,ls_,lz_,lc_,i64_w,i32_w];rfl)
         refine pu_ (v := ?_) (a' := ?_) 7 41 (bz 11 255) rfl rfl HT_ (by kernel_rfl) (fun _ _ _ h => h) (by rfl) ?_ ?_ ?_
         rotate_left;(intro w';go_simp;with_reducible rfl);rotate_left;(simp only [Act.put,ls_,lz_,lc_,i64_w,i32_w];rfl)
         refine on_ (N := some 8) 8 (bz 11 511) rfl rfl HT_ (by kernel_rfl) (by decide) (fun K hK => ?_)
         refine box_step ?hg (N := 8) ?hd (cs := #[.int .i64 0,.int .i64 0]) (t := 23) ?hr ?_;(case hd => rfl);(case hg => rfl);(case hr => first|(go_simp;done)|(go_simp;rfl))
         intro gb376 hg w82 hbox hb
         have BK376 := sd_ hbox
         have GW376 := gw_ HB (e_ GE363 (e_ GE364 (e_ GE365 (e_ GE371 e0_)))) hg
         have GE376 := GW376
         have NB363_376 := nb_ BK363 hg
         have NB376_363 := sy_ NB363_376
         have NB364_376 := nb_ BK364 hg
         have NB376_364 := sy_ NB364_376
         have NB365_376 := nb_ BK365 hg
         have NB376_365 := sy_ NB365_376
         have NB371_376 := nb_ BK371 hg
         have NB376_371 := sy_ NB371_376
         replace BK363 := kb_ BK363 hb
         replace BK364 := kb_ BK364 hb
         replace BK365 := kb_ BK365 hb
         replace BK371 := kb_ BK371 hb
         replace HB := hb_ HB (e_ GE363 (e_ GE364 (e_ GE365 (e_ GE371 e0_)))) hb
         clear hb hbox hg
         refine hK.out _ _ ⟨(kc_ BK364.out 0).trans rfl,(kc_ BK364.out 1).trans rfl,(kc_ BK371.out 0).trans rfl,(kc_ BK371.out 1).trans rfl⟩ (fun hHeld => ?_)
         clear hK K
         refine norm_ (a' := ?_) ?_ ?_
         rotate_left
         ·show Act.put _ (some 8) _ = _
          simp only [Act.put,ls_,lz_,lc_,i64_w,i32_w]
          rfl
         exact norm_ (by simp only [putAll,Act.put,ls_,lz_,lc_]) (hCont (gb376) _ ⟨hHeld,(kk_ BK363.out),(kk_ BK364.out),(kk_ BK365.out),(kk_ BK371.out),(kk_ BK376.out),GW376.out,GE376.out,NB363_376.out,NB376_363.out,NB364_376.out,NB376_364.out,NB365_376.out,NB376_365.out,NB371_376.out,NB376_371.out,(bb_ HB.out (e_ GE363 (e_ GE364 (e_ GE365 (e_ GE371 (e_ GE376 e0_))))))⟩)
        ·skip
         refine box_step ?hg (N := 8) ?hd (cs := #[.int .i64 0,.int .i64 0]) (t := 23) ?hr ?_;(case hd => rfl);(case hg => rfl);(case hr => first|(go_simp;done)|(go_simp;rfl))
         intro gb376 hg w81 hbox hb
         have BK376 := sd_ hbox
         have GW376 := gw_ HB (e_ GE363 (e_ GE364 (e_ GE365 (e_ GE371 e0_)))) hg
         have GE376 := GW376
         have NB363_376 := nb_ BK363 hg
         have NB376_363 := sy_ NB363_376
         have NB364_376 := nb_ BK364 hg
         have NB376_364 := sy_ NB364_376
         have NB365_376 := nb_ BK365 hg
         have NB376_365 := sy_ NB365_376
         have NB371_376 := nb_ BK371 hg
         have NB376_371 := sy_ NB371_376
         replace BK363 := kb_ BK363 hb
         replace BK364 := kb_ BK364 hb
         replace BK365 := kb_ BK365 hb
         replace BK371 := kb_ BK371 hb
         replace HB := hb_ HB (e_ GE363 (e_ GE364 (e_ GE365 (e_ GE371 e0_)))) hb
         clear hb hbox hg
         refine hK.out _ _ ⟨(kc_ BK364.out 0).trans rfl,(kc_ BK364.out 1).trans rfl,(kc_ BK371.out 0).trans rfl,(kc_ BK371.out 1).trans rfl⟩ (fun hHeld => ?_)
         clear hK K
         refine norm_ (a' := ?_) ?_ ?_
         rotate_left
         ·show Act.put _ (some 8) _ = _
          simp only [Act.put,ls_,lz_,lc_,i64_w,i32_w]
          rfl
         refine on_ (N := some 39) 4 (bz 11 287) rfl rfl HT_ (by kernel_rfl) (by decide) (fun K hK => ?_)
         refine goes_ Tryd.func13 (by kernel_rfl) rfl #[.agg #[.int .i64 a1_0,.int .i64 a1_1],.agg #[.int .i64 t372,.int .i64 1]] (by rfl) rfl rfl (by (try simp only [lm_,lq_,lx_]);first|done|rfl|(simp only [ld_,lt_];rfl)) ?_
         with_reducible refine (neumeref02_Mul.calls kj2 a1_0 a1_1 t372 1 t373 t374 t375 _ A37.out).mono ?_
         rintro e w82 ⟨rfl,hb⟩
         refine ⟨_,rfl,?_⟩
         replace BK363 := kb_ BK363 hb
         replace BK364 := kb_ BK364 hb
         replace BK365 := kb_ BK365 hb
         replace BK371 := kb_ BK371 hb
         replace BK376 := kb_ BK376 hb
         replace HB := hb_ HB (e_ GE363 (e_ GE364 (e_ GE365 (e_ GE371 (e_ GE376 e0_))))) hb
         (try clear hb)
         (try clear hb2)
         (try clear hk)
         (try clear hi)
         refine hK.out _ _ ⟨(kc_ BK364.out 0).trans rfl,(kc_ BK364.out 1).trans rfl,(kc_ BK371.out 0).trans rfl,(kc_ BK371.out 1).trans rfl⟩ (fun hHeld => ?_)
         clear hK K
         refine norm_ (a' := ?_) ?_ ?_
         rotate_left
         ·show Act.put _ (some 39) _ = _
          simp only [Act.put,ls_,lz_,lc_,i64_w,i32_w]
          rfl
         refine pu_ (v := ?_) (a' := ?_) 5 34 (bz 11 319) rfl rfl HT_ (by kernel_rfl) (fun _ _ _ h => h) (by rfl) ?_ ?_ ?_
         rotate_left;(intro w';go_simp;with_reducible rfl);rotate_left;(simp only [Act.put,ls_,lz_,lc_,i64_w,i32_w];rfl)
         refine pu_ (v := ?_) (a' := ?_) 6 40 (bz 11 383) rfl rfl HT_ (by kernel_rfl) (fun _ _ _ h => h) (by rfl) ?_ ?_ ?_
         rotate_left;(intro w';go_simp;with_reducible rfl);rotate_left;(simp only [Act.put,ls_,lz_,lc_,i64_w,i32_w];rfl)
         refine pu_ (v := ?_) (a' := ?_) 7 41 (bz 11 511) rfl rfl HT_ (by kernel_rfl) (fun _ _ _ h => h) (by rfl) ?_ ?_ ?_
         rotate_left;(intro w';go_simp;with_reducible rfl);rotate_left;(simp only [Act.put,ls_,lz_,lc_,i64_w,i32_w];rfl)
         exact norm_ (by simp only [putAll,Act.put,ls_,lz_,lc_]) (hCont (gb376) _ ⟨hHeld,(kk_ BK363.out),(kk_ BK364.out),(kk_ BK365.out),(kk_ BK371.out),(kk_ BK376.out),GW376.out,GE376.out,NB363_376.out,NB376_363.out,NB364_376.out,NB376_364.out,NB365_376.out,NB376_365.out,NB371_376.out,NB376_371.out,(bb_ HB.out (e_ GE363 (e_ GE364 (e_ GE365 (e_ GE371 (e_ GE376 e0_))))))⟩)
       ·skip
        refine box_step ?hg (N := 8) ?hd (cs := #[.int .i64 0,.int .i64 0]) (t := 23) ?hr ?_;(case hd => rfl);(case hg => rfl);(case hr => first|(go_simp;done)|(go_simp;rfl))
        intro gb376 hg w80 hbox hb
        have BK376 := sd_ hbox
        have GW376 := gw_ HB (e_ GE363 (e_ GE364 (e_ GE365 (e_ GE371 e0_)))) hg
        have GE376 := GW376
        have NB363_376 := nb_ BK363 hg
        have NB376_363 := sy_ NB363_376
        have NB364_376 := nb_ BK364 hg
        have NB376_364 := sy_ NB364_376
        have NB365_376 := nb_ BK365 hg
        have NB376_365 := sy_ NB365_376
        have NB371_376 := nb_ BK371 hg
        have NB376_371 := sy_ NB371_376
        replace BK363 := kb_ BK363 hb
        replace BK364 := kb_ BK364 hb
        replace BK365 := kb_ BK365 hb
        replace BK371 := kb_ BK371 hb
        replace HB := hb_ HB (e_ GE363 (e_ GE364 (e_ GE365 (e_ GE371 e0_)))) hb
        clear hb hbox hg
        refine hK.out _ _ ⟨(kc_ BK364.out 0).trans rfl,(kc_ BK364.out 1).trans rfl,(kc_ BK371.out 0).trans rfl,(kc_ BK371.out 1).trans rfl⟩ (fun hHeld => ?_)
        clear hK K
        refine norm_ (a' := ?_) ?_ ?_
        rotate_left
        ·show Act.put _ (some 8) _ = _
         simp only [Act.put,ls_,lz_,lc_,i64_w,i32_w]
         rfl
        refine on_ (N := some 37) 2 (bz 11 263) rfl rfl HT_ (by kernel_rfl) (by decide) (fun K hK => ?_)
        refine goes_ Tryd.func26 (by kernel_rfl) rfl #[.agg #[.int .i64 t368,.int .i64 t369]] (by rfl) rfl rfl (by (try simp only [lm_,lq_,lx_]);first|done|rfl|(simp only [ld_,lt_];rfl)) ?_
        with_reducible refine (neumeref02_Floor.calls kj2 t368 t369 t372 _ A36.out).mono ?_
        rintro e w81 ⟨rfl,hb⟩
        refine ⟨_,rfl,?_⟩
        replace BK363 := kb_ BK363 hb
        replace BK364 := kb_ BK364 hb
        replace BK365 := kb_ BK365 hb
        replace BK371 := kb_ BK371 hb
        replace BK376 := kb_ BK376 hb
        replace HB := hb_ HB (e_ GE363 (e_ GE364 (e_ GE365 (e_ GE371 (e_ GE376 e0_))))) hb
        (try clear hb)
        (try clear hb2)
        (try clear hk)
        (try clear hi)
        refine hK.out _ _ ⟨(kc_ BK364.out 0).trans rfl,(kc_ BK364.out 1).trans rfl,(kc_ BK371.out 0).trans rfl,(kc_ BK371.out 1).trans rfl⟩ (fun hHeld => ?_)
        clear hK K
        refine norm_ (a' := ?_) ?_ ?_
        rotate_left
        ·show Act.put _ (some 37) _ = _
         simp only [Act.put,ls_,lz_,lc_,i64_w,i32_w]
         rfl
        refine pu_ (v := ?_) (a' := ?_) 3 38 (bz 11 271) rfl rfl HT_ (by kernel_rfl) (fun _ _ _ h => h) (by rfl) ?_ ?_ ?_
        rotate_left;(intro w';go_simp;with_reducible rfl);rotate_left;(simp only [Act.put,ls_,lz_,lc_,i64_w,i32_w];rfl)
        refine on_ (N := some 39) 4 (bz 11 287) rfl rfl HT_ (by kernel_rfl) (by decide) (fun K hK => ?_)
        refine goes_ Tryd.func13 (by kernel_rfl) rfl #[.agg #[.int .i64 a1_0,.int .i64 a1_1],.agg #[.int .i64 t372,.int .i64 1]] (by rfl) rfl rfl (by (try simp only [lm_,lq_,lx_]);first|done|rfl|(simp only [ld_,lt_];rfl)) ?_
        with_reducible refine (neumeref02_Mul.calls kj2 a1_0 a1_1 t372 1 t373 t374 t375 _ A37.out).mono ?_
        rintro e w82 ⟨rfl,hb⟩
        refine ⟨_,rfl,?_⟩
        replace BK363 := kb_ BK363 hb
        replace BK364 := kb_ BK364 hb
        replace BK365 := kb_ BK365 hb
        replace BK371 := kb_ BK371 hb
        replace BK376 := kb_ BK376 hb
        replace HB := hb_ HB (e_ GE363 (e_ GE364 (e_ GE365 (e_ GE371 (e_ GE376 e0_))))) hb
        (try clear hb)
        (try clear hb2)
        (try clear hk)
        (try clear hi)
        refine hK.out _ _ ⟨(kc_ BK364.out 0).trans rfl,(kc_ BK364.out 1).trans rfl,(kc_ BK371.out 0).trans rfl,(kc_ BK371.out 1).trans rfl⟩ (fun hHeld => ?_)
        clear hK K
        refine norm_ (a' := ?_) ?_ ?_
        rotate_left
        ·show Act.put _ (some 39) _ = _
         simp only [Act.put,ls_,lz_,lc_,i64_w,i32_w]
         rfl
        refine pu_ (v := ?_) (a' := ?_) 5 34 (bz 11 319) rfl rfl HT_ (by kernel_rfl) (fun _ _ _ h => h) (by rfl) ?_ ?_ ?_
        rotate_left;(intro w';go_simp;with_reducible rfl);rotate_left;(simp only [Act.put,ls_,lz_,lc_,i64_w,i32_w];rfl)
        refine pu_ (v := ?_) (a' := ?_) 6 40 (bz 11 383) rfl rfl HT_ (by kernel_rfl) (fun _ _ _ h => h) (by rfl) ?_ ?_ ?_
        rotate_left;(intro w';go_simp;with_reducible rfl);rotate_left;(simp only [Act.put,ls_,lz_,lc_,i64_w,i32_w];rfl)
        refine pu_ (v := ?_) (a' := ?_) 7 41 (bz 11 511) rfl rfl HT_ (by kernel_rfl) (fun _ _ _ h => h) (by rfl) ?_ ?_ ?_
        rotate_left;(intro w';go_simp;with_reducible rfl);rotate_left;(simp only [Act.put,ls_,lz_,lc_,i64_w,i32_w];rfl)
        exact norm_ (by simp only [putAll,Act.put,ls_,lz_,lc_]) (hCont (gb376) _ ⟨hHeld,(kk_ BK363.out),(kk_ BK364.out),(kk_ BK365.out),(kk_ BK371.out),(kk_ BK376.out),GW376.out,GE376.out,NB363_376.out,NB376_363.out,NB364_376.out,NB376_364.out,NB365_376.out,NB376_365.out,NB371_376.out,NB376_371.out,(bb_ HB.out (e_ GE363 (e_ GE364 (e_ GE365 (e_ GE371 (e_ GE376 e0_))))))⟩)
      rintro gb376 w83 ⟨hS_,h0_,h1_,h2_,h3_,h4_,h5_,h6_,h7_,h8_,h9_,h10_,h11_,h12_,h13_,h14_,h15_⟩
      have n0_ : Aside0 (w83.heap[gb363]? = some (.cells #[.int .i64 a0_0,.int .i64 a0_1] 23 (0,0))) := ⟨h0_⟩
      have n1_ : Aside0 (w83.heap[gb364]? = some (.cells #[.int .i64 a1_0,.int .i64 a1_1] 23 (0,0))) := ⟨h1_⟩
      have n2_ : Aside0 (w83.heap[gb365]? = some (.cells #[.int .i64 0,.int .i64 0] 23 (0,0))) := ⟨h2_⟩
      have n3_ : Aside0 (w83.heap[gb371]? = some (.cells #[.int .i64 t368,.int .i64 t369] 23 (0,0))) := ⟨h3_⟩
      have n4_ : Aside0 (w83.heap[gb376]? = some (.cells #[.int .i64 0,.int .i64 0] 23 (0,0))) := ⟨h4_⟩
      have n5_ : Aside0 (w.heap.size ≤ gb376) := ⟨h5_⟩
      have n6_ : Aside0 (w.heap.size ≤ gb376) := ⟨h6_⟩
      have n7_ : Aside0 (gb363 ≠ gb376) := ⟨h7_⟩
      have n8_ : Aside0 (gb376 ≠ gb363) := ⟨h8_⟩
      have n9_ : Aside0 (gb364 ≠ gb376) := ⟨h9_⟩
      have n10_ : Aside0 (gb376 ≠ gb364) := ⟨h10_⟩
      have n11_ : Aside0 (gb365 ≠ gb376) := ⟨h11_⟩
      have n12_ : Aside0 (gb376 ≠ gb365) := ⟨h12_⟩
      have n13_ : Aside0 (gb371 ≠ gb376) := ⟨h13_⟩
      have n14_ : Aside0 (gb376 ≠ gb371) := ⟨h14_⟩
      have n15_ : Aside0 (Below w.heap.size w w83) := ⟨h15_⟩
      clear BK363
      clear BK364
      clear BK365
      clear BK371
      clear HB
      clear h0_ h1_ h2_ h3_ h4_ h5_ h6_ h7_ h8_ h9_ h10_ h11_ h12_ h13_ h14_ h15_
      have BK363 := n0_
      have BK364 := n1_
      have BK365 := n2_
      have BK371 := n3_
      have BK376 := n4_
      have GW376 := n5_
      have GE376 := n6_
      have NB363_376 := n7_
      have NB376_363 := n8_
      have NB364_376 := n9_
      have NB376_364 := n10_
      have NB365_376 := n11_
      have NB376_365 := n12_
      have NB371_376 := n13_
      have NB376_371 := n14_
      have HB := n15_
      clear n0_ n1_ n2_ n3_ n4_ n5_ n6_ n7_ n8_ n9_ n10_ n11_ n12_ n13_ n14_ n15_
      have hHeld : w83.cell? ⟨gb364,0,none⟩ = some (.int .i64 a1_0) ∧ w83.cell? ⟨gb364,1,none⟩ = some (.int .i64 a1_1) ∧ w83.cell? ⟨gb371,0,none⟩ = some (.int .i64 t368) ∧ w83.cell? ⟨gb371,1,none⟩ = some (.int .i64 t369) := hS_
      refine norm_ (a' := ?_) ?_ ?_
      rotate_left
      ·simp only [putAll,Act.put,ls_,lz_,lc_]
       rfl
      refine on_ (N := none) 9 (bz 11 1023) rfl rfl HT_ (by kernel_rfl) (by decide) (fun K hK => ?_)
      have hs84 : w83.cell? ⟨gb376,0,none⟩ = some (.int .i64 0) := (kc_ BK376.out 0).trans rfl
      have hfs84 := kf_ BK376.out 0
      have hns84_0 := NB363_376.out
      have hns84_1 := NB364_376.out
      have hns84_2 := NB365_376.out
      have hns84_3 := NB371_376.out
      have hms84_0 := NB376_363.out
      have hms84_1 := NB376_364.out
      have hms84_2 := NB376_365.out
      have hms84_3 := NB376_371.out
      have hs85 : w83.cell? ⟨gb376,1,none⟩ = some (.int .i64 0) := (kc_ BK376.out 1).trans rfl
      have hfs85 := kf_ BK376.out 1
      have hns85_0 := NB363_376.out
      have hns85_1 := NB364_376.out
      have hns85_2 := NB365_376.out
      have hns85_3 := NB371_376.out
      have hms85_0 := NB376_363.out
      have hms85_1 := NB376_364.out
      have hms85_2 := NB376_365.out
      have hms85_3 := NB376_371.out
      refine skip_ (w1 := ?_) (by rfl) rfl ?_ ?_
      rotate_left
      ·go_simp
       rfl
      refine hK.out _ _ ⟨((cell_far (p := ⟨gb376,_,none⟩) NB364_376.out _).trans (((cell_far (p := ⟨gb376,_,none⟩) NB364_376.out _).trans (hHeld.1)))),((cell_far (p := ⟨gb376,_,none⟩) NB364_376.out _).trans (((cell_far (p := ⟨gb376,_,none⟩) NB364_376.out _).trans (hHeld.2.1)))),((cell_far (p := ⟨gb376,_,none⟩) NB371_376.out _).trans (((cell_far (p := ⟨gb376,_,none⟩) NB371_376.out _).trans (hHeld.2.2.1)))),((cell_far (p := ⟨gb376,_,none⟩) NB371_376.out _).trans (((cell_far (p := ⟨gb376,_,none⟩) NB371_376.out _).trans (hHeld.2.2.2))))⟩ (fun hHeld => ?_)
      clear hK K
      refine pu_ (v := ?_) (a' := ?_) 10 9 (bz 11 2047) rfl rfl HT_ (by kernel_rfl) (fun _ _ _ h => h) (by rfl) ?_ ?_ ?_
      rotate_left;(intro w';go_simp;with_reducible rfl);rotate_left;(simp only [Act.put,ls_,lz_,lc_,i64_w,i32_w];rfl)
      refine done_ (done_of HT_.out (by kernel_rfl)) ?_
      have hnb86 := NB365_376.out
      have hnc86 := NB376_365.out
      have hcz87_0 : w83.cell? ⟨gb365,0,none⟩ = some (.int .i64 0) := (kc_ BK365.out 0).trans rfl
      have hcz87_1 : w83.cell? ⟨gb365,1,none⟩ = some (.int .i64 0) := (kc_ BK365.out 1).trans rfl
      have hfz87_0 := kf_ BK365.out 0
      have hfz87_1 := kf_ BK365.out 1
      try go_wp2
      refine bodyPost_ret (results_ct rfl _ _ gb365 23 #[.int .i64 0,.int .i64 0] (0,0) _ rfl (by (with_reducible repeat first|apply kn_|apply kd_|apply ka_);refine blk_put (cs := #[.int .i64 0,.int .i64 0]) ?_ 1 _ rfl;(with_reducible repeat first|apply kn_|apply kd_|apply ka_);refine blk_put (cs := #[.int .i64 0,.int .i64 0]) ?_ 0 _ rfl;(with_reducible repeat first|apply kn_|apply kd_|apply ka_);refine blk_far ?_ NB365_376.out _;(with_reducible repeat first|apply kn_|apply kd_|apply ka_);refine blk_far ?_ NB365_376.out _;(with_reducible repeat first|apply kn_|apply kd_|apply ka_);exact BK365.out) Tryd.underlying23 rfl (by kernel_rfl)) rfl ?_
      exact ⟨by first|rfl|(simp [errW_none,errW_some] <;> rfl)|(simp [*,errW_none,errW_some] <;> rfl),by repeat (first|(with_reducible first|exact HB.out|apply ba_|apply pd_|apply d1_|refine bs_ ?_ GE363.out|refine bs_ ?_ GE364.out|refine bs_ ?_ GE365.out|refine bs_ ?_ GE371.out|refine bs_ ?_ GE376.out)|exact HB.out)⟩
    ·rw [if_neg c35] at H
     have c35b0 : (t370 == 0) = false := beq_eq_false_iff_ne.mpr c35
     have c35b1 : (t370 != 0) = true := bne_iff_ne.mpr c35
     simp only [Option.some.injEq,Prod.mk.injEq] at H
     obtain ⟨rfl,rfl,rfl⟩ := H
     have hnb88 := NB363_364.out
     have hnc88 := NB364_363.out
     have hnb89 := NB363_365.out
     have hnc89 := NB365_363.out
     have hcz90_0 : wc.cell? ⟨gb363,0,none⟩ = some (.int .i64 a0_0) := (kc_ BK363.out 0).trans rfl
     have hcz90_1 : wc.cell? ⟨gb363,1,none⟩ = some (.int .i64 a0_1) := (kc_ BK363.out 1).trans rfl
     have hfz90_0 := kf_ BK363.out 0
     have hfz90_1 := kf_ BK363.out 1
     have hnb91 := NB364_365.out
     have hnc91 := NB365_364.out
     have hcz92_0 : wc.cell? ⟨gb364,0,none⟩ = some (.int .i64 a1_0) := (kc_ BK364.out 0).trans rfl
     have hcz92_1 : wc.cell? ⟨gb364,1,none⟩ = some (.int .i64 a1_1) := (kc_ BK364.out 1).trans rfl
     have hfz92_0 := kf_ BK364.out 0
     have hfz92_1 := kf_ BK364.out 1
     go_wp2_with (first|((with_reducible refine gate_callee (f := 15) rfl ?_);refine goesL_ (some 27) rfl rfl Tryd.func15 (by kernel_rfl) rfl #[.agg #[.int .i64 a0_0,.int .i64 a0_1],.agg #[.int .i64 a1_0,.int .i64 a1_1]] rfl (by (try simp only [lm_,lq_,lx_]);first|done|rfl|(simp only [ld_,lt_];rfl)) ?_;(with_reducible refine (neumeref02_Div.calls kj2 a0_0 a0_1 a1_0 a1_1 t368 t369 t370 _ A34.out).mono ?_);rintro e w93 ⟨rfl,hb⟩;refine ⟨_,rfl,?_⟩;replace BK363 := kb_ BK363 hb;replace BK364 := kb_ BK364 hb;replace BK365 := kb_ BK365 hb;replace HB := hb_ HB (e_ GE363 (e_ GE364 (e_ GE365 e0_))) hb;(try clear hb);(try clear hb2);(try clear hk);(try clear hi))|((with_reducible refine gate_dst (N := 6) rfl ?_);refine box_event ?hg (N := 6) ?hd (cs := #[.int .i64 0,.int .i64 0]) (t := 23) ?hr ?_;(case hd => rfl);(case hg => rfl);(case hr => first|(go_simp;done)|(go_simp;rfl));intro gb371 hg w94 hbox hb;have BK371 := sd_ hbox;have GW371 := gw_ HB (e_ GE363 (e_ GE364 (e_ GE365 e0_))) hg;have GE371 := GW371;have NB363_371 := nb_ BK363 hg;have NB371_363 := sy_ NB363_371;have NB364_371 := nb_ BK364 hg;have NB371_364 := sy_ NB364_371;have NB365_371 := nb_ BK365 hg;have NB371_365 := sy_ NB365_371;replace BK363 := kb_ BK363 hb;replace BK364 := kb_ BK364 hb;replace BK365 := kb_ BK365 hb;replace HB := hb_ HB (e_ GE363 (e_ GE364 (e_ GE365 e0_))) hb;clear hb hbox hg;have hnb95 := NB371_363.out;have hnc95 := NB363_371.out;have hnb96 := NB371_364.out;have hnc96 := NB364_371.out;have hnb97 := NB371_365.out;have hnc97 := NB365_371.out;have hcz98_0 : w94.cell? ⟨gb371,0,none⟩ = some (.int .i64 0) := (kc_ BK371.out 0).trans rfl;have hcz98_1 : w94.cell? ⟨gb371,1,none⟩ = some (.int .i64 0) := (kc_ BK371.out 1).trans rfl;have hfz98_0 := kf_ BK371.out 0;have hfz98_1 := kf_ BK371.out 1;have hcz99_0 : w94.cell? ⟨gb365,0,none⟩ = some (.int .i64 0) := (kc_ BK365.out 0).trans rfl;have hcz99_1 : w94.cell? ⟨gb365,1,none⟩ = some (.int .i64 0) := (kc_ BK365.out 1).trans rfl;have hfz99_0 := kf_ BK365.out 0;have hfz99_1 := kf_ BK365.out 1))
     refine bodyPost_ret (results_ct rfl _ _ gb365 23 #[.int .i64 0,.int .i64 0] (0,0) _ rfl (by (with_reducible repeat first|apply kn_|apply kd_|apply ka_);refine blk_put (cs := #[.int .i64 0,.int .i64 0]) ?_ 1 _ rfl;(with_reducible repeat first|apply kn_|apply kd_|apply ka_);refine blk_put (cs := #[.int .i64 0,.int .i64 0]) ?_ 0 _ rfl;(with_reducible repeat first|apply kn_|apply kd_|apply ka_);refine blk_far ?_ NB365_371.out _;(with_reducible repeat first|apply kn_|apply kd_|apply ka_);refine blk_far ?_ NB365_371.out _;(with_reducible repeat first|apply kn_|apply kd_|apply ka_);exact BK365.out) Tryd.underlying23 rfl (by kernel_rfl)) rfl ?_
     exact ⟨by first|rfl|(simp [errW_none,errW_some] <;> rfl)|(simp [*,errW_none,errW_some] <;> rfl),by repeat (first|(with_reducible first|exact HB.out|apply ba_|apply pd_|apply d1_|refine bs_ ?_ GE363.out|refine bs_ ?_ GE364.out|refine bs_ ?_ GE365.out|refine bs_ ?_ GE371.out)|exact HB.out)⟩

end Go.Proofs.YtmbdbinbdiiapaaDoor.P
