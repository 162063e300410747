-- Written by a program of this session (wip/tools/xprint.py, over the kit's print): Lean checks it.
import Derived.Test.YtmbdbinbdiiapaaDoorPx0
import Derived.Test.YtmbdbinbdiiapaaDoorPx2
import Derived.Test.YtmbdbinbdiiapaaDoorPx3
import Derived.Test.YtmbdbinbdiiapaaDoorPx4
namespace Go.Proofs.YtmbdbinbdiiapaaDoor.P
open Go.RowKit Go.Proofs.YtmbdbinbdiiapaaDoorW.PrintWords Go.Proofs.YtmbdbinbdiiapaaDoorW.PrintLast Go.Proofs.YtmbdbinbdiiapaaDoorW.PrintMore
attribute [local go_sem] max2_int min2_int max_two min_two max_three min_three max_four min_four   -- for this text's walks alone
set_option linter.unusedVariables false
set_option linter.unusedSimpArgs false

/-! ### rat_Of: function 16 -/
def rat_Of.j0 : Nat → Int → Int → Bool → Option (Int × Int × Int)
 | 0, _, _, _ => none
 | k + 1, x0, x1, x23 => if x23 = true then ((rat_zero.f).bind fun bt253 => (some (bt253.1, bt253.2, 2))) else ((rat_lowest.f k x0 x1).bind fun bt255 => (some (bt255.1, bt255.2.1, bt255.2.2)))
def rat_Of.f (k : Nat) (a0 : Int) (a1 : Int) : Option (Int × Int × Int) := if a1 = 0 then (rat_Of.j0 k a0 a1 true) else (if a0 < (-1152921504606846976) then (rat_Of.j0 k a0 a1 true) else (if a0 > 1152921504606846976 then (rat_Of.j0 k a0 a1 true) else (if a1 < (-1152921504606846976) then (rat_Of.j0 k a0 a1 true) else (rat_Of.j0 k a0 a1 (decide (a1 > 1152921504606846976))))))
theorem rat_Of.mono_l : ∀ k, (∀ y0 y1 y2, LeO (rat_Of.j0 k y0 y1 y2) (rat_Of.j0 (k + 1) y0 y1 y2))
 | 0 => fun _ _ _ r h => by simp [rat_Of.j0] at h
 | k + 1 => by
  have ih0 := rat_Of.mono_l k
  ·intro y0 y1 y2
   unfold rat_Of.j0
   repeat' first
   | (with_reducible exact ih0 _ _ _)
   | (with_reducible exact rat_lowest.mono _ _ _)
   | (with_reducible exact LeO.refl _)
   | (with_reducible exact LeO.none _)
   | (with_reducible refine LeO.ite ?_ ?_)
   | (with_reducible refine LeO.bind ?_ (fun _ => ?_))
   | exact ih0 _ _ _
   | exact rat_lowest.mono _ _ _
   | exact LeO.none _
   | refine LeO.ite ?_ ?_
   | refine LeO.bind ?_ (fun _ => ?_)
theorem rat_Of.mono : ∀ a0 a1 k, LeO (rat_Of.f k a0 a1) (rat_Of.f (k + 1) a0 a1) := by
 intro a0 a1 k
 have ih0 := rat_Of.mono_l k
 unfold rat_Of.f
 repeat' first
   | (with_reducible exact ih0 _ _ _)
   | (with_reducible exact rat_lowest.mono _ _ _)
   | (with_reducible exact LeO.refl _)
   | (with_reducible exact LeO.none _)
   | (with_reducible refine LeO.ite ?_ ?_)
   | (with_reducible refine LeO.bind ?_ (fun _ => ?_))
   | exact ih0 _ _ _
   | exact rat_lowest.mono _ _ _
   | exact LeO.none _
   | refine LeO.ite ?_ ?_
   | refine LeO.bind ?_ (fun _ => ?_)
set_option maxHeartbeats 8000000 in
set_option maxRecDepth 100000 in
theorem rat_Of.calls (k : Nat) (a0 : Int) (a1 : Int) (r1 : Int) (r2 : Int) (r3 : Int) (w : World) (h : rat_Of.f k a0 a1 = some (r1, r2, r3)) :
  Calls Tryd.prog 16 #[.int .i64 a0,.int .i64 a1] w fun e w' => e = .returned (.tuple #[.agg #[.int .i64 r1,.int .i64 r2],.int .i64 r3]) ∧ Below w.heap.size w w' := by
 have hu23 := Tryd.underlying23
 have HB := sd_ (Below.refl w.heap.size w)
 have H : (if a1 = 0 then (rat_Of.j0 k a0 a1 true) else (if a0 < (-1152921504606846976) then (rat_Of.j0 k a0 a1 true) else (if a0 > 1152921504606846976 then (rat_Of.j0 k a0 a1 true) else (if a1 < (-1152921504606846976) then (rat_Of.j0 k a0 a1 true) else (rat_Of.j0 k a0 a1 (decide (a1 > 1152921504606846976))))))) = some (r1,r2,r3) := h
 clear h
 have HC3 := sd_ H
 clear H
 go_enter Tryd.func16,Tryd.ntmps16
 go_upto_region 1 with (first|((with_reducible refine gate_dst (N := 4) rfl ?_);refine box_event ?hg (N := 4) ?hd (cs := #[.int .i64 0,.int .i64 0]) (t := 23) ?hr ?_;(case hd => rfl);(case hg => rfl);(case hr => first|(go_simp;done)|(go_simp;rfl));intro gb252 hg w4 hbox hb;have BK252 := sd_ hbox;have GW252 := gw_ HB e0_ hg;have GE252 := GW252;replace HB := hb_ HB e0_ hb;clear hb hbox hg))
 (try simp only [Act.put,ls_,lz_,lc_])
 go_cut [23] (fun v23 wc => ∃ (kq : Nat) (x23_2 : Bool),v23 = .bool x23_2 ∧ Aside0 (rat_Of.j0 kq a0 a1 x23_2 = some (r1,r2,r3)) ∧ Aside0 (kq ≤ k) ∧ Aside0 (wc.heap[gb252]? = some (.cells #[.int .i64 0,.int .i64 0] 23 (0,0))) ∧ Aside0 (Below w.heap.size w wc))
 case first =>
  have H := HC3.out
  clear HC3
  by_cases c5 : a1 = 0
  ·rw [if_pos c5] at H
   have c5b0 : (a1 == 0) = true := beq_iff_eq.mpr c5
   have c5b1 : (a1 != 0) = false := bne_eq_false_iff_eq.mpr c5
   clear c5
   (first|rw [c5b0]|(simp only [i64_w,i32_w];rw [c5b0])|skip)
   have H' := sd_ H
   clear H
   go_wp2
   go_meet
   case rel => exact ⟨_,(true),(by first|rfl|(simp;done)|(simp [*];done)|(simp [bne];done)),H',⟨by first|omega|exact Nat.le_refl _⟩,⟨by (with_reducible repeat first|apply kn_|apply kd_|apply ka_);exact BK252.out⟩,⟨by repeat (first|(with_reducible first|exact HB.out|apply ba_|apply pd_|apply d1_|refine bs_ ?_ GE252.out)|exact HB.out)⟩⟩
  ·rw [if_neg c5] at H
   have c5b0 : (a1 == 0) = false := beq_eq_false_iff_ne.mpr c5
   have c5b1 : (a1 != 0) = true := bne_iff_ne.mpr c5
   (first|rw [c5b0]|(simp only [i64_w,i32_w];rw [c5b0])|skip)
   by_cases c6 : a0 < (-1152921504606846976)
   ·rw [if_pos c6] at H
    have c6b0 : decide (a0 < (-1152921504606846976)) = true := dt_ c6
    clear c6
    have H' := sd_ H
    clear H
    go_wp2
    go_meet
    case rel => exact ⟨_,(true),(by first|rfl|(simp;done)|(simp [*];done)|(simp [bne];done)),H',⟨by first|omega|exact Nat.le_refl _⟩,⟨by (with_reducible repeat first|apply kn_|apply kd_|apply ka_);exact BK252.out⟩,⟨by repeat (first|(with_reducible first|exact HB.out|apply ba_|apply pd_|apply d1_|refine bs_ ?_ GE252.out)|exact HB.out)⟩⟩
   ·rw [if_neg c6] at H
    have c6b0 : decide (a0 < (-1152921504606846976)) = false := df_ c6
    clear c6
    by_cases c7 : a0 > 1152921504606846976
    ·rw [if_pos c7] at H
     have c7b0 : decide (1152921504606846976 < a0) = true := dt_ c7
     clear c7
     have H' := sd_ H
     clear H
     go_wp2
     go_meet
     case rel => exact ⟨_,(true),(by first|rfl|(simp;done)|(simp [*];done)|(simp [bne];done)),H',⟨by first|omega|exact Nat.le_refl _⟩,⟨by (with_reducible repeat first|apply kn_|apply kd_|apply ka_);exact BK252.out⟩,⟨by repeat (first|(with_reducible first|exact HB.out|apply ba_|apply pd_|apply d1_|refine bs_ ?_ GE252.out)|exact HB.out)⟩⟩
    ·rw [if_neg c7] at H
     have c7b0 : decide (1152921504606846976 < a0) = false := df_ c7
     clear c7
     by_cases c8 : a1 < (-1152921504606846976)
     ·rw [if_pos c8] at H
      have c8b0 : decide (a1 < (-1152921504606846976)) = true := dt_ c8
      clear c8
      have H' := sd_ H
      clear H
      go_wp2
      go_meet
      case rel => exact ⟨_,(true),(by first|rfl|(simp;done)|(simp [*];done)|(simp [bne];done)),H',⟨by first|omega|exact Nat.le_refl _⟩,⟨by (with_reducible repeat first|apply kn_|apply kd_|apply ka_);exact BK252.out⟩,⟨by repeat (first|(with_reducible first|exact HB.out|apply ba_|apply pd_|apply d1_|refine bs_ ?_ GE252.out)|exact HB.out)⟩⟩
     ·rw [if_neg c8] at H
      have c8b0 : decide (a1 < (-1152921504606846976)) = false := df_ c8
      clear c8
      have H' := sd_ H
      clear H
      go_wp2
      go_meet
      case rel => exact ⟨_,(decide (a1 > 1152921504606846976)),(by first|rfl|(simp;done)|(simp [*];done)|(simp [bne];done)),H',⟨by first|omega|exact Nat.le_refl _⟩,⟨by (with_reducible repeat first|apply kn_|apply kd_|apply ka_);exact BK252.out⟩,⟨by repeat (first|(with_reducible first|exact HB.out|apply ba_|apply pd_|apply d1_|refine bs_ ?_ GE252.out)|exact HB.out)⟩⟩
 case rest =>
  clear HC3
  try clear c1;try clear p2;try clear c5;try clear c5b0;try clear c5b1;try clear c6;try clear c6b0;try clear c7;try clear c7b0;try clear c8;try clear c8b0
  obtain ⟨kq,x23_2,rfl,HA,HJ2,BK252,HB⟩ := hcut
  cases kq with
  | zero => exact absurd HA.out (by simp [rat_Of.j0])
  | succ kj2 =>
   have H := HA.out
   clear HA
   simp only [rat_Of.j0] at H
   by_cases c9 : x23_2 = true
   ·subst c9
    have H1 : ((rat_zero.f).bind fun bt253 => (some (bt253.1,bt253.2,2))) = some (r1,r2,r3) := by rw [if_pos rfl] at H;exact H
    clear H;have H := H1;clear H1
    replace H := ob_ H
    obtain ⟨⟨t253,t254⟩,A100,H⟩ := H
    replace H : (some (t253,t254,2)) = some (r1,r2,r3) := H
    have A10 := sd_ A100
    clear A100
    simp only [Option.some.injEq,Prod.mk.injEq] at H
    obtain ⟨rfl,rfl,rfl⟩ := H
    go_wp2_with (first|((with_reducible refine gate_callee (f := 32) rfl ?_);refine goesL_ (some 24) rfl rfl Tryd.func32 (by kernel_rfl) rfl #[] rfl (by (try simp only [lm_,lq_,lx_]);first|done|rfl|(simp only [ld_,lt_];rfl)) ?_;(with_reducible refine (rat_zero.calls  t253 t254 _ A10.out).mono ?_);rintro e w11 ⟨rfl,hb⟩;refine ⟨_,rfl,?_⟩;replace BK252 := kb_ BK252 hb;replace HB := hb_ HB (e_ GE252 e0_) hb;(try clear hb);(try clear hb2);(try clear hk);(try clear hi);have hcz12_0 : w11.cell? ⟨gb252,0,none⟩ = some (.int .i64 0) := (kc_ BK252.out 0).trans rfl;have hcz12_1 : w11.cell? ⟨gb252,1,none⟩ = some (.int .i64 0) := (kc_ BK252.out 1).trans rfl;have hfz12_0 := kf_ BK252.out 0;have hfz12_1 := kf_ BK252.out 1))
    refine bodyPost_ret (results_ct rfl _ _ gb252 23 #[.int .i64 t253,.int .i64 t254] (0,0) _ rfl (by (with_reducible repeat first|apply kn_|apply kd_|apply ka_);refine blk_put (cs := #[.int .i64 t253,.int .i64 0]) ?_ 1 _ rfl;(with_reducible repeat first|apply kn_|apply kd_|apply ka_);refine blk_put (cs := #[.int .i64 0,.int .i64 0]) ?_ 0 _ rfl;(with_reducible repeat first|apply kn_|apply kd_|apply ka_);exact BK252.out) Tryd.underlying23 rfl (by kernel_rfl)) rfl ?_
    exact ⟨by first|rfl|(simp [errW_none,errW_some] <;> rfl)|(simp [*,errW_none,errW_some] <;> rfl),by repeat (first|(with_reducible first|exact HB.out|apply ba_|apply pd_|apply d1_|refine bs_ ?_ GE252.out)|exact HB.out)⟩
   ·replace c9 := bf_ c9
    subst c9
    have H1 : ((rat_lowest.f kj2 a0 a1).bind fun bt255 => (some (bt255.1,bt255.2.1,bt255.2.2))) = some (r1,r2,r3) := by rw [if_neg (show ¬ (false = true) by decide)] at H;exact H
    clear H;have H := H1;clear H1
    replace H := ob_ H
    obtain ⟨⟨t255,t256,t257⟩,A130,H⟩ := H
    replace H : (some (t255,t256,t257)) = some (r1,r2,r3) := H
    have A13 := sd_ A130
    clear A130
    simp only [Option.some.injEq,Prod.mk.injEq] at H
    obtain ⟨rfl,rfl,rfl⟩ := H
    go_wp2_with (first|((with_reducible refine gate_callee (f := 34) rfl ?_);refine goesL_ (some 27) rfl rfl Tryd.func34 (by kernel_rfl) rfl #[.int .i64 a0,.int .i64 a1] rfl (by (try simp only [lm_,lq_,lx_]);first|done|rfl|(simp only [ld_,lt_];rfl)) ?_;(with_reducible refine (rat_lowest.calls kj2 a0 a1 t255 t256 t257 _ A13.out).mono ?_);rintro e w14 ⟨rfl,hb⟩;refine ⟨_,rfl,?_⟩;replace BK252 := kb_ BK252 hb;replace HB := hb_ HB (e_ GE252 e0_) hb;(try clear hb);(try clear hb2);(try clear hk);(try clear hi);have hcz15_0 : w14.cell? ⟨gb252,0,none⟩ = some (.int .i64 0) := (kc_ BK252.out 0).trans rfl;have hcz15_1 : w14.cell? ⟨gb252,1,none⟩ = some (.int .i64 0) := (kc_ BK252.out 1).trans rfl;have hfz15_0 := kf_ BK252.out 0;have hfz15_1 := kf_ BK252.out 1))
    refine bodyPost_ret (results_ct rfl _ _ gb252 23 #[.int .i64 t255,.int .i64 t256] (0,0) _ rfl (by (with_reducible repeat first|apply kn_|apply kd_|apply ka_);refine blk_put (cs := #[.int .i64 t255,.int .i64 0]) ?_ 1 _ rfl;(with_reducible repeat first|apply kn_|apply kd_|apply ka_);refine blk_put (cs := #[.int .i64 0,.int .i64 0]) ?_ 0 _ rfl;(with_reducible repeat first|apply kn_|apply kd_|apply ka_);exact BK252.out) Tryd.underlying23 rfl (by kernel_rfl)) rfl ?_
    exact ⟨by first|rfl|(simp [errW_none,errW_some] <;> rfl)|(simp [*,errW_none,errW_some] <;> rfl),by repeat (first|(with_reducible first|exact HB.out|apply ba_|apply pd_|apply d1_|refine bs_ ?_ GE252.out)|exact HB.out)⟩

/-! ### rat_Floor: function 25 -/
def rat_Floor.f (k : Nat) (a0_0 : Int) (a0_1 : Int) : Option (Int) := (rat_Check.f k a0_0 a0_1).bind fun t263 => (if t263 = true then (if a0_1 = 0 then (none) else (if a0_0 < 0 then (if a0_0 = (wrap64 ((wrap64 (Int.tdiv a0_0 a0_1)) * a0_1)) then (some (wrap64 (Int.tdiv a0_0 a0_1))) else (some (wrap64 ((wrap64 (Int.tdiv a0_0 a0_1)) - 1)))) else (some (wrap64 (Int.tdiv a0_0 a0_1))))) else (some 0))
theorem rat_Floor.mono : ∀ a0 a1 k, LeO (rat_Floor.f k a0 a1) (rat_Floor.f (k + 1) a0 a1) := by
 intro a0 a1 k
 unfold rat_Floor.f
 repeat' first
   | (with_reducible exact rat_Check.mono _ _ _)
   | (with_reducible exact LeO.refl _)
   | (with_reducible exact LeO.none _)
   | (with_reducible refine LeO.ite ?_ ?_)
   | (with_reducible refine LeO.bind ?_ (fun _ => ?_))
   | exact rat_Check.mono _ _ _
   | exact LeO.none _
   | refine LeO.ite ?_ ?_
   | refine LeO.bind ?_ (fun _ => ?_)
set_option maxHeartbeats 8000000 in
set_option maxRecDepth 100000 in
theorem rat_Floor.calls (k : Nat) (a0_0 : Int) (a0_1 : Int) (r : Int) (w : World) (h : rat_Floor.f k a0_0 a0_1 = some r) :
  Calls Tryd.prog 25 #[.agg #[.int .i64 a0_0,.int .i64 a0_1]] w fun e w' => e = .returned (.int .i64 r) ∧ Below w.heap.size w w' := by
 have hu23 := Tryd.underlying23
 have HB := sd_ (Below.refl w.heap.size w)
 have H : ((rat_Check.f k a0_0 a0_1).bind fun t263 => (if t263 = true then (if a0_1 = 0 then (none) else (if a0_0 < 0 then (if a0_0 = (wrap64 ((wrap64 (Int.tdiv a0_0 a0_1)) * a0_1)) then (some (wrap64 (Int.tdiv a0_0 a0_1))) else (some (wrap64 ((wrap64 (Int.tdiv a0_0 a0_1)) - 1)))) else (some (wrap64 (Int.tdiv a0_0 a0_1))))) else (some 0))) = some r := h
 clear h
 replace H := ob_ H
 obtain ⟨t263,A20,H⟩ := H
 replace H : (if t263 = true then (if a0_1 = 0 then (none) else (if a0_0 < 0 then (if a0_0 = (wrap64 ((wrap64 (Int.tdiv a0_0 a0_1)) * a0_1)) then (some (wrap64 (Int.tdiv a0_0 a0_1))) else (some (wrap64 ((wrap64 (Int.tdiv a0_0 a0_1)) - 1)))) else (some (wrap64 (Int.tdiv a0_0 a0_1))))) else (some 0)) = some r := H
 have A2 := sd_ A20
 clear A20
 by_cases c3 : t263 = true
 ·subst c3
  have H1 : (if a0_1 = 0 then (none) else (if a0_0 < 0 then (if a0_0 = (wrap64 ((wrap64 (Int.tdiv a0_0 a0_1)) * a0_1)) then (some (wrap64 (Int.tdiv a0_0 a0_1))) else (some (wrap64 ((wrap64 (Int.tdiv a0_0 a0_1)) - 1)))) else (some (wrap64 (Int.tdiv a0_0 a0_1))))) = some r := by rw [if_pos rfl] at H;exact H
  clear H;have H := H1;clear H1
  by_cases c4 : a0_1 = 0
  ·rw [if_pos c4] at H
   exact absurd H (by simp)
  ·rw [if_neg c4] at H
   have c4b0 : (a0_1 == 0) = false := beq_eq_false_iff_ne.mpr c4
   have c4b1 : (a0_1 != 0) = true := bne_iff_ne.mpr c4
   by_cases c5 : a0_0 < 0
   ·rw [if_pos c5] at H
    have c5b0 : decide (a0_0 < 0) = true := dt_ c5
    clear c5
    by_cases c6 : a0_0 = (wrap64 ((wrap64 (Int.tdiv a0_0 a0_1)) * a0_1))
    ·rw [if_pos c6] at H
     have c6b0 : (a0_0 == (wrap64 ((wrap64 (Int.tdiv a0_0 a0_1)) * a0_1))) = true := beq_iff_eq.mpr c6
     have c6b1 : (a0_0 != (wrap64 ((wrap64 (Int.tdiv a0_0 a0_1)) * a0_1))) = false := bne_eq_false_iff_eq.mpr c6
     clear c6
     obtain rfl := Option.some.inj H
     go_enter Tryd.func25,Tryd.ntmps25
     go_wp2_with (first|((with_reducible refine gate_dst (N := 1) rfl ?_);refine box_event ?hg (N := 1) ?hd (cs := #[.int .i64 a0_0,.int .i64 a0_1]) (t := 23) ?hr ?_;(case hd => rfl);(case hg => rfl);(case hr => first|(go_simp;done)|(go_simp;rfl));intro gb262 hg w7 hbox hb;have BK262 := sd_ hbox;have GW262 := gw_ HB e0_ hg;have GE262 := GW262;replace HB := hb_ HB e0_ hb;clear hb hbox hg;have hcz8_0 : w7.cell? ⟨gb262,0,none⟩ = some (.int .i64 a0_0) := (kc_ BK262.out 0).trans rfl;have hcz8_1 : w7.cell? ⟨gb262,1,none⟩ = some (.int .i64 a0_1) := (kc_ BK262.out 1).trans rfl;have hfz8_0 := kf_ BK262.out 0;have hfz8_1 := kf_ BK262.out 1)|((with_reducible refine gate_callee (f := 29) rfl ?_);refine goesL_ (some 5) rfl rfl Tryd.func29 (by kernel_rfl) rfl #[.agg #[.int .i64 a0_0,.int .i64 a0_1]] rfl (by (try simp only [lm_,lq_,lx_]);first|done|rfl|(simp only [ld_,lt_];rfl)) ?_;(with_reducible refine (rat_Check.calls k a0_0 a0_1 true _ A2.out).mono ?_);rintro e w9 ⟨rfl,hb⟩;refine ⟨_,rfl,?_⟩;replace BK262 := kb_ BK262 hb;replace HB := hb_ HB (e_ GE262 e0_) hb;(try clear hb);(try clear hb2);(try clear hk);(try clear hi);have hcz10_0 : w9.cell? ⟨gb262,0,none⟩ = some (.int .i64 a0_0) := (kc_ BK262.out 0).trans rfl;have hcz10_1 : w9.cell? ⟨gb262,1,none⟩ = some (.int .i64 a0_1) := (kc_ BK262.out 1).trans rfl;have hfz10_0 := kf_ BK262.out 0;have hfz10_1 := kf_ BK262.out 1))
     go_ret
     exact ⟨by first|rfl|(simp [errW_none,errW_some] <;> rfl)|(simp [*,errW_none,errW_some] <;> rfl),by repeat (first|(with_reducible first|exact HB.out|apply ba_|apply pd_|apply d1_|refine bs_ ?_ GE262.out)|exact HB.out)⟩
    ·rw [if_neg c6] at H
     have c6b0 : (a0_0 == (wrap64 ((wrap64 (Int.tdiv a0_0 a0_1)) * a0_1))) = false := beq_eq_false_iff_ne.mpr c6
     have c6b1 : (a0_0 != (wrap64 ((wrap64 (Int.tdiv a0_0 a0_1)) * a0_1))) = true := bne_iff_ne.mpr c6
     obtain rfl := Option.some.inj H
     go_enter Tryd.func25,Tryd.ntmps25
     go_wp2_with (first|((with_reducible refine gate_dst (N := 1) rfl ?_);refine box_event ?hg (N := 1) ?hd (cs := #[.int .i64 a0_0,.int .i64 a0_1]) (t := 23) ?hr ?_;(case hd => rfl);(case hg => rfl);(case hr => first|(go_simp;done)|(go_simp;rfl));intro gb262 hg w11 hbox hb;have BK262 := sd_ hbox;have GW262 := gw_ HB e0_ hg;have GE262 := GW262;replace HB := hb_ HB e0_ hb;clear hb hbox hg;have hcz12_0 : w11.cell? ⟨gb262,0,none⟩ = some (.int .i64 a0_0) := (kc_ BK262.out 0).trans rfl;have hcz12_1 : w11.cell? ⟨gb262,1,none⟩ = some (.int .i64 a0_1) := (kc_ BK262.out 1).trans rfl;have hfz12_0 := kf_ BK262.out 0;have hfz12_1 := kf_ BK262.out 1)|((with_reducible refine gate_callee (f := 29) rfl ?_);refine goesL_ (some 5) rfl rfl Tryd.func29 (by kernel_rfl) rfl #[.agg #[.int .i64 a0_0,.int .i64 a0_1]] rfl (by (try simp only [lm_,lq_,lx_]);first|done|rfl|(simp only [ld_,lt_];rfl)) ?_;(with_reducible refine (rat_Check.calls k a0_0 a0_1 true _ A2.out).mono ?_);rintro e w13 ⟨rfl,hb⟩;refine ⟨_,rfl,?_⟩;replace BK262 := kb_ BK262 hb;replace HB := hb_ HB (e_ GE262 e0_) hb;(try clear hb);(try clear hb2);(try clear hk);(try clear hi);have hcz14_0 : w13.cell? ⟨gb262,0,none⟩ = some (.int .i64 a0_0) := (kc_ BK262.out 0).trans rfl;have hcz14_1 : w13.cell? ⟨gb262,1,none⟩ = some (.int .i64 a0_1) := (kc_ BK262.out 1).trans rfl;have hfz14_0 := kf_ BK262.out 0;have hfz14_1 := kf_ BK262.out 1))
     go_ret
     exact ⟨by first|rfl|(simp [errW_none,errW_some] <;> rfl)|(simp [*,errW_none,errW_some] <;> rfl),by repeat (first|(with_reducible first|exact HB.out|apply ba_|apply pd_|apply d1_|refine bs_ ?_ GE262.out)|exact HB.out)⟩
   ·rw [if_neg c5] at H
    have c5b0 : decide (a0_0 < 0) = false := df_ c5
    clear c5
    obtain rfl := Option.some.inj H
    go_enter Tryd.func25,Tryd.ntmps25
    go_wp2_with (first|((with_reducible refine gate_dst (N := 1) rfl ?_);refine box_event ?hg (N := 1) ?hd (cs := #[.int .i64 a0_0,.int .i64 a0_1]) (t := 23) ?hr ?_;(case hd => rfl);(case hg => rfl);(case hr => first|(go_simp;done)|(go_simp;rfl));intro gb262 hg w15 hbox hb;have BK262 := sd_ hbox;have GW262 := gw_ HB e0_ hg;have GE262 := GW262;replace HB := hb_ HB e0_ hb;clear hb hbox hg;have hcz16_0 : w15.cell? ⟨gb262,0,none⟩ = some (.int .i64 a0_0) := (kc_ BK262.out 0).trans rfl;have hcz16_1 : w15.cell? ⟨gb262,1,none⟩ = some (.int .i64 a0_1) := (kc_ BK262.out 1).trans rfl;have hfz16_0 := kf_ BK262.out 0;have hfz16_1 := kf_ BK262.out 1)|((with_reducible refine gate_callee (f := 29) rfl ?_);refine goesL_ (some 5) rfl rfl Tryd.func29 (by kernel_rfl) rfl #[.agg #[.int .i64 a0_0,.int .i64 a0_1]] rfl (by (try simp only [lm_,lq_,lx_]);first|done|rfl|(simp only [ld_,lt_];rfl)) ?_;(with_reducible refine (rat_Check.calls k a0_0 a0_1 true _ A2.out).mono ?_);rintro e w17 ⟨rfl,hb⟩;refine ⟨_,rfl,?_⟩;replace BK262 := kb_ BK262 hb;replace HB := hb_ HB (e_ GE262 e0_) hb;(try clear hb);(try clear hb2);(try clear hk);(try clear hi);have hcz18_0 : w17.cell? ⟨gb262,0,none⟩ = some (.int .i64 a0_0) := (kc_ BK262.out 0).trans rfl;have hcz18_1 : w17.cell? ⟨gb262,1,none⟩ = some (.int .i64 a0_1) := (kc_ BK262.out 1).trans rfl;have hfz18_0 := kf_ BK262.out 0;have hfz18_1 := kf_ BK262.out 1))
    go_ret
    exact ⟨by first|rfl|(simp [errW_none,errW_some] <;> rfl)|(simp [*,errW_none,errW_some] <;> rfl),by repeat (first|(with_reducible first|exact HB.out|apply ba_|apply pd_|apply d1_|refine bs_ ?_ GE262.out)|exact HB.out)⟩
 ·replace c3 := bf_ c3
  subst c3
  have H1 : (some 0) = some r := by rw [if_neg (show ¬ (false = true) by decide)] at H;exact H
  clear H;have H := H1;clear H1
  obtain rfl := Option.some.inj H
  go_enter Tryd.func25,Tryd.ntmps25
  go_wp2_with (first|((with_reducible refine gate_dst (N := 1) rfl ?_);refine box_event ?hg (N := 1) ?hd (cs := #[.int .i64 a0_0,.int .i64 a0_1]) (t := 23) ?hr ?_;(case hd => rfl);(case hg => rfl);(case hr => first|(go_simp;done)|(go_simp;rfl));intro gb262 hg w19 hbox hb;have BK262 := sd_ hbox;have GW262 := gw_ HB e0_ hg;have GE262 := GW262;replace HB := hb_ HB e0_ hb;clear hb hbox hg;have hcz20_0 : w19.cell? ⟨gb262,0,none⟩ = some (.int .i64 a0_0) := (kc_ BK262.out 0).trans rfl;have hcz20_1 : w19.cell? ⟨gb262,1,none⟩ = some (.int .i64 a0_1) := (kc_ BK262.out 1).trans rfl;have hfz20_0 := kf_ BK262.out 0;have hfz20_1 := kf_ BK262.out 1)|((with_reducible refine gate_callee (f := 29) rfl ?_);refine goesL_ (some 5) rfl rfl Tryd.func29 (by kernel_rfl) rfl #[.agg #[.int .i64 a0_0,.int .i64 a0_1]] rfl (by (try simp only [lm_,lq_,lx_]);first|done|rfl|(simp only [ld_,lt_];rfl)) ?_;(with_reducible refine (rat_Check.calls k a0_0 a0_1 false _ A2.out).mono ?_);rintro e w21 ⟨rfl,hb⟩;refine ⟨_,rfl,?_⟩;replace BK262 := kb_ BK262 hb;replace HB := hb_ HB (e_ GE262 e0_) hb;(try clear hb);(try clear hb2);(try clear hk);(try clear hi)))
  go_ret
  exact ⟨by first|rfl|(simp [errW_none,errW_some] <;> rfl)|(simp [*,errW_none,errW_some] <;> rfl),by repeat (first|(with_reducible first|exact HB.out|apply ba_|apply pd_|apply d1_|refine bs_ ?_ GE262.out)|exact HB.out)⟩

/-! ### rat_Mod: function 19 -/
mutual
def rat_Mod.j0 : Nat → Bool → Int → Int → Int → Int → Option (Int × Int × Int)
 | 0, _, _, _, _, _ => none
 | k + 1, x16, x265000, x265001, x266000, x266001 => if x16 = true then ((rat_zero.f).bind fun bt268 => (some (bt268.1, bt268.2, 2))) else ((rat_Div.f k x265000 x265001 x266000 x266001).bind fun bt270 => (if bt270.2.2 = 0 then ((rat_Floor.f k bt270.1 bt270.2.1).bind fun t274 => ((rat_whole.f t274).bind fun bt275 => ((rat_Mul.f k x266000 x266001 bt275.1 bt275.2).bind fun bt277 => (rat_Mod.j1 k bt277.2.2 x265000 x265001 bt277.1 bt277.2.1)))) else (rat_Mod.j1 k bt270.2.2 x265000 x265001 bt270.1 bt270.2.1)))
def rat_Mod.j1 : Nat → Int → Int → Int → Int → Int → Option (Int × Int × Int)
 | 0, _, _, _, _, _ => none
 | k + 1, x7, x265000, x265001, x274000, x274001 => if x7 = 0 then ((rat_Sub.f k x265000 x265001 x274000 x274001).bind fun bt280 => (some (bt280.1, bt280.2.1, bt280.2.2))) else ((rat_zero.f).bind fun bt283 => (some (bt283.1, bt283.2, x7)))
end
def rat_Mod.f (k : Nat) (a0_0 : Int) (a0_1 : Int) (a1_0 : Int) (a1_1 : Int) : Option (Int × Int × Int) := (rat_both.f k a0_0 a0_1 a1_0 a1_1).bind fun t267 => (if t267 = true then (rat_Mod.j0 k (decide (a1_0 ≤ 0)) a0_0 a0_1 a1_0 a1_1) else (rat_Mod.j0 k true a0_0 a0_1 a1_0 a1_1))
theorem rat_Mod.mono_l : ∀ k, (∀ y0 y1 y2 y3 y4, LeO (rat_Mod.j0 k y0 y1 y2 y3 y4) (rat_Mod.j0 (k + 1) y0 y1 y2 y3 y4)) ∧ (∀ y0 y1 y2 y3 y4, LeO (rat_Mod.j1 k y0 y1 y2 y3 y4) (rat_Mod.j1 (k + 1) y0 y1 y2 y3 y4))
 | 0 => ⟨fun _ _ _ _ _ r h => by simp [rat_Mod.j0] at h, fun _ _ _ _ _ r h => by simp [rat_Mod.j1] at h⟩
 | k + 1 => by
  obtain ⟨ih0,ih1⟩ := rat_Mod.mono_l k
  refine ⟨?_,?_⟩
  ·intro y0 y1 y2 y3 y4
   unfold rat_Mod.j0
   repeat' first
   | (with_reducible exact ih0 _ _ _ _ _)
   | (with_reducible exact ih1 _ _ _ _ _)
   | (with_reducible exact rat_Div.mono _ _ _ _ _)
   | (with_reducible exact rat_Floor.mono _ _ _)
   | (with_reducible exact rat_Mul.mono _ _ _ _ _)
   | (with_reducible exact rat_Sub.mono _ _ _ _ _)
   | (with_reducible exact rat_both.mono _ _ _ _ _)
   | (with_reducible exact LeO.refl _)
   | (with_reducible exact LeO.none _)
   | (with_reducible refine LeO.ite ?_ ?_)
   | (with_reducible refine LeO.bind ?_ (fun _ => ?_))
   | exact ih0 _ _ _ _ _
   | exact ih1 _ _ _ _ _
   | exact rat_Div.mono _ _ _ _ _
   | exact rat_Floor.mono _ _ _
   | exact rat_Mul.mono _ _ _ _ _
   | exact rat_Sub.mono _ _ _ _ _
   | exact rat_both.mono _ _ _ _ _
   | exact LeO.none _
   | refine LeO.ite ?_ ?_
   | refine LeO.bind ?_ (fun _ => ?_)
  ·intro y0 y1 y2 y3 y4
   unfold rat_Mod.j1
   repeat' first
   | (with_reducible exact ih0 _ _ _ _ _)
   | (with_reducible exact ih1 _ _ _ _ _)
   | (with_reducible exact rat_Div.mono _ _ _ _ _)
   | (with_reducible exact rat_Floor.mono _ _ _)
   | (with_reducible exact rat_Mul.mono _ _ _ _ _)
   | (with_reducible exact rat_Sub.mono _ _ _ _ _)
   | (with_reducible exact rat_both.mono _ _ _ _ _)
   | (with_reducible exact LeO.refl _)
   | (with_reducible exact LeO.none _)
   | (with_reducible refine LeO.ite ?_ ?_)
   | (with_reducible refine LeO.bind ?_ (fun _ => ?_))
   | exact ih0 _ _ _ _ _
   | exact ih1 _ _ _ _ _
   | exact rat_Div.mono _ _ _ _ _
   | exact rat_Floor.mono _ _ _
   | exact rat_Mul.mono _ _ _ _ _
   | exact rat_Sub.mono _ _ _ _ _
   | exact rat_both.mono _ _ _ _ _
   | exact LeO.none _
   | refine LeO.ite ?_ ?_
   | refine LeO.bind ?_ (fun _ => ?_)
theorem rat_Mod.mono : ∀ a0 a1 a2 a3 k, LeO (rat_Mod.f k a0 a1 a2 a3) (rat_Mod.f (k + 1) a0 a1 a2 a3) := by
 intro a0 a1 a2 a3 k
 obtain ⟨ih0,ih1⟩ := rat_Mod.mono_l k
 unfold rat_Mod.f
 repeat' first
   | (with_reducible exact ih0 _ _ _ _ _)
   | (with_reducible exact ih1 _ _ _ _ _)
   | (with_reducible exact rat_Div.mono _ _ _ _ _)
   | (with_reducible exact rat_Floor.mono _ _ _)
   | (with_reducible exact rat_Mul.mono _ _ _ _ _)
   | (with_reducible exact rat_Sub.mono _ _ _ _ _)
   | (with_reducible exact rat_both.mono _ _ _ _ _)
   | (with_reducible exact LeO.refl _)
   | (with_reducible exact LeO.none _)
   | (with_reducible refine LeO.ite ?_ ?_)
   | (with_reducible refine LeO.bind ?_ (fun _ => ?_))
   | exact ih0 _ _ _ _ _
   | exact ih1 _ _ _ _ _
   | exact rat_Div.mono _ _ _ _ _
   | exact rat_Floor.mono _ _ _
   | exact rat_Mul.mono _ _ _ _ _
   | exact rat_Sub.mono _ _ _ _ _
   | exact rat_both.mono _ _ _ _ _
   | exact LeO.none _
   | refine LeO.ite ?_ ?_
   | refine LeO.bind ?_ (fun _ => ?_)
def rat_Mod.T5 : Bool × List (List Nat × List Nat) := (true, [([], []), ([], []), ([1], [1]), ([2, 2], [2]), ([0, 3, 3], [0, 3]), ([4], [4]), ([5], [5]), ([5], [5]), ([6, 4, 0, 1, 2, 3, 4, 5, 6], [6]), ([7, 8, 0, 1, 2, 3, 4, 5, 6, 7, 8], [7])])
def rat_Mod.B5 : List Nat := [0, 0, 2, 6, 15, 31, 63, 63, 127, 511]
theorem rat_Mod.tab5 : rtab .any (opsOf Tryd.f19 5) = rat_Mod.T5 := by kernel_rfl
theorem rat_Mod.bits5 : waitsOk rat_Mod.T5.2 rat_Mod.B5 = true := by kernel_rfl
set_option maxHeartbeats 8000000 in
set_option maxRecDepth 100000 in
theorem rat_Mod.calls (k : Nat) (a0_0 : Int) (a0_1 : Int) (a1_0 : Int) (a1_1 : Int) (r1 : Int) (r2 : Int) (r3 : Int) (w : World) (h : rat_Mod.f k a0_0 a0_1 a1_0 a1_1 = some (r1, r2, r3)) :
  Calls Tryd.prog 19 #[.agg #[.int .i64 a0_0,.int .i64 a0_1],.agg #[.int .i64 a1_0,.int .i64 a1_1]] w fun e w' => e = .returned (.tuple #[.agg #[.int .i64 r1,.int .i64 r2],.int .i64 r3]) ∧ Below w.heap.size w w' := by
 have hu23 := Tryd.underlying23
 have HB := sd_ (Below.refl w.heap.size w)
 have H : ((rat_both.f k a0_0 a0_1 a1_0 a1_1).bind fun t267 => (if t267 = true then (rat_Mod.j0 k (decide (a1_0 ≤ 0)) a0_0 a0_1 a1_0 a1_1) else (rat_Mod.j0 k true a0_0 a0_1 a1_0 a1_1))) = some (r1,r2,r3) := h
 clear h
 have HC3 := sd_ H
 clear H
 go_enter Tryd.func19,Tryd.ntmps19
 go_upto_region 1 with (first|((with_reducible refine gate_dst (N := 2) rfl ?_);refine box_event ?hg (N := 2) ?hd (cs := #[.int .i64 a0_0,.int .i64 a0_1]) (t := 23) ?hr ?_;(case hd => rfl);(case hg => rfl);(case hr => first|(go_simp;done)|(go_simp;rfl));intro gb264 hg w4 hbox hb;have BK264 := sd_ hbox;have GW264 := gw_ HB e0_ hg;have GE264 := GW264;replace HB := hb_ HB e0_ hb;clear hb hbox hg)|((with_reducible refine gate_dst (N := 3) rfl ?_);refine box_event ?hg (N := 3) ?hd (cs := #[.int .i64 a1_0,.int .i64 a1_1]) (t := 23) ?hr ?_;(case hd => rfl);(case hg => rfl);(case hr => first|(go_simp;done)|(go_simp;rfl));intro gb265 hg w5 hbox hb;have BK265 := sd_ hbox;have GW265 := gw_ HB (e_ GE264 e0_) hg;have GE265 := GW265;have NB264_265 := nb_ BK264 hg;have NB265_264 := sy_ NB264_265;replace BK264 := kb_ BK264 hb;replace HB := hb_ HB (e_ GE264 e0_) hb;clear hb hbox hg)|((with_reducible refine gate_dst (N := 4) rfl ?_);refine box_event ?hg (N := 4) ?hd (cs := #[.int .i64 0,.int .i64 0]) (t := 23) ?hr ?_;(case hd => rfl);(case hg => rfl);(case hr => first|(go_simp;done)|(go_simp;rfl));intro gb266 hg w6 hbox hb;have BK266 := sd_ hbox;have GW266 := gw_ HB (e_ GE264 (e_ GE265 e0_)) hg;have GE266 := GW266;have NB264_266 := nb_ BK264 hg;have NB266_264 := sy_ NB264_266;have NB265_266 := nb_ BK265 hg;have NB266_265 := sy_ NB265_266;replace BK264 := kb_ BK264 hb;replace BK265 := kb_ BK265 hb;replace HB := hb_ HB (e_ GE264 (e_ GE265 e0_)) hb;clear hb hbox hg))
 (try simp only [Act.put,ls_,lz_,lc_])
 go_cut [16] (fun v16 wc => ∃ (kq : Nat) (x16_2 : Bool),v16 = .bool x16_2 ∧ Aside0 (rat_Mod.j0 kq x16_2 a0_0 a0_1 a1_0 a1_1 = some (r1,r2,r3)) ∧ Aside0 (kq ≤ k) ∧ Aside0 (wc.heap[gb264]? = some (.cells #[.int .i64 a0_0,.int .i64 a0_1] 23 (0,0))) ∧ Aside0 (wc.heap[gb265]? = some (.cells #[.int .i64 a1_0,.int .i64 a1_1] 23 (0,0))) ∧ Aside0 (wc.heap[gb266]? = some (.cells #[.int .i64 0,.int .i64 0] 23 (0,0))) ∧ Aside0 (Below w.heap.size w wc))
 case first =>
  have H := HC3.out
  clear HC3
  replace H := ob_ H
  obtain ⟨t267,A70,H⟩ := H
  replace H : (if t267 = true then (rat_Mod.j0 k (decide (a1_0 ≤ 0)) a0_0 a0_1 a1_0 a1_1) else (rat_Mod.j0 k true a0_0 a0_1 a1_0 a1_1)) = some (r1,r2,r3) := H
  have A7 := sd_ A70
  clear A70
  by_cases c8 : t267 = true
  ·subst c8
   have H1 : (rat_Mod.j0 k (decide (a1_0 ≤ 0)) a0_0 a0_1 a1_0 a1_1) = some (r1,r2,r3) := by rw [if_pos rfl] at H;exact H
   clear H;have H := H1;clear H1
   have H' := sd_ H
   clear H
   have hnb9 := NB264_265.out
   have hnc9 := NB265_264.out
   have hnb10 := NB264_266.out
   have hnc10 := NB266_264.out
   have hcz11_0 : w6.cell? ⟨gb264,0,none⟩ = some (.int .i64 a0_0) := (kc_ BK264.out 0).trans rfl
   have hcz11_1 : w6.cell? ⟨gb264,1,none⟩ = some (.int .i64 a0_1) := (kc_ BK264.out 1).trans rfl
   have hfz11_0 := kf_ BK264.out 0
   have hfz11_1 := kf_ BK264.out 1
   have hnb12 := NB265_266.out
   have hnc12 := NB266_265.out
   have hcz13_0 : w6.cell? ⟨gb265,0,none⟩ = some (.int .i64 a1_0) := (kc_ BK265.out 0).trans rfl
   have hcz13_1 : w6.cell? ⟨gb265,1,none⟩ = some (.int .i64 a1_1) := (kc_ BK265.out 1).trans rfl
   have hfz13_0 := kf_ BK265.out 0
   have hfz13_1 := kf_ BK265.out 1
   go_wp2_with (first|((with_reducible refine gate_callee (f := 31) rfl ?_);refine goesL_ (some 10) rfl rfl Tryd.func31 (by kernel_rfl) rfl #[.agg #[.int .i64 a0_0,.int .i64 a0_1],.agg #[.int .i64 a1_0,.int .i64 a1_1]] rfl (by (try simp only [lm_,lq_,lx_]);first|done|rfl|(simp only [ld_,lt_];rfl)) ?_;(with_reducible refine (rat_both.calls k a0_0 a0_1 a1_0 a1_1 true _ A7.out).mono ?_);rintro e w14 ⟨rfl,hb⟩;refine ⟨_,rfl,?_⟩;replace BK264 := kb_ BK264 hb;replace BK265 := kb_ BK265 hb;replace BK266 := kb_ BK266 hb;replace HB := hb_ HB (e_ GE264 (e_ GE265 (e_ GE266 e0_))) hb;(try clear hb);(try clear hb2);(try clear hk);(try clear hi);have hcz15_0 : w14.cell? ⟨gb265,0,none⟩ = some (.int .i64 a1_0) := (kc_ BK265.out 0).trans rfl;have hcz15_1 : w14.cell? ⟨gb265,1,none⟩ = some (.int .i64 a1_1) := (kc_ BK265.out 1).trans rfl;have hfz15_0 := kf_ BK265.out 0;have hfz15_1 := kf_ BK265.out 1))
   go_meet
   case rel => exact ⟨_,(decide (a1_0 ≤ 0)),(by first|rfl|(simp;done)|(simp [*];done)|(simp [bne];done)),H',⟨by first|omega|exact Nat.le_refl _⟩,⟨by (with_reducible repeat first|apply kn_|apply kd_|apply ka_);exact BK264.out⟩,⟨by (with_reducible repeat first|apply kn_|apply kd_|apply ka_);exact BK265.out⟩,⟨by (with_reducible repeat first|apply kn_|apply kd_|apply ka_);exact BK266.out⟩,⟨by repeat (first|(with_reducible first|exact HB.out|apply ba_|apply pd_|apply d1_|refine bs_ ?_ GE264.out|refine bs_ ?_ GE265.out|refine bs_ ?_ GE266.out)|exact HB.out)⟩⟩
  ·replace c8 := bf_ c8
   subst c8
   have H1 : (rat_Mod.j0 k true a0_0 a0_1 a1_0 a1_1) = some (r1,r2,r3) := by rw [if_neg (show ¬ (false = true) by decide)] at H;exact H
   clear H;have H := H1;clear H1
   have H' := sd_ H
   clear H
   have hnb16 := NB264_265.out
   have hnc16 := NB265_264.out
   have hnb17 := NB264_266.out
   have hnc17 := NB266_264.out
   have hcz18_0 : w6.cell? ⟨gb264,0,none⟩ = some (.int .i64 a0_0) := (kc_ BK264.out 0).trans rfl
   have hcz18_1 : w6.cell? ⟨gb264,1,none⟩ = some (.int .i64 a0_1) := (kc_ BK264.out 1).trans rfl
   have hfz18_0 := kf_ BK264.out 0
   have hfz18_1 := kf_ BK264.out 1
   have hnb19 := NB265_266.out
   have hnc19 := NB266_265.out
   have hcz20_0 : w6.cell? ⟨gb265,0,none⟩ = some (.int .i64 a1_0) := (kc_ BK265.out 0).trans rfl
   have hcz20_1 : w6.cell? ⟨gb265,1,none⟩ = some (.int .i64 a1_1) := (kc_ BK265.out 1).trans rfl
   have hfz20_0 := kf_ BK265.out 0
   have hfz20_1 := kf_ BK265.out 1
   go_wp2_with (first|((with_reducible refine gate_callee (f := 31) rfl ?_);refine goesL_ (some 10) rfl rfl Tryd.func31 (by kernel_rfl) rfl #[.agg #[.int .i64 a0_0,.int .i64 a0_1],.agg #[.int .i64 a1_0,.int .i64 a1_1]] rfl (by (try simp only [lm_,lq_,lx_]);first|done|rfl|(simp only [ld_,lt_];rfl)) ?_;(with_reducible refine (rat_both.calls k a0_0 a0_1 a1_0 a1_1 false _ A7.out).mono ?_);rintro e w21 ⟨rfl,hb⟩;refine ⟨_,rfl,?_⟩;replace BK264 := kb_ BK264 hb;replace BK265 := kb_ BK265 hb;replace BK266 := kb_ BK266 hb;replace HB := hb_ HB (e_ GE264 (e_ GE265 (e_ GE266 e0_))) hb;(try clear hb);(try clear hb2);(try clear hk);(try clear hi)))
   go_meet
   case rel => exact ⟨_,(true),(by first|rfl|(simp;done)|(simp [*];done)|(simp [bne];done)),H',⟨by first|omega|exact Nat.le_refl _⟩,⟨by (with_reducible repeat first|apply kn_|apply kd_|apply ka_);exact BK264.out⟩,⟨by (with_reducible repeat first|apply kn_|apply kd_|apply ka_);exact BK265.out⟩,⟨by (with_reducible repeat first|apply kn_|apply kd_|apply ka_);exact BK266.out⟩,⟨by repeat (first|(with_reducible first|exact HB.out|apply ba_|apply pd_|apply d1_|refine bs_ ?_ GE264.out|refine bs_ ?_ GE265.out|refine bs_ ?_ GE266.out)|exact HB.out)⟩⟩
 case rest =>
  clear HC3
  try clear c1;try clear p2;try clear c3;try clear c8;try clear c9;try clear c10;try clear c12;try clear c16;try clear c17;try clear c19;try clear hcz11_0;try clear hcz11_1;try clear hcz13_0;try clear hcz13_1;try clear hcz15_0;try clear hcz15_1;try clear hcz18_0;try clear hcz18_1;try clear hcz20_0;try clear hcz20_1;try clear hfz11_0;try clear hfz11_1;try clear hfz13_0;try clear hfz13_1;try clear hfz15_0;try clear hfz15_1;try clear hfz18_0;try clear hfz18_1;try clear hfz20_0;try clear hfz20_1
  obtain ⟨kq,x16_2,rfl,HA,HJ2,BK264,BK265,BK266,HB⟩ := hcut
  cases kq with
  | zero => exact absurd HA.out (by simp [rat_Mod.j0])
  | succ kj2 =>
   have H := HA.out
   clear HA
   simp only [rat_Mod.j0] at H
   by_cases c22 : x16_2 = true
   ·subst c22
    have H1 : ((rat_zero.f).bind fun bt268 => (some (bt268.1,bt268.2,2))) = some (r1,r2,r3) := by rw [if_pos rfl] at H;exact H
    clear H;have H := H1;clear H1
    replace H := ob_ H
    obtain ⟨⟨t268,t269⟩,A230,H⟩ := H
    replace H : (some (t268,t269,2)) = some (r1,r2,r3) := H
    have A23 := sd_ A230
    clear A230
    simp only [Option.some.injEq,Prod.mk.injEq] at H
    obtain ⟨rfl,rfl,rfl⟩ := H
    go_wp2_with (first|((with_reducible refine gate_callee (f := 32) rfl ?_);refine goesL_ (some 17) rfl rfl Tryd.func32 (by kernel_rfl) rfl #[] rfl (by (try simp only [lm_,lq_,lx_]);first|done|rfl|(simp only [ld_,lt_];rfl)) ?_;(with_reducible refine (rat_zero.calls  t268 t269 _ A23.out).mono ?_);rintro e w24 ⟨rfl,hb⟩;refine ⟨_,rfl,?_⟩;replace BK264 := kb_ BK264 hb;replace BK265 := kb_ BK265 hb;replace BK266 := kb_ BK266 hb;replace HB := hb_ HB (e_ GE264 (e_ GE265 (e_ GE266 e0_))) hb;(try clear hb);(try clear hb2);(try clear hk);(try clear hi);have hnb25 := NB266_264.out;have hnc25 := NB264_266.out;have hnb26 := NB266_265.out;have hnc26 := NB265_266.out;have hcz27_0 : w24.cell? ⟨gb266,0,none⟩ = some (.int .i64 0) := (kc_ BK266.out 0).trans rfl;have hcz27_1 : w24.cell? ⟨gb266,1,none⟩ = some (.int .i64 0) := (kc_ BK266.out 1).trans rfl;have hfz27_0 := kf_ BK266.out 0;have hfz27_1 := kf_ BK266.out 1))
    refine bodyPost_ret (results_ct rfl _ _ gb266 23 #[.int .i64 t268,.int .i64 t269] (0,0) _ rfl (by (with_reducible repeat first|apply kn_|apply kd_|apply ka_);refine blk_put (cs := #[.int .i64 t268,.int .i64 0]) ?_ 1 _ rfl;(with_reducible repeat first|apply kn_|apply kd_|apply ka_);refine blk_put (cs := #[.int .i64 0,.int .i64 0]) ?_ 0 _ rfl;(with_reducible repeat first|apply kn_|apply kd_|apply ka_);exact BK266.out) Tryd.underlying23 rfl (by kernel_rfl)) rfl ?_
    exact ⟨by first|rfl|(simp [errW_none,errW_some] <;> rfl)|(simp [*,errW_none,errW_some] <;> rfl),by repeat (first|(with_reducible first|exact HB.out|apply ba_|apply pd_|apply d1_|refine bs_ ?_ GE264.out|refine bs_ ?_ GE265.out|refine bs_ ?_ GE266.out)|exact HB.out)⟩
   ·replace c22 := bf_ c22
    subst c22
    have H1 : ((rat_Div.f kj2 a0_0 a0_1 a1_0 a1_1).bind fun bt270 => (if bt270.2.2 = 0 then ((rat_Floor.f kj2 bt270.1 bt270.2.1).bind fun t274 => ((rat_whole.f t274).bind fun bt275 => ((rat_Mul.f kj2 a1_0 a1_1 bt275.1 bt275.2).bind fun bt277 => (rat_Mod.j1 kj2 bt277.2.2 a0_0 a0_1 bt277.1 bt277.2.1)))) else (rat_Mod.j1 kj2 bt270.2.2 a0_0 a0_1 bt270.1 bt270.2.1))) = some (r1,r2,r3) := by rw [if_neg (show ¬ (false = true) by decide)] at H;exact H
    clear H;have H := H1;clear H1
    replace H := ob_ H
    obtain ⟨⟨t270,t271,t272⟩,A280,H⟩ := H
    replace H : (if t272 = 0 then ((rat_Floor.f kj2 t270 t271).bind fun t274 => ((rat_whole.f t274).bind fun bt275 => ((rat_Mul.f kj2 a1_0 a1_1 bt275.1 bt275.2).bind fun bt277 => (rat_Mod.j1 kj2 bt277.2.2 a0_0 a0_1 bt277.1 bt277.2.1)))) else (rat_Mod.j1 kj2 t272 a0_0 a0_1 t270 t271)) = some (r1,r2,r3) := H
    have A28 := sd_ A280
    clear A280
    have HC29 := sd_ H
    clear H
    have hnb30 := NB264_265.out
    have hnc30 := NB265_264.out
    have hnb31 := NB264_266.out
    have hnc31 := NB266_264.out
    have hcz32_0 : wc.cell? ⟨gb264,0,none⟩ = some (.int .i64 a0_0) := (kc_ BK264.out 0).trans rfl
    have hcz32_1 : wc.cell? ⟨gb264,1,none⟩ = some (.int .i64 a0_1) := (kc_ BK264.out 1).trans rfl
    have hfz32_0 := kf_ BK264.out 0
    have hfz32_1 := kf_ BK264.out 1
    have hnb33 := NB265_266.out
    have hnc33 := NB266_265.out
    have hcz34_0 : wc.cell? ⟨gb265,0,none⟩ = some (.int .i64 a1_0) := (kc_ BK265.out 0).trans rfl
    have hcz34_1 : wc.cell? ⟨gb265,1,none⟩ = some (.int .i64 a1_1) := (kc_ BK265.out 1).trans rfl
    have hfz34_0 := kf_ BK265.out 0
    have hfz34_1 := kf_ BK265.out 1
    go_upto_if 25 with (first|((with_reducible refine gate_callee (f := 14) rfl ?_);refine goesL_ (some 21) rfl rfl Tryd.func14 (by kernel_rfl) rfl #[.agg #[.int .i64 a0_0,.int .i64 a0_1],.agg #[.int .i64 a1_0,.int .i64 a1_1]] rfl (by (try simp only [lm_,lq_,lx_]);first|done|rfl|(simp only [ld_,lt_];rfl)) ?_;(with_reducible refine (rat_Div.calls kj2 a0_0 a0_1 a1_0 a1_1 t270 t271 t272 _ A28.out).mono ?_);rintro e w35 ⟨rfl,hb⟩;refine ⟨_,rfl,?_⟩;replace BK264 := kb_ BK264 hb;replace BK265 := kb_ BK265 hb;replace BK266 := kb_ BK266 hb;replace HB := hb_ HB (e_ GE264 (e_ GE265 (e_ GE266 e0_))) hb;(try clear hb);(try clear hb2);(try clear hk);(try clear hi))|((with_reducible refine gate_dst (N := 6) rfl ?_);refine box_event ?hg (N := 6) ?hd (cs := #[.int .i64 0,.int .i64 0]) (t := 23) ?hr ?_;(case hd => rfl);(case hg => rfl);(case hr => first|(go_simp;done)|(go_simp;rfl));intro gb273 hg w36 hbox hb;have BK273 := sd_ hbox;have GW273 := gw_ HB (e_ GE264 (e_ GE265 (e_ GE266 e0_))) hg;have GE273 := GW273;have NB264_273 := nb_ BK264 hg;have NB273_264 := sy_ NB264_273;have NB265_273 := nb_ BK265 hg;have NB273_265 := sy_ NB265_273;have NB266_273 := nb_ BK266 hg;have NB273_266 := sy_ NB266_273;replace BK264 := kb_ BK264 hb;replace BK265 := kb_ BK265 hb;replace BK266 := kb_ BK266 hb;replace HB := hb_ HB (e_ GE264 (e_ GE265 (e_ GE266 e0_))) hb;clear hb hbox hg;have hnb37 := NB273_264.out;have hnc37 := NB264_273.out;have hnb38 := NB273_265.out;have hnc38 := NB265_273.out;have hnb39 := NB273_266.out;have hnc39 := NB266_273.out;have hcz40_0 : w36.cell? ⟨gb273,0,none⟩ = some (.int .i64 0) := (kc_ BK273.out 0).trans rfl;have hcz40_1 : w36.cell? ⟨gb273,1,none⟩ = some (.int .i64 0) := (kc_ BK273.out 1).trans rfl;have hfz40_0 := kf_ BK273.out 0;have hfz40_1 := kf_ BK273.out 1))
    (try simp only [Act.put,ls_,lz_,lc_])
    go_cut [7] (fun v7 wc => ∃ (kq : Nat) (x7_28 : Int) (x274000_28 : Int) (x274001_28 : Int),v7 = .int .i64 x7_28 ∧ Aside0 (rat_Mod.j1 kq x7_28 a0_0 a0_1 x274000_28 x274001_28 = some (r1,r2,r3)) ∧ Aside0 (kq ≤ kj2) ∧ Aside0 (wc.heap[gb264]? = some (.cells #[.int .i64 a0_0,.int .i64 a0_1] 23 (0,0))) ∧ Aside0 (wc.heap[gb265]? = some (.cells #[.int .i64 a1_0,.int .i64 a1_1] 23 (0,0))) ∧ Aside0 (wc.heap[gb266]? = some (.cells #[.int .i64 0,.int .i64 0] 23 (0,0))) ∧ Aside0 (wc.heap[gb273]? = some (.cells #[.int .i64 x274000_28,.int .i64 x274001_28] 23 (0,0))) ∧ Aside0 (Below w.heap.size w wc))
    case first =>
     have H := HC29.out
     clear HC29
     by_cases c41 : t272 = 0
     ·rw [if_pos c41] at H
      have c41b0 : (t272 == 0) = true := beq_iff_eq.mpr c41
      have c41b1 : (t272 != 0) = false := bne_eq_false_iff_eq.mpr c41
      clear c41
      (first|rw [c41b0]|(simp only [i64_w,i32_w];rw [c41b0])|skip)
      replace H := ob_ H
      obtain ⟨t274,A420,H⟩ := H
      replace H : ((rat_whole.f t274).bind fun bt275 => ((rat_Mul.f kj2 a1_0 a1_1 bt275.1 bt275.2).bind fun bt277 => (rat_Mod.j1 kj2 bt277.2.2 a0_0 a0_1 bt277.1 bt277.2.1))) = some (r1,r2,r3) := H
      have A42 := sd_ A420
      clear A420
      replace H := ob_ H
      obtain ⟨⟨t275,t276⟩,A430,H⟩ := H
      replace H : ((rat_Mul.f kj2 a1_0 a1_1 t275 t276).bind fun bt277 => (rat_Mod.j1 kj2 bt277.2.2 a0_0 a0_1 bt277.1 bt277.2.1)) = some (r1,r2,r3) := H
      have A43 := sd_ A430
      clear A430
      replace H := ob_ H
      obtain ⟨⟨t277,t278,t279⟩,A440,H⟩ := H
      replace H : (rat_Mod.j1 kj2 t279 a0_0 a0_1 t277 t278) = some (r1,r2,r3) := H
      have A44 := sd_ A440
      clear A440
      have H' := sd_ H
      clear H
      try go_wp2
      have n0_ : Aside0 (((w36.setCell ⟨gb273,0,none⟩ (.int .i64 t270)).setCell ⟨gb273,1,none⟩ (.int .i64 t271)).heap[gb264]? = some (.cells #[.int .i64 a0_0,.int .i64 a0_1] 23 (0,0))) := ⟨by (with_reducible repeat first|apply kn_|apply kd_|apply ka_);refine blk_far ?_ NB264_273.out _;(with_reducible repeat first|apply kn_|apply kd_|apply ka_);refine blk_far ?_ NB264_273.out _;(with_reducible repeat first|apply kn_|apply kd_|apply ka_);exact BK264.out⟩
      have n1_ : Aside0 (((w36.setCell ⟨gb273,0,none⟩ (.int .i64 t270)).setCell ⟨gb273,1,none⟩ (.int .i64 t271)).heap[gb265]? = some (.cells #[.int .i64 a1_0,.int .i64 a1_1] 23 (0,0))) := ⟨by (with_reducible repeat first|apply kn_|apply kd_|apply ka_);refine blk_far ?_ NB265_273.out _;(with_reducible repeat first|apply kn_|apply kd_|apply ka_);refine blk_far ?_ NB265_273.out _;(with_reducible repeat first|apply kn_|apply kd_|apply ka_);exact BK265.out⟩
      have n2_ : Aside0 (((w36.setCell ⟨gb273,0,none⟩ (.int .i64 t270)).setCell ⟨gb273,1,none⟩ (.int .i64 t271)).heap[gb266]? = some (.cells #[.int .i64 0,.int .i64 0] 23 (0,0))) := ⟨by (with_reducible repeat first|apply kn_|apply kd_|apply ka_);refine blk_far ?_ NB266_273.out _;(with_reducible repeat first|apply kn_|apply kd_|apply ka_);refine blk_far ?_ NB266_273.out _;(with_reducible repeat first|apply kn_|apply kd_|apply ka_);exact BK266.out⟩
      have n3_ : Aside0 (((w36.setCell ⟨gb273,0,none⟩ (.int .i64 t270)).setCell ⟨gb273,1,none⟩ (.int .i64 t271)).heap[gb273]? = some (.cells #[.int .i64 t270,.int .i64 t271] 23 (0,0))) := ⟨by (with_reducible repeat first|apply kn_|apply kd_|apply ka_);refine blk_put (cs := #[.int .i64 t270,.int .i64 0]) ?_ 1 _ rfl;(with_reducible repeat first|apply kn_|apply kd_|apply ka_);refine blk_put (cs := #[.int .i64 0,.int .i64 0]) ?_ 0 _ rfl;(with_reducible repeat first|apply kn_|apply kd_|apply ka_);exact BK273.out⟩
      have n4_ : Aside0 (Below w.heap.size w ((w36.setCell ⟨gb273,0,none⟩ (.int .i64 t270)).setCell ⟨gb273,1,none⟩ (.int .i64 t271))) := ⟨by repeat (first|(with_reducible first|exact HB.out|apply ba_|apply pd_|apply d1_|refine bs_ ?_ GE264.out|refine bs_ ?_ GE265.out|refine bs_ ?_ GE266.out|refine bs_ ?_ GE273.out)|exact HB.out)⟩
      (try clear BK264)
      (try clear BK265)
      (try clear BK266)
      (try clear BK273)
      (try clear HB)
      generalize ((w36.setCell ⟨gb273,0,none⟩ (.int .i64 t270)).setCell ⟨gb273,1,none⟩ (.int .i64 t271)) = w45 at n0_ n1_ n2_ n3_ n4_ ⊢
      have BK264 := n0_
      have BK265 := n1_
      have BK266 := n2_
      have BK273 := n3_
      have HB := n4_
      clear n0_ n1_ n2_ n3_ n4_
      replace BK264 := sd_ (kd_ BK264.out)
      replace BK265 := sd_ (kd_ BK265.out)
      replace BK266 := sd_ (kd_ BK266.out)
      replace BK273 := sd_ (kd_ BK273.out)
      replace HB := sd_ (d1_ HB.out)
      refine start_ (n := 10) (S := fun w' => w'.cell? ⟨gb265,0,none⟩ = some (.int .i64 a1_0) ∧ w'.cell? ⟨gb265,1,none⟩ = some (.int .i64 a1_1) ∧ w'.cell? ⟨gb273,0,none⟩ = some (.int .i64 t270) ∧ w'.cell? ⟨gb273,1,none⟩ = some (.int .i64 t271)) (ds := [8]) (Array.replicate 10 false) (by kernel_rfl) rfl rfl ⟨(kc_ BK265.out 0).trans rfl,(kc_ BK265.out 1).trans rfl,(kc_ BK273.out 0).trans rfl,(kc_ BK273.out 1).trans rfl⟩ (fun hHeld => ?_);refine with_tabW rat_Mod.tab5 rat_Mod.bits5 (fun HT_ HW_ => ?_)
      generalize w45.drew = w46 at BK264 BK265 BK266 BK273 HB hHeld ⊢
      refine ta_ (v := ?_) (a' := ?_) 0 27 (bz 10 1) rfl rfl HT_ HW_ (by kernel_rfl) (fun _ _ _ h => h) (by rfl) ?_ hHeld ?_ ?_
      rotate_left
      ·rintro w' ⟨s0,s1,s2,s3⟩
       go_simp
       with_reducible rfl
      rotate_left
      ·simp only [Act.put,ls_,lz_,lc_,i64_w,i32_w]
       rfl
      refine ta_ (v := ?_) (a' := ?_) 1 28 (bz 10 3) rfl rfl HT_ HW_ (by kernel_rfl) (fun _ _ _ h => h) (by rfl) ?_ hHeld ?_ ?_
      rotate_left
      ·rintro w' ⟨s0,s1,s2,s3⟩
       go_simp
       with_reducible rfl
      rotate_left
      ·simp only [Act.put,ls_,lz_,lc_,i64_w,i32_w]
       rfl
      refine on_ (N := some 29) 2 (bz 10 7) rfl rfl HT_ (by kernel_rfl) (by decide) (fun K hK => ?_)
      refine goes_ Tryd.func25 (by kernel_rfl) rfl #[.agg #[.int .i64 t270,.int .i64 t271]] (by rfl) rfl rfl (by (try simp only [lm_,lq_,lx_]);first|done|rfl|(simp only [ld_,lt_];rfl)) ?_
      with_reducible refine (rat_Floor.calls kj2 t270 t271 t274 _ A42.out).mono ?_
      rintro e w47 ⟨rfl,hb⟩
      refine ⟨_,rfl,?_⟩
      replace BK264 := kb_ BK264 hb
      replace BK265 := kb_ BK265 hb
      replace BK266 := kb_ BK266 hb
      replace BK273 := kb_ BK273 hb
      replace HB := hb_ HB (e_ GE264 (e_ GE265 (e_ GE266 (e_ GE273 e0_)))) hb
      (try clear hb)
      (try clear hb2)
      (try clear hk)
      (try clear hi)
      refine hK.out _ _ ⟨(kc_ BK265.out 0).trans rfl,(kc_ BK265.out 1).trans rfl,(kc_ BK273.out 0).trans rfl,(kc_ BK273.out 1).trans rfl⟩ (fun hHeld => ?_)
      clear hK K
      refine norm_ (a' := ?_) ?_ ?_
      rotate_left
      ·show Act.put _ (some 29) _ = _
       simp only [Act.put,ls_,lz_,lc_,i64_w,i32_w]
       rfl
      refine on_ (N := some 30) 3 (bz 10 15) rfl rfl HT_ (by kernel_rfl) (by decide) (fun K hK => ?_)
      refine goes_ Tryd.func38 (by kernel_rfl) rfl #[.int .i64 t274] (by rfl) rfl rfl (by (try simp only [lm_,lq_,lx_]);first|done|rfl|(simp only [ld_,lt_];rfl)) ?_
      with_reducible refine (rat_whole.calls t274 t275 t276 _ A43.out).mono ?_
      rintro e w48 ⟨rfl,hb⟩
      refine ⟨_,rfl,?_⟩
      replace BK264 := kb_ BK264 hb
      replace BK265 := kb_ BK265 hb
      replace BK266 := kb_ BK266 hb
      replace BK273 := kb_ BK273 hb
      replace HB := hb_ HB (e_ GE264 (e_ GE265 (e_ GE266 (e_ GE273 e0_)))) hb
      (try clear hb)
      (try clear hb2)
      (try clear hk)
      (try clear hi)
      refine hK.out _ _ ⟨(kc_ BK265.out 0).trans rfl,(kc_ BK265.out 1).trans rfl,(kc_ BK273.out 0).trans rfl,(kc_ BK273.out 1).trans rfl⟩ (fun hHeld => ?_)
      clear hK K
      refine norm_ (a' := ?_) ?_ ?_
      rotate_left
      ·show Act.put _ (some 30) _ = _
       simp only [Act.put,ls_,lz_,lc_,i64_w,i32_w]
       rfl
      refine on_ (N := some 31) 4 (bz 10 31) rfl rfl HT_ (by kernel_rfl) (by decide) (fun K hK => ?_)
      refine goes_ Tryd.func12 (by kernel_rfl) rfl #[.agg #[.int .i64 a1_0,.int .i64 a1_1],.agg #[.int .i64 t275,.int .i64 t276]] (by rfl) rfl rfl (by (try simp only [lm_,lq_,lx_]);first|done|rfl|(simp only [ld_,lt_];rfl)) ?_
      with_reducible refine (rat_Mul.calls kj2 a1_0 a1_1 t275 t276 t277 t278 t279 _ A44.out).mono ?_
      rintro e w49 ⟨rfl,hb⟩
      refine ⟨_,rfl,?_⟩
      replace BK264 := kb_ BK264 hb
      replace BK265 := kb_ BK265 hb
      replace BK266 := kb_ BK266 hb
      replace BK273 := kb_ BK273 hb
      replace HB := hb_ HB (e_ GE264 (e_ GE265 (e_ GE266 (e_ GE273 e0_)))) hb
      (try clear hb)
      (try clear hb2)
      (try clear hk)
      (try clear hi)
      refine hK.out _ _ ⟨(kc_ BK265.out 0).trans rfl,(kc_ BK265.out 1).trans rfl,(kc_ BK273.out 0).trans rfl,(kc_ BK273.out 1).trans rfl⟩ (fun hHeld => ?_)
      clear hK K
      refine norm_ (a' := ?_) ?_ ?_
      rotate_left
      ·show Act.put _ (some 31) _ = _
       simp only [Act.put,ls_,lz_,lc_,i64_w,i32_w]
       rfl
      refine pu_ (v := ?_) (a' := ?_) 5 26 (bz 10 63) rfl rfl HT_ (by kernel_rfl) (fun _ _ _ h => h) (by rfl) ?_ ?_ ?_
      rotate_left;(intro w';go_simp;with_reducible rfl);rotate_left;(simp only [Act.put,ls_,lz_,lc_,i64_w,i32_w];rfl)
      refine pu_ (v := ?_) (a' := ?_) 6 32 (bz 10 127) rfl rfl HT_ (by kernel_rfl) (fun _ _ _ h => h) (by rfl) ?_ ?_ ?_
      rotate_left;(intro w';go_simp;with_reducible rfl);rotate_left;(simp only [Act.put,ls_,lz_,lc_,i64_w,i32_w];rfl)
      refine pu_ (v := ?_) (a' := ?_) 7 33 (bz 10 255) rfl rfl HT_ (by kernel_rfl) (fun _ _ _ h => h) (by rfl) ?_ ?_ ?_
      rotate_left;(intro w';go_simp;with_reducible rfl);rotate_left;(simp only [Act.put,ls_,lz_,lc_,i64_w,i32_w];rfl)
      refine last_ (i := 8) (N := none) (bz 10 511) rfl rfl (one_of HT_.out (by kernel_rfl)) (by decide) (fun K hK => ?_)
      have hs50 : w49.cell? ⟨gb273,0,none⟩ = some (.int .i64 t270) := (kc_ BK273.out 0).trans rfl
      have hfs50 := kf_ BK273.out 0
      have hns50_0 := NB264_273.out
      have hns50_1 := NB265_273.out
      have hns50_2 := NB266_273.out
      have hms50_0 := NB273_264.out
      have hms50_1 := NB273_265.out
      have hms50_2 := NB273_266.out
      have hs51 : w49.cell? ⟨gb273,1,none⟩ = some (.int .i64 t271) := (kc_ BK273.out 1).trans rfl
      have hfs51 := kf_ BK273.out 1
      have hns51_0 := NB264_273.out
      have hns51_1 := NB265_273.out
      have hns51_2 := NB266_273.out
      have hms51_0 := NB273_264.out
      have hms51_1 := NB273_265.out
      have hms51_2 := NB273_266.out
      refine skip_ (w1 := ?_) (by rfl) rfl ?_ ?_
      rotate_left
      ·go_simp
       rfl
      refine hK.out _ _ ?_
      clear hK K
      refine pu_ (v := ?_) (a' := ?_) 9 7 (bz 10 1023) rfl rfl HT_ (by kernel_rfl) (fun _ _ _ h => h) (by rfl) ?_ ?_ ?_
      rotate_left;(intro w';go_simp;with_reducible rfl);rotate_left;(simp only [Act.put,ls_,lz_,lc_,i64_w,i32_w];rfl)
      refine done_ (done_of HT_.out (by kernel_rfl)) ?_
      try go_wp2
      go_meet
      case rel => exact ⟨_,(t279),(t277),(t278),(by first|rfl|(simp;done)|(simp [*];done)|(simp [bne];done)),H',⟨by have := HJ2.out;first|omega|exact Nat.le_refl _⟩,⟨by (with_reducible repeat first|apply kn_|apply kd_|apply ka_);refine blk_far ?_ NB264_273.out _;(with_reducible repeat first|apply kn_|apply kd_|apply ka_);refine blk_far ?_ NB264_273.out _;(with_reducible repeat first|apply kn_|apply kd_|apply ka_);exact BK264.out⟩,⟨by (with_reducible repeat first|apply kn_|apply kd_|apply ka_);refine blk_far ?_ NB265_273.out _;(with_reducible repeat first|apply kn_|apply kd_|apply ka_);refine blk_far ?_ NB265_273.out _;(with_reducible repeat first|apply kn_|apply kd_|apply ka_);exact BK265.out⟩,⟨by (with_reducible repeat first|apply kn_|apply kd_|apply ka_);refine blk_far ?_ NB266_273.out _;(with_reducible repeat first|apply kn_|apply kd_|apply ka_);refine blk_far ?_ NB266_273.out _;(with_reducible repeat first|apply kn_|apply kd_|apply ka_);exact BK266.out⟩,⟨by (with_reducible repeat first|apply kn_|apply kd_|apply ka_);refine blk_put (cs := #[.int .i64 t277,.int .i64 t271]) ?_ 1 _ rfl;(with_reducible repeat first|apply kn_|apply kd_|apply ka_);refine blk_put (cs := #[.int .i64 t270,.int .i64 t271]) ?_ 0 _ rfl;(with_reducible repeat first|apply kn_|apply kd_|apply ka_);exact BK273.out⟩,⟨by repeat (first|(with_reducible first|exact HB.out|apply ba_|apply pd_|apply d1_|refine bs_ ?_ GE264.out|refine bs_ ?_ GE265.out|refine bs_ ?_ GE266.out|refine bs_ ?_ GE273.out)|exact HB.out)⟩⟩
     ·rw [if_neg c41] at H
      have c41b0 : (t272 == 0) = false := beq_eq_false_iff_ne.mpr c41
      have c41b1 : (t272 != 0) = true := bne_iff_ne.mpr c41
      (first|rw [c41b0]|(simp only [i64_w,i32_w];rw [c41b0])|skip)
      have H' := sd_ H
      clear H
      go_wp2
      go_meet
      case rel => exact ⟨_,(t272),(t270),(t271),(by first|rfl|(simp;done)|(simp [*];done)|(simp [bne];done)),H',⟨by have := HJ2.out;first|omega|exact Nat.le_refl _⟩,⟨by (with_reducible repeat first|apply kn_|apply kd_|apply ka_);refine blk_far ?_ NB264_273.out _;(with_reducible repeat first|apply kn_|apply kd_|apply ka_);refine blk_far ?_ NB264_273.out _;(with_reducible repeat first|apply kn_|apply kd_|apply ka_);exact BK264.out⟩,⟨by (with_reducible repeat first|apply kn_|apply kd_|apply ka_);refine blk_far ?_ NB265_273.out _;(with_reducible repeat first|apply kn_|apply kd_|apply ka_);refine blk_far ?_ NB265_273.out _;(with_reducible repeat first|apply kn_|apply kd_|apply ka_);exact BK265.out⟩,⟨by (with_reducible repeat first|apply kn_|apply kd_|apply ka_);refine blk_far ?_ NB266_273.out _;(with_reducible repeat first|apply kn_|apply kd_|apply ka_);refine blk_far ?_ NB266_273.out _;(with_reducible repeat first|apply kn_|apply kd_|apply ka_);exact BK266.out⟩,⟨by (with_reducible repeat first|apply kn_|apply kd_|apply ka_);refine blk_put (cs := #[.int .i64 t270,.int .i64 0]) ?_ 1 _ rfl;(with_reducible repeat first|apply kn_|apply kd_|apply ka_);refine blk_put (cs := #[.int .i64 0,.int .i64 0]) ?_ 0 _ rfl;(with_reducible repeat first|apply kn_|apply kd_|apply ka_);exact BK273.out⟩,⟨by repeat (first|(with_reducible first|exact HB.out|apply ba_|apply pd_|apply d1_|refine bs_ ?_ GE264.out|refine bs_ ?_ GE265.out|refine bs_ ?_ GE266.out|refine bs_ ?_ GE273.out)|exact HB.out)⟩⟩
    case rest =>
     clear HC29
     try clear c1;try clear c2;try clear p2;try clear c3;try clear c4;try clear c8;try clear c9;try clear c10;try clear c12;try clear c14;try clear c16;try clear c17;try clear c19;try clear c22;try clear c25;try clear c26;try clear c30;try clear c31;try clear c32;try clear c33;try clear c37;try clear c38;try clear c39;try clear c41;try clear c41b0;try clear c41b1;try clear hcz11_0;try clear hcz11_1;try clear hcz13_0;try clear hcz13_1;try clear hcz15_0;try clear hcz15_1;try clear hcz18_0;try clear hcz18_1;try clear hcz20_0;try clear hcz20_1;try clear hcz27_0;try clear hcz27_1;try clear hcz32_0;try clear hcz32_1;try clear hcz34_0;try clear hcz34_1;try clear hcz40_0;try clear hcz40_1;try clear hfz11_0;try clear hfz11_1;try clear hfz13_0;try clear hfz13_1;try clear hfz15_0;try clear hfz15_1;try clear hfz18_0;try clear hfz18_1;try clear hfz20_0;try clear hfz20_1;try clear hfz27_0;try clear hfz27_1;try clear hfz32_0;try clear hfz32_1;try clear hfz34_0;try clear hfz34_1;try clear hfz40_0;try clear hfz40_1;try clear p2
     obtain ⟨kq,x7_28,x274000_28,x274001_28,rfl,HA,HJ28,BK264,BK265,BK266,BK273,HB⟩ := hcut
     cases kq with
     | zero => exact absurd HA.out (by simp [rat_Mod.j1])
     | succ kj28 =>
      have H := HA.out
      clear HA
      simp only [rat_Mod.j1] at H
      by_cases c52 : x7_28 = 0
      ·rw [if_pos c52] at H
       have c52b0 : (x7_28 == 0) = true := beq_iff_eq.mpr c52
       have c52b1 : (x7_28 != 0) = false := bne_eq_false_iff_eq.mpr c52
       clear c52
       replace H := ob_ H
       obtain ⟨⟨t280,t281,t282⟩,A530,H⟩ := H
       replace H : (some (t280,t281,t282)) = some (r1,r2,r3) := H
       have A53 := sd_ A530
       clear A530
       simp only [Option.some.injEq,Prod.mk.injEq] at H
       obtain ⟨rfl,rfl,rfl⟩ := H
       have hnb54 := NB264_265.out
       have hnc54 := NB265_264.out
       have hnb55 := NB264_266.out
       have hnc55 := NB266_264.out
       have hnb56 := NB264_273.out
       have hnc56 := NB273_264.out
       have hcz57_0 : wc.cell? ⟨gb264,0,none⟩ = some (.int .i64 a0_0) := (kc_ BK264.out 0).trans rfl
       have hcz57_1 : wc.cell? ⟨gb264,1,none⟩ = some (.int .i64 a0_1) := (kc_ BK264.out 1).trans rfl
       have hfz57_0 := kf_ BK264.out 0
       have hfz57_1 := kf_ BK264.out 1
       have hnb58 := NB273_265.out
       have hnc58 := NB265_273.out
       have hnb59 := NB273_266.out
       have hnc59 := NB266_273.out
       have hcz60_0 : wc.cell? ⟨gb273,0,none⟩ = some (.int .i64 x274000_28) := (kc_ BK273.out 0).trans rfl
       have hcz60_1 : wc.cell? ⟨gb273,1,none⟩ = some (.int .i64 x274001_28) := (kc_ BK273.out 1).trans rfl
       have hfz60_0 := kf_ BK273.out 0
       have hfz60_1 := kf_ BK273.out 1
       go_wp2_with (first|((with_reducible refine gate_callee (f := 10) rfl ?_);refine goesL_ (some 40) rfl rfl Tryd.func10 (by kernel_rfl) rfl #[.agg #[.int .i64 a0_0,.int .i64 a0_1],.agg #[.int .i64 x274000_28,.int .i64 x274001_28]] rfl (by (try simp only [lm_,lq_,lx_]);first|done|rfl|(simp only [ld_,lt_];rfl)) ?_;(with_reducible refine (rat_Sub.calls kj28 a0_0 a0_1 x274000_28 x274001_28 t280 t281 t282 _ A53.out).mono ?_);rintro e w61 ⟨rfl,hb⟩;refine ⟨_,rfl,?_⟩;replace BK264 := kb_ BK264 hb;replace BK265 := kb_ BK265 hb;replace BK266 := kb_ BK266 hb;replace BK273 := kb_ BK273 hb;replace HB := hb_ HB (e_ GE264 (e_ GE265 (e_ GE266 (e_ GE273 e0_)))) hb;(try clear hb);(try clear hb2);(try clear hk);(try clear hi);have hnb62 := NB266_265.out;have hnc62 := NB265_266.out;have hcz63_0 : w61.cell? ⟨gb266,0,none⟩ = some (.int .i64 0) := (kc_ BK266.out 0).trans rfl;have hcz63_1 : w61.cell? ⟨gb266,1,none⟩ = some (.int .i64 0) := (kc_ BK266.out 1).trans rfl;have hfz63_0 := kf_ BK266.out 0;have hfz63_1 := kf_ BK266.out 1))
       refine bodyPost_ret (results_ct rfl _ _ gb266 23 #[.int .i64 t280,.int .i64 t281] (0,0) _ rfl (by (with_reducible repeat first|apply kn_|apply kd_|apply ka_);refine blk_put (cs := #[.int .i64 t280,.int .i64 0]) ?_ 1 _ rfl;(with_reducible repeat first|apply kn_|apply kd_|apply ka_);refine blk_put (cs := #[.int .i64 0,.int .i64 0]) ?_ 0 _ rfl;(with_reducible repeat first|apply kn_|apply kd_|apply ka_);exact BK266.out) Tryd.underlying23 rfl (by kernel_rfl)) rfl ?_
       exact ⟨by first|rfl|(simp [errW_none,errW_some] <;> rfl)|(simp [*,errW_none,errW_some] <;> rfl),by repeat (first|(with_reducible first|exact HB.out|apply ba_|apply pd_|apply d1_|refine bs_ ?_ GE264.out|refine bs_ ?_ GE265.out|refine bs_ ?_ GE266.out|refine bs_ ?_ GE273.out)|exact HB.out)⟩
      ·rw [if_neg c52] at H
       have c52b0 : (x7_28 == 0) = false := beq_eq_false_iff_ne.mpr c52
       have c52b1 : (x7_28 != 0) = true := bne_iff_ne.mpr c52
       replace H := ob_ H
       obtain ⟨⟨t283,t284⟩,A640,H⟩ := H
       replace H : (some (t283,t284,x7_28)) = some (r1,r2,r3) := H
       have A64 := sd_ A640
       clear A640
       simp only [Option.some.injEq,Prod.mk.injEq] at H
       obtain ⟨rfl,rfl,rfl⟩ := H
       go_wp2_with (first|((with_reducible refine gate_callee (f := 32) rfl ?_);refine goesL_ (some 36) rfl rfl Tryd.func32 (by kernel_rfl) rfl #[] rfl (by (try simp only [lm_,lq_,lx_]);first|done|rfl|(simp only [ld_,lt_];rfl)) ?_;(with_reducible refine (rat_zero.calls  t283 t284 _ A64.out).mono ?_);rintro e w65 ⟨rfl,hb⟩;refine ⟨_,rfl,?_⟩;replace BK264 := kb_ BK264 hb;replace BK265 := kb_ BK265 hb;replace BK266 := kb_ BK266 hb;replace BK273 := kb_ BK273 hb;replace HB := hb_ HB (e_ GE264 (e_ GE265 (e_ GE266 (e_ GE273 e0_)))) hb;(try clear hb);(try clear hb2);(try clear hk);(try clear hi);have hnb66 := NB266_264.out;have hnc66 := NB264_266.out;have hnb67 := NB266_265.out;have hnc67 := NB265_266.out;have hnb68 := NB266_273.out;have hnc68 := NB273_266.out;have hcz69_0 : w65.cell? ⟨gb266,0,none⟩ = some (.int .i64 0) := (kc_ BK266.out 0).trans rfl;have hcz69_1 : w65.cell? ⟨gb266,1,none⟩ = some (.int .i64 0) := (kc_ BK266.out 1).trans rfl;have hfz69_0 := kf_ BK266.out 0;have hfz69_1 := kf_ BK266.out 1))
       refine bodyPost_ret (results_ct rfl _ _ gb266 23 #[.int .i64 t283,.int .i64 t284] (0,0) _ rfl (by (with_reducible repeat first|apply kn_|apply kd_|apply ka_);refine blk_put (cs := #[.int .i64 t283,.int .i64 0]) ?_ 1 _ rfl;(with_reducible repeat first|apply kn_|apply kd_|apply ka_);refine blk_put (cs := #[.int .i64 0,.int .i64 0]) ?_ 0 _ rfl;(with_reducible repeat first|apply kn_|apply kd_|apply ka_);exact BK266.out) Tryd.underlying23 rfl (by kernel_rfl)) rfl ?_
       exact ⟨by first|rfl|(simp [errW_none,errW_some] <;> rfl)|(simp [*,errW_none,errW_some] <;> rfl),by repeat (first|(with_reducible first|exact HB.out|apply ba_|apply pd_|apply d1_|refine bs_ ?_ GE264.out|refine bs_ ?_ GE265.out|refine bs_ ?_ GE266.out|refine bs_ ?_ GE273.out)|exact HB.out)⟩

/-! ### strconv_Itoa: function 46 -/
/-- What strconv reads: the table of powers of ten, and two errors. -/
def LaidE (w : World) : Prop := Go.Lib.TabIs Tryd.prog w "internal/strconv.uint64pow10" .u64 Go.Lib.pow10Tab ∧ (∃ tp p, w.var? Tryd.prog "strconv.ErrSyntax" = some #[.iface tp p]) ∧ ∃ tp p, w.var? Tryd.prog "strconv.ErrRange" = some #[.iface tp p]
theorem var_low {w w1 : World} {n : String} {g : Nat} {cs : Array Value} (hb : Below w.heap.size w w1) (hg : Tryd.prog.globalNamed n = some g) (h : w.var? Tryd.prog n = some cs) (hne : cs ≠ #[]) : w1.var? Tryd.prog n = some cs := by
 refine var?_below hb hg ?_ h
 refine Decidable.byContradiction fun hlt => hne ?_
 unfold World.var? at h
 rw [hg] at h
 simp [Array.getElem?_eq_none (Nat.le_of_not_lt hlt)] at h
theorem LaidE.below {w w1 : World} (h : LaidE w) (hb : Below w.heap.size w w1) : LaidE w1 := by
 obtain ⟨h1,⟨tp,p,h2⟩,tq,q,h3⟩ := h
 exact ⟨var_low (g := 3) hb (by kernel_rfl) h1 (by simp [Go.Lib.pow10Tab]),⟨tp,p,var_low (g := 1) hb (by kernel_rfl) h2 (by simp)⟩,tq,q,var_low (g := 2) hb (by kernel_rfl) h3 (by simp)⟩
def strconv_Itoa.f (n : Int) : Option ByteArray := if -9223372036854775808 ≤ n ∧ n ≤ 9223372036854775807 then some ⟨(Go.Lib.itoa n).toArray⟩ else none
theorem itoa_below (w : World) (k : Nat) (os : Array Obj) : Below w.heap.size w (Go.Sort.grow (w.drewN k) os) :=
 ⟨rfl,rfl,rfl,by simp [Go.Sort.grow],fun q hq => by simp only [Go.Sort.grow];exact (Array.getElem?_append_left hq)⟩
theorem strconv_Itoa.calls (n : Int) (r : ByteArray) (w : World) (hE : Aside0 (LaidE w)) (h : strconv_Itoa.f n = some r) :
  Calls Tryd.prog 46 #[.int .i64 n] w fun e w' => e = .returned (.string r) ∧ Below w.heap.size w w' := by
 unfold strconv_Itoa.f at h
 split at h
 ·rename_i hb
  obtain rfl := Option.some.inj h
  refine (Tryd.strconv_Itoa n hb.1 hb.2 w hE.out.1).mono ?_
  rintro e w' ⟨rfl,k,os,rfl⟩
  exact ⟨rfl,itoa_below w k os⟩
 ·exact absurd h (by simp)

end Go.Proofs.YtmbdbinbdiiapaaDoor.P
