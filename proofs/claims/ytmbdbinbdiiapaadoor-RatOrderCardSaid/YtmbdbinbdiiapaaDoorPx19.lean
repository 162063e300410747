-- Written by a program of this session (wip/tools/xprint.py, over the kit's print): Lean checks it.
import Derived.Test.YtmbdbinbdiiapaaDoorPx0
import Derived.Test.YtmbdbinbdiiapaaDoorPx1
import Derived.Test.YtmbdbinbdiiapaaDoorPx2
import Derived.Test.YtmbdbinbdiiapaaDoorPx3
import Derived.Test.YtmbdbinbdiiapaaDoorPx4
import Derived.Test.YtmbdbinbdiiapaaDoorPx5
import Derived.Test.YtmbdbinbdiiapaaDoorPx6
namespace Go.Proofs.YtmbdbinbdiiapaaDoor.P
open Go.RowKit Go.Proofs.YtmbdbinbdiiapaaDoorW.PrintWords Go.Proofs.YtmbdbinbdiiapaaDoorW.PrintLast Go.Proofs.YtmbdbinbdiiapaaDoorW.PrintMore
attribute [local go_sem] max2_int min2_int max_two min_two max_three min_three max_four min_four   -- for this text's walks alone
set_option linter.unusedVariables false
set_option linter.unusedSimpArgs false

attribute [local go_sem high] eqA23
/-! ### neumelaw02_RatBack: function 5 -/
mutual
def neumelaw02_RatBack.j0 : Nat → Bool → Int → Int → Int → Int → Option (Bool)
 | 0, _, _, _, _, _ => none
 | k + 1, x20, x433000, x433001, x434000, x434001 => if x20 = true then ((neumelaw02_heads.f k).bind fun t436 => (some t436)) else ((rat_Add.f k x433000 x433001 x434000 x434001).bind fun bt437 => (if bt437.2.2 = 0 then ((rat_Sub.f k bt437.1 bt437.2.1 x434000 x434001).bind fun bt441 => (if bt441.2.2 = 0 then (if (!(bt441.1 == x433000) || (!(bt441.2.1 == x433001))) = true then (some false) else ((rat_Check.f k bt437.1 bt437.2.1).bind fun t445 => (if t445 = true then (neumelaw02_RatBack.j1 k x433000 x433001 x434000 x434001) else (some false)))) else (some false))) else (neumelaw02_RatBack.j1 k x433000 x433001 x434000 x434001)))
def neumelaw02_RatBack.j1 : Nat → Int → Int → Int → Int → Option (Bool)
 | 0, _, _, _, _ => none
 | k + 1, x433000, x433001, x434000, x434001 => (rat_Mul.f k x433000 x433001 x434000 x434001).bind fun bt446 => (if bt446.2.2 = 0 then (neumelaw02_RatBack.j2 k (x434000 == 0) x433000 x433001 x434000 x434001 bt446.1 bt446.2.1) else (neumelaw02_RatBack.j2 k true x433000 x433001 x434000 x434001 bt446.1 bt446.2.1))
def neumelaw02_RatBack.j2 : Nat → Bool → Int → Int → Int → Int → Int → Int → Option (Bool)
 | 0, _, _, _, _, _, _, _ => none
 | k + 1, x60, x433000, x433001, x434000, x434001, x450000, x450001 => if x60 = true then ((neumelaw02_heads.f k).bind fun t450 => (some t450)) else ((rat_Div.f k x450000 x450001 x434000 x434001).bind fun bt451 => (if bt451.2.2 = 0 then (if (bt451.1 == x433000 && (bt451.2.1 == x433001)) = true then ((rat_Check.f k x450000 x450001).bind fun t455 => (if t455 = true then ((neumelaw02_heads.f k).bind fun t456 => (some t456)) else (some false))) else (some false)) else (some false)))
end
def neumelaw02_RatBack.f (k : Nat) (a0_0 : Int) (a0_1 : Int) (a1_0 : Int) (a1_1 : Int) : Option (Bool) := (rat_Check.f k a0_0 a0_1).bind fun t434 => (if t434 = true then ((rat_Check.f k a1_0 a1_1).bind fun t435 => (neumelaw02_RatBack.j0 k (!t435) a0_0 a0_1 a1_0 a1_1)) else (neumelaw02_RatBack.j0 k true a0_0 a0_1 a1_0 a1_1))
theorem neumelaw02_RatBack.mono_l : ∀ k, (∀ y0 y1 y2 y3 y4, LeO (neumelaw02_RatBack.j0 k y0 y1 y2 y3 y4) (neumelaw02_RatBack.j0 (k + 1) y0 y1 y2 y3 y4)) ∧ (∀ y0 y1 y2 y3, LeO (neumelaw02_RatBack.j1 k y0 y1 y2 y3) (neumelaw02_RatBack.j1 (k + 1) y0 y1 y2 y3)) ∧ (∀ y0 y1 y2 y3 y4 y5 y6, LeO (neumelaw02_RatBack.j2 k y0 y1 y2 y3 y4 y5 y6) (neumelaw02_RatBack.j2 (k + 1) y0 y1 y2 y3 y4 y5 y6))
 | 0 => ⟨fun _ _ _ _ _ r h => by simp [neumelaw02_RatBack.j0] at h, fun _ _ _ _ r h => by simp [neumelaw02_RatBack.j1] at h, fun _ _ _ _ _ _ _ r h => by simp [neumelaw02_RatBack.j2] at h⟩
 | k + 1 => by
  obtain ⟨ih0,ih1,ih2⟩ := neumelaw02_RatBack.mono_l k
  refine ⟨?_,?_,?_⟩
  ·intro y0 y1 y2 y3 y4
   unfold neumelaw02_RatBack.j0
   repeat' first
   | (with_reducible exact ih0 _ _ _ _ _)
   | (with_reducible exact ih1 _ _ _ _)
   | (with_reducible exact ih2 _ _ _ _ _ _ _)
   | (with_reducible exact neumelaw02_heads.mono _)
   | (with_reducible exact rat_Add.mono _ _ _ _ _)
   | (with_reducible exact rat_Check.mono _ _ _)
   | (with_reducible exact rat_Div.mono _ _ _ _ _)
   | (with_reducible exact rat_Mul.mono _ _ _ _ _)
   | (with_reducible exact rat_Sub.mono _ _ _ _ _)
   | (with_reducible exact LeO.refl _)
   | (with_reducible exact LeO.none _)
   | (with_reducible refine LeO.ite ?_ ?_)
   | (with_reducible refine LeO.bind ?_ (fun _ => ?_))
   | exact ih0 _ _ _ _ _
   | exact ih1 _ _ _ _
   | exact ih2 _ _ _ _ _ _ _
   | exact neumelaw02_heads.mono _
   | exact rat_Add.mono _ _ _ _ _
   | exact rat_Check.mono _ _ _
   | exact rat_Div.mono _ _ _ _ _
   | exact rat_Mul.mono _ _ _ _ _
   | exact rat_Sub.mono _ _ _ _ _
   | exact LeO.none _
   | refine LeO.ite ?_ ?_
   | refine LeO.bind ?_ (fun _ => ?_)
  ·intro y0 y1 y2 y3
   unfold neumelaw02_RatBack.j1
   repeat' first
   | (with_reducible exact ih0 _ _ _ _ _)
   | (with_reducible exact ih1 _ _ _ _)
   | (with_reducible exact ih2 _ _ _ _ _ _ _)
   | (with_reducible exact neumelaw02_heads.mono _)
   | (with_reducible exact rat_Add.mono _ _ _ _ _)
   | (with_reducible exact rat_Check.mono _ _ _)
   | (with_reducible exact rat_Div.mono _ _ _ _ _)
   | (with_reducible exact rat_Mul.mono _ _ _ _ _)
   | (with_reducible exact rat_Sub.mono _ _ _ _ _)
   | (with_reducible exact LeO.refl _)
   | (with_reducible exact LeO.none _)
   | (with_reducible refine LeO.ite ?_ ?_)
   | (with_reducible refine LeO.bind ?_ (fun _ => ?_))
   | exact ih0 _ _ _ _ _
   | exact ih1 _ _ _ _
   | exact ih2 _ _ _ _ _ _ _
   | exact neumelaw02_heads.mono _
   | exact rat_Add.mono _ _ _ _ _
   | exact rat_Check.mono _ _ _
   | exact rat_Div.mono _ _ _ _ _
   | exact rat_Mul.mono _ _ _ _ _
   | exact rat_Sub.mono _ _ _ _ _
   | exact LeO.none _
   | refine LeO.ite ?_ ?_
   | refine LeO.bind ?_ (fun _ => ?_)
  ·intro y0 y1 y2 y3 y4 y5 y6
   unfold neumelaw02_RatBack.j2
   repeat' first
   | (with_reducible exact ih0 _ _ _ _ _)
   | (with_reducible exact ih1 _ _ _ _)
   | (with_reducible exact ih2 _ _ _ _ _ _ _)
   | (with_reducible exact neumelaw02_heads.mono _)
   | (with_reducible exact rat_Add.mono _ _ _ _ _)
   | (with_reducible exact rat_Check.mono _ _ _)
   | (with_reducible exact rat_Div.mono _ _ _ _ _)
   | (with_reducible exact rat_Mul.mono _ _ _ _ _)
   | (with_reducible exact rat_Sub.mono _ _ _ _ _)
   | (with_reducible exact LeO.refl _)
   | (with_reducible exact LeO.none _)
   | (with_reducible refine LeO.ite ?_ ?_)
   | (with_reducible refine LeO.bind ?_ (fun _ => ?_))
   | exact ih0 _ _ _ _ _
   | exact ih1 _ _ _ _
   | exact ih2 _ _ _ _ _ _ _
   | exact neumelaw02_heads.mono _
   | exact rat_Add.mono _ _ _ _ _
   | exact rat_Check.mono _ _ _
   | exact rat_Div.mono _ _ _ _ _
   | exact rat_Mul.mono _ _ _ _ _
   | exact rat_Sub.mono _ _ _ _ _
   | exact LeO.none _
   | refine LeO.ite ?_ ?_
   | refine LeO.bind ?_ (fun _ => ?_)
theorem neumelaw02_RatBack.mono : ∀ a0 a1 a2 a3 k, LeO (neumelaw02_RatBack.f k a0 a1 a2 a3) (neumelaw02_RatBack.f (k + 1) a0 a1 a2 a3) := by
 intro a0 a1 a2 a3 k
 obtain ⟨ih0,ih1,ih2⟩ := neumelaw02_RatBack.mono_l k
 unfold neumelaw02_RatBack.f
 repeat' first
   | (with_reducible exact ih0 _ _ _ _ _)
   | (with_reducible exact ih1 _ _ _ _)
   | (with_reducible exact ih2 _ _ _ _ _ _ _)
   | (with_reducible exact neumelaw02_heads.mono _)
   | (with_reducible exact rat_Add.mono _ _ _ _ _)
   | (with_reducible exact rat_Check.mono _ _ _)
   | (with_reducible exact rat_Div.mono _ _ _ _ _)
   | (with_reducible exact rat_Mul.mono _ _ _ _ _)
   | (with_reducible exact rat_Sub.mono _ _ _ _ _)
   | (with_reducible exact LeO.refl _)
   | (with_reducible exact LeO.none _)
   | (with_reducible refine LeO.ite ?_ ?_)
   | (with_reducible refine LeO.bind ?_ (fun _ => ?_))
   | exact ih0 _ _ _ _ _
   | exact ih1 _ _ _ _
   | exact ih2 _ _ _ _ _ _ _
   | exact neumelaw02_heads.mono _
   | exact rat_Add.mono _ _ _ _ _
   | exact rat_Check.mono _ _ _
   | exact rat_Div.mono _ _ _ _ _
   | exact rat_Mul.mono _ _ _ _ _
   | exact rat_Sub.mono _ _ _ _ _
   | exact LeO.none _
   | refine LeO.ite ?_ ?_
   | refine LeO.bind ?_ (fun _ => ?_)
set_option maxHeartbeats 8000000 in
set_option maxRecDepth 100000 in
theorem neumelaw02_RatBack.calls (k : Nat) (a0_0 : Int) (a0_1 : Int) (a1_0 : Int) (a1_1 : Int) (r : Bool) (w : World) (hE : Aside0 (LaidE w)) (hxt : Aside0 (r = true)) (h : neumelaw02_RatBack.f k a0_0 a0_1 a1_0 a1_1 = some r) :
  Calls Tryd.prog 5 #[.agg #[.int .i64 a0_0,.int .i64 a0_1],.agg #[.int .i64 a1_0,.int .i64 a1_1]] w fun e w' => e = .returned (.bool r) ∧ Below w.heap.size w w' := by
 have hu23 := Tryd.underlying23
 have HB := sd_ (Below.refl w.heap.size w)
 have H : ((rat_Check.f k a0_0 a0_1).bind fun t434 => (if t434 = true then ((rat_Check.f k a1_0 a1_1).bind fun t435 => (neumelaw02_RatBack.j0 k (!t435) a0_0 a0_1 a1_0 a1_1)) else (neumelaw02_RatBack.j0 k true a0_0 a0_1 a1_0 a1_1))) = some r := h
 clear h
 have HC3 := sd_ H
 clear H
 go_enter Tryd.func5,Tryd.ntmps5
 go_upto_region 1 with (first|((with_reducible refine gate_dst (N := 2) rfl ?_);refine box_event ?hg (N := 2) ?hd (cs := #[.int .i64 a0_0,.int .i64 a0_1]) (t := 23) ?hr ?_;(case hd => rfl);(case hg => rfl);(case hr => first|(go_simp;done)|(go_simp;rfl));intro gb432 hg w4 hbox hb;have BK432 := sd_ hbox;have GW432 := gw_ HB e0_ hg;have GE432 := GW432;replace HB := hb_ HB e0_ hb;clear hb hbox hg)|((with_reducible refine gate_dst (N := 3) rfl ?_);refine box_event ?hg (N := 3) ?hd (cs := #[.int .i64 a1_0,.int .i64 a1_1]) (t := 23) ?hr ?_;(case hd => rfl);(case hg => rfl);(case hr => first|(go_simp;done)|(go_simp;rfl));intro gb433 hg w5 hbox hb;have BK433 := sd_ hbox;have GW433 := gw_ HB (e_ GE432 e0_) hg;have GE433 := GW433;have NB432_433 := nb_ BK432 hg;have NB433_432 := sy_ NB432_433;replace BK432 := kb_ BK432 hb;replace HB := hb_ HB (e_ GE432 e0_) hb;clear hb hbox hg))
 (try simp only [Act.put,ls_,lz_,lc_])
 go_cut [20] (fun v20 wc => ∃ (kq : Nat) (x20_2 : Bool),v20 = .bool x20_2 ∧ Aside0 (neumelaw02_RatBack.j0 kq x20_2 a0_0 a0_1 a1_0 a1_1 = some r) ∧ Aside0 (kq ≤ k) ∧ Aside0 (wc.heap[gb432]? = some (.cells #[.int .i64 a0_0,.int .i64 a0_1] 23 (0,0))) ∧ Aside0 (wc.heap[gb433]? = some (.cells #[.int .i64 a1_0,.int .i64 a1_1] 23 (0,0))) ∧ Aside0 (Below w.heap.size w wc))
 case first =>
  have H := HC3.out
  clear HC3
  replace H := ob_ H
  obtain ⟨t434,A60,H⟩ := H
  replace H : (if t434 = true then ((rat_Check.f k a1_0 a1_1).bind fun t435 => (neumelaw02_RatBack.j0 k (!t435) a0_0 a0_1 a1_0 a1_1)) else (neumelaw02_RatBack.j0 k true a0_0 a0_1 a1_0 a1_1)) = some r := H
  have A6 := sd_ A60
  clear A60
  by_cases c7 : t434 = true
  ·subst c7
   have H1 : ((rat_Check.f k a1_0 a1_1).bind fun t435 => (neumelaw02_RatBack.j0 k (!t435) a0_0 a0_1 a1_0 a1_1)) = some r := by rw [if_pos rfl] at H;exact H
   clear H;have H := H1;clear H1
   replace H := ob_ H
   obtain ⟨t435,A80,H⟩ := H
   replace H : (neumelaw02_RatBack.j0 k (!t435) a0_0 a0_1 a1_0 a1_1) = some r := H
   have A8 := sd_ A80
   clear A80
   have H' := sd_ H
   clear H
   have hnb9 := NB432_433.out
   have hnc9 := NB433_432.out
   have hcz10_0 : w5.cell? ⟨gb432,0,none⟩ = some (.int .i64 a0_0) := (kc_ BK432.out 0).trans rfl
   have hcz10_1 : w5.cell? ⟨gb432,1,none⟩ = some (.int .i64 a0_1) := (kc_ BK432.out 1).trans rfl
   have hfz10_0 := kf_ BK432.out 0
   have hfz10_1 := kf_ BK432.out 1
   go_wp2_with (first|((with_reducible refine gate_callee (f := 29) rfl ?_);refine goesL_ (some 14) rfl rfl Tryd.func29 (by kernel_rfl) rfl #[.agg #[.int .i64 a0_0,.int .i64 a0_1]] rfl (by (try simp only [lm_,lq_,lx_]);first|done|rfl|(simp only [ld_,lt_];rfl)) ?_;(with_reducible refine (rat_Check.calls k a0_0 a0_1 true _ A6.out).mono ?_);rintro e w11 ⟨rfl,hb⟩;refine ⟨_,rfl,?_⟩;replace BK432 := kb_ BK432 hb;replace BK433 := kb_ BK433 hb;replace HB := hb_ HB (e_ GE432 (e_ GE433 e0_)) hb;(try clear hb);(try clear hb2);(try clear hk);(try clear hi);have hcz12_0 : w11.cell? ⟨gb433,0,none⟩ = some (.int .i64 a1_0) := (kc_ BK433.out 0).trans rfl;have hcz12_1 : w11.cell? ⟨gb433,1,none⟩ = some (.int .i64 a1_1) := (kc_ BK433.out 1).trans rfl;have hfz12_0 := kf_ BK433.out 0;have hfz12_1 := kf_ BK433.out 1)|(go_at_call 29;(with_reducible refine (rat_Check.calls k a1_0 a1_1 t435 _ A8.out).mono ?_);rintro e w13 ⟨rfl,hb⟩;replace BK432 := kb_ BK432 hb;replace BK433 := kb_ BK433 hb;replace HB := hb_ HB (e_ GE432 (e_ GE433 e0_)) hb;(try clear hb);(try clear hb2);(try clear hk);(try clear hi)))
   go_meet
   case rel => exact ⟨_,(!t435),(by first|rfl|(simp;done)|(simp [*];done)|(simp [bne];done)),H',⟨by first|omega|exact Nat.le_refl _⟩,⟨by (with_reducible repeat first|apply kn_|apply kd_|apply ka_);exact BK432.out⟩,⟨by (with_reducible repeat first|apply kn_|apply kd_|apply ka_);exact BK433.out⟩,⟨by repeat (first|(with_reducible first|exact HB.out|apply ba_|apply pd_|apply d1_|refine bs_ ?_ GE432.out|refine bs_ ?_ GE433.out)|exact HB.out)⟩⟩
  ·replace c7 := bf_ c7
   subst c7
   have H1 : (neumelaw02_RatBack.j0 k true a0_0 a0_1 a1_0 a1_1) = some r := by rw [if_neg (show ¬ (false = true) by decide)] at H;exact H
   clear H;have H := H1;clear H1
   have H' := sd_ H
   clear H
   have hnb14 := NB432_433.out
   have hnc14 := NB433_432.out
   have hcz15_0 : w5.cell? ⟨gb432,0,none⟩ = some (.int .i64 a0_0) := (kc_ BK432.out 0).trans rfl
   have hcz15_1 : w5.cell? ⟨gb432,1,none⟩ = some (.int .i64 a0_1) := (kc_ BK432.out 1).trans rfl
   have hfz15_0 := kf_ BK432.out 0
   have hfz15_1 := kf_ BK432.out 1
   go_wp2_with (first|((with_reducible refine gate_callee (f := 29) rfl ?_);refine goesL_ (some 14) rfl rfl Tryd.func29 (by kernel_rfl) rfl #[.agg #[.int .i64 a0_0,.int .i64 a0_1]] rfl (by (try simp only [lm_,lq_,lx_]);first|done|rfl|(simp only [ld_,lt_];rfl)) ?_;(with_reducible refine (rat_Check.calls k a0_0 a0_1 false _ A6.out).mono ?_);rintro e w16 ⟨rfl,hb⟩;refine ⟨_,rfl,?_⟩;replace BK432 := kb_ BK432 hb;replace BK433 := kb_ BK433 hb;replace HB := hb_ HB (e_ GE432 (e_ GE433 e0_)) hb;(try clear hb);(try clear hb2);(try clear hk);(try clear hi)))
   go_meet
   case rel => exact ⟨_,(true),(by first|rfl|(simp;done)|(simp [*];done)|(simp [bne];done)),H',⟨by first|omega|exact Nat.le_refl _⟩,⟨by (with_reducible repeat first|apply kn_|apply kd_|apply ka_);exact BK432.out⟩,⟨by (with_reducible repeat first|apply kn_|apply kd_|apply ka_);exact BK433.out⟩,⟨by repeat (first|(with_reducible first|exact HB.out|apply ba_|apply pd_|apply d1_|refine bs_ ?_ GE432.out|refine bs_ ?_ GE433.out)|exact HB.out)⟩⟩
 case rest =>
  clear HC3
  try clear c1;try clear c2;try clear p2;try clear c5;try clear c7;try clear c9;try clear c14;try clear hcz10_0;try clear hcz10_1;try clear hcz12_0;try clear hcz12_1;try clear hcz15_0;try clear hcz15_1;try clear hfz10_0;try clear hfz10_1;try clear hfz12_0;try clear hfz12_1;try clear hfz15_0;try clear hfz15_1
  obtain ⟨kq,x20_2,rfl,HA,HJ2,BK432,BK433,HB⟩ := hcut
  cases kq with
  | zero => exact absurd HA.out (by simp [neumelaw02_RatBack.j0])
  | succ kj2 =>
   have H := HA.out
   clear HA
   simp only [neumelaw02_RatBack.j0] at H
   by_cases c17 : x20_2 = true
   ·subst c17
    have H1 : ((neumelaw02_heads.f kj2).bind fun t436 => (some t436)) = some r := by rw [if_pos rfl] at H;exact H
    clear H;have H := H1;clear H1
    replace H := ob_ H
    obtain ⟨t436,A180,H⟩ := H
    replace H : (some t436) = some r := H
    have A18 := sd_ A180
    clear A180
    obtain rfl := Option.some.inj H
    go_wp2_with (first|((with_reducible refine gate_callee (f := 18) rfl ?_);refine goesL_ (some 21) rfl rfl Tryd.func18 (by kernel_rfl) rfl #[] rfl (by (try simp only [lm_,lq_,lx_]);first|done|rfl|(simp only [ld_,lt_];rfl)) ?_;(with_reducible refine (neumelaw02_heads.calls kj2  t436 _ ?side1 A18.out).mono ?_);(case side1 => first|(with_reducible exact hE)|exact sd_ (LaidE.below hE.out (bb_ HB.out (e_ GE432 (e_ GE433 e0_)))));rintro e w19 ⟨rfl,hb⟩;refine ⟨_,rfl,?_⟩;replace BK432 := kb_ BK432 hb;replace BK433 := kb_ BK433 hb;replace HB := hb_ HB (e_ GE432 (e_ GE433 e0_)) hb;(try clear hb);(try clear hb2);(try clear hk);(try clear hi)))
    go_ret
    exact ⟨by first|rfl|(simp [errW_none,errW_some] <;> rfl)|(simp [*,errW_none,errW_some] <;> rfl),by repeat (first|(with_reducible first|exact HB.out|apply ba_|apply pd_|apply d1_|refine bs_ ?_ GE432.out|refine bs_ ?_ GE433.out)|exact HB.out)⟩
   ·replace c17 := bf_ c17
    subst c17
    have H1 : ((rat_Add.f kj2 a0_0 a0_1 a1_0 a1_1).bind fun bt437 => (if bt437.2.2 = 0 then ((rat_Sub.f kj2 bt437.1 bt437.2.1 a1_0 a1_1).bind fun bt441 => (if bt441.2.2 = 0 then (if (!(bt441.1 == a0_0) || (!(bt441.2.1 == a0_1))) = true then (some false) else ((rat_Check.f kj2 bt437.1 bt437.2.1).bind fun t445 => (if t445 = true then (neumelaw02_RatBack.j1 kj2 a0_0 a0_1 a1_0 a1_1) else (some false)))) else (some false))) else (neumelaw02_RatBack.j1 kj2 a0_0 a0_1 a1_0 a1_1))) = some r := by rw [if_neg (show ¬ (false = true) by decide)] at H;exact H
    clear H;have H := H1;clear H1
    replace H := ob_ H
    obtain ⟨⟨t437,t438,t439⟩,A200,H⟩ := H
    replace H : (if t439 = 0 then ((rat_Sub.f kj2 t437 t438 a1_0 a1_1).bind fun bt441 => (if bt441.2.2 = 0 then (if (!(bt441.1 == a0_0) || (!(bt441.2.1 == a0_1))) = true then (some false) else ((rat_Check.f kj2 t437 t438).bind fun t445 => (if t445 = true then (neumelaw02_RatBack.j1 kj2 a0_0 a0_1 a1_0 a1_1) else (some false)))) else (some false))) else (neumelaw02_RatBack.j1 kj2 a0_0 a0_1 a1_0 a1_1)) = some r := H
    have A20 := sd_ A200
    clear A200
    have HC21 := sd_ H
    clear H
    have hnb22 := NB432_433.out
    have hnc22 := NB433_432.out
    have hcz23_0 : wc.cell? ⟨gb432,0,none⟩ = some (.int .i64 a0_0) := (kc_ BK432.out 0).trans rfl
    have hcz23_1 : wc.cell? ⟨gb432,1,none⟩ = some (.int .i64 a0_1) := (kc_ BK432.out 1).trans rfl
    have hfz23_0 := kf_ BK432.out 0
    have hfz23_1 := kf_ BK432.out 1
    have hcz24_0 : wc.cell? ⟨gb433,0,none⟩ = some (.int .i64 a1_0) := (kc_ BK433.out 0).trans rfl
    have hcz24_1 : wc.cell? ⟨gb433,1,none⟩ = some (.int .i64 a1_1) := (kc_ BK433.out 1).trans rfl
    have hfz24_0 := kf_ BK433.out 0
    have hfz24_1 := kf_ BK433.out 1
    go_upto_if 29 with (first|((with_reducible refine gate_callee (f := 8) rfl ?_);refine goesL_ (some 25) rfl rfl Tryd.func8 (by kernel_rfl) rfl #[.agg #[.int .i64 a0_0,.int .i64 a0_1],.agg #[.int .i64 a1_0,.int .i64 a1_1]] rfl (by (try simp only [lm_,lq_,lx_]);first|done|rfl|(simp only [ld_,lt_];rfl)) ?_;(with_reducible refine (rat_Add.calls kj2 a0_0 a0_1 a1_0 a1_1 t437 t438 t439 _ A20.out).mono ?_);rintro e w25 ⟨rfl,hb⟩;refine ⟨_,rfl,?_⟩;replace BK432 := kb_ BK432 hb;replace BK433 := kb_ BK433 hb;replace HB := hb_ HB (e_ GE432 (e_ GE433 e0_)) hb;(try clear hb);(try clear hb2);(try clear hk);(try clear hi))|((with_reducible refine gate_dst (N := 5) rfl ?_);refine box_event ?hg (N := 5) ?hd (cs := #[.int .i64 0,.int .i64 0]) (t := 23) ?hr ?_;(case hd => rfl);(case hg => rfl);(case hr => first|(go_simp;done)|(go_simp;rfl));intro gb440 hg w26 hbox hb;have BK440 := sd_ hbox;have GW440 := gw_ HB (e_ GE432 (e_ GE433 e0_)) hg;have GE440 := GW440;have NB432_440 := nb_ BK432 hg;have NB440_432 := sy_ NB432_440;have NB433_440 := nb_ BK433 hg;have NB440_433 := sy_ NB433_440;replace BK432 := kb_ BK432 hb;replace BK433 := kb_ BK433 hb;replace HB := hb_ HB (e_ GE432 (e_ GE433 e0_)) hb;clear hb hbox hg;have hnb27 := NB440_432.out;have hnc27 := NB432_440.out;have hnb28 := NB440_433.out;have hnc28 := NB433_440.out;have hcz29_0 : w26.cell? ⟨gb440,0,none⟩ = some (.int .i64 0) := (kc_ BK440.out 0).trans rfl;have hcz29_1 : w26.cell? ⟨gb440,1,none⟩ = some (.int .i64 0) := (kc_ BK440.out 1).trans rfl;have hfz29_0 := kf_ BK440.out 0;have hfz29_1 := kf_ BK440.out 1))
    (try simp only [Act.put,ls_,lz_,lc_])
    go_cut [] (fun wc => ∃ (kq : Nat),Aside0 (neumelaw02_RatBack.j1 kq a0_0 a0_1 a1_0 a1_1 = some r) ∧ Aside0 (kq ≤ kj2) ∧ Aside0 (wc.heap[gb432]? = some (.cells #[.int .i64 a0_0,.int .i64 a0_1] 23 (0,0))) ∧ Aside0 (wc.heap[gb433]? = some (.cells #[.int .i64 a1_0,.int .i64 a1_1] 23 (0,0))) ∧ Aside0 (wc.heap[gb440]? = some (.cells #[.int .i64 t437,.int .i64 t438] 23 (0,0))) ∧ Aside0 (Below w.heap.size w wc))
    case first =>
     have H := HC21.out
     clear HC21
     by_cases c30 : t439 = 0
     ·rw [if_pos c30] at H
      have c30b0 : (t439 == 0) = true := beq_iff_eq.mpr c30
      have c30b1 : (t439 != 0) = false := bne_eq_false_iff_eq.mpr c30
      clear c30
      (first|rw [c30b0]|(simp only [i64_w,i32_w];rw [c30b0])|skip)
      replace H := ob_ H
      obtain ⟨⟨t441,t442,t443⟩,A310,H⟩ := H
      replace H : (if t443 = 0 then (if (!(t441 == a0_0) || (!(t442 == a0_1))) = true then (some false) else ((rat_Check.f kj2 t437 t438).bind fun t445 => (if t445 = true then (neumelaw02_RatBack.j1 kj2 a0_0 a0_1 a1_0 a1_1) else (some false)))) else (some false)) = some r := H
      have A31 := sd_ A310
      clear A310
      by_cases c32 : t443 = 0
      ·rw [if_pos c32] at H
       have c32b0 : (t443 == 0) = true := beq_iff_eq.mpr c32
       have c32b1 : (t443 != 0) = false := bne_eq_false_iff_eq.mpr c32
       clear c32
       by_cases c33 : (!(t441 == a0_0) || (!(t442 == a0_1))) = true
       ·rw [if_pos c33] at H
        have c33b0 : (!(t441 == a0_0) || (!(t442 == a0_1))) = true := c33
        clear c33
        exact absurd ((Option.some.inj H).trans hxt.out) (by decide)
       ·rw [if_neg c33] at H
        have c33b0 : (!(t441 == a0_0) || (!(t442 == a0_1))) = false := by simpa using c33
        clear c33
        replace H := ob_ H
        obtain ⟨t445,A340,H⟩ := H
        replace H : (if t445 = true then (neumelaw02_RatBack.j1 kj2 a0_0 a0_1 a1_0 a1_1) else (some false)) = some r := H
        have A34 := sd_ A340
        clear A340
        by_cases c35 : t445 = true
        ·subst c35
         have H1 : (neumelaw02_RatBack.j1 kj2 a0_0 a0_1 a1_0 a1_1) = some r := by rw [if_pos rfl] at H;exact H
         clear H;have H := H1;clear H1
         have H' := sd_ H
         clear H
         have hnb36 := NB440_432.out
         have hnc36 := NB432_440.out
         have hnb37 := NB440_433.out
         have hnc37 := NB433_440.out
         have hcz38_0 : w26.cell? ⟨gb440,0,none⟩ = some (.int .i64 0) := (kc_ BK440.out 0).trans rfl
         have hcz38_1 : w26.cell? ⟨gb440,1,none⟩ = some (.int .i64 0) := (kc_ BK440.out 1).trans rfl
         have hfz38_0 := kf_ BK440.out 0
         have hfz38_1 := kf_ BK440.out 1
         have hnb39 := NB433_432.out
         have hnc39 := NB432_433.out
         have hcz40_0 : w26.cell? ⟨gb433,0,none⟩ = some (.int .i64 a1_0) := (kc_ BK433.out 0).trans rfl
         have hcz40_1 : w26.cell? ⟨gb433,1,none⟩ = some (.int .i64 a1_1) := (kc_ BK433.out 1).trans rfl
         have hfz40_0 := kf_ BK433.out 0
         have hfz40_1 := kf_ BK433.out 1
         go_wp2_with (first|((with_reducible refine gate_callee (f := 10) rfl ?_);refine goesL_ (some 33) rfl rfl Tryd.func10 (by kernel_rfl) rfl #[.agg #[.int .i64 t437,.int .i64 t438],.agg #[.int .i64 a1_0,.int .i64 a1_1]] rfl (by (try simp only [lm_,lq_,lx_]);first|done|rfl|(simp only [ld_,lt_];rfl)) ?_;(with_reducible refine (rat_Sub.calls kj2 t437 t438 a1_0 a1_1 t441 t442 t443 _ A31.out).mono ?_);rintro e w41 ⟨rfl,hb⟩;refine ⟨_,rfl,?_⟩;replace BK432 := sd_ (blk_below (g := gb432) (o := .cells #[.int .i64 a0_0,.int .i64 a0_1] 23 (0,0)) (by (with_reducible repeat first|apply kn_|apply kd_|apply ka_);refine blk_far ?_ NB432_440.out _;(with_reducible repeat first|apply kn_|apply kd_|apply ka_);refine blk_far ?_ NB432_440.out _;(with_reducible repeat first|apply kn_|apply kd_|apply ka_);exact BK432.out) hb);replace BK433 := sd_ (blk_below (g := gb433) (o := .cells #[.int .i64 a1_0,.int .i64 a1_1] 23 (0,0)) (by (with_reducible repeat first|apply kn_|apply kd_|apply ka_);refine blk_far ?_ NB433_440.out _;(with_reducible repeat first|apply kn_|apply kd_|apply ka_);refine blk_far ?_ NB433_440.out _;(with_reducible repeat first|apply kn_|apply kd_|apply ka_);exact BK433.out) hb);replace BK440 := sd_ (blk_below (g := gb440) (o := .cells #[.int .i64 t437,.int .i64 t438] 23 (0,0)) (by (with_reducible repeat first|apply kn_|apply kd_|apply ka_);refine blk_put (cs := #[.int .i64 t437,.int .i64 0]) ?_ 1 _ rfl;(with_reducible repeat first|apply kn_|apply kd_|apply ka_);refine blk_put (cs := #[.int .i64 0,.int .i64 0]) ?_ 0 _ rfl;(with_reducible repeat first|apply kn_|apply kd_|apply ka_);exact BK440.out) hb);replace HB := hb_ HB (e_ GE432 (e_ GE433 (e_ GE440 e0_))) hb;(try clear hb);(try clear hb2);(try clear hk);(try clear hi))|((with_reducible refine gate_dst (N := 7) rfl ?_);refine box_event ?hg (N := 7) ?hd (cs := #[.int .i64 0,.int .i64 0]) (t := 23) ?hr ?_;(case hd => rfl);(case hg => rfl);(case hr => first|(go_simp;done)|(go_simp;rfl));intro gb444 hg w42 hbox hb;have BK444 := sd_ hbox;have GW444 := gw_ HB (e_ GE432 (e_ GE433 (e_ GE440 e0_))) hg;have GE444 := GW444;have NB432_444 := nb_ BK432 hg;have NB444_432 := sy_ NB432_444;have NB433_444 := nb_ BK433 hg;have NB444_433 := sy_ NB433_444;have NB440_444 := nb_ BK440 hg;have NB444_440 := sy_ NB440_444;replace BK432 := kb_ BK432 hb;replace BK433 := kb_ BK433 hb;replace BK440 := kb_ BK440 hb;replace HB := hb_ HB (e_ GE432 (e_ GE433 (e_ GE440 e0_))) hb;clear hb hbox hg;have hnb43 := NB444_432.out;have hnc43 := NB432_444.out;have hnb44 := NB444_433.out;have hnc44 := NB433_444.out;have hnb45 := NB444_440.out;have hnc45 := NB440_444.out;have hcz46_0 : w42.cell? ⟨gb444,0,none⟩ = some (.int .i64 0) := (kc_ BK444.out 0).trans rfl;have hcz46_1 : w42.cell? ⟨gb444,1,none⟩ = some (.int .i64 0) := (kc_ BK444.out 1).trans rfl;have hfz46_0 := kf_ BK444.out 0;have hfz46_1 := kf_ BK444.out 1;have hcz47_0 : w42.cell? ⟨gb432,0,none⟩ = some (.int .i64 a0_0) := (kc_ BK432.out 0).trans rfl;have hcz47_1 : w42.cell? ⟨gb432,1,none⟩ = some (.int .i64 a0_1) := (kc_ BK432.out 1).trans rfl;have hfz47_0 := kf_ BK432.out 0;have hfz47_1 := kf_ BK432.out 1;have hcz48_0 : w42.cell? ⟨gb440,0,none⟩ = some (.int .i64 t437) := (kc_ BK440.out 0).trans rfl;have hcz48_1 : w42.cell? ⟨gb440,1,none⟩ = some (.int .i64 t438) := (kc_ BK440.out 1).trans rfl;have hfz48_0 := kf_ BK440.out 0;have hfz48_1 := kf_ BK440.out 1)|(go_at_call 29;(with_reducible refine (rat_Check.calls kj2 t437 t438 true _ A34.out).mono ?_);rintro e w49 ⟨rfl,hb⟩;replace BK432 := sd_ (blk_below (g := gb432) (o := .cells #[.int .i64 a0_0,.int .i64 a0_1] 23 (0,0)) (by (with_reducible repeat first|apply kn_|apply kd_|apply ka_);refine blk_far ?_ NB432_444.out _;(with_reducible repeat first|apply kn_|apply kd_|apply ka_);refine blk_far ?_ NB432_444.out _;(with_reducible repeat first|apply kn_|apply kd_|apply ka_);exact BK432.out) hb);replace BK433 := sd_ (blk_below (g := gb433) (o := .cells #[.int .i64 a1_0,.int .i64 a1_1] 23 (0,0)) (by (with_reducible repeat first|apply kn_|apply kd_|apply ka_);refine blk_far ?_ NB433_444.out _;(with_reducible repeat first|apply kn_|apply kd_|apply ka_);refine blk_far ?_ NB433_444.out _;(with_reducible repeat first|apply kn_|apply kd_|apply ka_);exact BK433.out) hb);replace BK440 := sd_ (blk_below (g := gb440) (o := .cells #[.int .i64 t437,.int .i64 t438] 23 (0,0)) (by (with_reducible repeat first|apply kn_|apply kd_|apply ka_);refine blk_far ?_ NB440_444.out _;(with_reducible repeat first|apply kn_|apply kd_|apply ka_);refine blk_far ?_ NB440_444.out _;(with_reducible repeat first|apply kn_|apply kd_|apply ka_);exact BK440.out) hb);replace BK444 := sd_ (blk_below (g := gb444) (o := .cells #[.int .i64 t441,.int .i64 t442] 23 (0,0)) (by (with_reducible repeat first|apply kn_|apply kd_|apply ka_);refine blk_put (cs := #[.int .i64 t441,.int .i64 0]) ?_ 1 _ rfl;(with_reducible repeat first|apply kn_|apply kd_|apply ka_);refine blk_put (cs := #[.int .i64 0,.int .i64 0]) ?_ 0 _ rfl;(with_reducible repeat first|apply kn_|apply kd_|apply ka_);exact BK444.out) hb);replace HB := hb_ HB (e_ GE432 (e_ GE433 (e_ GE440 (e_ GE444 e0_)))) hb;(try clear hb);(try clear hb2);(try clear hk);(try clear hi)))
         go_meet
         case rel => exact ⟨_,H',⟨by have := HJ2.out;first|omega|exact Nat.le_refl _⟩,⟨by (with_reducible repeat first|apply kn_|apply kd_|apply ka_);exact BK432.out⟩,⟨by (with_reducible repeat first|apply kn_|apply kd_|apply ka_);exact BK433.out⟩,⟨by (with_reducible repeat first|apply kn_|apply kd_|apply ka_);exact BK440.out⟩,⟨by repeat (first|(with_reducible first|exact HB.out|apply ba_|apply pd_|apply d1_|refine bs_ ?_ GE432.out|refine bs_ ?_ GE433.out|refine bs_ ?_ GE440.out|refine bs_ ?_ GE444.out)|exact HB.out)⟩⟩
        ·replace c35 := bf_ c35
         subst c35
         have H1 : (some false) = some r := by rw [if_neg (show ¬ (false = true) by decide)] at H;exact H
         clear H;have H := H1;clear H1
         exact absurd ((Option.some.inj H).trans hxt.out) (by decide)
      ·rw [if_neg c32] at H
       have c32b0 : (t443 == 0) = false := beq_eq_false_iff_ne.mpr c32
       have c32b1 : (t443 != 0) = true := bne_iff_ne.mpr c32
       exact absurd ((Option.some.inj H).trans hxt.out) (by decide)
     ·rw [if_neg c30] at H
      have c30b0 : (t439 == 0) = false := beq_eq_false_iff_ne.mpr c30
      have c30b1 : (t439 != 0) = true := bne_iff_ne.mpr c30
      (first|rw [c30b0]|(simp only [i64_w,i32_w];rw [c30b0])|skip)
      have H' := sd_ H
      clear H
      go_wp2
      go_meet
      case rel => exact ⟨_,H',⟨by have := HJ2.out;first|omega|exact Nat.le_refl _⟩,⟨by (with_reducible repeat first|apply kn_|apply kd_|apply ka_);refine blk_far ?_ NB432_440.out _;(with_reducible repeat first|apply kn_|apply kd_|apply ka_);refine blk_far ?_ NB432_440.out _;(with_reducible repeat first|apply kn_|apply kd_|apply ka_);exact BK432.out⟩,⟨by (with_reducible repeat first|apply kn_|apply kd_|apply ka_);refine blk_far ?_ NB433_440.out _;(with_reducible repeat first|apply kn_|apply kd_|apply ka_);refine blk_far ?_ NB433_440.out _;(with_reducible repeat first|apply kn_|apply kd_|apply ka_);exact BK433.out⟩,⟨by (with_reducible repeat first|apply kn_|apply kd_|apply ka_);refine blk_put (cs := #[.int .i64 t437,.int .i64 0]) ?_ 1 _ rfl;(with_reducible repeat first|apply kn_|apply kd_|apply ka_);refine blk_put (cs := #[.int .i64 0,.int .i64 0]) ?_ 0 _ rfl;(with_reducible repeat first|apply kn_|apply kd_|apply ka_);exact BK440.out⟩,⟨by repeat (first|(with_reducible first|exact HB.out|apply ba_|apply pd_|apply d1_|refine bs_ ?_ GE432.out|refine bs_ ?_ GE433.out|refine bs_ ?_ GE440.out)|exact HB.out)⟩⟩
    case rest =>
     clear HC21
     try clear c1;try clear c2;try clear p2;try clear c3;try clear c4;try clear c5;try clear c7;try clear c8;try clear c9;try clear c10;try clear c14;try clear c17;try clear c18;try clear c22;try clear c27;try clear c28;try clear c29;try clear c30;try clear c30b0;try clear c30b1;try clear c32;try clear c32b0;try clear c32b1;try clear c33;try clear c33b0;try clear c35;try clear c36;try clear c37;try clear c39;try clear c43;try clear c44;try clear c45;try clear hcz10_0;try clear hcz10_1;try clear hcz12_0;try clear hcz12_1;try clear hcz15_0;try clear hcz15_1;try clear hcz23_0;try clear hcz23_1;try clear hcz24_0;try clear hcz24_1;try clear hcz29_0;try clear hcz29_1;try clear hcz38_0;try clear hcz38_1;try clear hcz40_0;try clear hcz40_1;try clear hcz46_0;try clear hcz46_1;try clear hcz47_0;try clear hcz47_1;try clear hcz48_0;try clear hcz48_1;try clear hfz10_0;try clear hfz10_1;try clear hfz12_0;try clear hfz12_1;try clear hfz15_0;try clear hfz15_1;try clear hfz23_0;try clear hfz23_1;try clear hfz24_0;try clear hfz24_1;try clear hfz29_0;try clear hfz29_1;try clear hfz38_0;try clear hfz38_1;try clear hfz40_0;try clear hfz40_1;try clear hfz46_0;try clear hfz46_1;try clear hfz47_0;try clear hfz47_1;try clear hfz48_0;try clear hfz48_1;try clear p2
     obtain ⟨kq,HA,HJ20,BK432,BK433,BK440,HB⟩ := hcut
     cases kq with
     | zero => exact absurd HA.out (by simp [neumelaw02_RatBack.j1])
     | succ kj20 =>
      have H := HA.out
      clear HA
      simp only [neumelaw02_RatBack.j1] at H
      replace H := ob_ H
      obtain ⟨⟨t446,t447,t448⟩,A500,H⟩ := H
      replace H : (if t448 = 0 then (neumelaw02_RatBack.j2 kj20 (a1_0 == 0) a0_0 a0_1 a1_0 a1_1 t446 t447) else (neumelaw02_RatBack.j2 kj20 true a0_0 a0_1 a1_0 a1_1 t446 t447)) = some r := H
      have A50 := sd_ A500
      clear A500
      have HC51 := sd_ H
      clear H
      have hnb52 := NB432_433.out
      have hnc52 := NB433_432.out
      have hnb53 := NB432_440.out
      have hnc53 := NB440_432.out
      have hcz54_0 : wc.cell? ⟨gb432,0,none⟩ = some (.int .i64 a0_0) := (kc_ BK432.out 0).trans rfl
      have hcz54_1 : wc.cell? ⟨gb432,1,none⟩ = some (.int .i64 a0_1) := (kc_ BK432.out 1).trans rfl
      have hfz54_0 := kf_ BK432.out 0
      have hfz54_1 := kf_ BK432.out 1
      have hnb55 := NB433_440.out
      have hnc55 := NB440_433.out
      have hcz56_0 : wc.cell? ⟨gb433,0,none⟩ = some (.int .i64 a1_0) := (kc_ BK433.out 0).trans rfl
      have hcz56_1 : wc.cell? ⟨gb433,1,none⟩ = some (.int .i64 a1_1) := (kc_ BK433.out 1).trans rfl
      have hfz56_0 := kf_ BK433.out 0
      have hfz56_1 := kf_ BK433.out 1
      go_upto_region 9 with (first|((with_reducible refine gate_callee (f := 12) rfl ?_);refine goesL_ (some 51) rfl rfl Tryd.func12 (by kernel_rfl) rfl #[.agg #[.int .i64 a0_0,.int .i64 a0_1],.agg #[.int .i64 a1_0,.int .i64 a1_1]] rfl (by (try simp only [lm_,lq_,lx_]);first|done|rfl|(simp only [ld_,lt_];rfl)) ?_;(with_reducible refine (rat_Mul.calls kj20 a0_0 a0_1 a1_0 a1_1 t446 t447 t448 _ A50.out).mono ?_);rintro e w57 ⟨rfl,hb⟩;refine ⟨_,rfl,?_⟩;replace BK432 := kb_ BK432 hb;replace BK433 := kb_ BK433 hb;replace BK440 := kb_ BK440 hb;replace HB := hb_ HB (e_ GE432 (e_ GE433 (e_ GE440 e0_))) hb;(try clear hb);(try clear hb2);(try clear hk);(try clear hi))|((with_reducible refine gate_dst (N := 9) rfl ?_);refine box_event ?hg (N := 9) ?hd (cs := #[.int .i64 0,.int .i64 0]) (t := 23) ?hr ?_;(case hd => rfl);(case hg => rfl);(case hr => first|(go_simp;done)|(go_simp;rfl));intro gb449 hg w58 hbox hb;have BK449 := sd_ hbox;have GW449 := gw_ HB (e_ GE432 (e_ GE433 (e_ GE440 e0_))) hg;have GE449 := GW449;have NB432_449 := nb_ BK432 hg;have NB449_432 := sy_ NB432_449;have NB433_449 := nb_ BK433 hg;have NB449_433 := sy_ NB433_449;have NB440_449 := nb_ BK440 hg;have NB449_440 := sy_ NB440_449;replace BK432 := kb_ BK432 hb;replace BK433 := kb_ BK433 hb;replace BK440 := kb_ BK440 hb;replace HB := hb_ HB (e_ GE432 (e_ GE433 (e_ GE440 e0_))) hb;clear hb hbox hg;have hnb59 := NB449_432.out;have hnc59 := NB432_449.out;have hnb60 := NB449_433.out;have hnc60 := NB433_449.out;have hnb61 := NB449_440.out;have hnc61 := NB440_449.out;have hcz62_0 : w58.cell? ⟨gb449,0,none⟩ = some (.int .i64 0) := (kc_ BK449.out 0).trans rfl;have hcz62_1 : w58.cell? ⟨gb449,1,none⟩ = some (.int .i64 0) := (kc_ BK449.out 1).trans rfl;have hfz62_0 := kf_ BK449.out 0;have hfz62_1 := kf_ BK449.out 1))
      (try simp only [Act.put,ls_,lz_,lc_])
      go_cut [60] (fun v60 wc => ∃ (kq : Nat) (x60_50 : Bool),v60 = .bool x60_50 ∧ Aside0 (neumelaw02_RatBack.j2 kq x60_50 a0_0 a0_1 a1_0 a1_1 t446 t447 = some r) ∧ Aside0 (kq ≤ kj20) ∧ Aside0 (wc.heap[gb432]? = some (.cells #[.int .i64 a0_0,.int .i64 a0_1] 23 (0,0))) ∧ Aside0 (wc.heap[gb433]? = some (.cells #[.int .i64 a1_0,.int .i64 a1_1] 23 (0,0))) ∧ Aside0 (wc.heap[gb440]? = some (.cells #[.int .i64 t437,.int .i64 t438] 23 (0,0))) ∧ Aside0 (wc.heap[gb449]? = some (.cells #[.int .i64 t446,.int .i64 t447] 23 (0,0))) ∧ Aside0 (Below w.heap.size w wc))
      case first =>
       have H := HC51.out
       clear HC51
       by_cases c63 : t448 = 0
       ·rw [if_pos c63] at H
        have c63b0 : (t448 == 0) = true := beq_iff_eq.mpr c63
        have c63b1 : (t448 != 0) = false := bne_eq_false_iff_eq.mpr c63
        clear c63
        (first|rw [c63b0]|(simp only [i64_w,i32_w];rw [c63b0])|skip)
        have H' := sd_ H
        clear H
        have hnb64 := NB433_432.out
        have hnc64 := NB432_433.out
        have hnb65 := NB433_440.out
        have hnc65 := NB440_433.out
        have hnb66 := NB433_449.out
        have hnc66 := NB449_433.out
        have hcz67_0 : w58.cell? ⟨gb433,0,none⟩ = some (.int .i64 a1_0) := (kc_ BK433.out 0).trans rfl
        have hcz67_1 : w58.cell? ⟨gb433,1,none⟩ = some (.int .i64 a1_1) := (kc_ BK433.out 1).trans rfl
        have hfz67_0 := kf_ BK433.out 0
        have hfz67_1 := kf_ BK433.out 1
        go_wp2
        go_meet
        case rel => exact ⟨_,((a1_0 == 0)),(by first|rfl|(simp;done)|(simp [*];done)|(simp [bne];done)),H',⟨by have := HJ2.out;have := HJ20.out;first|omega|exact Nat.le_refl _⟩,⟨by (with_reducible repeat first|apply kn_|apply kd_|apply ka_);refine blk_far ?_ NB432_449.out _;(with_reducible repeat first|apply kn_|apply kd_|apply ka_);refine blk_far ?_ NB432_449.out _;(with_reducible repeat first|apply kn_|apply kd_|apply ka_);exact BK432.out⟩,⟨by (with_reducible repeat first|apply kn_|apply kd_|apply ka_);refine blk_far ?_ NB433_449.out _;(with_reducible repeat first|apply kn_|apply kd_|apply ka_);refine blk_far ?_ NB433_449.out _;(with_reducible repeat first|apply kn_|apply kd_|apply ka_);exact BK433.out⟩,⟨by (with_reducible repeat first|apply kn_|apply kd_|apply ka_);refine blk_far ?_ NB440_449.out _;(with_reducible repeat first|apply kn_|apply kd_|apply ka_);refine blk_far ?_ NB440_449.out _;(with_reducible repeat first|apply kn_|apply kd_|apply ka_);exact BK440.out⟩,⟨by (with_reducible repeat first|apply kn_|apply kd_|apply ka_);refine blk_put (cs := #[.int .i64 t446,.int .i64 0]) ?_ 1 _ rfl;(with_reducible repeat first|apply kn_|apply kd_|apply ka_);refine blk_put (cs := #[.int .i64 0,.int .i64 0]) ?_ 0 _ rfl;(with_reducible repeat first|apply kn_|apply kd_|apply ka_);exact BK449.out⟩,⟨by repeat (first|(with_reducible first|exact HB.out|apply ba_|apply pd_|apply d1_|refine bs_ ?_ GE432.out|refine bs_ ?_ GE433.out|refine bs_ ?_ GE440.out|refine bs_ ?_ GE449.out)|exact HB.out)⟩⟩
       ·rw [if_neg c63] at H
        have c63b0 : (t448 == 0) = false := beq_eq_false_iff_ne.mpr c63
        have c63b1 : (t448 != 0) = true := bne_iff_ne.mpr c63
        (first|rw [c63b0]|(simp only [i64_w,i32_w];rw [c63b0])|skip)
        have H' := sd_ H
        clear H
        go_wp2
        go_meet
        case rel => exact ⟨_,(true),(by first|rfl|(simp;done)|(simp [*];done)|(simp [bne];done)),H',⟨by have := HJ2.out;have := HJ20.out;first|omega|exact Nat.le_refl _⟩,⟨by (with_reducible repeat first|apply kn_|apply kd_|apply ka_);refine blk_far ?_ NB432_449.out _;(with_reducible repeat first|apply kn_|apply kd_|apply ka_);refine blk_far ?_ NB432_449.out _;(with_reducible repeat first|apply kn_|apply kd_|apply ka_);exact BK432.out⟩,⟨by (with_reducible repeat first|apply kn_|apply kd_|apply ka_);refine blk_far ?_ NB433_449.out _;(with_reducible repeat first|apply kn_|apply kd_|apply ka_);refine blk_far ?_ NB433_449.out _;(with_reducible repeat first|apply kn_|apply kd_|apply ka_);exact BK433.out⟩,⟨by (with_reducible repeat first|apply kn_|apply kd_|apply ka_);refine blk_far ?_ NB440_449.out _;(with_reducible repeat first|apply kn_|apply kd_|apply ka_);refine blk_far ?_ NB440_449.out _;(with_reducible repeat first|apply kn_|apply kd_|apply ka_);exact BK440.out⟩,⟨by (with_reducible repeat first|apply kn_|apply kd_|apply ka_);refine blk_put (cs := #[.int .i64 t446,.int .i64 0]) ?_ 1 _ rfl;(with_reducible repeat first|apply kn_|apply kd_|apply ka_);refine blk_put (cs := #[.int .i64 0,.int .i64 0]) ?_ 0 _ rfl;(with_reducible repeat first|apply kn_|apply kd_|apply ka_);exact BK449.out⟩,⟨by repeat (first|(with_reducible first|exact HB.out|apply ba_|apply pd_|apply d1_|refine bs_ ?_ GE432.out|refine bs_ ?_ GE433.out|refine bs_ ?_ GE440.out|refine bs_ ?_ GE449.out)|exact HB.out)⟩⟩
      case rest =>
       clear HC51
       try clear c1;try clear c2;try clear p2;try clear c3;try clear c4;try clear c5;try clear c6;try clear c7;try clear c8;try clear c9;try clear c10;try clear c12;try clear c14;try clear c17;try clear c18;try clear c22;try clear c27;try clear c28;try clear c29;try clear c30;try clear c30b0;try clear c30b1;try clear c32;try clear c32b0;try clear c32b1;try clear c33;try clear c33b0;try clear c35;try clear c36;try clear c37;try clear c39;try clear c43;try clear c44;try clear c45;try clear c52;try clear c53;try clear c55;try clear c59;try clear c60;try clear c61;try clear c63;try clear c63b0;try clear c63b1;try clear c64;try clear c65;try clear c66;try clear hcz10_0;try clear hcz10_1;try clear hcz12_0;try clear hcz12_1;try clear hcz15_0;try clear hcz15_1;try clear hcz23_0;try clear hcz23_1;try clear hcz24_0;try clear hcz24_1;try clear hcz29_0;try clear hcz29_1;try clear hcz38_0;try clear hcz38_1;try clear hcz40_0;try clear hcz40_1;try clear hcz46_0;try clear hcz46_1;try clear hcz47_0;try clear hcz47_1;try clear hcz48_0;try clear hcz48_1;try clear hcz54_0;try clear hcz54_1;try clear hcz56_0;try clear hcz56_1;try clear hcz62_0;try clear hcz62_1;try clear hcz67_0;try clear hcz67_1;try clear hfz10_0;try clear hfz10_1;try clear hfz12_0;try clear hfz12_1;try clear hfz15_0;try clear hfz15_1;try clear hfz23_0;try clear hfz23_1;try clear hfz24_0;try clear hfz24_1;try clear hfz29_0;try clear hfz29_1;try clear hfz38_0;try clear hfz38_1;try clear hfz40_0;try clear hfz40_1;try clear hfz46_0;try clear hfz46_1;try clear hfz47_0;try clear hfz47_1;try clear hfz48_0;try clear hfz48_1;try clear hfz54_0;try clear hfz54_1;try clear hfz56_0;try clear hfz56_1;try clear hfz62_0;try clear hfz62_1;try clear hfz67_0;try clear hfz67_1;try clear p2
       obtain ⟨kq,x60_50,rfl,HA,HJ50,BK432,BK433,BK440,BK449,HB⟩ := hcut
       cases kq with
       | zero => exact absurd HA.out (by simp [neumelaw02_RatBack.j2])
       | succ kj50 =>
        have H := HA.out
        clear HA
        simp only [neumelaw02_RatBack.j2] at H
        by_cases c68 : x60_50 = true
        ·subst c68
         have H1 : ((neumelaw02_heads.f kj50).bind fun t450 => (some t450)) = some r := by rw [if_pos rfl] at H;exact H
         clear H;have H := H1;clear H1
         replace H := ob_ H
         obtain ⟨t450,A690,H⟩ := H
         replace H : (some t450) = some r := H
         have A69 := sd_ A690
         clear A690
         obtain rfl := Option.some.inj H
         go_wp2_with (first|((with_reducible refine gate_callee (f := 18) rfl ?_);refine goesL_ (some 61) rfl rfl Tryd.func18 (by kernel_rfl) rfl #[] rfl (by (try simp only [lm_,lq_,lx_]);first|done|rfl|(simp only [ld_,lt_];rfl)) ?_;(with_reducible refine (neumelaw02_heads.calls kj50  t450 _ ?side1 A69.out).mono ?_);(case side1 => first|(with_reducible exact hE)|exact sd_ (LaidE.below hE.out (bb_ HB.out (e_ GE432 (e_ GE433 (e_ GE440 (e_ GE449 e0_)))))));rintro e w70 ⟨rfl,hb⟩;refine ⟨_,rfl,?_⟩;replace BK432 := kb_ BK432 hb;replace BK433 := kb_ BK433 hb;replace BK440 := kb_ BK440 hb;replace BK449 := kb_ BK449 hb;replace HB := hb_ HB (e_ GE432 (e_ GE433 (e_ GE440 (e_ GE449 e0_)))) hb;(try clear hb);(try clear hb2);(try clear hk);(try clear hi)))
         go_ret
         exact ⟨by first|rfl|(simp [errW_none,errW_some] <;> rfl)|(simp [*,errW_none,errW_some] <;> rfl),by repeat (first|(with_reducible first|exact HB.out|apply ba_|apply pd_|apply d1_|refine bs_ ?_ GE432.out|refine bs_ ?_ GE433.out|refine bs_ ?_ GE440.out|refine bs_ ?_ GE449.out)|exact HB.out)⟩
        ·replace c68 := bf_ c68
         subst c68
         have H1 : ((rat_Div.f kj50 t446 t447 a1_0 a1_1).bind fun bt451 => (if bt451.2.2 = 0 then (if (bt451.1 == a0_0 && (bt451.2.1 == a0_1)) = true then ((rat_Check.f kj50 t446 t447).bind fun t455 => (if t455 = true then ((neumelaw02_heads.f kj50).bind fun t456 => (some t456)) else (some false))) else (some false)) else (some false))) = some r := by rw [if_neg (show ¬ (false = true) by decide)] at H;exact H
         clear H;have H := H1;clear H1
         replace H := ob_ H
         obtain ⟨⟨t451,t452,t453⟩,A710,H⟩ := H
         replace H : (if t453 = 0 then (if (t451 == a0_0 && (t452 == a0_1)) = true then ((rat_Check.f kj50 t446 t447).bind fun t455 => (if t455 = true then ((neumelaw02_heads.f kj50).bind fun t456 => (some t456)) else (some false))) else (some false)) else (some false)) = some r := H
         have A71 := sd_ A710
         clear A710
         by_cases c72 : t453 = 0
         ·rw [if_pos c72] at H
          have c72b0 : (t453 == 0) = true := beq_iff_eq.mpr c72
          have c72b1 : (t453 != 0) = false := bne_eq_false_iff_eq.mpr c72
          clear c72
          by_cases c73 : (t451 == a0_0 && (t452 == a0_1)) = true
          ·rw [if_pos c73] at H
           have c73b0 : (t451 == a0_0 && (t452 == a0_1)) = true := c73
           (try (have c73b1 : decide (t451 = a0_0 && (t452 == a0_1)) = true := by simpa using c73))
           (try (have c73b2 : (t451 == a0_0 && (t452 == a0_1)) = true := by simpa using c73))
           clear c73
           replace H := ob_ H
           obtain ⟨t455,A740,H⟩ := H
           replace H : (if t455 = true then ((neumelaw02_heads.f kj50).bind fun t456 => (some t456)) else (some false)) = some r := H
           have A74 := sd_ A740
           clear A740
           by_cases c75 : t455 = true
           ·subst c75
            have H1 : ((neumelaw02_heads.f kj50).bind fun t456 => (some t456)) = some r := by rw [if_pos rfl] at H;exact H
            clear H;have H := H1;clear H1
            replace H := ob_ H
            obtain ⟨t456,A760,H⟩ := H
            replace H : (some t456) = some r := H
            have A76 := sd_ A760
            clear A760
            obtain rfl := Option.some.inj H
            have hnb77 := NB449_432.out
            have hnc77 := NB432_449.out
            have hnb78 := NB449_433.out
            have hnc78 := NB433_449.out
            have hnb79 := NB449_440.out
            have hnc79 := NB440_449.out
            have hcz80_0 : wc.cell? ⟨gb449,0,none⟩ = some (.int .i64 t446) := (kc_ BK449.out 0).trans rfl
            have hcz80_1 : wc.cell? ⟨gb449,1,none⟩ = some (.int .i64 t447) := (kc_ BK449.out 1).trans rfl
            have hfz80_0 := kf_ BK449.out 0
            have hfz80_1 := kf_ BK449.out 1
            have hnb81 := NB433_432.out
            have hnc81 := NB432_433.out
            have hnb82 := NB433_440.out
            have hnc82 := NB440_433.out
            have hcz83_0 : wc.cell? ⟨gb433,0,none⟩ = some (.int .i64 a1_0) := (kc_ BK433.out 0).trans rfl
            have hcz83_1 : wc.cell? ⟨gb433,1,none⟩ = some (.int .i64 a1_1) := (kc_ BK433.out 1).trans rfl
            have hfz83_0 := kf_ BK433.out 0
            have hfz83_1 := kf_ BK433.out 1
            go_wp2_with (first|((with_reducible refine gate_callee (f := 14) rfl ?_);refine goesL_ (some 65) rfl rfl Tryd.func14 (by kernel_rfl) rfl #[.agg #[.int .i64 t446,.int .i64 t447],.agg #[.int .i64 a1_0,.int .i64 a1_1]] rfl (by (try simp only [lm_,lq_,lx_]);first|done|rfl|(simp only [ld_,lt_];rfl)) ?_;(with_reducible refine (rat_Div.calls kj50 t446 t447 a1_0 a1_1 t451 t452 t453 _ A71.out).mono ?_);rintro e w84 ⟨rfl,hb⟩;refine ⟨_,rfl,?_⟩;replace BK432 := kb_ BK432 hb;replace BK433 := kb_ BK433 hb;replace BK440 := kb_ BK440 hb;replace BK449 := kb_ BK449 hb;replace HB := hb_ HB (e_ GE432 (e_ GE433 (e_ GE440 (e_ GE449 e0_)))) hb;(try clear hb);(try clear hb2);(try clear hk);(try clear hi))|((with_reducible refine gate_dst (N := 11) rfl ?_);refine box_event ?hg (N := 11) ?hd (cs := #[.int .i64 0,.int .i64 0]) (t := 23) ?hr ?_;(case hd => rfl);(case hg => rfl);(case hr => first|(go_simp;done)|(go_simp;rfl));intro gb454 hg w85 hbox hb;have BK454 := sd_ hbox;have GW454 := gw_ HB (e_ GE432 (e_ GE433 (e_ GE440 (e_ GE449 e0_)))) hg;have GE454 := GW454;have NB432_454 := nb_ BK432 hg;have NB454_432 := sy_ NB432_454;have NB433_454 := nb_ BK433 hg;have NB454_433 := sy_ NB433_454;have NB440_454 := nb_ BK440 hg;have NB454_440 := sy_ NB440_454;have NB449_454 := nb_ BK449 hg;have NB454_449 := sy_ NB449_454;replace BK432 := kb_ BK432 hb;replace BK433 := kb_ BK433 hb;replace BK440 := kb_ BK440 hb;replace BK449 := kb_ BK449 hb;replace HB := hb_ HB (e_ GE432 (e_ GE433 (e_ GE440 (e_ GE449 e0_)))) hb;clear hb hbox hg;have hnb86 := NB454_432.out;have hnc86 := NB432_454.out;have hnb87 := NB454_433.out;have hnc87 := NB433_454.out;have hnb88 := NB454_440.out;have hnc88 := NB440_454.out;have hnb89 := NB454_449.out;have hnc89 := NB449_454.out;have hcz90_0 : w85.cell? ⟨gb454,0,none⟩ = some (.int .i64 0) := (kc_ BK454.out 0).trans rfl;have hcz90_1 : w85.cell? ⟨gb454,1,none⟩ = some (.int .i64 0) := (kc_ BK454.out 1).trans rfl;have hfz90_0 := kf_ BK454.out 0;have hfz90_1 := kf_ BK454.out 1;have hnb91 := NB432_440.out;have hnc91 := NB440_432.out;have hcz92_0 : w85.cell? ⟨gb432,0,none⟩ = some (.int .i64 a0_0) := (kc_ BK432.out 0).trans rfl;have hcz92_1 : w85.cell? ⟨gb432,1,none⟩ = some (.int .i64 a0_1) := (kc_ BK432.out 1).trans rfl;have hfz92_0 := kf_ BK432.out 0;have hfz92_1 := kf_ BK432.out 1;have hcz93_0 : w85.cell? ⟨gb449,0,none⟩ = some (.int .i64 t446) := (kc_ BK449.out 0).trans rfl;have hcz93_1 : w85.cell? ⟨gb449,1,none⟩ = some (.int .i64 t447) := (kc_ BK449.out 1).trans rfl;have hfz93_0 := kf_ BK449.out 0;have hfz93_1 := kf_ BK449.out 1)|(go_at_call 29;(with_reducible refine (rat_Check.calls kj50 t446 t447 true _ A74.out).mono ?_);rintro e w94 ⟨rfl,hb⟩;replace BK432 := sd_ (blk_below (g := gb432) (o := .cells #[.int .i64 a0_0,.int .i64 a0_1] 23 (0,0)) (by (with_reducible repeat first|apply kn_|apply kd_|apply ka_);refine blk_far ?_ NB432_454.out _;(with_reducible repeat first|apply kn_|apply kd_|apply ka_);refine blk_far ?_ NB432_454.out _;(with_reducible repeat first|apply kn_|apply kd_|apply ka_);exact BK432.out) hb);replace BK433 := sd_ (blk_below (g := gb433) (o := .cells #[.int .i64 a1_0,.int .i64 a1_1] 23 (0,0)) (by (with_reducible repeat first|apply kn_|apply kd_|apply ka_);refine blk_far ?_ NB433_454.out _;(with_reducible repeat first|apply kn_|apply kd_|apply ka_);refine blk_far ?_ NB433_454.out _;(with_reducible repeat first|apply kn_|apply kd_|apply ka_);exact BK433.out) hb);replace BK440 := sd_ (blk_below (g := gb440) (o := .cells #[.int .i64 t437,.int .i64 t438] 23 (0,0)) (by (with_reducible repeat first|apply kn_|apply kd_|apply ka_);refine blk_far ?_ NB440_454.out _;(with_reducible repeat first|apply kn_|apply kd_|apply ka_);refine blk_far ?_ NB440_454.out _;(with_reducible repeat first|apply kn_|apply kd_|apply ka_);exact BK440.out) hb);replace BK449 := sd_ (blk_below (g := gb449) (o := .cells #[.int .i64 t446,.int .i64 t447] 23 (0,0)) (by (with_reducible repeat first|apply kn_|apply kd_|apply ka_);refine blk_far ?_ NB449_454.out _;(with_reducible repeat first|apply kn_|apply kd_|apply ka_);refine blk_far ?_ NB449_454.out _;(with_reducible repeat first|apply kn_|apply kd_|apply ka_);exact BK449.out) hb);replace BK454 := sd_ (blk_below (g := gb454) (o := .cells #[.int .i64 t451,.int .i64 t452] 23 (0,0)) (by (with_reducible repeat first|apply kn_|apply kd_|apply ka_);refine blk_put (cs := #[.int .i64 t451,.int .i64 0]) ?_ 1 _ rfl;(with_reducible repeat first|apply kn_|apply kd_|apply ka_);refine blk_put (cs := #[.int .i64 0,.int .i64 0]) ?_ 0 _ rfl;(with_reducible repeat first|apply kn_|apply kd_|apply ka_);exact BK454.out) hb);replace HB := hb_ HB (e_ GE432 (e_ GE433 (e_ GE440 (e_ GE449 (e_ GE454 e0_))))) hb;(try clear hb);(try clear hb2);(try clear hk);(try clear hi))|(go_at_call 18;(with_reducible refine (neumelaw02_heads.calls kj50  t456 _ ?side1 A76.out).mono ?_);(case side1 => first|(with_reducible exact hE)|exact sd_ (LaidE.below hE.out (bb_ HB.out (e_ GE432 (e_ GE433 (e_ GE440 (e_ GE449 (e_ GE454 e0_))))))));rintro e w95 ⟨rfl,hb⟩;replace BK432 := kb_ BK432 hb;replace BK433 := kb_ BK433 hb;replace BK440 := kb_ BK440 hb;replace BK449 := kb_ BK449 hb;replace BK454 := kb_ BK454 hb;replace HB := hb_ HB (e_ GE432 (e_ GE433 (e_ GE440 (e_ GE449 (e_ GE454 e0_))))) hb;(try clear hb);(try clear hb2);(try clear hk);(try clear hi)))
            go_ret
            exact ⟨by first|rfl|(simp [errW_none,errW_some] <;> rfl)|(simp [*,errW_none,errW_some] <;> rfl),by repeat (first|(with_reducible first|exact HB.out|apply ba_|apply pd_|apply d1_|refine bs_ ?_ GE432.out|refine bs_ ?_ GE433.out|refine bs_ ?_ GE440.out|refine bs_ ?_ GE449.out|refine bs_ ?_ GE454.out)|exact HB.out)⟩
           ·replace c75 := bf_ c75
            subst c75
            have H1 : (some false) = some r := by rw [if_neg (show ¬ (false = true) by decide)] at H;exact H
            clear H;have H := H1;clear H1
            exact absurd ((Option.some.inj H).trans hxt.out) (by decide)
          ·rw [if_neg c73] at H
           have c73b0 : (t451 == a0_0 && (t452 == a0_1)) = false := by simpa using c73
           (try (have c73b1 : decide (t451 = a0_0 && (t452 == a0_1)) = false := by simpa using c73))
           (try (have c73b2 : (t451 == a0_0 && (t452 == a0_1)) = false := by simpa using c73))
           (try (have c73b3 : ¬ (t451 = a0_0 && (t452 == a0_1)) := by simpa using c73))
           clear c73
           exact absurd ((Option.some.inj H).trans hxt.out) (by decide)
         ·rw [if_neg c72] at H
          have c72b0 : (t453 == 0) = false := beq_eq_false_iff_ne.mpr c72
          have c72b1 : (t453 != 0) = true := bne_iff_ne.mpr c72
          exact absurd ((Option.some.inj H).trans hxt.out) (by decide)

end Go.Proofs.YtmbdbinbdiiapaaDoor.P
