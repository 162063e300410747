-- Written by a program of this session (wip/tools/xprint.py, over the kit's print): Lean checks it.
import Derived.Test.YtmbdbinbdiiapaaDoorPx0
import Derived.Test.YtmbdbinbdiiapaaDoorPx1
import Derived.Test.YtmbdbinbdiiapaaDoorPx2
import Derived.Test.YtmbdbinbdiiapaaDoorPx3
namespace Go.Proofs.YtmbdbinbdiiapaaDoor.P
open Go.RowKit Go.Proofs.YtmbdbinbdiiapaaDoorW.PrintWords Go.Proofs.YtmbdbinbdiiapaaDoorW.PrintLast Go.Proofs.YtmbdbinbdiiapaaDoorW.PrintMore
attribute [local go_sem] max2_int min2_int max_two min_two max_three min_three max_four min_four   -- for this text's walks alone
set_option linter.unusedVariables false
set_option linter.unusedSimpArgs false

attribute [local go_sem high] eqA23
/-! ### rat_Mul: function 12 -/
def rat_Mul.j0 : Nat → Bool → Int → Int → Int → Int → Option (Int × Int × Int)
 | 0, _, _, _, _, _ => none
 | k + 1, x18, x190000, x190001, x191000, x191001 => if x18 = true then ((rat_whole.f 0).bind fun bt195 => (some (bt195.1, bt195.2, 0))) else ((rat_product.f k x190000 x190001 x191000 x191001).bind fun bt197 => (some (bt197.1, bt197.2.1, bt197.2.2)))
def rat_Mul.f (k : Nat) (a0_0 : Int) (a0_1 : Int) (a1_0 : Int) (a1_1 : Int) : Option (Int × Int × Int) := (rat_both.f k a0_0 a0_1 a1_0 a1_1).bind fun t192 => (if t192 = true then (if a0_0 = 0 then (rat_Mul.j0 k true a0_0 a0_1 a1_0 a1_1) else (rat_Mul.j0 k (a1_0 == 0) a0_0 a0_1 a1_0 a1_1)) else ((rat_zero.f).bind fun bt193 => (some (bt193.1, bt193.2, 2))))
theorem rat_Mul.mono_l : ∀ k, (∀ y0 y1 y2 y3 y4, LeO (rat_Mul.j0 k y0 y1 y2 y3 y4) (rat_Mul.j0 (k + 1) y0 y1 y2 y3 y4))
 | 0 => fun _ _ _ _ _ r h => by simp [rat_Mul.j0] at h
 | k + 1 => by
  have ih0 := rat_Mul.mono_l k
  ·intro y0 y1 y2 y3 y4
   unfold rat_Mul.j0
   repeat' first
   | (with_reducible exact ih0 _ _ _ _ _)
   | (with_reducible exact rat_both.mono _ _ _ _ _)
   | (with_reducible exact rat_product.mono _ _ _ _ _)
   | (with_reducible exact LeO.refl _)
   | (with_reducible exact LeO.none _)
   | (with_reducible refine LeO.ite ?_ ?_)
   | (with_reducible refine LeO.bind ?_ (fun _ => ?_))
   | exact ih0 _ _ _ _ _
   | exact rat_both.mono _ _ _ _ _
   | exact rat_product.mono _ _ _ _ _
   | exact LeO.none _
   | refine LeO.ite ?_ ?_
   | refine LeO.bind ?_ (fun _ => ?_)
theorem rat_Mul.mono : ∀ a0 a1 a2 a3 k, LeO (rat_Mul.f k a0 a1 a2 a3) (rat_Mul.f (k + 1) a0 a1 a2 a3) := by
 intro a0 a1 a2 a3 k
 have ih0 := rat_Mul.mono_l k
 unfold rat_Mul.f
 repeat' first
   | (with_reducible exact ih0 _ _ _ _ _)
   | (with_reducible exact rat_both.mono _ _ _ _ _)
   | (with_reducible exact rat_product.mono _ _ _ _ _)
   | (with_reducible exact LeO.refl _)
   | (with_reducible exact LeO.none _)
   | (with_reducible refine LeO.ite ?_ ?_)
   | (with_reducible refine LeO.bind ?_ (fun _ => ?_))
   | exact ih0 _ _ _ _ _
   | exact rat_both.mono _ _ _ _ _
   | exact rat_product.mono _ _ _ _ _
   | exact LeO.none _
   | refine LeO.ite ?_ ?_
   | refine LeO.bind ?_ (fun _ => ?_)
set_option maxHeartbeats 8000000 in
set_option maxRecDepth 100000 in
theorem rat_Mul.calls (k : Nat) (a0_0 : Int) (a0_1 : Int) (a1_0 : Int) (a1_1 : Int) (r1 : Int) (r2 : Int) (r3 : Int) (w : World) (h : rat_Mul.f k a0_0 a0_1 a1_0 a1_1 = some (r1, r2, r3)) :
  Calls Tryd.prog 12 #[.agg #[.int .i64 a0_0,.int .i64 a0_1],.agg #[.int .i64 a1_0,.int .i64 a1_1]] w fun e w' => e = .returned (.tuple #[.agg #[.int .i64 r1,.int .i64 r2],.int .i64 r3]) ∧ Below w.heap.size w w' := by
 have hu23 := Tryd.underlying23
 have HB := sd_ (Below.refl w.heap.size w)
 have H : ((rat_both.f k a0_0 a0_1 a1_0 a1_1).bind fun t192 => (if t192 = true then (if a0_0 = 0 then (rat_Mul.j0 k true a0_0 a0_1 a1_0 a1_1) else (rat_Mul.j0 k (a1_0 == 0) a0_0 a0_1 a1_0 a1_1)) else ((rat_zero.f).bind fun bt193 => (some (bt193.1,bt193.2,2))))) = some (r1,r2,r3) := h
 clear h
 replace H := ob_ H
 obtain ⟨t192,A30,H⟩ := H
 replace H : (if t192 = true then (if a0_0 = 0 then (rat_Mul.j0 k true a0_0 a0_1 a1_0 a1_1) else (rat_Mul.j0 k (a1_0 == 0) a0_0 a0_1 a1_0 a1_1)) else ((rat_zero.f).bind fun bt193 => (some (bt193.1,bt193.2,2)))) = some (r1,r2,r3) := H
 have A3 := sd_ A30
 clear A30
 by_cases c4 : t192 = true
 ·subst c4
  have H1 : (if a0_0 = 0 then (rat_Mul.j0 k true a0_0 a0_1 a1_0 a1_1) else (rat_Mul.j0 k (a1_0 == 0) a0_0 a0_1 a1_0 a1_1)) = some (r1,r2,r3) := by rw [if_pos rfl] at H;exact H
  clear H;have H := H1;clear H1
  have HC5 := sd_ H
  clear H
  go_enter Tryd.func12,Tryd.ntmps12
  go_upto_region 3 with (first|((with_reducible refine gate_dst (N := 2) rfl ?_);refine box_event ?hg (N := 2) ?hd (cs := #[.int .i64 a0_0,.int .i64 a0_1]) (t := 23) ?hr ?_;(case hd => rfl);(case hg => rfl);(case hr => first|(go_simp;done)|(go_simp;rfl));intro gb189 hg w6 hbox hb;have BK189 := sd_ hbox;have GW189 := gw_ HB e0_ hg;have GE189 := GW189;replace HB := hb_ HB e0_ hb;clear hb hbox hg)|((with_reducible refine gate_dst (N := 3) rfl ?_);refine box_event ?hg (N := 3) ?hd (cs := #[.int .i64 a1_0,.int .i64 a1_1]) (t := 23) ?hr ?_;(case hd => rfl);(case hg => rfl);(case hr => first|(go_simp;done)|(go_simp;rfl));intro gb190 hg w7 hbox hb;have BK190 := sd_ hbox;have GW190 := gw_ HB (e_ GE189 e0_) hg;have GE190 := GW190;have NB189_190 := nb_ BK189 hg;have NB190_189 := sy_ NB189_190;replace BK189 := kb_ BK189 hb;replace HB := hb_ HB (e_ GE189 e0_) hb;clear hb hbox hg)|((with_reducible refine gate_dst (N := 4) rfl ?_);refine box_event ?hg (N := 4) ?hd (cs := #[.int .i64 0,.int .i64 0]) (t := 23) ?hr ?_;(case hd => rfl);(case hg => rfl);(case hr => first|(go_simp;done)|(go_simp;rfl));intro gb191 hg w8 hbox hb;have BK191 := sd_ hbox;have GW191 := gw_ HB (e_ GE189 (e_ GE190 e0_)) hg;have GE191 := GW191;have NB189_191 := nb_ BK189 hg;have NB191_189 := sy_ NB189_191;have NB190_191 := nb_ BK190 hg;have NB191_190 := sy_ NB190_191;replace BK189 := kb_ BK189 hb;replace BK190 := kb_ BK190 hb;replace HB := hb_ HB (e_ GE189 (e_ GE190 e0_)) hb;clear hb hbox hg;have hnb9 := NB189_190.out;have hnc9 := NB190_189.out;have hnb10 := NB189_191.out;have hnc10 := NB191_189.out;have hcz11_0 : w8.cell? ⟨gb189,0,none⟩ = some (.int .i64 a0_0) := (kc_ BK189.out 0).trans rfl;have hcz11_1 : w8.cell? ⟨gb189,1,none⟩ = some (.int .i64 a0_1) := (kc_ BK189.out 1).trans rfl;have hfz11_0 := kf_ BK189.out 0;have hfz11_1 := kf_ BK189.out 1;have hnb12 := NB190_191.out;have hnc12 := NB191_190.out;have hcz13_0 : w8.cell? ⟨gb190,0,none⟩ = some (.int .i64 a1_0) := (kc_ BK190.out 0).trans rfl;have hcz13_1 : w8.cell? ⟨gb190,1,none⟩ = some (.int .i64 a1_1) := (kc_ BK190.out 1).trans rfl;have hfz13_0 := kf_ BK190.out 0;have hfz13_1 := kf_ BK190.out 1)|((with_reducible refine gate_callee (f := 31) rfl ?_);refine goesL_ (some 8) rfl rfl Tryd.func31 (by kernel_rfl) rfl #[.agg #[.int .i64 a0_0,.int .i64 a0_1],.agg #[.int .i64 a1_0,.int .i64 a1_1]] rfl (by (try simp only [lm_,lq_,lx_]);first|done|rfl|(simp only [ld_,lt_];rfl)) ?_;(with_reducible refine (rat_both.calls k a0_0 a0_1 a1_0 a1_1 true _ A3.out).mono ?_);rintro e w14 ⟨rfl,hb⟩;refine ⟨_,rfl,?_⟩;replace BK189 := kb_ BK189 hb;replace BK190 := kb_ BK190 hb;replace BK191 := kb_ BK191 hb;replace HB := hb_ HB (e_ GE189 (e_ GE190 (e_ GE191 e0_))) hb;(try clear hb);(try clear hb2);(try clear hk);(try clear hi)))
  (try simp only [Act.put,ls_,lz_,lc_])
  go_cut [18] (fun v18 wc => ∃ (kq : Nat) (x18_4 : Bool),v18 = .bool x18_4 ∧ Aside0 (rat_Mul.j0 kq x18_4 a0_0 a0_1 a1_0 a1_1 = some (r1,r2,r3)) ∧ Aside0 (kq ≤ k) ∧ Aside0 (wc.heap[gb189]? = some (.cells #[.int .i64 a0_0,.int .i64 a0_1] 23 (0,0))) ∧ Aside0 (wc.heap[gb190]? = some (.cells #[.int .i64 a1_0,.int .i64 a1_1] 23 (0,0))) ∧ Aside0 (wc.heap[gb191]? = some (.cells #[.int .i64 0,.int .i64 0] 23 (0,0))) ∧ Aside0 (Below w.heap.size w wc))
  case first =>
   have H := HC5.out
   clear HC5
   by_cases c15 : a0_0 = 0
   ·rw [if_pos c15] at H
    have c15b0 : (a0_0 == 0) = true := beq_iff_eq.mpr c15
    have c15b1 : (a0_0 != 0) = false := bne_eq_false_iff_eq.mpr c15
    clear c15
    (first|rw [c15b0]|(simp only [i64_w,i32_w];rw [c15b0])|skip)
    have H' := sd_ H
    clear H
    have hnb16 := NB189_190.out
    have hnc16 := NB190_189.out
    have hnb17 := NB189_191.out
    have hnc17 := NB191_189.out
    have hcz18_0 : w14.cell? ⟨gb189,0,none⟩ = some (.int .i64 a0_0) := (kc_ BK189.out 0).trans rfl
    have hcz18_1 : w14.cell? ⟨gb189,1,none⟩ = some (.int .i64 a0_1) := (kc_ BK189.out 1).trans rfl
    have hfz18_0 := kf_ BK189.out 0
    have hfz18_1 := kf_ BK189.out 1
    go_wp2
    go_meet
    case rel => exact ⟨_,(true),(by first|rfl|(simp;done)|(simp [*];done)|(simp [bne];done)),H',⟨by first|omega|exact Nat.le_refl _⟩,⟨by (with_reducible repeat first|apply kn_|apply kd_|apply ka_);exact BK189.out⟩,⟨by (with_reducible repeat first|apply kn_|apply kd_|apply ka_);exact BK190.out⟩,⟨by (with_reducible repeat first|apply kn_|apply kd_|apply ka_);exact BK191.out⟩,⟨by repeat (first|(with_reducible first|exact HB.out|apply ba_|apply pd_|apply d1_|refine bs_ ?_ GE189.out|refine bs_ ?_ GE190.out|refine bs_ ?_ GE191.out)|exact HB.out)⟩⟩
   ·rw [if_neg c15] at H
    have c15b0 : (a0_0 == 0) = false := beq_eq_false_iff_ne.mpr c15
    have c15b1 : (a0_0 != 0) = true := bne_iff_ne.mpr c15
    (first|rw [c15b0]|(simp only [i64_w,i32_w];rw [c15b0])|skip)
    have H' := sd_ H
    clear H
    have hnb19 := NB189_190.out
    have hnc19 := NB190_189.out
    have hnb20 := NB189_191.out
    have hnc20 := NB191_189.out
    have hcz21_0 : w14.cell? ⟨gb189,0,none⟩ = some (.int .i64 a0_0) := (kc_ BK189.out 0).trans rfl
    have hcz21_1 : w14.cell? ⟨gb189,1,none⟩ = some (.int .i64 a0_1) := (kc_ BK189.out 1).trans rfl
    have hfz21_0 := kf_ BK189.out 0
    have hfz21_1 := kf_ BK189.out 1
    have hnb22 := NB190_191.out
    have hnc22 := NB191_190.out
    have hcz23_0 : w14.cell? ⟨gb190,0,none⟩ = some (.int .i64 a1_0) := (kc_ BK190.out 0).trans rfl
    have hcz23_1 : w14.cell? ⟨gb190,1,none⟩ = some (.int .i64 a1_1) := (kc_ BK190.out 1).trans rfl
    have hfz23_0 := kf_ BK190.out 0
    have hfz23_1 := kf_ BK190.out 1
    go_wp2
    go_meet
    case rel => exact ⟨_,((a1_0 == 0)),(by first|rfl|(simp;done)|(simp [*];done)|(simp [bne];done)),H',⟨by first|omega|exact Nat.le_refl _⟩,⟨by (with_reducible repeat first|apply kn_|apply kd_|apply ka_);exact BK189.out⟩,⟨by (with_reducible repeat first|apply kn_|apply kd_|apply ka_);exact BK190.out⟩,⟨by (with_reducible repeat first|apply kn_|apply kd_|apply ka_);exact BK191.out⟩,⟨by repeat (first|(with_reducible first|exact HB.out|apply ba_|apply pd_|apply d1_|refine bs_ ?_ GE189.out|refine bs_ ?_ GE190.out|refine bs_ ?_ GE191.out)|exact HB.out)⟩⟩
  case rest =>
   clear HC5
   try clear c1;try clear c2;try clear p2;try clear c3;try clear c4;try clear c9;try clear c10;try clear c12;try clear c15;try clear c15b0;try clear c15b1;try clear c16;try clear c17;try clear c19;try clear c20;try clear c22;try clear hcz11_0;try clear hcz11_1;try clear hcz13_0;try clear hcz13_1;try clear hcz18_0;try clear hcz18_1;try clear hcz21_0;try clear hcz21_1;try clear hcz23_0;try clear hcz23_1;try clear hfz11_0;try clear hfz11_1;try clear hfz13_0;try clear hfz13_1;try clear hfz18_0;try clear hfz18_1;try clear hfz21_0;try clear hfz21_1;try clear hfz23_0;try clear hfz23_1
   obtain ⟨kq,x18_4,rfl,HA,HJ4,BK189,BK190,BK191,HB⟩ := hcut
   cases kq with
   | zero => exact absurd HA.out (by simp [rat_Mul.j0])
   | succ kj4 =>
    have H := HA.out
    clear HA
    simp only [rat_Mul.j0] at H
    by_cases c24 : x18_4 = true
    ·subst c24
     have H1 : ((rat_whole.f 0).bind fun bt195 => (some (bt195.1,bt195.2,0))) = some (r1,r2,r3) := by rw [if_pos rfl] at H;exact H
     clear H;have H := H1;clear H1
     replace H := ob_ H
     obtain ⟨⟨t195,t196⟩,A250,H⟩ := H
     replace H : (some (t195,t196,0)) = some (r1,r2,r3) := H
     have A25 := sd_ A250
     clear A250
     simp only [Option.some.injEq,Prod.mk.injEq] at H
     obtain ⟨rfl,rfl,rfl⟩ := H
     go_wp2_with (first|((with_reducible refine gate_callee (f := 38) rfl ?_);refine goesL_ (some 19) rfl rfl Tryd.func38 (by kernel_rfl) rfl #[.int .i64 0] rfl (by (try simp only [lm_,lq_,lx_]);first|done|rfl|(simp only [ld_,lt_];rfl)) ?_;(with_reducible refine (rat_whole.calls 0 t195 t196 _ A25.out).mono ?_);rintro e w26 ⟨rfl,hb⟩;refine ⟨_,rfl,?_⟩;replace BK189 := kb_ BK189 hb;replace BK190 := kb_ BK190 hb;replace BK191 := kb_ BK191 hb;replace HB := hb_ HB (e_ GE189 (e_ GE190 (e_ GE191 e0_))) hb;(try clear hb);(try clear hb2);(try clear hk);(try clear hi);have hnb27 := NB191_189.out;have hnc27 := NB189_191.out;have hnb28 := NB191_190.out;have hnc28 := NB190_191.out;have hcz29_0 : w26.cell? ⟨gb191,0,none⟩ = some (.int .i64 0) := (kc_ BK191.out 0).trans rfl;have hcz29_1 : w26.cell? ⟨gb191,1,none⟩ = some (.int .i64 0) := (kc_ BK191.out 1).trans rfl;have hfz29_0 := kf_ BK191.out 0;have hfz29_1 := kf_ BK191.out 1))
     refine bodyPost_ret (results_ct rfl _ _ gb191 23 #[.int .i64 t195,.int .i64 t196] (0,0) _ rfl (by (with_reducible repeat first|apply kn_|apply kd_|apply ka_);refine blk_put (cs := #[.int .i64 t195,.int .i64 0]) ?_ 1 _ rfl;(with_reducible repeat first|apply kn_|apply kd_|apply ka_);refine blk_put (cs := #[.int .i64 0,.int .i64 0]) ?_ 0 _ rfl;(with_reducible repeat first|apply kn_|apply kd_|apply ka_);exact BK191.out) Tryd.underlying23 rfl (by kernel_rfl)) rfl ?_
     exact ⟨by first|rfl|(simp [errW_none,errW_some] <;> rfl)|(simp [*,errW_none,errW_some] <;> rfl),by repeat (first|(with_reducible first|exact HB.out|apply ba_|apply pd_|apply d1_|refine bs_ ?_ GE189.out|refine bs_ ?_ GE190.out|refine bs_ ?_ GE191.out)|exact HB.out)⟩
    ·replace c24 := bf_ c24
     subst c24
     have H1 : ((rat_product.f kj4 a0_0 a0_1 a1_0 a1_1).bind fun bt197 => (some (bt197.1,bt197.2.1,bt197.2.2))) = some (r1,r2,r3) := by rw [if_neg (show ¬ (false = true) by decide)] at H;exact H
     clear H;have H := H1;clear H1
     replace H := ob_ H
     obtain ⟨⟨t197,t198,t199⟩,A300,H⟩ := H
     replace H : (some (t197,t198,t199)) = some (r1,r2,r3) := H
     have A30 := sd_ A300
     clear A300
     simp only [Option.some.injEq,Prod.mk.injEq] at H
     obtain ⟨rfl,rfl,rfl⟩ := H
     have hnb31 := NB189_190.out
     have hnc31 := NB190_189.out
     have hnb32 := NB189_191.out
     have hnc32 := NB191_189.out
     have hcz33_0 : wc.cell? ⟨gb189,0,none⟩ = some (.int .i64 a0_0) := (kc_ BK189.out 0).trans rfl
     have hcz33_1 : wc.cell? ⟨gb189,1,none⟩ = some (.int .i64 a0_1) := (kc_ BK189.out 1).trans rfl
     have hfz33_0 := kf_ BK189.out 0
     have hfz33_1 := kf_ BK189.out 1
     have hnb34 := NB190_191.out
     have hnc34 := NB191_190.out
     have hcz35_0 : wc.cell? ⟨gb190,0,none⟩ = some (.int .i64 a1_0) := (kc_ BK190.out 0).trans rfl
     have hcz35_1 : wc.cell? ⟨gb190,1,none⟩ = some (.int .i64 a1_1) := (kc_ BK190.out 1).trans rfl
     have hfz35_0 := kf_ BK190.out 0
     have hfz35_1 := kf_ BK190.out 1
     go_wp2_with (first|((with_reducible refine gate_callee (f := 39) rfl ?_);refine goesL_ (some 22) rfl rfl Tryd.func39 (by kernel_rfl) rfl #[.agg #[.int .i64 a0_0,.int .i64 a0_1],.agg #[.int .i64 a1_0,.int .i64 a1_1]] rfl (by (try simp only [lm_,lq_,lx_]);first|done|rfl|(simp only [ld_,lt_];rfl)) ?_;(with_reducible refine (rat_product.calls kj4 a0_0 a0_1 a1_0 a1_1 t197 t198 t199 _ A30.out).mono ?_);rintro e w36 ⟨rfl,hb⟩;refine ⟨_,rfl,?_⟩;replace BK189 := kb_ BK189 hb;replace BK190 := kb_ BK190 hb;replace BK191 := kb_ BK191 hb;replace HB := hb_ HB (e_ GE189 (e_ GE190 (e_ GE191 e0_))) hb;(try clear hb);(try clear hb2);(try clear hk);(try clear hi);have hcz37_0 : w36.cell? ⟨gb191,0,none⟩ = some (.int .i64 0) := (kc_ BK191.out 0).trans rfl;have hcz37_1 : w36.cell? ⟨gb191,1,none⟩ = some (.int .i64 0) := (kc_ BK191.out 1).trans rfl;have hfz37_0 := kf_ BK191.out 0;have hfz37_1 := kf_ BK191.out 1))
     refine bodyPost_ret (results_ct rfl _ _ gb191 23 #[.int .i64 t197,.int .i64 t198] (0,0) _ rfl (by (with_reducible repeat first|apply kn_|apply kd_|apply ka_);refine blk_put (cs := #[.int .i64 t197,.int .i64 0]) ?_ 1 _ rfl;(with_reducible repeat first|apply kn_|apply kd_|apply ka_);refine blk_put (cs := #[.int .i64 0,.int .i64 0]) ?_ 0 _ rfl;(with_reducible repeat first|apply kn_|apply kd_|apply ka_);exact BK191.out) Tryd.underlying23 rfl (by kernel_rfl)) rfl ?_
     exact ⟨by first|rfl|(simp [errW_none,errW_some] <;> rfl)|(simp [*,errW_none,errW_some] <;> rfl),by repeat (first|(with_reducible first|exact HB.out|apply ba_|apply pd_|apply d1_|refine bs_ ?_ GE189.out|refine bs_ ?_ GE190.out|refine bs_ ?_ GE191.out)|exact HB.out)⟩
 ·replace c4 := bf_ c4
  subst c4
  have H1 : ((rat_zero.f).bind fun bt193 => (some (bt193.1,bt193.2,2))) = some (r1,r2,r3) := by rw [if_neg (show ¬ (false = true) by decide)] at H;exact H
  clear H;have H := H1;clear H1
  replace H := ob_ H
  obtain ⟨⟨t193,t194⟩,A380,H⟩ := H
  replace H : (some (t193,t194,2)) = some (r1,r2,r3) := H
  have A38 := sd_ A380
  clear A380
  simp only [Option.some.injEq,Prod.mk.injEq] at H
  obtain ⟨rfl,rfl,rfl⟩ := H
  go_enter Tryd.func12,Tryd.ntmps12
  go_wp2_with (first|((with_reducible refine gate_dst (N := 2) rfl ?_);refine box_event ?hg (N := 2) ?hd (cs := #[.int .i64 a0_0,.int .i64 a0_1]) (t := 23) ?hr ?_;(case hd => rfl);(case hg => rfl);(case hr => first|(go_simp;done)|(go_simp;rfl));intro gb189 hg w39 hbox hb;have BK189 := sd_ hbox;have GW189 := gw_ HB e0_ hg;have GE189 := GW189;replace HB := hb_ HB e0_ hb;clear hb hbox hg)|((with_reducible refine gate_dst (N := 3) rfl ?_);refine box_event ?hg (N := 3) ?hd (cs := #[.int .i64 a1_0,.int .i64 a1_1]) (t := 23) ?hr ?_;(case hd => rfl);(case hg => rfl);(case hr => first|(go_simp;done)|(go_simp;rfl));intro gb190 hg w40 hbox hb;have BK190 := sd_ hbox;have GW190 := gw_ HB (e_ GE189 e0_) hg;have GE190 := GW190;have NB189_190 := nb_ BK189 hg;have NB190_189 := sy_ NB189_190;replace BK189 := kb_ BK189 hb;replace HB := hb_ HB (e_ GE189 e0_) hb;clear hb hbox hg)|((with_reducible refine gate_dst (N := 4) rfl ?_);refine box_event ?hg (N := 4) ?hd (cs := #[.int .i64 0,.int .i64 0]) (t := 23) ?hr ?_;(case hd => rfl);(case hg => rfl);(case hr => first|(go_simp;done)|(go_simp;rfl));intro gb191 hg w41 hbox hb;have BK191 := sd_ hbox;have GW191 := gw_ HB (e_ GE189 (e_ GE190 e0_)) hg;have GE191 := GW191;have NB189_191 := nb_ BK189 hg;have NB191_189 := sy_ NB189_191;have NB190_191 := nb_ BK190 hg;have NB191_190 := sy_ NB190_191;replace BK189 := kb_ BK189 hb;replace BK190 := kb_ BK190 hb;replace HB := hb_ HB (e_ GE189 (e_ GE190 e0_)) hb;clear hb hbox hg;have hnb42 := NB189_190.out;have hnc42 := NB190_189.out;have hnb43 := NB189_191.out;have hnc43 := NB191_189.out;have hcz44_0 : w41.cell? ⟨gb189,0,none⟩ = some (.int .i64 a0_0) := (kc_ BK189.out 0).trans rfl;have hcz44_1 : w41.cell? ⟨gb189,1,none⟩ = some (.int .i64 a0_1) := (kc_ BK189.out 1).trans rfl;have hfz44_0 := kf_ BK189.out 0;have hfz44_1 := kf_ BK189.out 1;have hnb45 := NB190_191.out;have hnc45 := NB191_190.out;have hcz46_0 : w41.cell? ⟨gb190,0,none⟩ = some (.int .i64 a1_0) := (kc_ BK190.out 0).trans rfl;have hcz46_1 : w41.cell? ⟨gb190,1,none⟩ = some (.int .i64 a1_1) := (kc_ BK190.out 1).trans rfl;have hfz46_0 := kf_ BK190.out 0;have hfz46_1 := kf_ BK190.out 1)|((with_reducible refine gate_callee (f := 31) rfl ?_);refine goesL_ (some 8) rfl rfl Tryd.func31 (by kernel_rfl) rfl #[.agg #[.int .i64 a0_0,.int .i64 a0_1],.agg #[.int .i64 a1_0,.int .i64 a1_1]] rfl (by (try simp only [lm_,lq_,lx_]);first|done|rfl|(simp only [ld_,lt_];rfl)) ?_;(with_reducible refine (rat_both.calls k a0_0 a0_1 a1_0 a1_1 false _ A3.out).mono ?_);rintro e w47 ⟨rfl,hb⟩;refine ⟨_,rfl,?_⟩;replace BK189 := kb_ BK189 hb;replace BK190 := kb_ BK190 hb;replace BK191 := kb_ BK191 hb;replace HB := hb_ HB (e_ GE189 (e_ GE190 (e_ GE191 e0_))) hb;(try clear hb);(try clear hb2);(try clear hk);(try clear hi))|((with_reducible refine gate_callee (f := 32) rfl ?_);refine goesL_ (some 10) rfl rfl Tryd.func32 (by kernel_rfl) rfl #[] rfl (by (try simp only [lm_,lq_,lx_]);first|done|rfl|(simp only [ld_,lt_];rfl)) ?_;(with_reducible refine (rat_zero.calls  t193 t194 _ A38.out).mono ?_);rintro e w48 ⟨rfl,hb⟩;refine ⟨_,rfl,?_⟩;replace BK189 := kb_ BK189 hb;replace BK190 := kb_ BK190 hb;replace BK191 := kb_ BK191 hb;replace HB := hb_ HB (e_ GE189 (e_ GE190 (e_ GE191 e0_))) hb;(try clear hb);(try clear hb2);(try clear hk);(try clear hi);have hcz49_0 : w48.cell? ⟨gb191,0,none⟩ = some (.int .i64 0) := (kc_ BK191.out 0).trans rfl;have hcz49_1 : w48.cell? ⟨gb191,1,none⟩ = some (.int .i64 0) := (kc_ BK191.out 1).trans rfl;have hfz49_0 := kf_ BK191.out 0;have hfz49_1 := kf_ BK191.out 1))
  refine bodyPost_ret (results_ct rfl _ _ gb191 23 #[.int .i64 t193,.int .i64 t194] (0,0) _ rfl (by (with_reducible repeat first|apply kn_|apply kd_|apply ka_);refine blk_put (cs := #[.int .i64 t193,.int .i64 0]) ?_ 1 _ rfl;(with_reducible repeat first|apply kn_|apply kd_|apply ka_);refine blk_put (cs := #[.int .i64 0,.int .i64 0]) ?_ 0 _ rfl;(with_reducible repeat first|apply kn_|apply kd_|apply ka_);exact BK191.out) Tryd.underlying23 rfl (by kernel_rfl)) rfl ?_
  exact ⟨by first|rfl|(simp [errW_none,errW_some] <;> rfl)|(simp [*,errW_none,errW_some] <;> rfl),by repeat (first|(with_reducible first|exact HB.out|apply ba_|apply pd_|apply d1_|refine bs_ ?_ GE189.out|refine bs_ ?_ GE190.out|refine bs_ ?_ GE191.out)|exact HB.out)⟩

/-! ### rat_inverse: function 41 -/
def rat_inverse.f (a0_0 : Int) (a0_1 : Int) : Option (Int × Int) := if a0_0 < 0 then (some (wrap64 (-a0_1), wrap64 (-a0_0))) else (some (a0_1, a0_0))
set_option maxHeartbeats 8000000 in
set_option maxRecDepth 100000 in
theorem rat_inverse.calls (a0_0 : Int) (a0_1 : Int) (r1 : Int) (r2 : Int) (w : World) (h : rat_inverse.f a0_0 a0_1 = some (r1, r2)) :
  Calls Tryd.prog 41 #[.agg #[.int .i64 a0_0,.int .i64 a0_1]] w fun e w' => e = .returned (.agg #[.int .i64 r1,.int .i64 r2]) ∧ Below w.heap.size w w' := by
 have hu23 := Tryd.underlying23
 have HB := sd_ (Below.refl w.heap.size w)
 have H : (if a0_0 < 0 then (some (wrap64 (-a0_1),wrap64 (-a0_0))) else (some (a0_1,a0_0))) = some (r1,r2) := h
 clear h
 by_cases c2 : a0_0 < 0
 ·rw [if_pos c2] at H
  have c2b0 : decide (a0_0 < 0) = true := dt_ c2
  clear c2
  simp only [Option.some.injEq,Prod.mk.injEq] at H
  obtain ⟨rfl,rfl⟩ := H
  go_enter Tryd.func41,Tryd.ntmps41
  go_wp2_with (first|((with_reducible refine gate_dst (N := 1) rfl ?_);refine box_event ?hg (N := 1) ?hd (cs := #[.int .i64 a0_0,.int .i64 a0_1]) (t := 23) ?hr ?_;(case hd => rfl);(case hg => rfl);(case hr => first|(go_simp;done)|(go_simp;rfl));intro gb217 hg w3 hbox hb;have BK217 := sd_ hbox;have GW217 := gw_ HB e0_ hg;have GE217 := GW217;replace HB := hb_ HB e0_ hb;clear hb hbox hg)|((with_reducible refine gate_dst (N := 2) rfl ?_);refine box_event ?hg (N := 2) ?hd (cs := #[.int .i64 0,.int .i64 0]) (t := 23) ?hr ?_;(case hd => rfl);(case hg => rfl);(case hr => first|(go_simp;done)|(go_simp;rfl));intro gb218 hg w4 hbox hb;have BK218 := sd_ hbox;have GW218 := gw_ HB (e_ GE217 e0_) hg;have GE218 := GW218;have NB217_218 := nb_ BK217 hg;have NB218_217 := sy_ NB217_218;replace BK217 := kb_ BK217 hb;replace HB := hb_ HB (e_ GE217 e0_) hb;clear hb hbox hg;have hnb5 := NB217_218.out;have hnc5 := NB218_217.out;have hcz6_0 : w4.cell? ⟨gb217,0,none⟩ = some (.int .i64 a0_0) := (kc_ BK217.out 0).trans rfl;have hcz6_1 : w4.cell? ⟨gb217,1,none⟩ = some (.int .i64 a0_1) := (kc_ BK217.out 1).trans rfl;have hfz6_0 := kf_ BK217.out 0;have hfz6_1 := kf_ BK217.out 1;have hcz7_0 : w4.cell? ⟨gb218,0,none⟩ = some (.int .i64 0) := (kc_ BK218.out 0).trans rfl;have hcz7_1 : w4.cell? ⟨gb218,1,none⟩ = some (.int .i64 0) := (kc_ BK218.out 1).trans rfl;have hfz7_0 := kf_ BK218.out 0;have hfz7_1 := kf_ BK218.out 1))
  refine bodyPost_ret (results_cell_row rfl _ _ gb218 23 #[.int .i64 (wrap64 (-a0_1)),.int .i64 (wrap64 (-a0_0))] (0,0) _ rfl (by (with_reducible repeat first|apply kn_|apply kd_|apply ka_);refine blk_put (cs := #[.int .i64 (wrap64 (-a0_1)),.int .i64 0]) ?_ 1 _ rfl;(with_reducible repeat first|apply kn_|apply kd_|apply ka_);refine blk_put (cs := #[.int .i64 0,.int .i64 0]) ?_ 0 _ rfl;(with_reducible repeat first|apply kn_|apply kd_|apply ka_);exact BK218.out) Tryd.underlying23 rfl (by kernel_rfl)) rfl ?_
  exact ⟨by first|rfl|(simp [errW_none,errW_some] <;> rfl)|(simp [*,errW_none,errW_some] <;> rfl),by repeat (first|(with_reducible first|exact HB.out|apply ba_|apply pd_|apply d1_|refine bs_ ?_ GE217.out|refine bs_ ?_ GE218.out)|exact HB.out)⟩
 ·rw [if_neg c2] at H
  have c2b0 : decide (a0_0 < 0) = false := df_ c2
  clear c2
  simp only [Option.some.injEq,Prod.mk.injEq] at H
  obtain ⟨rfl,rfl⟩ := H
  go_enter Tryd.func41,Tryd.ntmps41
  go_wp2_with (first|((with_reducible refine gate_dst (N := 1) rfl ?_);refine box_event ?hg (N := 1) ?hd (cs := #[.int .i64 a0_0,.int .i64 a0_1]) (t := 23) ?hr ?_;(case hd => rfl);(case hg => rfl);(case hr => first|(go_simp;done)|(go_simp;rfl));intro gb217 hg w8 hbox hb;have BK217 := sd_ hbox;have GW217 := gw_ HB e0_ hg;have GE217 := GW217;replace HB := hb_ HB e0_ hb;clear hb hbox hg)|((with_reducible refine gate_dst (N := 2) rfl ?_);refine box_event ?hg (N := 2) ?hd (cs := #[.int .i64 0,.int .i64 0]) (t := 23) ?hr ?_;(case hd => rfl);(case hg => rfl);(case hr => first|(go_simp;done)|(go_simp;rfl));intro gb218 hg w9 hbox hb;have BK218 := sd_ hbox;have GW218 := gw_ HB (e_ GE217 e0_) hg;have GE218 := GW218;have NB217_218 := nb_ BK217 hg;have NB218_217 := sy_ NB217_218;replace BK217 := kb_ BK217 hb;replace HB := hb_ HB (e_ GE217 e0_) hb;clear hb hbox hg;have hnb10 := NB217_218.out;have hnc10 := NB218_217.out;have hcz11_0 : w9.cell? ⟨gb217,0,none⟩ = some (.int .i64 a0_0) := (kc_ BK217.out 0).trans rfl;have hcz11_1 : w9.cell? ⟨gb217,1,none⟩ = some (.int .i64 a0_1) := (kc_ BK217.out 1).trans rfl;have hfz11_0 := kf_ BK217.out 0;have hfz11_1 := kf_ BK217.out 1;have hcz12_0 : w9.cell? ⟨gb218,0,none⟩ = some (.int .i64 0) := (kc_ BK218.out 0).trans rfl;have hcz12_1 : w9.cell? ⟨gb218,1,none⟩ = some (.int .i64 0) := (kc_ BK218.out 1).trans rfl;have hfz12_0 := kf_ BK218.out 0;have hfz12_1 := kf_ BK218.out 1))
  refine bodyPost_ret (results_cell_row rfl _ _ gb218 23 #[.int .i64 a0_1,.int .i64 a0_0] (0,0) _ rfl (by (with_reducible repeat first|apply kn_|apply kd_|apply ka_);refine blk_put (cs := #[.int .i64 a0_1,.int .i64 0]) ?_ 1 _ rfl;(with_reducible repeat first|apply kn_|apply kd_|apply ka_);refine blk_put (cs := #[.int .i64 0,.int .i64 0]) ?_ 0 _ rfl;(with_reducible repeat first|apply kn_|apply kd_|apply ka_);exact BK218.out) Tryd.underlying23 rfl (by kernel_rfl)) rfl ?_
  exact ⟨by first|rfl|(simp [errW_none,errW_some] <;> rfl)|(simp [*,errW_none,errW_some] <;> rfl),by repeat (first|(with_reducible first|exact HB.out|apply ba_|apply pd_|apply d1_|refine bs_ ?_ GE217.out|refine bs_ ?_ GE218.out)|exact HB.out)⟩

/-! ### rat_Div: function 14 -/
def rat_Div.j0 : Nat → Bool → Int → Int → Int → Int → Option (Int × Int × Int)
 | 0, _, _, _, _, _ => none
 | k + 1, x14, x220000, x220001, x221000, x221001 => if x14 = true then ((rat_zero.f).bind fun bt225 => (some (bt225.1, bt225.2, 2))) else (if x220000 = 0 then ((rat_whole.f 0).bind fun bt227 => (some (bt227.1, bt227.2, 0))) else ((rat_inverse.f x221000 x221001).bind fun bt229 => ((rat_product.f k x220000 x220001 bt229.1 bt229.2).bind fun bt231 => (some (bt231.1, bt231.2.1, bt231.2.2)))))
def rat_Div.f (k : Nat) (a0_0 : Int) (a0_1 : Int) (a1_0 : Int) (a1_1 : Int) : Option (Int × Int × Int) := (rat_both.f k a0_0 a0_1 a1_0 a1_1).bind fun t222 => (if t222 = true then ((rat_whole.f 0).bind fun bt223 => (rat_Div.j0 k (a1_0 == bt223.1 && (a1_1 == bt223.2)) a0_0 a0_1 a1_0 a1_1)) else (rat_Div.j0 k true a0_0 a0_1 a1_0 a1_1))
theorem rat_Div.mono_l : ∀ k, (∀ y0 y1 y2 y3 y4, LeO (rat_Div.j0 k y0 y1 y2 y3 y4) (rat_Div.j0 (k + 1) y0 y1 y2 y3 y4))
 | 0 => fun _ _ _ _ _ r h => by simp [rat_Div.j0] at h
 | k + 1 => by
  have ih0 := rat_Div.mono_l k
  ·intro y0 y1 y2 y3 y4
   unfold rat_Div.j0
   repeat' first
   | (with_reducible exact ih0 _ _ _ _ _)
   | (with_reducible exact rat_both.mono _ _ _ _ _)
   | (with_reducible exact rat_product.mono _ _ _ _ _)
   | (with_reducible exact LeO.refl _)
   | (with_reducible exact LeO.none _)
   | (with_reducible refine LeO.ite ?_ ?_)
   | (with_reducible refine LeO.bind ?_ (fun _ => ?_))
   | exact ih0 _ _ _ _ _
   | exact rat_both.mono _ _ _ _ _
   | exact rat_product.mono _ _ _ _ _
   | exact LeO.none _
   | refine LeO.ite ?_ ?_
   | refine LeO.bind ?_ (fun _ => ?_)
theorem rat_Div.mono : ∀ a0 a1 a2 a3 k, LeO (rat_Div.f k a0 a1 a2 a3) (rat_Div.f (k + 1) a0 a1 a2 a3) := by
 intro a0 a1 a2 a3 k
 have ih0 := rat_Div.mono_l k
 unfold rat_Div.f
 repeat' first
   | (with_reducible exact ih0 _ _ _ _ _)
   | (with_reducible exact rat_both.mono _ _ _ _ _)
   | (with_reducible exact rat_product.mono _ _ _ _ _)
   | (with_reducible exact LeO.refl _)
   | (with_reducible exact LeO.none _)
   | (with_reducible refine LeO.ite ?_ ?_)
   | (with_reducible refine LeO.bind ?_ (fun _ => ?_))
   | exact ih0 _ _ _ _ _
   | exact rat_both.mono _ _ _ _ _
   | exact rat_product.mono _ _ _ _ _
   | exact LeO.none _
   | refine LeO.ite ?_ ?_
   | refine LeO.bind ?_ (fun _ => ?_)
def rat_Div.T1 : Bool × List (List Nat × List Nat) := (true, [([], []), ([], []), ([0, 1], [0, 1]), ([2], [2]), ([3, 2], [3]), ([4], [4]), ([4, 4], [4]), ([5, 6, 4], [4, 5, 6]), ([4, 7], [4, 7])])
def rat_Div.B1 : List Nat := [0, 0, 3, 7, 15, 31, 31, 127, 255]
theorem rat_Div.tab1 : rtab .any (opsOf Tryd.f14 1) = rat_Div.T1 := by kernel_rfl
theorem rat_Div.bits1 : waitsOk rat_Div.T1.2 rat_Div.B1 = true := by kernel_rfl
def rat_Div.T5 : Bool × List (List Nat × List Nat) := (true, [([], []), ([], []), ([1], [1]), ([0, 2, 2], [0, 2]), ([3], [3]), ([3], [3]), ([4, 3, 0, 1, 2, 3, 4, 5], [4]), ([5, 6, 0, 1, 2, 3, 4, 5, 6], [5])])
def rat_Div.B5 : List Nat := [0, 0, 2, 7, 15, 15, 63, 127]
theorem rat_Div.tab5 : rtab .any (opsOf Tryd.f14 5) = rat_Div.T5 := by kernel_rfl
theorem rat_Div.bits5 : waitsOk rat_Div.T5.2 rat_Div.B5 = true := by kernel_rfl
set_option maxHeartbeats 8000000 in
set_option maxRecDepth 100000 in
theorem rat_Div.calls (k : Nat) (a0_0 : Int) (a0_1 : Int) (a1_0 : Int) (a1_1 : Int) (r1 : Int) (r2 : Int) (r3 : Int) (w : World) (h : rat_Div.f k a0_0 a0_1 a1_0 a1_1 = some (r1, r2, r3)) :
  Calls Tryd.prog 14 #[.agg #[.int .i64 a0_0,.int .i64 a0_1],.agg #[.int .i64 a1_0,.int .i64 a1_1]] w fun e w' => e = .returned (.tuple #[.agg #[.int .i64 r1,.int .i64 r2],.int .i64 r3]) ∧ Below w.heap.size w w' := by
 have hu23 := Tryd.underlying23
 have HB := sd_ (Below.refl w.heap.size w)
 have H : ((rat_both.f k a0_0 a0_1 a1_0 a1_1).bind fun t222 => (if t222 = true then ((rat_whole.f 0).bind fun bt223 => (rat_Div.j0 k (a1_0 == bt223.1 && (a1_1 == bt223.2)) a0_0 a0_1 a1_0 a1_1)) else (rat_Div.j0 k true a0_0 a0_1 a1_0 a1_1))) = some (r1,r2,r3) := h
 clear h
 have HC3 := sd_ H
 clear H
 go_enter Tryd.func14,Tryd.ntmps14
 go_upto_region 1 with (first|((with_reducible refine gate_dst (N := 2) rfl ?_);refine box_event ?hg (N := 2) ?hd (cs := #[.int .i64 a0_0,.int .i64 a0_1]) (t := 23) ?hr ?_;(case hd => rfl);(case hg => rfl);(case hr => first|(go_simp;done)|(go_simp;rfl));intro gb219 hg w4 hbox hb;have BK219 := sd_ hbox;have GW219 := gw_ HB e0_ hg;have GE219 := GW219;replace HB := hb_ HB e0_ hb;clear hb hbox hg)|((with_reducible refine gate_dst (N := 3) rfl ?_);refine box_event ?hg (N := 3) ?hd (cs := #[.int .i64 a1_0,.int .i64 a1_1]) (t := 23) ?hr ?_;(case hd => rfl);(case hg => rfl);(case hr => first|(go_simp;done)|(go_simp;rfl));intro gb220 hg w5 hbox hb;have BK220 := sd_ hbox;have GW220 := gw_ HB (e_ GE219 e0_) hg;have GE220 := GW220;have NB219_220 := nb_ BK219 hg;have NB220_219 := sy_ NB219_220;replace BK219 := kb_ BK219 hb;replace HB := hb_ HB (e_ GE219 e0_) hb;clear hb hbox hg)|((with_reducible refine gate_dst (N := 4) rfl ?_);refine box_event ?hg (N := 4) ?hd (cs := #[.int .i64 0,.int .i64 0]) (t := 23) ?hr ?_;(case hd => rfl);(case hg => rfl);(case hr => first|(go_simp;done)|(go_simp;rfl));intro gb221 hg w6 hbox hb;have BK221 := sd_ hbox;have GW221 := gw_ HB (e_ GE219 (e_ GE220 e0_)) hg;have GE221 := GW221;have NB219_221 := nb_ BK219 hg;have NB221_219 := sy_ NB219_221;have NB220_221 := nb_ BK220 hg;have NB221_220 := sy_ NB220_221;replace BK219 := kb_ BK219 hb;replace BK220 := kb_ BK220 hb;replace HB := hb_ HB (e_ GE219 (e_ GE220 e0_)) hb;clear hb hbox hg))
 (try simp only [Act.put,ls_,lz_,lc_])
 go_cut [14] (fun v14 wc => ∃ (kq : Nat) (x14_2 : Bool),v14 = .bool x14_2 ∧ Aside0 (rat_Div.j0 kq x14_2 a0_0 a0_1 a1_0 a1_1 = some (r1,r2,r3)) ∧ Aside0 (kq ≤ k) ∧ Aside0 (wc.heap[gb219]? = some (.cells #[.int .i64 a0_0,.int .i64 a0_1] 23 (0,0))) ∧ Aside0 (wc.heap[gb220]? = some (.cells #[.int .i64 a1_0,.int .i64 a1_1] 23 (0,0))) ∧ Aside0 (wc.heap[gb221]? = some (.cells #[.int .i64 0,.int .i64 0] 23 (0,0))) ∧ Aside0 (Below w.heap.size w wc))
 case first =>
  have H := HC3.out
  clear HC3
  replace H := ob_ H
  obtain ⟨t222,A70,H⟩ := H
  replace H : (if t222 = true then ((rat_whole.f 0).bind fun bt223 => (rat_Div.j0 k (a1_0 == bt223.1 && (a1_1 == bt223.2)) a0_0 a0_1 a1_0 a1_1)) else (rat_Div.j0 k true a0_0 a0_1 a1_0 a1_1)) = some (r1,r2,r3) := H
  have A7 := sd_ A70
  clear A70
  by_cases c8 : t222 = true
  ·subst c8
   have H1 : ((rat_whole.f 0).bind fun bt223 => (rat_Div.j0 k (a1_0 == bt223.1 && (a1_1 == bt223.2)) a0_0 a0_1 a1_0 a1_1)) = some (r1,r2,r3) := by rw [if_pos rfl] at H;exact H
   clear H;have H := H1;clear H1
   replace H := ob_ H
   obtain ⟨⟨t223,t224⟩,A90,H⟩ := H
   replace H : (rat_Div.j0 k (a1_0 == t223 && (a1_1 == t224)) a0_0 a0_1 a1_0 a1_1) = some (r1,r2,r3) := H
   have A9 := sd_ A90
   clear A90
   have H' := sd_ H
   clear H
   try go_wp2
   replace BK219 := sd_ (kd_ BK219.out)
   replace BK220 := sd_ (kd_ BK220.out)
   replace BK221 := sd_ (kd_ BK221.out)
   replace HB := sd_ (d1_ HB.out)
   refine start_ (n := 9) (S := fun w' => w'.cell? ⟨gb219,0,none⟩ = some (.int .i64 a0_0) ∧ w'.cell? ⟨gb219,1,none⟩ = some (.int .i64 a0_1) ∧ w'.cell? ⟨gb220,0,none⟩ = some (.int .i64 a1_0) ∧ w'.cell? ⟨gb220,1,none⟩ = some (.int .i64 a1_1)) (ds := []) (Array.replicate 9 false) (by kernel_rfl) rfl rfl ⟨(kc_ BK219.out 0).trans rfl,(kc_ BK219.out 1).trans rfl,(kc_ BK220.out 0).trans rfl,(kc_ BK220.out 1).trans rfl⟩ (fun hHeld => ?_);refine with_tabW rat_Div.tab1 rat_Div.bits1 (fun HT_ HW_ => ?_)
   generalize w6.drew = w10 at BK219 BK220 BK221 HB hHeld ⊢
   refine ta_ (v := ?_) (a' := ?_) 0 6 (bz 9 1) rfl rfl HT_ HW_ (by kernel_rfl) (fun _ _ _ h => h) (by rfl) ?_ hHeld ?_ ?_
   rotate_left
   ·rintro w' ⟨s0,s1,s2,s3⟩
    go_simp
    with_reducible rfl
   rotate_left
   ·simp only [Act.put,ls_,lz_,lc_,i64_w,i32_w]
    rfl
   refine ta_ (v := ?_) (a' := ?_) 1 7 (bz 9 3) rfl rfl HT_ HW_ (by kernel_rfl) (fun _ _ _ h => h) (by rfl) ?_ hHeld ?_ ?_
   rotate_left
   ·rintro w' ⟨s0,s1,s2,s3⟩
    go_simp
    with_reducible rfl
   rotate_left
   ·simp only [Act.put,ls_,lz_,lc_,i64_w,i32_w]
    rfl
   refine on_ (N := some 8) 2 (bz 9 7) rfl rfl HT_ (by kernel_rfl) (by decide) (fun K hK => ?_)
   refine goes_ Tryd.func31 (by kernel_rfl) rfl #[.agg #[.int .i64 a0_0,.int .i64 a0_1],.agg #[.int .i64 a1_0,.int .i64 a1_1]] (by rfl) rfl rfl (by (try simp only [lm_,lq_,lx_]);first|done|rfl|(simp only [ld_,lt_];rfl)) ?_
   with_reducible refine (rat_both.calls k a0_0 a0_1 a1_0 a1_1 true _ A7.out).mono ?_
   rintro e w11 ⟨rfl,hb⟩
   refine ⟨_,rfl,?_⟩
   replace BK219 := kb_ BK219 hb
   replace BK220 := kb_ BK220 hb
   replace BK221 := kb_ BK221 hb
   replace HB := hb_ HB (e_ GE219 (e_ GE220 (e_ GE221 e0_))) hb
   (try clear hb)
   (try clear hb2)
   (try clear hk)
   (try clear hi)
   refine hK.out _ _ ⟨(kc_ BK219.out 0).trans rfl,(kc_ BK219.out 1).trans rfl,(kc_ BK220.out 0).trans rfl,(kc_ BK220.out 1).trans rfl⟩ (fun hHeld => ?_)
   clear hK K
   refine norm_ (a' := ?_) ?_ ?_
   rotate_left
   ·show Act.put _ (some 8) _ = _
    simp only [Act.put,ls_,lz_,lc_,i64_w,i32_w]
    rfl
   refine pu_ (v := ?_) (a' := ?_) 3 9 (bz 9 15) rfl rfl HT_ (by kernel_rfl) (fun _ _ _ h => h) (by rfl) ?_ ?_ ?_
   rotate_left;(intro w';go_simp;with_reducible rfl);rotate_left;(simp only [Act.put,ls_,lz_,lc_,i64_w,i32_w];rfl)
   refine pu_ (v := ?_) (a' := ?_) 4 10 (bz 9 31) rfl rfl HT_ (by kernel_rfl) (fun _ _ _ h => h) (by rfl) ?_ ?_ ?_
   rotate_left;(intro w';go_simp;with_reducible rfl);rotate_left;(simp only [Act.put,ls_,lz_,lc_,i64_w,i32_w];rfl)
   refine ta_ (v := ?_) (a' := ?_) 5 11 (bz 9 63) rfl rfl HT_ HW_ (by kernel_rfl) (fun _ _ _ h => h) (by rfl) ?_ hHeld ?_ ?_
   rotate_left
   ·rintro w' ⟨s0,s1,s2,s3⟩
    go_simp
    with_reducible rfl
   rotate_left
   ·simp only [Act.put,ls_,lz_,lc_,i64_w,i32_w]
    rfl
   refine on_ (N := some 12) 6 (bz 9 127) rfl rfl HT_ (by kernel_rfl) (by decide) (fun K hK => ?_)
   refine goes_ Tryd.func38 (by kernel_rfl) rfl #[.int .i64 0] (by rfl) rfl rfl (by (try simp only [lm_,lq_,lx_]);first|done|rfl|(simp only [ld_,lt_];rfl)) ?_
   with_reducible refine (rat_whole.calls 0 t223 t224 _ A9.out).mono ?_
   rintro e w12 ⟨rfl,hb⟩
   refine ⟨_,rfl,?_⟩
   replace BK219 := kb_ BK219 hb
   replace BK220 := kb_ BK220 hb
   replace BK221 := kb_ BK221 hb
   replace HB := hb_ HB (e_ GE219 (e_ GE220 (e_ GE221 e0_))) hb
   (try clear hb)
   (try clear hb2)
   (try clear hk)
   (try clear hi)
   refine hK.out _ _ ⟨(kc_ BK219.out 0).trans rfl,(kc_ BK219.out 1).trans rfl,(kc_ BK220.out 0).trans rfl,(kc_ BK220.out 1).trans rfl⟩ (fun hHeld => ?_)
   clear hK K
   refine norm_ (a' := ?_) ?_ ?_
   rotate_left
   ·show Act.put _ (some 12) _ = _
    simp only [Act.put,ls_,lz_,lc_,i64_w,i32_w]
    rfl
   refine pu_ (v := ?_) (a' := ?_) 7 13 (bz 9 255) rfl rfl HT_ (by kernel_rfl) (fun _ _ _ h => h) (by rfl) ?_ ?_ ?_
   rotate_left;(intro w';go_simp;with_reducible rfl);rotate_left;(simp only [Act.put,ls_,lz_,lc_,i64_w,i32_w];rfl)
   refine pu_ (v := ?_) (a' := ?_) 8 14 (bz 9 511) rfl rfl HT_ (by kernel_rfl) (fun _ _ _ h => h) (by rfl) ?_ ?_ ?_
   rotate_left;(intro w';go_simp;with_reducible rfl);rotate_left;(simp only [Act.put,ls_,lz_,lc_,i64_w,i32_w];rfl)
   refine done_ (done_of HT_.out (by kernel_rfl)) ?_
   try go_wp2
   go_meet
   case rel => exact ⟨_,((a1_0 == t223 && (a1_1 == t224))),(by first|rfl|(simp;done)|(simp [*];done)|(simp [bne];done)),H',⟨by first|omega|exact Nat.le_refl _⟩,⟨by (with_reducible repeat first|apply kn_|apply kd_|apply ka_);exact BK219.out⟩,⟨by (with_reducible repeat first|apply kn_|apply kd_|apply ka_);exact BK220.out⟩,⟨by (with_reducible repeat first|apply kn_|apply kd_|apply ka_);exact BK221.out⟩,⟨by repeat (first|(with_reducible first|exact HB.out|apply ba_|apply pd_|apply d1_|refine bs_ ?_ GE219.out|refine bs_ ?_ GE220.out|refine bs_ ?_ GE221.out)|exact HB.out)⟩⟩
  ·replace c8 := bf_ c8
   subst c8
   have H1 : (rat_Div.j0 k true a0_0 a0_1 a1_0 a1_1) = some (r1,r2,r3) := by rw [if_neg (show ¬ (false = true) by decide)] at H;exact H
   clear H;have H := H1;clear H1
   have H' := sd_ H
   clear H
   try go_wp2
   replace BK219 := sd_ (kd_ BK219.out)
   replace BK220 := sd_ (kd_ BK220.out)
   replace BK221 := sd_ (kd_ BK221.out)
   replace HB := sd_ (d1_ HB.out)
   refine start_ (n := 9) (S := fun w' => w'.cell? ⟨gb219,0,none⟩ = some (.int .i64 a0_0) ∧ w'.cell? ⟨gb219,1,none⟩ = some (.int .i64 a0_1) ∧ w'.cell? ⟨gb220,0,none⟩ = some (.int .i64 a1_0) ∧ w'.cell? ⟨gb220,1,none⟩ = some (.int .i64 a1_1)) (ds := []) (Array.replicate 9 false) (by kernel_rfl) rfl rfl ⟨(kc_ BK219.out 0).trans rfl,(kc_ BK219.out 1).trans rfl,(kc_ BK220.out 0).trans rfl,(kc_ BK220.out 1).trans rfl⟩ (fun hHeld => ?_);refine with_tabW rat_Div.tab1 rat_Div.bits1 (fun HT_ HW_ => ?_)
   generalize w6.drew = w13 at BK219 BK220 BK221 HB hHeld ⊢
   refine ta_ (v := ?_) (a' := ?_) 0 6 (bz 9 1) rfl rfl HT_ HW_ (by kernel_rfl) (fun _ _ _ h => h) (by rfl) ?_ hHeld ?_ ?_
   rotate_left
   ·rintro w' ⟨s0,s1,s2,s3⟩
    go_simp
    with_reducible rfl
   rotate_left
   ·simp only [Act.put,ls_,lz_,lc_,i64_w,i32_w]
    rfl
   refine ta_ (v := ?_) (a' := ?_) 1 7 (bz 9 3) rfl rfl HT_ HW_ (by kernel_rfl) (fun _ _ _ h => h) (by rfl) ?_ hHeld ?_ ?_
   rotate_left
   ·rintro w' ⟨s0,s1,s2,s3⟩
    go_simp
    with_reducible rfl
   rotate_left
   ·simp only [Act.put,ls_,lz_,lc_,i64_w,i32_w]
    rfl
   refine on_ (N := some 8) 2 (bz 9 7) rfl rfl HT_ (by kernel_rfl) (by decide) (fun K hK => ?_)
   refine goes_ Tryd.func31 (by kernel_rfl) rfl #[.agg #[.int .i64 a0_0,.int .i64 a0_1],.agg #[.int .i64 a1_0,.int .i64 a1_1]] (by rfl) rfl rfl (by (try simp only [lm_,lq_,lx_]);first|done|rfl|(simp only [ld_,lt_];rfl)) ?_
   with_reducible refine (rat_both.calls k a0_0 a0_1 a1_0 a1_1 false _ A7.out).mono ?_
   rintro e w14 ⟨rfl,hb⟩
   refine ⟨_,rfl,?_⟩
   replace BK219 := kb_ BK219 hb
   replace BK220 := kb_ BK220 hb
   replace BK221 := kb_ BK221 hb
   replace HB := hb_ HB (e_ GE219 (e_ GE220 (e_ GE221 e0_))) hb
   (try clear hb)
   (try clear hb2)
   (try clear hk)
   (try clear hi)
   refine hK.out _ _ ⟨(kc_ BK219.out 0).trans rfl,(kc_ BK219.out 1).trans rfl,(kc_ BK220.out 0).trans rfl,(kc_ BK220.out 1).trans rfl⟩ (fun hHeld => ?_)
   clear hK K
   refine norm_ (a' := ?_) ?_ ?_
   rotate_left
   ·show Act.put _ (some 8) _ = _
    simp only [Act.put,ls_,lz_,lc_,i64_w,i32_w]
    rfl
   refine pu_ (v := ?_) (a' := ?_) 3 9 (bz 9 15) rfl rfl HT_ (by kernel_rfl) (fun _ _ _ h => h) (by rfl) ?_ ?_ ?_
   rotate_left;(intro w';go_simp;with_reducible rfl);rotate_left;(simp only [Act.put,ls_,lz_,lc_,i64_w,i32_w];rfl)
   refine pu_ (v := ?_) (a' := ?_) 4 10 (bz 9 31) rfl rfl HT_ (by kernel_rfl) (fun _ _ _ h => h) (by rfl) ?_ ?_ ?_
   rotate_left;(intro w';go_simp;with_reducible rfl);rotate_left;(simp only [Act.put,ls_,lz_,lc_,i64_w,i32_w];rfl)
   refine pz_ (a' := ?_) 5 11 (bz 9 63) rfl rfl HT_ (by kernel_rfl) (fun _ _ _ h => h) (by rfl) ?_ ?_
   rotate_left
   ·simp only [Act.put,ls_,lz_,lc_,i64_w,i32_w]
    rfl
   refine pz_ (a' := ?_) 6 12 (bz 9 127) rfl rfl HT_ (by kernel_rfl) (fun _ _ _ h => h) (by rfl) ?_ ?_
   rotate_left
   ·simp only [Act.put,ls_,lz_,lc_,i64_w,i32_w]
    rfl
   refine pz_ (a' := ?_) 7 13 (bz 9 255) rfl rfl HT_ (by kernel_rfl) (fun _ _ _ h => h) (by rfl) ?_ ?_
   rotate_left
   ·simp only [Act.put,ls_,lz_,lc_,i64_w,i32_w]
    rfl
   refine pu_ (v := ?_) (a' := ?_) 8 14 (bz 9 511) rfl rfl HT_ (by kernel_rfl) (fun _ _ _ h => h) (by rfl) ?_ ?_ ?_
   rotate_left;(intro w';go_simp;with_reducible rfl);rotate_left;(simp only [Act.put,ls_,lz_,lc_,i64_w,i32_w];rfl)
   refine done_ (done_of HT_.out (by kernel_rfl)) ?_
   try go_wp2
   go_meet
   case rel => exact ⟨_,(true),(by first|rfl|(simp;done)|(simp [*];done)|(simp [bne];done)),H',⟨by first|omega|exact Nat.le_refl _⟩,⟨by (with_reducible repeat first|apply kn_|apply kd_|apply ka_);exact BK219.out⟩,⟨by (with_reducible repeat first|apply kn_|apply kd_|apply ka_);exact BK220.out⟩,⟨by (with_reducible repeat first|apply kn_|apply kd_|apply ka_);exact BK221.out⟩,⟨by repeat (first|(with_reducible first|exact HB.out|apply ba_|apply pd_|apply d1_|refine bs_ ?_ GE219.out|refine bs_ ?_ GE220.out|refine bs_ ?_ GE221.out)|exact HB.out)⟩⟩
 case rest =>
  clear HC3
  try clear c1;try clear p2;try clear c3;try clear c8;try clear c14
  obtain ⟨kq,x14_2,rfl,HA,HJ2,BK219,BK220,BK221,HB⟩ := hcut
  cases kq with
  | zero => exact absurd HA.out (by simp [rat_Div.j0])
  | succ kj2 =>
   have H := HA.out
   clear HA
   simp only [rat_Div.j0] at H
   by_cases c15 : x14_2 = true
   ·subst c15
    have H1 : ((rat_zero.f).bind fun bt225 => (some (bt225.1,bt225.2,2))) = some (r1,r2,r3) := by rw [if_pos rfl] at H;exact H
    clear H;have H := H1;clear H1
    replace H := ob_ H
    obtain ⟨⟨t225,t226⟩,A160,H⟩ := H
    replace H : (some (t225,t226,2)) = some (r1,r2,r3) := H
    have A16 := sd_ A160
    clear A160
    simp only [Option.some.injEq,Prod.mk.injEq] at H
    obtain ⟨rfl,rfl,rfl⟩ := H
    go_wp2_with (first|((with_reducible refine gate_callee (f := 32) rfl ?_);refine goesL_ (some 15) rfl rfl Tryd.func32 (by kernel_rfl) rfl #[] rfl (by (try simp only [lm_,lq_,lx_]);first|done|rfl|(simp only [ld_,lt_];rfl)) ?_;(with_reducible refine (rat_zero.calls  t225 t226 _ A16.out).mono ?_);rintro e w17 ⟨rfl,hb⟩;refine ⟨_,rfl,?_⟩;replace BK219 := kb_ BK219 hb;replace BK220 := kb_ BK220 hb;replace BK221 := kb_ BK221 hb;replace HB := hb_ HB (e_ GE219 (e_ GE220 (e_ GE221 e0_))) hb;(try clear hb);(try clear hb2);(try clear hk);(try clear hi);have hnb18 := NB221_219.out;have hnc18 := NB219_221.out;have hnb19 := NB221_220.out;have hnc19 := NB220_221.out;have hcz20_0 : w17.cell? ⟨gb221,0,none⟩ = some (.int .i64 0) := (kc_ BK221.out 0).trans rfl;have hcz20_1 : w17.cell? ⟨gb221,1,none⟩ = some (.int .i64 0) := (kc_ BK221.out 1).trans rfl;have hfz20_0 := kf_ BK221.out 0;have hfz20_1 := kf_ BK221.out 1))
    refine bodyPost_ret (results_ct rfl _ _ gb221 23 #[.int .i64 t225,.int .i64 t226] (0,0) _ rfl (by (with_reducible repeat first|apply kn_|apply kd_|apply ka_);refine blk_put (cs := #[.int .i64 t225,.int .i64 0]) ?_ 1 _ rfl;(with_reducible repeat first|apply kn_|apply kd_|apply ka_);refine blk_put (cs := #[.int .i64 0,.int .i64 0]) ?_ 0 _ rfl;(with_reducible repeat first|apply kn_|apply kd_|apply ka_);exact BK221.out) Tryd.underlying23 rfl (by kernel_rfl)) rfl ?_
    exact ⟨by first|rfl|(simp [errW_none,errW_some] <;> rfl)|(simp [*,errW_none,errW_some] <;> rfl),by repeat (first|(with_reducible first|exact HB.out|apply ba_|apply pd_|apply d1_|refine bs_ ?_ GE219.out|refine bs_ ?_ GE220.out|refine bs_ ?_ GE221.out)|exact HB.out)⟩
   ·replace c15 := bf_ c15
    subst c15
    have H1 : (if a0_0 = 0 then ((rat_whole.f 0).bind fun bt227 => (some (bt227.1,bt227.2,0))) else ((rat_inverse.f a1_0 a1_1).bind fun bt229 => ((rat_product.f kj2 a0_0 a0_1 bt229.1 bt229.2).bind fun bt231 => (some (bt231.1,bt231.2.1,bt231.2.2))))) = some (r1,r2,r3) := by rw [if_neg (show ¬ (false = true) by decide)] at H;exact H
    clear H;have H := H1;clear H1
    by_cases c21 : a0_0 = 0
    ·rw [if_pos c21] at H
     have c21b0 : (a0_0 == 0) = true := beq_iff_eq.mpr c21
     have c21b1 : (a0_0 != 0) = false := bne_eq_false_iff_eq.mpr c21
     clear c21
     replace H := ob_ H
     obtain ⟨⟨t227,t228⟩,A220,H⟩ := H
     replace H : (some (t227,t228,0)) = some (r1,r2,r3) := H
     have A22 := sd_ A220
     clear A220
     simp only [Option.some.injEq,Prod.mk.injEq] at H
     obtain ⟨rfl,rfl,rfl⟩ := H
     have hnb23 := NB219_220.out
     have hnc23 := NB220_219.out
     have hnb24 := NB219_221.out
     have hnc24 := NB221_219.out
     have hcz25_0 : wc.cell? ⟨gb219,0,none⟩ = some (.int .i64 a0_0) := (kc_ BK219.out 0).trans rfl
     have hcz25_1 : wc.cell? ⟨gb219,1,none⟩ = some (.int .i64 a0_1) := (kc_ BK219.out 1).trans rfl
     have hfz25_0 := kf_ BK219.out 0
     have hfz25_1 := kf_ BK219.out 1
     go_wp2_with (first|((with_reducible refine gate_callee (f := 38) rfl ?_);refine goesL_ (some 19) rfl rfl Tryd.func38 (by kernel_rfl) rfl #[.int .i64 0] rfl (by (try simp only [lm_,lq_,lx_]);first|done|rfl|(simp only [ld_,lt_];rfl)) ?_;(with_reducible refine (rat_whole.calls 0 t227 t228 _ A22.out).mono ?_);rintro e w26 ⟨rfl,hb⟩;refine ⟨_,rfl,?_⟩;replace BK219 := kb_ BK219 hb;replace BK220 := kb_ BK220 hb;replace BK221 := kb_ BK221 hb;replace HB := hb_ HB (e_ GE219 (e_ GE220 (e_ GE221 e0_))) hb;(try clear hb);(try clear hb2);(try clear hk);(try clear hi);have hnb27 := NB221_220.out;have hnc27 := NB220_221.out;have hcz28_0 : w26.cell? ⟨gb221,0,none⟩ = some (.int .i64 0) := (kc_ BK221.out 0).trans rfl;have hcz28_1 : w26.cell? ⟨gb221,1,none⟩ = some (.int .i64 0) := (kc_ BK221.out 1).trans rfl;have hfz28_0 := kf_ BK221.out 0;have hfz28_1 := kf_ BK221.out 1))
     refine bodyPost_ret (results_ct rfl _ _ gb221 23 #[.int .i64 t227,.int .i64 t228] (0,0) _ rfl (by (with_reducible repeat first|apply kn_|apply kd_|apply ka_);refine blk_put (cs := #[.int .i64 t227,.int .i64 0]) ?_ 1 _ rfl;(with_reducible repeat first|apply kn_|apply kd_|apply ka_);refine blk_put (cs := #[.int .i64 0,.int .i64 0]) ?_ 0 _ rfl;(with_reducible repeat first|apply kn_|apply kd_|apply ka_);exact BK221.out) Tryd.underlying23 rfl (by kernel_rfl)) rfl ?_
     exact ⟨by first|rfl|(simp [errW_none,errW_some] <;> rfl)|(simp [*,errW_none,errW_some] <;> rfl),by repeat (first|(with_reducible first|exact HB.out|apply ba_|apply pd_|apply d1_|refine bs_ ?_ GE219.out|refine bs_ ?_ GE220.out|refine bs_ ?_ GE221.out)|exact HB.out)⟩
    ·rw [if_neg c21] at H
     have c21b0 : (a0_0 == 0) = false := beq_eq_false_iff_ne.mpr c21
     have c21b1 : (a0_0 != 0) = true := bne_iff_ne.mpr c21
     replace H := ob_ H
     obtain ⟨⟨t229,t230⟩,A290,H⟩ := H
     replace H : ((rat_product.f kj2 a0_0 a0_1 t229 t230).bind fun bt231 => (some (bt231.1,bt231.2.1,bt231.2.2))) = some (r1,r2,r3) := H
     have A29 := sd_ A290
     clear A290
     replace H := ob_ H
     obtain ⟨⟨t231,t232,t233⟩,A300,H⟩ := H
     replace H : (some (t231,t232,t233)) = some (r1,r2,r3) := H
     have A30 := sd_ A300
     clear A300
     simp only [Option.some.injEq,Prod.mk.injEq] at H
     obtain ⟨rfl,rfl,rfl⟩ := H
     have hnb31 := NB219_220.out
     have hnc31 := NB220_219.out
     have hnb32 := NB219_221.out
     have hnc32 := NB221_219.out
     have hcz33_0 : wc.cell? ⟨gb219,0,none⟩ = some (.int .i64 a0_0) := (kc_ BK219.out 0).trans rfl
     have hcz33_1 : wc.cell? ⟨gb219,1,none⟩ = some (.int .i64 a0_1) := (kc_ BK219.out 1).trans rfl
     have hfz33_0 := kf_ BK219.out 0
     have hfz33_1 := kf_ BK219.out 1
     try go_wp2
     replace BK219 := sd_ (kd_ BK219.out)
     replace BK220 := sd_ (kd_ BK220.out)
     replace BK221 := sd_ (kd_ BK221.out)
     replace HB := sd_ (d1_ HB.out)
     refine start_ (n := 8) (S := fun w' => w'.cell? ⟨gb219,0,none⟩ = some (.int .i64 a0_0) ∧ w'.cell? ⟨gb219,1,none⟩ = some (.int .i64 a0_1) ∧ w'.cell? ⟨gb220,0,none⟩ = some (.int .i64 a1_0) ∧ w'.cell? ⟨gb220,1,none⟩ = some (.int .i64 a1_1)) (ds := []) (Array.replicate 8 false) (by kernel_rfl) rfl rfl ⟨(kc_ BK219.out 0).trans rfl,(kc_ BK219.out 1).trans rfl,(kc_ BK220.out 0).trans rfl,(kc_ BK220.out 1).trans rfl⟩ (fun hHeld => ?_);refine with_tabW rat_Div.tab5 rat_Div.bits5 (fun HT_ HW_ => ?_)
     generalize wc.drew = w34 at BK219 BK220 BK221 HB hHeld ⊢
     refine ta_ (v := ?_) (a' := ?_) 0 20 (bz 8 1) rfl rfl HT_ HW_ (by kernel_rfl) (fun _ _ _ h => h) (by rfl) ?_ hHeld ?_ ?_
     rotate_left
     ·rintro w' ⟨s0,s1,s2,s3⟩
      go_simp
      with_reducible rfl
     rotate_left
     ·simp only [Act.put,ls_,lz_,lc_,i64_w,i32_w]
      rfl
     refine ta_ (v := ?_) (a' := ?_) 1 21 (bz 8 3) rfl rfl HT_ HW_ (by kernel_rfl) (fun _ _ _ h => h) (by rfl) ?_ hHeld ?_ ?_
     rotate_left
     ·rintro w' ⟨s0,s1,s2,s3⟩
      go_simp
      with_reducible rfl
     rotate_left
     ·simp only [Act.put,ls_,lz_,lc_,i64_w,i32_w]
      rfl
     refine on_ (N := some 22) 2 (bz 8 7) rfl rfl HT_ (by kernel_rfl) (by decide) (fun K hK => ?_)
     refine goes_ Tryd.func41 (by kernel_rfl) rfl #[.agg #[.int .i64 a1_0,.int .i64 a1_1]] (by rfl) rfl rfl (by (try simp only [lm_,lq_,lx_]);first|done|rfl|(simp only [ld_,lt_];rfl)) ?_
     with_reducible refine (rat_inverse.calls a1_0 a1_1 t229 t230 _ A29.out).mono ?_
     rintro e w35 ⟨rfl,hb⟩
     refine ⟨_,rfl,?_⟩
     replace BK219 := kb_ BK219 hb
     replace BK220 := kb_ BK220 hb
     replace BK221 := kb_ BK221 hb
     replace HB := hb_ HB (e_ GE219 (e_ GE220 (e_ GE221 e0_))) hb
     (try clear hb)
     (try clear hb2)
     (try clear hk)
     (try clear hi)
     refine hK.out _ _ ⟨(kc_ BK219.out 0).trans rfl,(kc_ BK219.out 1).trans rfl,(kc_ BK220.out 0).trans rfl,(kc_ BK220.out 1).trans rfl⟩ (fun hHeld => ?_)
     clear hK K
     refine norm_ (a' := ?_) ?_ ?_
     rotate_left
     ·show Act.put _ (some 22) _ = _
      simp only [Act.put,ls_,lz_,lc_,i64_w,i32_w]
      rfl
     refine on_ (N := some 23) 3 (bz 8 15) rfl rfl HT_ (by kernel_rfl) (by decide) (fun K hK => ?_)
     refine goes_ Tryd.func39 (by kernel_rfl) rfl #[.agg #[.int .i64 a0_0,.int .i64 a0_1],.agg #[.int .i64 t229,.int .i64 t230]] (by rfl) rfl rfl (by (try simp only [lm_,lq_,lx_]);first|done|rfl|(simp only [ld_,lt_];rfl)) ?_
     with_reducible refine (rat_product.calls kj2 a0_0 a0_1 t229 t230 t231 t232 t233 _ A30.out).mono ?_
     rintro e w36 ⟨rfl,hb⟩
     refine ⟨_,rfl,?_⟩
     replace BK219 := kb_ BK219 hb
     replace BK220 := kb_ BK220 hb
     replace BK221 := kb_ BK221 hb
     replace HB := hb_ HB (e_ GE219 (e_ GE220 (e_ GE221 e0_))) hb
     (try clear hb)
     (try clear hb2)
     (try clear hk)
     (try clear hi)
     refine hK.out _ _ ⟨(kc_ BK219.out 0).trans rfl,(kc_ BK219.out 1).trans rfl,(kc_ BK220.out 0).trans rfl,(kc_ BK220.out 1).trans rfl⟩ (fun hHeld => ?_)
     clear hK K
     refine norm_ (a' := ?_) ?_ ?_
     rotate_left
     ·show Act.put _ (some 23) _ = _
      simp only [Act.put,ls_,lz_,lc_,i64_w,i32_w]
      rfl
     refine pu_ (v := ?_) (a' := ?_) 4 24 (bz 8 31) rfl rfl HT_ (by kernel_rfl) (fun _ _ _ h => h) (by rfl) ?_ ?_ ?_
     rotate_left;(intro w';go_simp;with_reducible rfl);rotate_left;(simp only [Act.put,ls_,lz_,lc_,i64_w,i32_w];rfl)
     refine pu_ (v := ?_) (a' := ?_) 5 25 (bz 8 63) rfl rfl HT_ (by kernel_rfl) (fun _ _ _ h => h) (by rfl) ?_ ?_ ?_
     rotate_left;(intro w';go_simp;with_reducible rfl);rotate_left;(simp only [Act.put,ls_,lz_,lc_,i64_w,i32_w];rfl)
     refine on_ (N := none) 6 (bz 8 127) rfl rfl HT_ (by kernel_rfl) (by decide) (fun K hK => ?_)
     have hs37 : w36.cell? ⟨gb221,0,none⟩ = some (.int .i64 0) := (kc_ BK221.out 0).trans rfl
     have hfs37 := kf_ BK221.out 0
     have hns37_0 := NB219_221.out
     have hns37_1 := NB220_221.out
     have hms37_0 := NB221_219.out
     have hms37_1 := NB221_220.out
     have hs38 : w36.cell? ⟨gb221,1,none⟩ = some (.int .i64 0) := (kc_ BK221.out 1).trans rfl
     have hfs38 := kf_ BK221.out 1
     have hns38_0 := NB219_221.out
     have hns38_1 := NB220_221.out
     have hms38_0 := NB221_219.out
     have hms38_1 := NB221_220.out
     refine skip_ (w1 := ?_) (by rfl) rfl ?_ ?_
     rotate_left
     ·go_simp
      rfl
     refine hK.out _ _ ⟨((cell_far (p := ⟨gb221,_,none⟩) NB219_221.out _).trans (((cell_far (p := ⟨gb221,_,none⟩) NB219_221.out _).trans (hHeld.1)))),((cell_far (p := ⟨gb221,_,none⟩) NB219_221.out _).trans (((cell_far (p := ⟨gb221,_,none⟩) NB219_221.out _).trans (hHeld.2.1)))),((cell_far (p := ⟨gb221,_,none⟩) NB220_221.out _).trans (((cell_far (p := ⟨gb221,_,none⟩) NB220_221.out _).trans (hHeld.2.2.1)))),((cell_far (p := ⟨gb221,_,none⟩) NB220_221.out _).trans (((cell_far (p := ⟨gb221,_,none⟩) NB220_221.out _).trans (hHeld.2.2.2))))⟩ (fun hHeld => ?_)
     clear hK K
     refine pu_ (v := ?_) (a' := ?_) 7 5 (bz 8 255) rfl rfl HT_ (by kernel_rfl) (fun _ _ _ h => h) (by rfl) ?_ ?_ ?_
     rotate_left;(intro w';go_simp;with_reducible rfl);rotate_left;(simp only [Act.put,ls_,lz_,lc_,i64_w,i32_w];rfl)
     refine done_ (done_of HT_.out (by kernel_rfl)) ?_
     try go_wp2
     refine bodyPost_ret (results_ct rfl _ _ gb221 23 #[.int .i64 t231,.int .i64 t232] (0,0) _ rfl (by (with_reducible repeat first|apply kn_|apply kd_|apply ka_);refine blk_put (cs := #[.int .i64 t231,.int .i64 0]) ?_ 1 _ rfl;(with_reducible repeat first|apply kn_|apply kd_|apply ka_);refine blk_put (cs := #[.int .i64 0,.int .i64 0]) ?_ 0 _ rfl;(with_reducible repeat first|apply kn_|apply kd_|apply ka_);exact BK221.out) Tryd.underlying23 rfl (by kernel_rfl)) rfl ?_
     exact ⟨by first|rfl|(simp [errW_none,errW_some] <;> rfl)|(simp [*,errW_none,errW_some] <;> rfl),by repeat (first|(with_reducible first|exact HB.out|apply ba_|apply pd_|apply d1_|refine bs_ ?_ GE219.out|refine bs_ ?_ GE220.out|refine bs_ ?_ GE221.out)|exact HB.out)⟩

end Go.Proofs.YtmbdbinbdiiapaaDoor.P
