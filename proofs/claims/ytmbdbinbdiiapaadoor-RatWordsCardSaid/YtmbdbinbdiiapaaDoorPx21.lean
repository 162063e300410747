-- Written by a program of this session (wip/tools/xprint.py, over the kit's print): Lean checks it.
import Derived.Test.YtmbdbinbdiiapaaDoorPx0
import Derived.Test.YtmbdbinbdiiapaaDoorPx1
import Derived.Test.YtmbdbinbdiiapaaDoorPx2
import Derived.Test.YtmbdbinbdiiapaaDoorPx5
import Derived.Test.YtmbdbinbdiiapaaDoorPx6
namespace Go.Proofs.YtmbdbinbdiiapaaDoor.P
open Go.RowKit Go.Proofs.YtmbdbinbdiiapaaDoorW.PrintWords Go.Proofs.YtmbdbinbdiiapaaDoorW.PrintLast Go.Proofs.YtmbdbinbdiiapaaDoorW.PrintMore
attribute [local go_sem] max2_int min2_int max_two min_two max_three min_three max_four min_four   -- for this text's walks alone
set_option linter.unusedVariables false
set_option linter.unusedSimpArgs false

attribute [local go_sem high] eqA23
/-! ### neumelaw02_RatWords: function 7 -/
def neumelaw02_RatWords.j0 : Nat → ByteArray → Bool → Option (Bool)
 | 0, _, _ => none
 | k + 1, x1, x30 => if x30 = true then (some false) else ((rat_Parse.f k x1).bind fun bt488 => (if bt488.2.2 = true then ((rat_Text.f k bt488.1 bt488.2.1).bind fun t492 => (if t492.toList = x1.toList then ((rat_Check.f k bt488.1 bt488.2.1).bind fun t493 => (if t493 = true then ((neumelaw02_heads.f k).bind fun t494 => (some t494)) else (some false))) else (some false))) else ((neumelaw02_heads.f k).bind fun t495 => (some t495))))
def neumelaw02_RatWords.f (k : Nat) (a0_0 : Int) (a0_1 : Int) (a1 : ByteArray) : Option (Bool) := if (a1.size : Int) > 100 then ((neumelaw02_heads.f k).bind fun t481 => (some t481)) else ((rat_Text.f k a0_0 a0_1).bind fun t482 => ((rat_Parse.f k t482).bind fun bt483 => ((rat_Check.f k a0_0 a0_1).bind fun t487 => (if (bt483.2.2 != t487) = true then (neumelaw02_RatWords.j0 k a1 true) else (if bt483.2.2 = true then (neumelaw02_RatWords.j0 k a1 (!(bt483.1 == a0_0) || (!(bt483.2.1 == a0_1)))) else (neumelaw02_RatWords.j0 k a1 false))))))
theorem neumelaw02_RatWords.mono_l : ∀ k, (∀ y0 y1, LeO (neumelaw02_RatWords.j0 k y0 y1) (neumelaw02_RatWords.j0 (k + 1) y0 y1))
 | 0 => fun _ _ r h => by simp [neumelaw02_RatWords.j0] at h
 | k + 1 => by
  have ih0 := neumelaw02_RatWords.mono_l k
  ·intro y0 y1
   unfold neumelaw02_RatWords.j0
   repeat' first
   | (with_reducible exact ih0 _ _)
   | (with_reducible exact neumelaw02_heads.mono _)
   | (with_reducible exact rat_Check.mono _ _ _)
   | (with_reducible exact rat_Parse.mono _ _)
   | (with_reducible exact rat_Text.mono _ _ _)
   | (with_reducible exact LeO.refl _)
   | (with_reducible exact LeO.none _)
   | (with_reducible refine LeO.ite ?_ ?_)
   | (with_reducible refine LeO.bind ?_ (fun _ => ?_))
   | exact ih0 _ _
   | exact neumelaw02_heads.mono _
   | exact rat_Check.mono _ _ _
   | exact rat_Parse.mono _ _
   | exact rat_Text.mono _ _ _
   | exact LeO.none _
   | refine LeO.ite ?_ ?_
   | refine LeO.bind ?_ (fun _ => ?_)
theorem neumelaw02_RatWords.mono : ∀ a0 a1 a2 k, LeO (neumelaw02_RatWords.f k a0 a1 a2) (neumelaw02_RatWords.f (k + 1) a0 a1 a2) := by
 intro a0 a1 a2 k
 have ih0 := neumelaw02_RatWords.mono_l k
 unfold neumelaw02_RatWords.f
 repeat' first
   | (with_reducible exact ih0 _ _)
   | (with_reducible exact neumelaw02_heads.mono _)
   | (with_reducible exact rat_Check.mono _ _ _)
   | (with_reducible exact rat_Parse.mono _ _)
   | (with_reducible exact rat_Text.mono _ _ _)
   | (with_reducible exact LeO.refl _)
   | (with_reducible exact LeO.none _)
   | (with_reducible refine LeO.ite ?_ ?_)
   | (with_reducible refine LeO.bind ?_ (fun _ => ?_))
   | exact ih0 _ _
   | exact neumelaw02_heads.mono _
   | exact rat_Check.mono _ _ _
   | exact rat_Parse.mono _ _
   | exact rat_Text.mono _ _ _
   | exact LeO.none _
   | refine LeO.ite ?_ ?_
   | refine LeO.bind ?_ (fun _ => ?_)
set_option maxHeartbeats 8000000 in
set_option maxRecDepth 100000 in
theorem neumelaw02_RatWords.calls (k : Nat) (a0_0 : Int) (a0_1 : Int) (a1 : ByteArray) (r : Bool) (w : World) (hE : Aside0 (LaidE w)) (hxt : Aside0 (r = true)) (h : neumelaw02_RatWords.f k a0_0 a0_1 a1 = some r) :
  Calls Tryd.prog 7 #[.agg #[.int .i64 a0_0,.int .i64 a0_1],.string a1] w fun e w' => e = .returned (.bool r) ∧ Below w.heap.size w w' := by
 have hu23 := Tryd.underlying23
 have HB := sd_ (Below.refl w.heap.size w)
 have H : (if (a1.size : Int) > 100 then ((neumelaw02_heads.f k).bind fun t481 => (some t481)) else ((rat_Text.f k a0_0 a0_1).bind fun t482 => ((rat_Parse.f k t482).bind fun bt483 => ((rat_Check.f k a0_0 a0_1).bind fun t487 => (if (bt483.2.2 != t487) = true then (neumelaw02_RatWords.j0 k a1 true) else (if bt483.2.2 = true then (neumelaw02_RatWords.j0 k a1 (!(bt483.1 == a0_0) || (!(bt483.2.1 == a0_1)))) else (neumelaw02_RatWords.j0 k a1 false))))))) = some r := h
 clear h
 by_cases c3 : (a1.size : Int) > 100
 ·rw [if_pos c3] at H
  have c3b0 : decide (100 < (a1.size : Int)) = true := dt_ c3
  have c3b1 : decide (100 < a1.size) = true := dt_ (by omega)
  clear c3
  replace H := ob_ H
  obtain ⟨t481,A40,H⟩ := H
  replace H : (some t481) = some r := H
  have A4 := sd_ A40
  clear A40
  obtain rfl := Option.some.inj H
  go_enter Tryd.func7,Tryd.ntmps7
  go_wp2_with (first|((with_reducible refine gate_dst (N := 2) rfl ?_);refine box_event ?hg (N := 2) ?hd (cs := #[.int .i64 a0_0,.int .i64 a0_1]) (t := 23) ?hr ?_;(case hd => rfl);(case hg => rfl);(case hr => first|(go_simp;done)|(go_simp;rfl));intro gb480 hg w5 hbox hb;have BK480 := sd_ hbox;have GW480 := gw_ HB e0_ hg;have GE480 := GW480;replace HB := hb_ HB e0_ hb;clear hb hbox hg)|((with_reducible refine gate_callee (f := 18) rfl ?_);refine goesL_ (some 12) rfl rfl Tryd.func18 (by kernel_rfl) rfl #[] rfl (by (try simp only [lm_,lq_,lx_]);first|done|rfl|(simp only [ld_,lt_];rfl)) ?_;(with_reducible refine (neumelaw02_heads.calls k  t481 _ ?side1 A4.out).mono ?_);(case side1 => first|(with_reducible exact hE)|exact sd_ (LaidE.below hE.out (bb_ HB.out (e_ GE480 e0_))));rintro e w6 ⟨rfl,hb⟩;refine ⟨_,rfl,?_⟩;replace BK480 := kb_ BK480 hb;replace HB := hb_ HB (e_ GE480 e0_) hb;(try clear hb);(try clear hb2);(try clear hk);(try clear hi)))
  go_ret
  exact ⟨by first|rfl|(simp [errW_none,errW_some] <;> rfl)|(simp [*,errW_none,errW_some] <;> rfl),by repeat (first|(with_reducible first|exact HB.out|apply ba_|apply pd_|apply d1_|refine bs_ ?_ GE480.out)|exact HB.out)⟩
 ·rw [if_neg c3] at H
  have c3b0 : decide (100 < (a1.size : Int)) = false := df_ c3
  have c3b1 : decide (100 < a1.size) = false := df_ (by omega)
  clear c3
  replace H := ob_ H
  obtain ⟨t482,A70,H⟩ := H
  replace H : ((rat_Parse.f k t482).bind fun bt483 => ((rat_Check.f k a0_0 a0_1).bind fun t487 => (if (bt483.2.2 != t487) = true then (neumelaw02_RatWords.j0 k a1 true) else (if bt483.2.2 = true then (neumelaw02_RatWords.j0 k a1 (!(bt483.1 == a0_0) || (!(bt483.2.1 == a0_1)))) else (neumelaw02_RatWords.j0 k a1 false))))) = some r := H
  have A7 := sd_ A70
  clear A70
  replace H := ob_ H
  obtain ⟨⟨t483,t484,t485⟩,A80,H⟩ := H
  replace H : ((rat_Check.f k a0_0 a0_1).bind fun t487 => (if (t485 != t487) = true then (neumelaw02_RatWords.j0 k a1 true) else (if t485 = true then (neumelaw02_RatWords.j0 k a1 (!(t483 == a0_0) || (!(t484 == a0_1)))) else (neumelaw02_RatWords.j0 k a1 false)))) = some r := H
  have A8 := sd_ A80
  clear A80
  have HC9 := sd_ H
  clear H
  go_enter Tryd.func7,Tryd.ntmps7
  go_upto_region 4 with (first|((with_reducible refine gate_dst (N := 2) rfl ?_);refine box_event ?hg (N := 2) ?hd (cs := #[.int .i64 a0_0,.int .i64 a0_1]) (t := 23) ?hr ?_;(case hd => rfl);(case hg => rfl);(case hr => first|(go_simp;done)|(go_simp;rfl));intro gb480 hg w10 hbox hb;have BK480 := sd_ hbox;have GW480 := gw_ HB e0_ hg;have GE480 := GW480;replace HB := hb_ HB e0_ hb;clear hb hbox hg;have hcz11_0 : w10.cell? ⟨gb480,0,none⟩ = some (.int .i64 a0_0) := (kc_ BK480.out 0).trans rfl;have hcz11_1 : w10.cell? ⟨gb480,1,none⟩ = some (.int .i64 a0_1) := (kc_ BK480.out 1).trans rfl;have hfz11_0 := kf_ BK480.out 0;have hfz11_1 := kf_ BK480.out 1)|((with_reducible refine gate_callee (f := 27) rfl ?_);refine goesL_ (some 15) rfl rfl Tryd.func27 (by kernel_rfl) rfl #[.agg #[.int .i64 a0_0,.int .i64 a0_1]] rfl (by (try simp only [lm_,lq_,lx_]);first|done|rfl|(simp only [ld_,lt_];rfl)) ?_;(with_reducible refine (rat_Text.calls k a0_0 a0_1 t482 _ ?side1 A7.out).mono ?_);(case side1 => first|(with_reducible exact hE)|exact sd_ (LaidE.below hE.out (bb_ HB.out (e_ GE480 e0_))));rintro e w12 ⟨rfl,hb⟩;refine ⟨_,rfl,?_⟩;replace BK480 := kb_ BK480 hb;replace HB := hb_ HB (e_ GE480 e0_) hb;(try clear hb);(try clear hb2);(try clear hk);(try clear hi))|((with_reducible refine gate_callee (f := 21) rfl ?_);refine goesL_ (some 16) rfl rfl Tryd.func21 (by kernel_rfl) rfl #[.string t482] rfl (by (try simp only [lm_,lq_,lx_]);first|done|rfl|(simp only [ld_,lt_];rfl)) ?_;(with_reducible refine (rat_Parse.calls k t482 t483 t484 t485 _ ?side1 A8.out).mono ?_);(case side1 => first|(with_reducible exact hE)|exact sd_ (LaidE.below hE.out (bb_ HB.out (e_ GE480 e0_))));rintro e w13 ⟨rfl,hb⟩;refine ⟨_,rfl,?_⟩;replace BK480 := kb_ BK480 hb;replace HB := hb_ HB (e_ GE480 e0_) hb;(try clear hb);(try clear hb2);(try clear hk);(try clear hi))|((with_reducible refine gate_dst (N := 5) rfl ?_);refine box_event ?hg (N := 5) ?hd (cs := #[.int .i64 0,.int .i64 0]) (t := 23) ?hr ?_;(case hd => rfl);(case hg => rfl);(case hr => first|(go_simp;done)|(go_simp;rfl));intro gb486 hg w14 hbox hb;have BK486 := sd_ hbox;have GW486 := gw_ HB (e_ GE480 e0_) hg;have GE486 := GW486;have NB480_486 := nb_ BK480 hg;have NB486_480 := sy_ NB480_486;replace BK480 := kb_ BK480 hb;replace HB := hb_ HB (e_ GE480 e0_) hb;clear hb hbox hg;have hnb15 := NB486_480.out;have hnc15 := NB480_486.out;have hcz16_0 : w14.cell? ⟨gb486,0,none⟩ = some (.int .i64 0) := (kc_ BK486.out 0).trans rfl;have hcz16_1 : w14.cell? ⟨gb486,1,none⟩ = some (.int .i64 0) := (kc_ BK486.out 1).trans rfl;have hfz16_0 := kf_ BK486.out 0;have hfz16_1 := kf_ BK486.out 1))
  (try simp only [Act.put,ls_,lz_,lc_])
  go_cut [30] (fun v30 wc => ∃ (kq : Nat) (x30_8 : Bool),v30 = .bool x30_8 ∧ Aside0 (neumelaw02_RatWords.j0 kq a1 x30_8 = some r) ∧ Aside0 (kq ≤ k) ∧ Aside0 (wc.heap[gb480]? = some (.cells #[.int .i64 a0_0,.int .i64 a0_1] 23 (0,0))) ∧ Aside0 (wc.heap[gb486]? = some (.cells #[.int .i64 t483,.int .i64 t484] 23 (0,0))) ∧ Aside0 (Below w.heap.size w wc))
  case first =>
   have H := HC9.out
   clear HC9
   replace H := ob_ H
   obtain ⟨t487,A170,H⟩ := H
   replace H : (if (t485 != t487) = true then (neumelaw02_RatWords.j0 k a1 true) else (if t485 = true then (neumelaw02_RatWords.j0 k a1 (!(t483 == a0_0) || (!(t484 == a0_1)))) else (neumelaw02_RatWords.j0 k a1 false))) = some r := H
   have A17 := sd_ A170
   clear A170
   by_cases c18 : (t485 != t487) = true
   ·rw [if_pos c18] at H
    have c18b0 : (t485 != t487) = true := c18
    (try (have c18b1 : decide (t485 = t487) = false := by simpa using c18))
    (try (have c18b2 : (t485 == t487) = false := by simpa using c18))
    (try (have c18b3 : ¬ (t485 = t487) := by simpa using c18))
    clear c18
    (first|rw [c18b0]|(simp only [i64_w,i32_w];rw [c18b0])|skip)
    have H' := sd_ H
    clear H
    have hnb19 := NB480_486.out
    have hnc19 := NB486_480.out
    have hcz20_0 : w14.cell? ⟨gb480,0,none⟩ = some (.int .i64 a0_0) := (kc_ BK480.out 0).trans rfl
    have hcz20_1 : w14.cell? ⟨gb480,1,none⟩ = some (.int .i64 a0_1) := (kc_ BK480.out 1).trans rfl
    have hfz20_0 := kf_ BK480.out 0
    have hfz20_1 := kf_ BK480.out 1
    go_wp2_with (first|((with_reducible refine gate_callee (f := 29) rfl ?_);refine goesL_ (some 21) rfl rfl Tryd.func29 (by kernel_rfl) rfl #[.agg #[.int .i64 a0_0,.int .i64 a0_1]] rfl (by (try simp only [lm_,lq_,lx_]);first|done|rfl|(simp only [ld_,lt_];rfl)) ?_;(with_reducible refine (rat_Check.calls k a0_0 a0_1 t487 _ A17.out).mono ?_);rintro e w21 ⟨rfl,hb⟩;refine ⟨_,rfl,?_⟩;replace BK480 := sd_ (blk_below (g := gb480) (o := .cells #[.int .i64 a0_0,.int .i64 a0_1] 23 (0,0)) (by (with_reducible repeat first|apply kn_|apply kd_|apply ka_);refine blk_far ?_ NB480_486.out _;(with_reducible repeat first|apply kn_|apply kd_|apply ka_);refine blk_far ?_ NB480_486.out _;(with_reducible repeat first|apply kn_|apply kd_|apply ka_);exact BK480.out) hb);replace BK486 := sd_ (blk_below (g := gb486) (o := .cells #[.int .i64 t483,.int .i64 t484] 23 (0,0)) (by (with_reducible repeat first|apply kn_|apply kd_|apply ka_);refine blk_put (cs := #[.int .i64 t483,.int .i64 0]) ?_ 1 _ rfl;(with_reducible repeat first|apply kn_|apply kd_|apply ka_);refine blk_put (cs := #[.int .i64 0,.int .i64 0]) ?_ 0 _ rfl;(with_reducible repeat first|apply kn_|apply kd_|apply ka_);exact BK486.out) hb);replace HB := hb_ HB (e_ GE480 (e_ GE486 e0_)) hb;(try clear hb);(try clear hb2);(try clear hk);(try clear hi)))
    go_meet
    case rel => exact ⟨_,(true),(by first|rfl|(simp;done)|(simp [*];done)|(simp [bne];done)),H',⟨by first|omega|exact Nat.le_refl _⟩,⟨by (with_reducible repeat first|apply kn_|apply kd_|apply ka_);exact BK480.out⟩,⟨by (with_reducible repeat first|apply kn_|apply kd_|apply ka_);exact BK486.out⟩,⟨by repeat (first|(with_reducible first|exact HB.out|apply ba_|apply pd_|apply d1_|refine bs_ ?_ GE480.out|refine bs_ ?_ GE486.out)|exact HB.out)⟩⟩
   ·rw [if_neg c18] at H
    have c18b0 : (t485 != t487) = false := by simpa using c18
    (try (have c18b1 : decide (t485 = t487) = true := by simpa using c18))
    (try (have c18b2 : (t485 == t487) = true := by simpa using c18))
    clear c18
    (first|rw [c18b0]|(simp only [i64_w,i32_w];rw [c18b0])|skip)
    by_cases c22 : t485 = true
    ·subst c22
     have H1 : (neumelaw02_RatWords.j0 k a1 (!(t483 == a0_0) || (!(t484 == a0_1)))) = some r := by rw [if_pos rfl] at H;exact H
     clear H;have H := H1;clear H1
     have H' := sd_ H
     clear H
     have hnb23 := NB480_486.out
     have hnc23 := NB486_480.out
     have hcz24_0 : w14.cell? ⟨gb480,0,none⟩ = some (.int .i64 a0_0) := (kc_ BK480.out 0).trans rfl
     have hcz24_1 : w14.cell? ⟨gb480,1,none⟩ = some (.int .i64 a0_1) := (kc_ BK480.out 1).trans rfl
     have hfz24_0 := kf_ BK480.out 0
     have hfz24_1 := kf_ BK480.out 1
     go_wp2_with (first|((with_reducible refine gate_callee (f := 29) rfl ?_);refine goesL_ (some 21) rfl rfl Tryd.func29 (by kernel_rfl) rfl #[.agg #[.int .i64 a0_0,.int .i64 a0_1]] rfl (by (try simp only [lm_,lq_,lx_]);first|done|rfl|(simp only [ld_,lt_];rfl)) ?_;(with_reducible refine (rat_Check.calls k a0_0 a0_1 t487 _ A17.out).mono ?_);rintro e w25 ⟨rfl,hb⟩;refine ⟨_,rfl,?_⟩;replace BK480 := sd_ (blk_below (g := gb480) (o := .cells #[.int .i64 a0_0,.int .i64 a0_1] 23 (0,0)) (by (with_reducible repeat first|apply kn_|apply kd_|apply ka_);refine blk_far ?_ NB480_486.out _;(with_reducible repeat first|apply kn_|apply kd_|apply ka_);refine blk_far ?_ NB480_486.out _;(with_reducible repeat first|apply kn_|apply kd_|apply ka_);exact BK480.out) hb);replace BK486 := sd_ (blk_below (g := gb486) (o := .cells #[.int .i64 t483,.int .i64 t484] 23 (0,0)) (by (with_reducible repeat first|apply kn_|apply kd_|apply ka_);refine blk_put (cs := #[.int .i64 t483,.int .i64 0]) ?_ 1 _ rfl;(with_reducible repeat first|apply kn_|apply kd_|apply ka_);refine blk_put (cs := #[.int .i64 0,.int .i64 0]) ?_ 0 _ rfl;(with_reducible repeat first|apply kn_|apply kd_|apply ka_);exact BK486.out) hb);replace HB := hb_ HB (e_ GE480 (e_ GE486 e0_)) hb;(try clear hb);(try clear hb2);(try clear hk);(try clear hi);have hcz26_0 : w25.cell? ⟨gb486,0,none⟩ = some (.int .i64 t483) := (kc_ BK486.out 0).trans rfl;have hcz26_1 : w25.cell? ⟨gb486,1,none⟩ = some (.int .i64 t484) := (kc_ BK486.out 1).trans rfl;have hfz26_0 := kf_ BK486.out 0;have hfz26_1 := kf_ BK486.out 1;have hcz27_0 : w25.cell? ⟨gb480,0,none⟩ = some (.int .i64 a0_0) := (kc_ BK480.out 0).trans rfl;have hcz27_1 : w25.cell? ⟨gb480,1,none⟩ = some (.int .i64 a0_1) := (kc_ BK480.out 1).trans rfl;have hfz27_0 := kf_ BK480.out 0;have hfz27_1 := kf_ BK480.out 1))
     go_meet
     case rel => exact ⟨_,((!(t483 == a0_0) || (!(t484 == a0_1)))),(by first|rfl|(simp;done)|(simp [*];done)|(simp [bne];done)),H',⟨by first|omega|exact Nat.le_refl _⟩,⟨by (with_reducible repeat first|apply kn_|apply kd_|apply ka_);exact BK480.out⟩,⟨by (with_reducible repeat first|apply kn_|apply kd_|apply ka_);exact BK486.out⟩,⟨by repeat (first|(with_reducible first|exact HB.out|apply ba_|apply pd_|apply d1_|refine bs_ ?_ GE480.out|refine bs_ ?_ GE486.out)|exact HB.out)⟩⟩
    ·replace c22 := bf_ c22
     subst c22
     have H1 : (neumelaw02_RatWords.j0 k a1 false) = some r := by rw [if_neg (show ¬ (false = true) by decide)] at H;exact H
     clear H;have H := H1;clear H1
     have H' := sd_ H
     clear H
     have hnb28 := NB480_486.out
     have hnc28 := NB486_480.out
     have hcz29_0 : w14.cell? ⟨gb480,0,none⟩ = some (.int .i64 a0_0) := (kc_ BK480.out 0).trans rfl
     have hcz29_1 : w14.cell? ⟨gb480,1,none⟩ = some (.int .i64 a0_1) := (kc_ BK480.out 1).trans rfl
     have hfz29_0 := kf_ BK480.out 0
     have hfz29_1 := kf_ BK480.out 1
     go_wp2_with (first|((with_reducible refine gate_callee (f := 29) rfl ?_);refine goesL_ (some 21) rfl rfl Tryd.func29 (by kernel_rfl) rfl #[.agg #[.int .i64 a0_0,.int .i64 a0_1]] rfl (by (try simp only [lm_,lq_,lx_]);first|done|rfl|(simp only [ld_,lt_];rfl)) ?_;(with_reducible refine (rat_Check.calls k a0_0 a0_1 t487 _ A17.out).mono ?_);rintro e w30 ⟨rfl,hb⟩;refine ⟨_,rfl,?_⟩;replace BK480 := sd_ (blk_below (g := gb480) (o := .cells #[.int .i64 a0_0,.int .i64 a0_1] 23 (0,0)) (by (with_reducible repeat first|apply kn_|apply kd_|apply ka_);refine blk_far ?_ NB480_486.out _;(with_reducible repeat first|apply kn_|apply kd_|apply ka_);refine blk_far ?_ NB480_486.out _;(with_reducible repeat first|apply kn_|apply kd_|apply ka_);exact BK480.out) hb);replace BK486 := sd_ (blk_below (g := gb486) (o := .cells #[.int .i64 t483,.int .i64 t484] 23 (0,0)) (by (with_reducible repeat first|apply kn_|apply kd_|apply ka_);refine blk_put (cs := #[.int .i64 t483,.int .i64 0]) ?_ 1 _ rfl;(with_reducible repeat first|apply kn_|apply kd_|apply ka_);refine blk_put (cs := #[.int .i64 0,.int .i64 0]) ?_ 0 _ rfl;(with_reducible repeat first|apply kn_|apply kd_|apply ka_);exact BK486.out) hb);replace HB := hb_ HB (e_ GE480 (e_ GE486 e0_)) hb;(try clear hb);(try clear hb2);(try clear hk);(try clear hi)))
     go_meet
     case rel => exact ⟨_,(false),(by first|rfl|(simp;done)|(simp [*];done)|(simp [bne];done)),H',⟨by first|omega|exact Nat.le_refl _⟩,⟨by (with_reducible repeat first|apply kn_|apply kd_|apply ka_);exact BK480.out⟩,⟨by (with_reducible repeat first|apply kn_|apply kd_|apply ka_);exact BK486.out⟩,⟨by repeat (first|(with_reducible first|exact HB.out|apply ba_|apply pd_|apply d1_|refine bs_ ?_ GE480.out|refine bs_ ?_ GE486.out)|exact HB.out)⟩⟩
  case rest =>
   clear HC9
   try clear c1;try clear c2;try clear p2;try clear c3;try clear c3b0;try clear c3b1;try clear c7;try clear c15;try clear c18;try clear c18b0;try clear c18b1;try clear c18b2;try clear c19;try clear c21;try clear c22;try clear c23;try clear c27;try clear c28;try clear c29;try clear hcz11_0;try clear hcz11_1;try clear hcz16_0;try clear hcz16_1;try clear hcz20_0;try clear hcz20_1;try clear hcz24_0;try clear hcz24_1;try clear hcz26_0;try clear hcz26_1;try clear hcz27_0;try clear hcz27_1;try clear hcz29_0;try clear hcz29_1;try clear hfz11_0;try clear hfz11_1;try clear hfz16_0;try clear hfz16_1;try clear hfz20_0;try clear hfz20_1;try clear hfz24_0;try clear hfz24_1;try clear hfz26_0;try clear hfz26_1;try clear hfz27_0;try clear hfz27_1;try clear hfz29_0;try clear hfz29_1
   obtain ⟨kq,x30_8,rfl,HA,HJ8,BK480,BK486,HB⟩ := hcut
   cases kq with
   | zero => exact absurd HA.out (by simp [neumelaw02_RatWords.j0])
   | succ kj8 =>
    have H := HA.out
    clear HA
    simp only [neumelaw02_RatWords.j0] at H
    by_cases c31 : x30_8 = true
    ·subst c31
     have H1 : (some false) = some r := by rw [if_pos rfl] at H;exact H
     clear H;have H := H1;clear H1
     exact absurd ((Option.some.inj H).trans hxt.out) (by decide)
    ·replace c31 := bf_ c31
     subst c31
     have H1 : ((rat_Parse.f kj8 a1).bind fun bt488 => (if bt488.2.2 = true then ((rat_Text.f kj8 bt488.1 bt488.2.1).bind fun t492 => (if t492.toList = a1.toList then ((rat_Check.f kj8 bt488.1 bt488.2.1).bind fun t493 => (if t493 = true then ((neumelaw02_heads.f kj8).bind fun t494 => (some t494)) else (some false))) else (some false))) else ((neumelaw02_heads.f kj8).bind fun t495 => (some t495)))) = some r := by rw [if_neg (show ¬ (false = true) by decide)] at H;exact H
     clear H;have H := H1;clear H1
     replace H := ob_ H
     obtain ⟨⟨t488,t489,t490⟩,A320,H⟩ := H
     replace H : (if t490 = true then ((rat_Text.f kj8 t488 t489).bind fun t492 => (if t492.toList = a1.toList then ((rat_Check.f kj8 t488 t489).bind fun t493 => (if t493 = true then ((neumelaw02_heads.f kj8).bind fun t494 => (some t494)) else (some false))) else (some false))) else ((neumelaw02_heads.f kj8).bind fun t495 => (some t495))) = some r := H
     have A32 := sd_ A320
     clear A320
     by_cases c33 : t490 = true
     ·subst c33
      have H1 : ((rat_Text.f kj8 t488 t489).bind fun t492 => (if t492.toList = a1.toList then ((rat_Check.f kj8 t488 t489).bind fun t493 => (if t493 = true then ((neumelaw02_heads.f kj8).bind fun t494 => (some t494)) else (some false))) else (some false))) = some r := by rw [if_pos rfl] at H;exact H
      clear H;have H := H1;clear H1
      replace H := ob_ H
      obtain ⟨t492,A340,H⟩ := H
      replace H : (if t492.toList = a1.toList then ((rat_Check.f kj8 t488 t489).bind fun t493 => (if t493 = true then ((neumelaw02_heads.f kj8).bind fun t494 => (some t494)) else (some false))) else (some false)) = some r := H
      have A34 := sd_ A340
      clear A340
      by_cases c35 : t492.toList = a1.toList
      ·rw [if_pos c35] at H
       have c35b0 : (t492.toList == a1.toList) = true := beq_iff_eq.mpr c35
       have c35b1 : (t492.toList != a1.toList) = false := bne_eq_false_iff_eq.mpr c35
       clear c35
       replace H := ob_ H
       obtain ⟨t493,A360,H⟩ := H
       replace H : (if t493 = true then ((neumelaw02_heads.f kj8).bind fun t494 => (some t494)) else (some false)) = some r := H
       have A36 := sd_ A360
       clear A360
       by_cases c37 : t493 = true
       ·subst c37
        have H1 : ((neumelaw02_heads.f kj8).bind fun t494 => (some t494)) = some r := by rw [if_pos rfl] at H;exact H
        clear H;have H := H1;clear H1
        replace H := ob_ H
        obtain ⟨t494,A380,H⟩ := H
        replace H : (some t494) = some r := H
        have A38 := sd_ A380
        clear A380
        obtain rfl := Option.some.inj H
        go_wp2_with (first|((with_reducible refine gate_callee (f := 21) rfl ?_);refine goesL_ (some 33) rfl rfl Tryd.func21 (by kernel_rfl) rfl #[.string a1] rfl (by (try simp only [lm_,lq_,lx_]);first|done|rfl|(simp only [ld_,lt_];rfl)) ?_;(with_reducible refine (rat_Parse.calls kj8 a1 t488 t489 true _ ?side1 A32.out).mono ?_);(case side1 => first|(with_reducible exact hE)|exact sd_ (LaidE.below hE.out (bb_ HB.out (e_ GE480 (e_ GE486 e0_)))));rintro e w39 ⟨rfl,hb⟩;refine ⟨_,rfl,?_⟩;replace BK480 := kb_ BK480 hb;replace BK486 := kb_ BK486 hb;replace HB := hb_ HB (e_ GE480 (e_ GE486 e0_)) hb;(try clear hb);(try clear hb2);(try clear hk);(try clear hi))|((with_reducible refine gate_dst (N := 7) rfl ?_);refine box_event ?hg (N := 7) ?hd (cs := #[.int .i64 0,.int .i64 0]) (t := 23) ?hr ?_;(case hd => rfl);(case hg => rfl);(case hr => first|(go_simp;done)|(go_simp;rfl));intro gb491 hg w40 hbox hb;have BK491 := sd_ hbox;have GW491 := gw_ HB (e_ GE480 (e_ GE486 e0_)) hg;have GE491 := GW491;have NB480_491 := nb_ BK480 hg;have NB491_480 := sy_ NB480_491;have NB486_491 := nb_ BK486 hg;have NB491_486 := sy_ NB486_491;replace BK480 := kb_ BK480 hb;replace BK486 := kb_ BK486 hb;replace HB := hb_ HB (e_ GE480 (e_ GE486 e0_)) hb;clear hb hbox hg;have hnb41 := NB491_480.out;have hnc41 := NB480_491.out;have hnb42 := NB491_486.out;have hnc42 := NB486_491.out;have hcz43_0 : w40.cell? ⟨gb491,0,none⟩ = some (.int .i64 0) := (kc_ BK491.out 0).trans rfl;have hcz43_1 : w40.cell? ⟨gb491,1,none⟩ = some (.int .i64 0) := (kc_ BK491.out 1).trans rfl;have hfz43_0 := kf_ BK491.out 0;have hfz43_1 := kf_ BK491.out 1)|(go_at_call 27;(with_reducible refine (rat_Text.calls kj8 t488 t489 t492 _ ?side1 A34.out).mono ?_);(case side1 => first|(with_reducible exact hE)|exact sd_ (LaidE.below hE.out (bb_ HB.out (e_ GE480 (e_ GE486 (e_ GE491 e0_))))));rintro e w44 ⟨rfl,hb⟩;replace BK480 := sd_ (blk_below (g := gb480) (o := .cells #[.int .i64 a0_0,.int .i64 a0_1] 23 (0,0)) (by (with_reducible repeat first|apply kn_|apply kd_|apply ka_);refine blk_far ?_ NB480_491.out _;(with_reducible repeat first|apply kn_|apply kd_|apply ka_);refine blk_far ?_ NB480_491.out _;(with_reducible repeat first|apply kn_|apply kd_|apply ka_);exact BK480.out) hb);replace BK486 := sd_ (blk_below (g := gb486) (o := .cells #[.int .i64 t483,.int .i64 t484] 23 (0,0)) (by (with_reducible repeat first|apply kn_|apply kd_|apply ka_);refine blk_far ?_ NB486_491.out _;(with_reducible repeat first|apply kn_|apply kd_|apply ka_);refine blk_far ?_ NB486_491.out _;(with_reducible repeat first|apply kn_|apply kd_|apply ka_);exact BK486.out) hb);replace BK491 := sd_ (blk_below (g := gb491) (o := .cells #[.int .i64 t488,.int .i64 t489] 23 (0,0)) (by (with_reducible repeat first|apply kn_|apply kd_|apply ka_);refine blk_put (cs := #[.int .i64 t488,.int .i64 0]) ?_ 1 _ rfl;(with_reducible repeat first|apply kn_|apply kd_|apply ka_);refine blk_put (cs := #[.int .i64 0,.int .i64 0]) ?_ 0 _ rfl;(with_reducible repeat first|apply kn_|apply kd_|apply ka_);exact BK491.out) hb);replace HB := hb_ HB (e_ GE480 (e_ GE486 (e_ GE491 e0_))) hb;(try clear hb);(try clear hb2);(try clear hk);(try clear hi);have hcz45_0 : w44.cell? ⟨gb491,0,none⟩ = some (.int .i64 t488) := (kc_ BK491.out 0).trans rfl;have hcz45_1 : w44.cell? ⟨gb491,1,none⟩ = some (.int .i64 t489) := (kc_ BK491.out 1).trans rfl;have hfz45_0 := kf_ BK491.out 0;have hfz45_1 := kf_ BK491.out 1)|(go_at_call 29;(with_reducible refine (rat_Check.calls kj8 t488 t489 true _ A36.out).mono ?_);rintro e w46 ⟨rfl,hb⟩;replace BK480 := kb_ BK480 hb;replace BK486 := kb_ BK486 hb;replace BK491 := kb_ BK491 hb;replace HB := hb_ HB (e_ GE480 (e_ GE486 (e_ GE491 e0_))) hb;(try clear hb);(try clear hb2);(try clear hk);(try clear hi))|(go_at_call 18;(with_reducible refine (neumelaw02_heads.calls kj8  t494 _ ?side1 A38.out).mono ?_);(case side1 => first|(with_reducible exact hE)|exact sd_ (LaidE.below hE.out (bb_ HB.out (e_ GE480 (e_ GE486 (e_ GE491 e0_))))));rintro e w47 ⟨rfl,hb⟩;replace BK480 := kb_ BK480 hb;replace BK486 := kb_ BK486 hb;replace BK491 := kb_ BK491 hb;replace HB := hb_ HB (e_ GE480 (e_ GE486 (e_ GE491 e0_))) hb;(try clear hb);(try clear hb2);(try clear hk);(try clear hi)))
        go_ret
        exact ⟨by first|rfl|(simp [errW_none,errW_some] <;> rfl)|(simp [*,errW_none,errW_some] <;> rfl),by repeat (first|(with_reducible first|exact HB.out|apply ba_|apply pd_|apply d1_|refine bs_ ?_ GE480.out|refine bs_ ?_ GE486.out|refine bs_ ?_ GE491.out)|exact HB.out)⟩
       ·replace c37 := bf_ c37
        subst c37
        have H1 : (some false) = some r := by rw [if_neg (show ¬ (false = true) by decide)] at H;exact H
        clear H;have H := H1;clear H1
        exact absurd ((Option.some.inj H).trans hxt.out) (by decide)
      ·rw [if_neg c35] at H
       have c35b0 : (t492.toList == a1.toList) = false := beq_eq_false_iff_ne.mpr c35
       have c35b1 : (t492.toList != a1.toList) = true := bne_iff_ne.mpr c35
       exact absurd ((Option.some.inj H).trans hxt.out) (by decide)
     ·replace c33 := bf_ c33
      subst c33
      have H1 : ((neumelaw02_heads.f kj8).bind fun t495 => (some t495)) = some r := by rw [if_neg (show ¬ (false = true) by decide)] at H;exact H
      clear H;have H := H1;clear H1
      replace H := ob_ H
      obtain ⟨t495,A480,H⟩ := H
      replace H : (some t495) = some r := H
      have A48 := sd_ A480
      clear A480
      obtain rfl := Option.some.inj H
      go_wp2_with (first|((with_reducible refine gate_callee (f := 21) rfl ?_);refine goesL_ (some 33) rfl rfl Tryd.func21 (by kernel_rfl) rfl #[.string a1] rfl (by (try simp only [lm_,lq_,lx_]);first|done|rfl|(simp only [ld_,lt_];rfl)) ?_;(with_reducible refine (rat_Parse.calls kj8 a1 t488 t489 false _ ?side1 A32.out).mono ?_);(case side1 => first|(with_reducible exact hE)|exact sd_ (LaidE.below hE.out (bb_ HB.out (e_ GE480 (e_ GE486 e0_)))));rintro e w49 ⟨rfl,hb⟩;refine ⟨_,rfl,?_⟩;replace BK480 := kb_ BK480 hb;replace BK486 := kb_ BK486 hb;replace HB := hb_ HB (e_ GE480 (e_ GE486 e0_)) hb;(try clear hb);(try clear hb2);(try clear hk);(try clear hi))|((with_reducible refine gate_dst (N := 7) rfl ?_);refine box_event ?hg (N := 7) ?hd (cs := #[.int .i64 0,.int .i64 0]) (t := 23) ?hr ?_;(case hd => rfl);(case hg => rfl);(case hr => first|(go_simp;done)|(go_simp;rfl));intro gb491 hg w50 hbox hb;have BK491 := sd_ hbox;have GW491 := gw_ HB (e_ GE480 (e_ GE486 e0_)) hg;have GE491 := GW491;have NB480_491 := nb_ BK480 hg;have NB491_480 := sy_ NB480_491;have NB486_491 := nb_ BK486 hg;have NB491_486 := sy_ NB486_491;replace BK480 := kb_ BK480 hb;replace BK486 := kb_ BK486 hb;replace HB := hb_ HB (e_ GE480 (e_ GE486 e0_)) hb;clear hb hbox hg;have hnb51 := NB491_480.out;have hnc51 := NB480_491.out;have hnb52 := NB491_486.out;have hnc52 := NB486_491.out;have hcz53_0 : w50.cell? ⟨gb491,0,none⟩ = some (.int .i64 0) := (kc_ BK491.out 0).trans rfl;have hcz53_1 : w50.cell? ⟨gb491,1,none⟩ = some (.int .i64 0) := (kc_ BK491.out 1).trans rfl;have hfz53_0 := kf_ BK491.out 0;have hfz53_1 := kf_ BK491.out 1)|(go_at_call 18;(with_reducible refine (neumelaw02_heads.calls kj8  t495 _ ?side1 A48.out).mono ?_);(case side1 => first|(with_reducible exact hE)|exact sd_ (LaidE.below hE.out (bb_ HB.out (e_ GE480 (e_ GE486 (e_ GE491 e0_))))));rintro e w54 ⟨rfl,hb⟩;replace BK480 := sd_ (blk_below (g := gb480) (o := .cells #[.int .i64 a0_0,.int .i64 a0_1] 23 (0,0)) (by (with_reducible repeat first|apply kn_|apply kd_|apply ka_);refine blk_far ?_ NB480_491.out _;(with_reducible repeat first|apply kn_|apply kd_|apply ka_);refine blk_far ?_ NB480_491.out _;(with_reducible repeat first|apply kn_|apply kd_|apply ka_);exact BK480.out) hb);replace BK486 := sd_ (blk_below (g := gb486) (o := .cells #[.int .i64 t483,.int .i64 t484] 23 (0,0)) (by (with_reducible repeat first|apply kn_|apply kd_|apply ka_);refine blk_far ?_ NB486_491.out _;(with_reducible repeat first|apply kn_|apply kd_|apply ka_);refine blk_far ?_ NB486_491.out _;(with_reducible repeat first|apply kn_|apply kd_|apply ka_);exact BK486.out) hb);replace BK491 := sd_ (blk_below (g := gb491) (o := .cells #[.int .i64 t488,.int .i64 t489] 23 (0,0)) (by (with_reducible repeat first|apply kn_|apply kd_|apply ka_);refine blk_put (cs := #[.int .i64 t488,.int .i64 0]) ?_ 1 _ rfl;(with_reducible repeat first|apply kn_|apply kd_|apply ka_);refine blk_put (cs := #[.int .i64 0,.int .i64 0]) ?_ 0 _ rfl;(with_reducible repeat first|apply kn_|apply kd_|apply ka_);exact BK491.out) hb);replace HB := hb_ HB (e_ GE480 (e_ GE486 (e_ GE491 e0_))) hb;(try clear hb);(try clear hb2);(try clear hk);(try clear hi)))
      go_ret
      exact ⟨by first|rfl|(simp [errW_none,errW_some] <;> rfl)|(simp [*,errW_none,errW_some] <;> rfl),by repeat (first|(with_reducible first|exact HB.out|apply ba_|apply pd_|apply d1_|refine bs_ ?_ GE480.out|refine bs_ ?_ GE486.out|refine bs_ ?_ GE491.out)|exact HB.out)⟩

end Go.Proofs.YtmbdbinbdiiapaaDoor.P
