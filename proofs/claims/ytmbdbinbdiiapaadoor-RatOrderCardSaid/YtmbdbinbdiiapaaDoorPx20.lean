-- Written by a program of this session (wip/tools/xprint.py, over the kit's print): Lean checks it.
import Derived.Test.YtmbdbinbdiiapaaDoorPx0
import Derived.Test.YtmbdbinbdiiapaaDoorPx1
import Derived.Test.YtmbdbinbdiiapaaDoorPx2
import Derived.Test.YtmbdbinbdiiapaaDoorPx3
import Derived.Test.YtmbdbinbdiiapaaDoorPx5
import Derived.Test.YtmbdbinbdiiapaaDoorPx6
namespace Go.Proofs.YtmbdbinbdiiapaaDoor.P
open Go.RowKit Go.Proofs.YtmbdbinbdiiapaaDoorW.PrintWords Go.Proofs.YtmbdbinbdiiapaaDoorW.PrintLast Go.Proofs.YtmbdbinbdiiapaaDoorW.PrintMore
attribute [local go_sem] max2_int min2_int max_two min_two max_three min_three max_four min_four   -- for this text's walks alone
set_option linter.unusedVariables false
set_option linter.unusedSimpArgs false

attribute [local go_sem high] eqA23
/-! ### neumelaw02_RatOrder: function 6 -/
mutual
def neumelaw02_RatOrder.j0 : Nat → Bool → Int → Int → Int → Int → Int → Int → Option (Bool)
 | 0, _, _, _, _, _, _, _ => none
 | k + 1, x25, x458000, x458001, x459000, x459001, x460000, x460001 => if x25 = true then ((neumelaw02_heads.f k).bind fun t463 => (some t463)) else ((rat_Cmp.f k x458000 x458001 x459000 x459001).bind fun t464 => ((rat_Cmp.f k x459000 x459001 x458000 x458001).bind fun t465 => (if t464 = (wrap64 (-t465)) then (neumelaw02_RatOrder.j1 k t464 ((t464 == 0) != (x458000 == x459000 && (x458001 == x459001))) x458000 x458001 x459000 x459001 x460000 x460001) else (neumelaw02_RatOrder.j1 k t464 true x458000 x458001 x459000 x459001 x460000 x460001))))
def neumelaw02_RatOrder.j1 : Nat → Int → Bool → Int → Int → Int → Int → Int → Int → Option (Bool)
 | 0, _, _, _, _, _, _, _, _ => none
 | k + 1, x7, x43, x458000, x458001, x459000, x459001, x460000, x460001 => if x43 = true then (some false) else ((rat_Add.f k x458000 x458001 x460000 x460001).bind fun bt466 => ((rat_Add.f k x459000 x459001 x460000 x460001).bind fun bt470 => (if bt466.2.2 = 0 then (if bt470.2.2 = 0 then ((rat_Cmp.f k bt466.1 bt466.2.1 bt470.1 bt470.2.1).bind fun t474 => (neumelaw02_RatOrder.j2 k (t474 != x7) x458000 x458001)) else (neumelaw02_RatOrder.j2 k false x458000 x458001)) else (neumelaw02_RatOrder.j2 k false x458000 x458001))))
def neumelaw02_RatOrder.j2 : Nat → Bool → Int → Int → Option (Bool)
 | 0, _, _, _ => none
 | k + 1, x68, x458000, x458001 => if x68 = true then (some false) else ((rat_Floor.f k x458000 x458001).bind fun t475 => ((rat_Cmp.f k t475 1 x458000 x458001).bind fun t476 => (if t476 ≤ 0 then (if t475 = 1099511627776 then ((neumelaw02_heads.f k).bind fun t477 => (some t477)) else ((rat_Cmp.f k x458000 x458001 (wrap64 (t475 + 1)) 1).bind fun t478 => (if t478 < 0 then ((neumelaw02_heads.f k).bind fun t479 => (some t479)) else (some false)))) else (some false))))
end
def neumelaw02_RatOrder.f (k : Nat) (a0_0 : Int) (a0_1 : Int) (a1_0 : Int) (a1_1 : Int) (a2_0 : Int) (a2_1 : Int) : Option (Bool) := (rat_Check.f k a0_0 a0_1).bind fun t460 => (if t460 = true then ((rat_Check.f k a1_0 a1_1).bind fun t461 => (if t461 = true then ((rat_Check.f k a2_0 a2_1).bind fun t462 => (neumelaw02_RatOrder.j0 k (!t462) a0_0 a0_1 a1_0 a1_1 a2_0 a2_1)) else (neumelaw02_RatOrder.j0 k true a0_0 a0_1 a1_0 a1_1 a2_0 a2_1))) else (neumelaw02_RatOrder.j0 k true a0_0 a0_1 a1_0 a1_1 a2_0 a2_1))
theorem neumelaw02_RatOrder.mono_l : ∀ k, (∀ y0 y1 y2 y3 y4 y5 y6, LeO (neumelaw02_RatOrder.j0 k y0 y1 y2 y3 y4 y5 y6) (neumelaw02_RatOrder.j0 (k + 1) y0 y1 y2 y3 y4 y5 y6)) ∧ (∀ y0 y1 y2 y3 y4 y5 y6 y7, LeO (neumelaw02_RatOrder.j1 k y0 y1 y2 y3 y4 y5 y6 y7) (neumelaw02_RatOrder.j1 (k + 1) y0 y1 y2 y3 y4 y5 y6 y7)) ∧ (∀ y0 y1 y2, LeO (neumelaw02_RatOrder.j2 k y0 y1 y2) (neumelaw02_RatOrder.j2 (k + 1) y0 y1 y2))
 | 0 => ⟨fun _ _ _ _ _ _ _ r h => by simp [neumelaw02_RatOrder.j0] at h, fun _ _ _ _ _ _ _ _ r h => by simp [neumelaw02_RatOrder.j1] at h, fun _ _ _ r h => by simp [neumelaw02_RatOrder.j2] at h⟩
 | k + 1 => by
  obtain ⟨ih0,ih1,ih2⟩ := neumelaw02_RatOrder.mono_l k
  refine ⟨?_,?_,?_⟩
  ·intro y0 y1 y2 y3 y4 y5 y6
   unfold neumelaw02_RatOrder.j0
   repeat' first
   | (with_reducible exact ih0 _ _ _ _ _ _ _)
   | (with_reducible exact ih1 _ _ _ _ _ _ _ _)
   | (with_reducible exact ih2 _ _ _)
   | (with_reducible exact neumelaw02_heads.mono _)
   | (with_reducible exact rat_Add.mono _ _ _ _ _)
   | (with_reducible exact rat_Check.mono _ _ _)
   | (with_reducible exact rat_Cmp.mono _ _ _ _ _)
   | (with_reducible exact rat_Floor.mono _ _ _)
   | (with_reducible exact LeO.refl _)
   | (with_reducible exact LeO.none _)
   | (with_reducible refine LeO.ite ?_ ?_)
   | (with_reducible refine LeO.bind ?_ (fun _ => ?_))
   | exact ih0 _ _ _ _ _ _ _
   | exact ih1 _ _ _ _ _ _ _ _
   | exact ih2 _ _ _
   | exact neumelaw02_heads.mono _
   | exact rat_Add.mono _ _ _ _ _
   | exact rat_Check.mono _ _ _
   | exact rat_Cmp.mono _ _ _ _ _
   | exact rat_Floor.mono _ _ _
   | exact LeO.none _
   | refine LeO.ite ?_ ?_
   | refine LeO.bind ?_ (fun _ => ?_)
  ·intro y0 y1 y2 y3 y4 y5 y6 y7
   unfold neumelaw02_RatOrder.j1
   repeat' first
   | (with_reducible exact ih0 _ _ _ _ _ _ _)
   | (with_reducible exact ih1 _ _ _ _ _ _ _ _)
   | (with_reducible exact ih2 _ _ _)
   | (with_reducible exact neumelaw02_heads.mono _)
   | (with_reducible exact rat_Add.mono _ _ _ _ _)
   | (with_reducible exact rat_Check.mono _ _ _)
   | (with_reducible exact rat_Cmp.mono _ _ _ _ _)
   | (with_reducible exact rat_Floor.mono _ _ _)
   | (with_reducible exact LeO.refl _)
   | (with_reducible exact LeO.none _)
   | (with_reducible refine LeO.ite ?_ ?_)
   | (with_reducible refine LeO.bind ?_ (fun _ => ?_))
   | exact ih0 _ _ _ _ _ _ _
   | exact ih1 _ _ _ _ _ _ _ _
   | exact ih2 _ _ _
   | exact neumelaw02_heads.mono _
   | exact rat_Add.mono _ _ _ _ _
   | exact rat_Check.mono _ _ _
   | exact rat_Cmp.mono _ _ _ _ _
   | exact rat_Floor.mono _ _ _
   | exact LeO.none _
   | refine LeO.ite ?_ ?_
   | refine LeO.bind ?_ (fun _ => ?_)
  ·intro y0 y1 y2
   unfold neumelaw02_RatOrder.j2
   repeat' first
   | (with_reducible exact ih0 _ _ _ _ _ _ _)
   | (with_reducible exact ih1 _ _ _ _ _ _ _ _)
   | (with_reducible exact ih2 _ _ _)
   | (with_reducible exact neumelaw02_heads.mono _)
   | (with_reducible exact rat_Add.mono _ _ _ _ _)
   | (with_reducible exact rat_Check.mono _ _ _)
   | (with_reducible exact rat_Cmp.mono _ _ _ _ _)
   | (with_reducible exact rat_Floor.mono _ _ _)
   | (with_reducible exact LeO.refl _)
   | (with_reducible exact LeO.none _)
   | (with_reducible refine LeO.ite ?_ ?_)
   | (with_reducible refine LeO.bind ?_ (fun _ => ?_))
   | exact ih0 _ _ _ _ _ _ _
   | exact ih1 _ _ _ _ _ _ _ _
   | exact ih2 _ _ _
   | exact neumelaw02_heads.mono _
   | exact rat_Add.mono _ _ _ _ _
   | exact rat_Check.mono _ _ _
   | exact rat_Cmp.mono _ _ _ _ _
   | exact rat_Floor.mono _ _ _
   | exact LeO.none _
   | refine LeO.ite ?_ ?_
   | refine LeO.bind ?_ (fun _ => ?_)
theorem neumelaw02_RatOrder.mono : ∀ a0 a1 a2 a3 a4 a5 k, LeO (neumelaw02_RatOrder.f k a0 a1 a2 a3 a4 a5) (neumelaw02_RatOrder.f (k + 1) a0 a1 a2 a3 a4 a5) := by
 intro a0 a1 a2 a3 a4 a5 k
 obtain ⟨ih0,ih1,ih2⟩ := neumelaw02_RatOrder.mono_l k
 unfold neumelaw02_RatOrder.f
 repeat' first
   | (with_reducible exact ih0 _ _ _ _ _ _ _)
   | (with_reducible exact ih1 _ _ _ _ _ _ _ _)
   | (with_reducible exact ih2 _ _ _)
   | (with_reducible exact neumelaw02_heads.mono _)
   | (with_reducible exact rat_Add.mono _ _ _ _ _)
   | (with_reducible exact rat_Check.mono _ _ _)
   | (with_reducible exact rat_Cmp.mono _ _ _ _ _)
   | (with_reducible exact rat_Floor.mono _ _ _)
   | (with_reducible exact LeO.refl _)
   | (with_reducible exact LeO.none _)
   | (with_reducible refine LeO.ite ?_ ?_)
   | (with_reducible refine LeO.bind ?_ (fun _ => ?_))
   | exact ih0 _ _ _ _ _ _ _
   | exact ih1 _ _ _ _ _ _ _ _
   | exact ih2 _ _ _
   | exact neumelaw02_heads.mono _
   | exact rat_Add.mono _ _ _ _ _
   | exact rat_Check.mono _ _ _
   | exact rat_Cmp.mono _ _ _ _ _
   | exact rat_Floor.mono _ _ _
   | exact LeO.none _
   | refine LeO.ite ?_ ?_
   | refine LeO.bind ?_ (fun _ => ?_)
set_option maxHeartbeats 8000000 in
set_option maxRecDepth 100000 in
theorem neumelaw02_RatOrder.calls (k : Nat) (a0_0 : Int) (a0_1 : Int) (a1_0 : Int) (a1_1 : Int) (a2_0 : Int) (a2_1 : Int) (r : Bool) (w : World) (hE : Aside0 (LaidE w)) (hxt : Aside0 (r = true)) (h : neumelaw02_RatOrder.f k a0_0 a0_1 a1_0 a1_1 a2_0 a2_1 = some r) :
  Calls Tryd.prog 6 #[.agg #[.int .i64 a0_0,.int .i64 a0_1],.agg #[.int .i64 a1_0,.int .i64 a1_1],.agg #[.int .i64 a2_0,.int .i64 a2_1]] w fun e w' => e = .returned (.bool r) ∧ Below w.heap.size w w' := by
 have hu23 := Tryd.underlying23
 have HB := sd_ (Below.refl w.heap.size w)
 have H : ((rat_Check.f k a0_0 a0_1).bind fun t460 => (if t460 = true then ((rat_Check.f k a1_0 a1_1).bind fun t461 => (if t461 = true then ((rat_Check.f k a2_0 a2_1).bind fun t462 => (neumelaw02_RatOrder.j0 k (!t462) a0_0 a0_1 a1_0 a1_1 a2_0 a2_1)) else (neumelaw02_RatOrder.j0 k true a0_0 a0_1 a1_0 a1_1 a2_0 a2_1))) else (neumelaw02_RatOrder.j0 k true a0_0 a0_1 a1_0 a1_1 a2_0 a2_1))) = some r := h
 clear h
 have HC4 := sd_ H
 clear H
 go_enter Tryd.func6,Tryd.ntmps6
 go_upto_region 1 with (first|((with_reducible refine gate_dst (N := 3) rfl ?_);refine box_event ?hg (N := 3) ?hd (cs := #[.int .i64 a0_0,.int .i64 a0_1]) (t := 23) ?hr ?_;(case hd => rfl);(case hg => rfl);(case hr => first|(go_simp;done)|(go_simp;rfl));intro gb457 hg w5 hbox hb;have BK457 := sd_ hbox;have GW457 := gw_ HB e0_ hg;have GE457 := GW457;replace HB := hb_ HB e0_ hb;clear hb hbox hg)|((with_reducible refine gate_dst (N := 4) rfl ?_);refine box_event ?hg (N := 4) ?hd (cs := #[.int .i64 a1_0,.int .i64 a1_1]) (t := 23) ?hr ?_;(case hd => rfl);(case hg => rfl);(case hr => first|(go_simp;done)|(go_simp;rfl));intro gb458 hg w6 hbox hb;have BK458 := sd_ hbox;have GW458 := gw_ HB (e_ GE457 e0_) hg;have GE458 := GW458;have NB457_458 := nb_ BK457 hg;have NB458_457 := sy_ NB457_458;replace BK457 := kb_ BK457 hb;replace HB := hb_ HB (e_ GE457 e0_) hb;clear hb hbox hg)|((with_reducible refine gate_dst (N := 5) rfl ?_);refine box_event ?hg (N := 5) ?hd (cs := #[.int .i64 a2_0,.int .i64 a2_1]) (t := 23) ?hr ?_;(case hd => rfl);(case hg => rfl);(case hr => first|(go_simp;done)|(go_simp;rfl));intro gb459 hg w7 hbox hb;have BK459 := sd_ hbox;have GW459 := gw_ HB (e_ GE457 (e_ GE458 e0_)) hg;have GE459 := GW459;have NB457_459 := nb_ BK457 hg;have NB459_457 := sy_ NB457_459;have NB458_459 := nb_ BK458 hg;have NB459_458 := sy_ NB458_459;replace BK457 := kb_ BK457 hb;replace BK458 := kb_ BK458 hb;replace HB := hb_ HB (e_ GE457 (e_ GE458 e0_)) hb;clear hb hbox hg))
 (try simp only [Act.put,ls_,lz_,lc_])
 go_cut [25] (fun v25 wc => ∃ (kq : Nat) (x25_3 : Bool),v25 = .bool x25_3 ∧ Aside0 (neumelaw02_RatOrder.j0 kq x25_3 a0_0 a0_1 a1_0 a1_1 a2_0 a2_1 = some r) ∧ Aside0 (kq ≤ k) ∧ Aside0 (wc.heap[gb457]? = some (.cells #[.int .i64 a0_0,.int .i64 a0_1] 23 (0,0))) ∧ Aside0 (wc.heap[gb458]? = some (.cells #[.int .i64 a1_0,.int .i64 a1_1] 23 (0,0))) ∧ Aside0 (wc.heap[gb459]? = some (.cells #[.int .i64 a2_0,.int .i64 a2_1] 23 (0,0))) ∧ Aside0 (Below w.heap.size w wc))
 case first =>
  have H := HC4.out
  clear HC4
  replace H := ob_ H
  obtain ⟨t460,A80,H⟩ := H
  replace H : (if t460 = true then ((rat_Check.f k a1_0 a1_1).bind fun t461 => (if t461 = true then ((rat_Check.f k a2_0 a2_1).bind fun t462 => (neumelaw02_RatOrder.j0 k (!t462) a0_0 a0_1 a1_0 a1_1 a2_0 a2_1)) else (neumelaw02_RatOrder.j0 k true a0_0 a0_1 a1_0 a1_1 a2_0 a2_1))) else (neumelaw02_RatOrder.j0 k true a0_0 a0_1 a1_0 a1_1 a2_0 a2_1)) = some r := H
  have A8 := sd_ A80
  clear A80
  by_cases c9 : t460 = true
  ·subst c9
   have H1 : ((rat_Check.f k a1_0 a1_1).bind fun t461 => (if t461 = true then ((rat_Check.f k a2_0 a2_1).bind fun t462 => (neumelaw02_RatOrder.j0 k (!t462) a0_0 a0_1 a1_0 a1_1 a2_0 a2_1)) else (neumelaw02_RatOrder.j0 k true a0_0 a0_1 a1_0 a1_1 a2_0 a2_1))) = some r := by rw [if_pos rfl] at H;exact H
   clear H;have H := H1;clear H1
   replace H := ob_ H
   obtain ⟨t461,A100,H⟩ := H
   replace H : (if t461 = true then ((rat_Check.f k a2_0 a2_1).bind fun t462 => (neumelaw02_RatOrder.j0 k (!t462) a0_0 a0_1 a1_0 a1_1 a2_0 a2_1)) else (neumelaw02_RatOrder.j0 k true a0_0 a0_1 a1_0 a1_1 a2_0 a2_1)) = some r := H
   have A10 := sd_ A100
   clear A100
   by_cases c11 : t461 = true
   ·subst c11
    have H1 : ((rat_Check.f k a2_0 a2_1).bind fun t462 => (neumelaw02_RatOrder.j0 k (!t462) a0_0 a0_1 a1_0 a1_1 a2_0 a2_1)) = some r := by rw [if_pos rfl] at H;exact H
    clear H;have H := H1;clear H1
    replace H := ob_ H
    obtain ⟨t462,A120,H⟩ := H
    replace H : (neumelaw02_RatOrder.j0 k (!t462) a0_0 a0_1 a1_0 a1_1 a2_0 a2_1) = some r := H
    have A12 := sd_ A120
    clear A120
    have H' := sd_ H
    clear H
    have hnb13 := NB457_458.out
    have hnc13 := NB458_457.out
    have hnb14 := NB457_459.out
    have hnc14 := NB459_457.out
    have hcz15_0 : w7.cell? ⟨gb457,0,none⟩ = some (.int .i64 a0_0) := (kc_ BK457.out 0).trans rfl
    have hcz15_1 : w7.cell? ⟨gb457,1,none⟩ = some (.int .i64 a0_1) := (kc_ BK457.out 1).trans rfl
    have hfz15_0 := kf_ BK457.out 0
    have hfz15_1 := kf_ BK457.out 1
    go_wp2_with (first|((with_reducible refine gate_callee (f := 29) rfl ?_);refine goesL_ (some 14) rfl rfl Tryd.func29 (by kernel_rfl) rfl #[.agg #[.int .i64 a0_0,.int .i64 a0_1]] rfl (by (try simp only [lm_,lq_,lx_]);first|done|rfl|(simp only [ld_,lt_];rfl)) ?_;(with_reducible refine (rat_Check.calls k a0_0 a0_1 true _ A8.out).mono ?_);rintro e w16 ⟨rfl,hb⟩;refine ⟨_,rfl,?_⟩;replace BK457 := kb_ BK457 hb;replace BK458 := kb_ BK458 hb;replace BK459 := kb_ BK459 hb;replace HB := hb_ HB (e_ GE457 (e_ GE458 (e_ GE459 e0_))) hb;(try clear hb);(try clear hb2);(try clear hk);(try clear hi);have hnb17 := NB458_459.out;have hnc17 := NB459_458.out;have hcz18_0 : w16.cell? ⟨gb458,0,none⟩ = some (.int .i64 a1_0) := (kc_ BK458.out 0).trans rfl;have hcz18_1 : w16.cell? ⟨gb458,1,none⟩ = some (.int .i64 a1_1) := (kc_ BK458.out 1).trans rfl;have hfz18_0 := kf_ BK458.out 0;have hfz18_1 := kf_ BK458.out 1)|(go_at_call 29;(with_reducible refine (rat_Check.calls k a1_0 a1_1 true _ A10.out).mono ?_);rintro e w19 ⟨rfl,hb⟩;replace BK457 := kb_ BK457 hb;replace BK458 := kb_ BK458 hb;replace BK459 := kb_ BK459 hb;replace HB := hb_ HB (e_ GE457 (e_ GE458 (e_ GE459 e0_))) hb;(try clear hb);(try clear hb2);(try clear hk);(try clear hi);have hcz20_0 : w19.cell? ⟨gb459,0,none⟩ = some (.int .i64 a2_0) := (kc_ BK459.out 0).trans rfl;have hcz20_1 : w19.cell? ⟨gb459,1,none⟩ = some (.int .i64 a2_1) := (kc_ BK459.out 1).trans rfl;have hfz20_0 := kf_ BK459.out 0;have hfz20_1 := kf_ BK459.out 1)|(go_at_call 29;(with_reducible refine (rat_Check.calls k a2_0 a2_1 t462 _ A12.out).mono ?_);rintro e w21 ⟨rfl,hb⟩;replace BK457 := kb_ BK457 hb;replace BK458 := kb_ BK458 hb;replace BK459 := kb_ BK459 hb;replace HB := hb_ HB (e_ GE457 (e_ GE458 (e_ GE459 e0_))) hb;(try clear hb);(try clear hb2);(try clear hk);(try clear hi)))
    go_meet
    case rel => exact ⟨_,(!t462),(by first|rfl|(simp;done)|(simp [*];done)|(simp [bne];done)),H',⟨by first|omega|exact Nat.le_refl _⟩,⟨by (with_reducible repeat first|apply kn_|apply kd_|apply ka_);exact BK457.out⟩,⟨by (with_reducible repeat first|apply kn_|apply kd_|apply ka_);exact BK458.out⟩,⟨by (with_reducible repeat first|apply kn_|apply kd_|apply ka_);exact BK459.out⟩,⟨by repeat (first|(with_reducible first|exact HB.out|apply ba_|apply pd_|apply d1_|refine bs_ ?_ GE457.out|refine bs_ ?_ GE458.out|refine bs_ ?_ GE459.out)|exact HB.out)⟩⟩
   ·replace c11 := bf_ c11
    subst c11
    have H1 : (neumelaw02_RatOrder.j0 k true a0_0 a0_1 a1_0 a1_1 a2_0 a2_1) = some r := by rw [if_neg (show ¬ (false = true) by decide)] at H;exact H
    clear H;have H := H1;clear H1
    have H' := sd_ H
    clear H
    have hnb22 := NB457_458.out
    have hnc22 := NB458_457.out
    have hnb23 := NB457_459.out
    have hnc23 := NB459_457.out
    have hcz24_0 : w7.cell? ⟨gb457,0,none⟩ = some (.int .i64 a0_0) := (kc_ BK457.out 0).trans rfl
    have hcz24_1 : w7.cell? ⟨gb457,1,none⟩ = some (.int .i64 a0_1) := (kc_ BK457.out 1).trans rfl
    have hfz24_0 := kf_ BK457.out 0
    have hfz24_1 := kf_ BK457.out 1
    go_wp2_with (first|((with_reducible refine gate_callee (f := 29) rfl ?_);refine goesL_ (some 14) rfl rfl Tryd.func29 (by kernel_rfl) rfl #[.agg #[.int .i64 a0_0,.int .i64 a0_1]] rfl (by (try simp only [lm_,lq_,lx_]);first|done|rfl|(simp only [ld_,lt_];rfl)) ?_;(with_reducible refine (rat_Check.calls k a0_0 a0_1 true _ A8.out).mono ?_);rintro e w25 ⟨rfl,hb⟩;refine ⟨_,rfl,?_⟩;replace BK457 := kb_ BK457 hb;replace BK458 := kb_ BK458 hb;replace BK459 := kb_ BK459 hb;replace HB := hb_ HB (e_ GE457 (e_ GE458 (e_ GE459 e0_))) hb;(try clear hb);(try clear hb2);(try clear hk);(try clear hi);have hnb26 := NB458_459.out;have hnc26 := NB459_458.out;have hcz27_0 : w25.cell? ⟨gb458,0,none⟩ = some (.int .i64 a1_0) := (kc_ BK458.out 0).trans rfl;have hcz27_1 : w25.cell? ⟨gb458,1,none⟩ = some (.int .i64 a1_1) := (kc_ BK458.out 1).trans rfl;have hfz27_0 := kf_ BK458.out 0;have hfz27_1 := kf_ BK458.out 1)|(go_at_call 29;(with_reducible refine (rat_Check.calls k a1_0 a1_1 false _ A10.out).mono ?_);rintro e w28 ⟨rfl,hb⟩;replace BK457 := kb_ BK457 hb;replace BK458 := kb_ BK458 hb;replace BK459 := kb_ BK459 hb;replace HB := hb_ HB (e_ GE457 (e_ GE458 (e_ GE459 e0_))) hb;(try clear hb);(try clear hb2);(try clear hk);(try clear hi)))
    go_meet
    case rel => exact ⟨_,(true),(by first|rfl|(simp;done)|(simp [*];done)|(simp [bne];done)),H',⟨by first|omega|exact Nat.le_refl _⟩,⟨by (with_reducible repeat first|apply kn_|apply kd_|apply ka_);exact BK457.out⟩,⟨by (with_reducible repeat first|apply kn_|apply kd_|apply ka_);exact BK458.out⟩,⟨by (with_reducible repeat first|apply kn_|apply kd_|apply ka_);exact BK459.out⟩,⟨by repeat (first|(with_reducible first|exact HB.out|apply ba_|apply pd_|apply d1_|refine bs_ ?_ GE457.out|refine bs_ ?_ GE458.out|refine bs_ ?_ GE459.out)|exact HB.out)⟩⟩
  ·replace c9 := bf_ c9
   subst c9
   have H1 : (neumelaw02_RatOrder.j0 k true a0_0 a0_1 a1_0 a1_1 a2_0 a2_1) = some r := by rw [if_neg (show ¬ (false = true) by decide)] at H;exact H
   clear H;have H := H1;clear H1
   have H' := sd_ H
   clear H
   have hnb29 := NB457_458.out
   have hnc29 := NB458_457.out
   have hnb30 := NB457_459.out
   have hnc30 := NB459_457.out
   have hcz31_0 : w7.cell? ⟨gb457,0,none⟩ = some (.int .i64 a0_0) := (kc_ BK457.out 0).trans rfl
   have hcz31_1 : w7.cell? ⟨gb457,1,none⟩ = some (.int .i64 a0_1) := (kc_ BK457.out 1).trans rfl
   have hfz31_0 := kf_ BK457.out 0
   have hfz31_1 := kf_ BK457.out 1
   go_wp2_with (first|((with_reducible refine gate_callee (f := 29) rfl ?_);refine goesL_ (some 14) rfl rfl Tryd.func29 (by kernel_rfl) rfl #[.agg #[.int .i64 a0_0,.int .i64 a0_1]] rfl (by (try simp only [lm_,lq_,lx_]);first|done|rfl|(simp only [ld_,lt_];rfl)) ?_;(with_reducible refine (rat_Check.calls k a0_0 a0_1 false _ A8.out).mono ?_);rintro e w32 ⟨rfl,hb⟩;refine ⟨_,rfl,?_⟩;replace BK457 := kb_ BK457 hb;replace BK458 := kb_ BK458 hb;replace BK459 := kb_ BK459 hb;replace HB := hb_ HB (e_ GE457 (e_ GE458 (e_ GE459 e0_))) hb;(try clear hb);(try clear hb2);(try clear hk);(try clear hi)))
   go_meet
   case rel => exact ⟨_,(true),(by first|rfl|(simp;done)|(simp [*];done)|(simp [bne];done)),H',⟨by first|omega|exact Nat.le_refl _⟩,⟨by (with_reducible repeat first|apply kn_|apply kd_|apply ka_);exact BK457.out⟩,⟨by (with_reducible repeat first|apply kn_|apply kd_|apply ka_);exact BK458.out⟩,⟨by (with_reducible repeat first|apply kn_|apply kd_|apply ka_);exact BK459.out⟩,⟨by repeat (first|(with_reducible first|exact HB.out|apply ba_|apply pd_|apply d1_|refine bs_ ?_ GE457.out|refine bs_ ?_ GE458.out|refine bs_ ?_ GE459.out)|exact HB.out)⟩⟩
 case rest =>
  clear HC4
  try clear c1;try clear c2;try clear p2;try clear c3;try clear c6;try clear c9;try clear c11;try clear c13;try clear c14;try clear c17;try clear c22;try clear c23;try clear c26;try clear c29;try clear c30;try clear hcz15_0;try clear hcz15_1;try clear hcz18_0;try clear hcz18_1;try clear hcz20_0;try clear hcz20_1;try clear hcz24_0;try clear hcz24_1;try clear hcz27_0;try clear hcz27_1;try clear hcz31_0;try clear hcz31_1;try clear hfz15_0;try clear hfz15_1;try clear hfz18_0;try clear hfz18_1;try clear hfz20_0;try clear hfz20_1;try clear hfz24_0;try clear hfz24_1;try clear hfz27_0;try clear hfz27_1;try clear hfz31_0;try clear hfz31_1
  obtain ⟨kq,x25_3,rfl,HA,HJ3,BK457,BK458,BK459,HB⟩ := hcut
  cases kq with
  | zero => exact absurd HA.out (by simp [neumelaw02_RatOrder.j0])
  | succ kj3 =>
   have H := HA.out
   clear HA
   simp only [neumelaw02_RatOrder.j0] at H
   by_cases c33 : x25_3 = true
   ·subst c33
    have H1 : ((neumelaw02_heads.f kj3).bind fun t463 => (some t463)) = some r := by rw [if_pos rfl] at H;exact H
    clear H;have H := H1;clear H1
    replace H := ob_ H
    obtain ⟨t463,A340,H⟩ := H
    replace H : (some t463) = some r := H
    have A34 := sd_ A340
    clear A340
    obtain rfl := Option.some.inj H
    go_wp2_with (first|((with_reducible refine gate_callee (f := 18) rfl ?_);refine goesL_ (some 26) rfl rfl Tryd.func18 (by kernel_rfl) rfl #[] rfl (by (try simp only [lm_,lq_,lx_]);first|done|rfl|(simp only [ld_,lt_];rfl)) ?_;(with_reducible refine (neumelaw02_heads.calls kj3  t463 _ ?side1 A34.out).mono ?_);(case side1 => first|(with_reducible exact hE)|exact sd_ (LaidE.below hE.out (bb_ HB.out (e_ GE457 (e_ GE458 (e_ GE459 e0_))))));rintro e w35 ⟨rfl,hb⟩;refine ⟨_,rfl,?_⟩;replace BK457 := kb_ BK457 hb;replace BK458 := kb_ BK458 hb;replace BK459 := kb_ BK459 hb;replace HB := hb_ HB (e_ GE457 (e_ GE458 (e_ GE459 e0_))) hb;(try clear hb);(try clear hb2);(try clear hk);(try clear hi)))
    go_ret
    exact ⟨by first|rfl|(simp [errW_none,errW_some] <;> rfl)|(simp [*,errW_none,errW_some] <;> rfl),by repeat (first|(with_reducible first|exact HB.out|apply ba_|apply pd_|apply d1_|refine bs_ ?_ GE457.out|refine bs_ ?_ GE458.out|refine bs_ ?_ GE459.out)|exact HB.out)⟩
   ·replace c33 := bf_ c33
    subst c33
    have H1 : ((rat_Cmp.f kj3 a0_0 a0_1 a1_0 a1_1).bind fun t464 => ((rat_Cmp.f kj3 a1_0 a1_1 a0_0 a0_1).bind fun t465 => (if t464 = (wrap64 (-t465)) then (neumelaw02_RatOrder.j1 kj3 t464 ((t464 == 0) != (a0_0 == a1_0 && (a0_1 == a1_1))) a0_0 a0_1 a1_0 a1_1 a2_0 a2_1) else (neumelaw02_RatOrder.j1 kj3 t464 true a0_0 a0_1 a1_0 a1_1 a2_0 a2_1)))) = some r := by rw [if_neg (show ¬ (false = true) by decide)] at H;exact H
    clear H;have H := H1;clear H1
    replace H := ob_ H
    obtain ⟨t464,A360,H⟩ := H
    replace H : ((rat_Cmp.f kj3 a1_0 a1_1 a0_0 a0_1).bind fun t465 => (if t464 = (wrap64 (-t465)) then (neumelaw02_RatOrder.j1 kj3 t464 ((t464 == 0) != (a0_0 == a1_0 && (a0_1 == a1_1))) a0_0 a0_1 a1_0 a1_1 a2_0 a2_1) else (neumelaw02_RatOrder.j1 kj3 t464 true a0_0 a0_1 a1_0 a1_1 a2_0 a2_1))) = some r := H
    have A36 := sd_ A360
    clear A360
    have HC37 := sd_ H
    clear H
    have hnb38 := NB457_458.out
    have hnc38 := NB458_457.out
    have hnb39 := NB457_459.out
    have hnc39 := NB459_457.out
    have hcz40_0 : wc.cell? ⟨gb457,0,none⟩ = some (.int .i64 a0_0) := (kc_ BK457.out 0).trans rfl
    have hcz40_1 : wc.cell? ⟨gb457,1,none⟩ = some (.int .i64 a0_1) := (kc_ BK457.out 1).trans rfl
    have hfz40_0 := kf_ BK457.out 0
    have hfz40_1 := kf_ BK457.out 1
    have hnb41 := NB458_459.out
    have hnc41 := NB459_458.out
    have hcz42_0 : wc.cell? ⟨gb458,0,none⟩ = some (.int .i64 a1_0) := (kc_ BK458.out 0).trans rfl
    have hcz42_1 : wc.cell? ⟨gb458,1,none⟩ = some (.int .i64 a1_1) := (kc_ BK458.out 1).trans rfl
    have hfz42_0 := kf_ BK458.out 0
    have hfz42_1 := kf_ BK458.out 1
    go_upto_region 4 with (first|((with_reducible refine gate_callee (f := 23) rfl ?_);refine goesL_ (some 29) rfl rfl Tryd.func23 (by kernel_rfl) rfl #[.agg #[.int .i64 a0_0,.int .i64 a0_1],.agg #[.int .i64 a1_0,.int .i64 a1_1]] rfl (by (try simp only [lm_,lq_,lx_]);first|done|rfl|(simp only [ld_,lt_];rfl)) ?_;(with_reducible refine (rat_Cmp.calls kj3 a0_0 a0_1 a1_0 a1_1 t464 _ A36.out).mono ?_);rintro e w43 ⟨rfl,hb⟩;refine ⟨_,rfl,?_⟩;replace BK457 := kb_ BK457 hb;replace BK458 := kb_ BK458 hb;replace BK459 := kb_ BK459 hb;replace HB := hb_ HB (e_ GE457 (e_ GE458 (e_ GE459 e0_))) hb;(try clear hb);(try clear hb2);(try clear hk);(try clear hi)))
    (try simp only [Act.put,ls_,lz_,lc_])
    go_cut [43] (fun v43 wc => ∃ (kq : Nat) (x43_36 : Bool),v43 = .bool x43_36 ∧ Aside0 (neumelaw02_RatOrder.j1 kq t464 x43_36 a0_0 a0_1 a1_0 a1_1 a2_0 a2_1 = some r) ∧ Aside0 (kq ≤ kj3) ∧ Aside0 (wc.heap[gb457]? = some (.cells #[.int .i64 a0_0,.int .i64 a0_1] 23 (0,0))) ∧ Aside0 (wc.heap[gb458]? = some (.cells #[.int .i64 a1_0,.int .i64 a1_1] 23 (0,0))) ∧ Aside0 (wc.heap[gb459]? = some (.cells #[.int .i64 a2_0,.int .i64 a2_1] 23 (0,0))) ∧ Aside0 (Below w.heap.size w wc))
    case first =>
     have H := HC37.out
     clear HC37
     replace H := ob_ H
     obtain ⟨t465,A440,H⟩ := H
     replace H : (if t464 = (wrap64 (-t465)) then (neumelaw02_RatOrder.j1 kj3 t464 ((t464 == 0) != (a0_0 == a1_0 && (a0_1 == a1_1))) a0_0 a0_1 a1_0 a1_1 a2_0 a2_1) else (neumelaw02_RatOrder.j1 kj3 t464 true a0_0 a0_1 a1_0 a1_1 a2_0 a2_1)) = some r := H
     have A44 := sd_ A440
     clear A440
     by_cases c45 : t464 = (wrap64 (-t465))
     ·rw [if_pos c45] at H
      have c45b0 : (t464 == (wrap64 (-t465))) = true := beq_iff_eq.mpr c45
      have c45b1 : (t464 != (wrap64 (-t465))) = false := bne_eq_false_iff_eq.mpr c45
      clear c45
      (first|rw [c45b0]|(simp only [i64_w,i32_w];rw [c45b0])|skip)
      have H' := sd_ H
      clear H
      have hnb46 := NB458_457.out
      have hnc46 := NB457_458.out
      have hnb47 := NB458_459.out
      have hnc47 := NB459_458.out
      have hcz48_0 : w43.cell? ⟨gb458,0,none⟩ = some (.int .i64 a1_0) := (kc_ BK458.out 0).trans rfl
      have hcz48_1 : w43.cell? ⟨gb458,1,none⟩ = some (.int .i64 a1_1) := (kc_ BK458.out 1).trans rfl
      have hfz48_0 := kf_ BK458.out 0
      have hfz48_1 := kf_ BK458.out 1
      have hnb49 := NB457_459.out
      have hnc49 := NB459_457.out
      have hcz50_0 : w43.cell? ⟨gb457,0,none⟩ = some (.int .i64 a0_0) := (kc_ BK457.out 0).trans rfl
      have hcz50_1 : w43.cell? ⟨gb457,1,none⟩ = some (.int .i64 a0_1) := (kc_ BK457.out 1).trans rfl
      have hfz50_0 := kf_ BK457.out 0
      have hfz50_1 := kf_ BK457.out 1
      go_wp2_with (first|((with_reducible refine gate_callee (f := 23) rfl ?_);refine goesL_ (some 33) rfl rfl Tryd.func23 (by kernel_rfl) rfl #[.agg #[.int .i64 a1_0,.int .i64 a1_1],.agg #[.int .i64 a0_0,.int .i64 a0_1]] rfl (by (try simp only [lm_,lq_,lx_]);first|done|rfl|(simp only [ld_,lt_];rfl)) ?_;(with_reducible refine (rat_Cmp.calls kj3 a1_0 a1_1 a0_0 a0_1 t465 _ A44.out).mono ?_);rintro e w51 ⟨rfl,hb⟩;refine ⟨_,rfl,?_⟩;replace BK457 := kb_ BK457 hb;replace BK458 := kb_ BK458 hb;replace BK459 := kb_ BK459 hb;replace HB := hb_ HB (e_ GE457 (e_ GE458 (e_ GE459 e0_))) hb;(try clear hb);(try clear hb2);(try clear hk);(try clear hi);have hcz52_0 : w51.cell? ⟨gb457,0,none⟩ = some (.int .i64 a0_0) := (kc_ BK457.out 0).trans rfl;have hcz52_1 : w51.cell? ⟨gb457,1,none⟩ = some (.int .i64 a0_1) := (kc_ BK457.out 1).trans rfl;have hfz52_0 := kf_ BK457.out 0;have hfz52_1 := kf_ BK457.out 1;have hcz53_0 : w51.cell? ⟨gb458,0,none⟩ = some (.int .i64 a1_0) := (kc_ BK458.out 0).trans rfl;have hcz53_1 : w51.cell? ⟨gb458,1,none⟩ = some (.int .i64 a1_1) := (kc_ BK458.out 1).trans rfl;have hfz53_0 := kf_ BK458.out 0;have hfz53_1 := kf_ BK458.out 1))
      go_meet
      case rel => exact ⟨_,(((t464 == 0) != (a0_0 == a1_0 && (a0_1 == a1_1)))),(by first|rfl|(simp;done)|(simp [*];done)|(simp [bne];done)),H',⟨by have := HJ3.out;first|omega|exact Nat.le_refl _⟩,⟨by (with_reducible repeat first|apply kn_|apply kd_|apply ka_);exact BK457.out⟩,⟨by (with_reducible repeat first|apply kn_|apply kd_|apply ka_);exact BK458.out⟩,⟨by (with_reducible repeat first|apply kn_|apply kd_|apply ka_);exact BK459.out⟩,⟨by repeat (first|(with_reducible first|exact HB.out|apply ba_|apply pd_|apply d1_|refine bs_ ?_ GE457.out|refine bs_ ?_ GE458.out|refine bs_ ?_ GE459.out)|exact HB.out)⟩⟩
     ·rw [if_neg c45] at H
      have c45b0 : (t464 == (wrap64 (-t465))) = false := beq_eq_false_iff_ne.mpr c45
      have c45b1 : (t464 != (wrap64 (-t465))) = true := bne_iff_ne.mpr c45
      (first|rw [c45b0]|(simp only [i64_w,i32_w];rw [c45b0])|skip)
      have H' := sd_ H
      clear H
      have hnb54 := NB458_457.out
      have hnc54 := NB457_458.out
      have hnb55 := NB458_459.out
      have hnc55 := NB459_458.out
      have hcz56_0 : w43.cell? ⟨gb458,0,none⟩ = some (.int .i64 a1_0) := (kc_ BK458.out 0).trans rfl
      have hcz56_1 : w43.cell? ⟨gb458,1,none⟩ = some (.int .i64 a1_1) := (kc_ BK458.out 1).trans rfl
      have hfz56_0 := kf_ BK458.out 0
      have hfz56_1 := kf_ BK458.out 1
      have hnb57 := NB457_459.out
      have hnc57 := NB459_457.out
      have hcz58_0 : w43.cell? ⟨gb457,0,none⟩ = some (.int .i64 a0_0) := (kc_ BK457.out 0).trans rfl
      have hcz58_1 : w43.cell? ⟨gb457,1,none⟩ = some (.int .i64 a0_1) := (kc_ BK457.out 1).trans rfl
      have hfz58_0 := kf_ BK457.out 0
      have hfz58_1 := kf_ BK457.out 1
      go_wp2_with (first|((with_reducible refine gate_callee (f := 23) rfl ?_);refine goesL_ (some 33) rfl rfl Tryd.func23 (by kernel_rfl) rfl #[.agg #[.int .i64 a1_0,.int .i64 a1_1],.agg #[.int .i64 a0_0,.int .i64 a0_1]] rfl (by (try simp only [lm_,lq_,lx_]);first|done|rfl|(simp only [ld_,lt_];rfl)) ?_;(with_reducible refine (rat_Cmp.calls kj3 a1_0 a1_1 a0_0 a0_1 t465 _ A44.out).mono ?_);rintro e w59 ⟨rfl,hb⟩;refine ⟨_,rfl,?_⟩;replace BK457 := kb_ BK457 hb;replace BK458 := kb_ BK458 hb;replace BK459 := kb_ BK459 hb;replace HB := hb_ HB (e_ GE457 (e_ GE458 (e_ GE459 e0_))) hb;(try clear hb);(try clear hb2);(try clear hk);(try clear hi)))
      go_meet
      case rel => exact ⟨_,(true),(by first|rfl|(simp;done)|(simp [*];done)|(simp [bne];done)),H',⟨by have := HJ3.out;first|omega|exact Nat.le_refl _⟩,⟨by (with_reducible repeat first|apply kn_|apply kd_|apply ka_);exact BK457.out⟩,⟨by (with_reducible repeat first|apply kn_|apply kd_|apply ka_);exact BK458.out⟩,⟨by (with_reducible repeat first|apply kn_|apply kd_|apply ka_);exact BK459.out⟩,⟨by repeat (first|(with_reducible first|exact HB.out|apply ba_|apply pd_|apply d1_|refine bs_ ?_ GE457.out|refine bs_ ?_ GE458.out|refine bs_ ?_ GE459.out)|exact HB.out)⟩⟩
    case rest =>
     clear HC37
     try clear c1;try clear c2;try clear p2;try clear c3;try clear c4;try clear c5;try clear c6;try clear p6;try clear c9;try clear c11;try clear c13;try clear c14;try clear c17;try clear c18;try clear c22;try clear c23;try clear c26;try clear c29;try clear c30;try clear c33;try clear c38;try clear c39;try clear c41;try clear c45;try clear c45b0;try clear c45b1;try clear c46;try clear c47;try clear c49;try clear c54;try clear c55;try clear c57;try clear hcz15_0;try clear hcz15_1;try clear hcz18_0;try clear hcz18_1;try clear hcz20_0;try clear hcz20_1;try clear hcz24_0;try clear hcz24_1;try clear hcz27_0;try clear hcz27_1;try clear hcz31_0;try clear hcz31_1;try clear hcz40_0;try clear hcz40_1;try clear hcz42_0;try clear hcz42_1;try clear hcz48_0;try clear hcz48_1;try clear hcz50_0;try clear hcz50_1;try clear hcz52_0;try clear hcz52_1;try clear hcz53_0;try clear hcz53_1;try clear hcz56_0;try clear hcz56_1;try clear hcz58_0;try clear hcz58_1;try clear hfz15_0;try clear hfz15_1;try clear hfz18_0;try clear hfz18_1;try clear hfz20_0;try clear hfz20_1;try clear hfz24_0;try clear hfz24_1;try clear hfz27_0;try clear hfz27_1;try clear hfz31_0;try clear hfz31_1;try clear hfz40_0;try clear hfz40_1;try clear hfz42_0;try clear hfz42_1;try clear hfz48_0;try clear hfz48_1;try clear hfz50_0;try clear hfz50_1;try clear hfz52_0;try clear hfz52_1;try clear hfz53_0;try clear hfz53_1;try clear hfz56_0;try clear hfz56_1;try clear hfz58_0;try clear hfz58_1;try clear p2
     obtain ⟨kq,x43_36,rfl,HA,HJ36,BK457,BK458,BK459,HB⟩ := hcut
     cases kq with
     | zero => exact absurd HA.out (by simp [neumelaw02_RatOrder.j1])
     | succ kj36 =>
      have H := HA.out
      clear HA
      simp only [neumelaw02_RatOrder.j1] at H
      by_cases c60 : x43_36 = true
      ·subst c60
       have H1 : (some false) = some r := by rw [if_pos rfl] at H;exact H
       clear H;have H := H1;clear H1
       exact absurd ((Option.some.inj H).trans hxt.out) (by decide)
      ·replace c60 := bf_ c60
       subst c60
       have H1 : ((rat_Add.f kj36 a0_0 a0_1 a2_0 a2_1).bind fun bt466 => ((rat_Add.f kj36 a1_0 a1_1 a2_0 a2_1).bind fun bt470 => (if bt466.2.2 = 0 then (if bt470.2.2 = 0 then ((rat_Cmp.f kj36 bt466.1 bt466.2.1 bt470.1 bt470.2.1).bind fun t474 => (neumelaw02_RatOrder.j2 kj36 (t474 != t464) a0_0 a0_1)) else (neumelaw02_RatOrder.j2 kj36 false a0_0 a0_1)) else (neumelaw02_RatOrder.j2 kj36 false a0_0 a0_1)))) = some r := by rw [if_neg (show ¬ (false = true) by decide)] at H;exact H
       clear H;have H := H1;clear H1
       replace H := ob_ H
       obtain ⟨⟨t466,t467,t468⟩,A610,H⟩ := H
       replace H : ((rat_Add.f kj36 a1_0 a1_1 a2_0 a2_1).bind fun bt470 => (if t468 = 0 then (if bt470.2.2 = 0 then ((rat_Cmp.f kj36 t466 t467 bt470.1 bt470.2.1).bind fun t474 => (neumelaw02_RatOrder.j2 kj36 (t474 != t464) a0_0 a0_1)) else (neumelaw02_RatOrder.j2 kj36 false a0_0 a0_1)) else (neumelaw02_RatOrder.j2 kj36 false a0_0 a0_1))) = some r := H
       have A61 := sd_ A610
       clear A610
       replace H := ob_ H
       obtain ⟨⟨t470,t471,t472⟩,A620,H⟩ := H
       replace H : (if t468 = 0 then (if t472 = 0 then ((rat_Cmp.f kj36 t466 t467 t470 t471).bind fun t474 => (neumelaw02_RatOrder.j2 kj36 (t474 != t464) a0_0 a0_1)) else (neumelaw02_RatOrder.j2 kj36 false a0_0 a0_1)) else (neumelaw02_RatOrder.j2 kj36 false a0_0 a0_1)) = some r := H
       have A62 := sd_ A620
       clear A620
       have HC63 := sd_ H
       clear H
       have hnb64 := NB457_458.out
       have hnc64 := NB458_457.out
       have hnb65 := NB457_459.out
       have hnc65 := NB459_457.out
       have hcz66_0 : wc.cell? ⟨gb457,0,none⟩ = some (.int .i64 a0_0) := (kc_ BK457.out 0).trans rfl
       have hcz66_1 : wc.cell? ⟨gb457,1,none⟩ = some (.int .i64 a0_1) := (kc_ BK457.out 1).trans rfl
       have hfz66_0 := kf_ BK457.out 0
       have hfz66_1 := kf_ BK457.out 1
       have hnb67 := NB459_458.out
       have hnc67 := NB458_459.out
       have hcz68_0 : wc.cell? ⟨gb459,0,none⟩ = some (.int .i64 a2_0) := (kc_ BK459.out 0).trans rfl
       have hcz68_1 : wc.cell? ⟨gb459,1,none⟩ = some (.int .i64 a2_1) := (kc_ BK459.out 1).trans rfl
       have hfz68_0 := kf_ BK459.out 0
       have hfz68_1 := kf_ BK459.out 1
       go_upto_region 8 with (first|((with_reducible refine gate_callee (f := 8) rfl ?_);refine goesL_ (some 47) rfl rfl Tryd.func8 (by kernel_rfl) rfl #[.agg #[.int .i64 a0_0,.int .i64 a0_1],.agg #[.int .i64 a2_0,.int .i64 a2_1]] rfl (by (try simp only [lm_,lq_,lx_]);first|done|rfl|(simp only [ld_,lt_];rfl)) ?_;(with_reducible refine (rat_Add.calls kj36 a0_0 a0_1 a2_0 a2_1 t466 t467 t468 _ A61.out).mono ?_);rintro e w69 ⟨rfl,hb⟩;refine ⟨_,rfl,?_⟩;replace BK457 := kb_ BK457 hb;replace BK458 := kb_ BK458 hb;replace BK459 := kb_ BK459 hb;replace HB := hb_ HB (e_ GE457 (e_ GE458 (e_ GE459 e0_))) hb;(try clear hb);(try clear hb2);(try clear hk);(try clear hi))|((with_reducible refine gate_dst (N := 8) rfl ?_);refine box_event ?hg (N := 8) ?hd (cs := #[.int .i64 0,.int .i64 0]) (t := 23) ?hr ?_;(case hd => rfl);(case hg => rfl);(case hr => first|(go_simp;done)|(go_simp;rfl));intro gb469 hg w70 hbox hb;have BK469 := sd_ hbox;have GW469 := gw_ HB (e_ GE457 (e_ GE458 (e_ GE459 e0_))) hg;have GE469 := GW469;have NB457_469 := nb_ BK457 hg;have NB469_457 := sy_ NB457_469;have NB458_469 := nb_ BK458 hg;have NB469_458 := sy_ NB458_469;have NB459_469 := nb_ BK459 hg;have NB469_459 := sy_ NB459_469;replace BK457 := kb_ BK457 hb;replace BK458 := kb_ BK458 hb;replace BK459 := kb_ BK459 hb;replace HB := hb_ HB (e_ GE457 (e_ GE458 (e_ GE459 e0_))) hb;clear hb hbox hg;have hnb71 := NB469_457.out;have hnc71 := NB457_469.out;have hnb72 := NB469_458.out;have hnc72 := NB458_469.out;have hnb73 := NB469_459.out;have hnc73 := NB459_469.out;have hcz74_0 : w70.cell? ⟨gb469,0,none⟩ = some (.int .i64 0) := (kc_ BK469.out 0).trans rfl;have hcz74_1 : w70.cell? ⟨gb469,1,none⟩ = some (.int .i64 0) := (kc_ BK469.out 1).trans rfl;have hfz74_0 := kf_ BK469.out 0;have hfz74_1 := kf_ BK469.out 1;have hcz75_0 : w70.cell? ⟨gb458,0,none⟩ = some (.int .i64 a1_0) := (kc_ BK458.out 0).trans rfl;have hcz75_1 : w70.cell? ⟨gb458,1,none⟩ = some (.int .i64 a1_1) := (kc_ BK458.out 1).trans rfl;have hfz75_0 := kf_ BK458.out 0;have hfz75_1 := kf_ BK458.out 1;have hcz76_0 : w70.cell? ⟨gb459,0,none⟩ = some (.int .i64 a2_0) := (kc_ BK459.out 0).trans rfl;have hcz76_1 : w70.cell? ⟨gb459,1,none⟩ = some (.int .i64 a2_1) := (kc_ BK459.out 1).trans rfl;have hfz76_0 := kf_ BK459.out 0;have hfz76_1 := kf_ BK459.out 1)|((with_reducible refine gate_callee (f := 8) rfl ?_);refine goesL_ (some 53) rfl rfl Tryd.func8 (by kernel_rfl) rfl #[.agg #[.int .i64 a1_0,.int .i64 a1_1],.agg #[.int .i64 a2_0,.int .i64 a2_1]] rfl (by (try simp only [lm_,lq_,lx_]);first|done|rfl|(simp only [ld_,lt_];rfl)) ?_;(with_reducible refine (rat_Add.calls kj36 a1_0 a1_1 a2_0 a2_1 t470 t471 t472 _ A62.out).mono ?_);rintro e w77 ⟨rfl,hb⟩;refine ⟨_,rfl,?_⟩;replace BK457 := sd_ (blk_below (g := gb457) (o := .cells #[.int .i64 a0_0,.int .i64 a0_1] 23 (0,0)) (by (with_reducible repeat first|apply kn_|apply kd_|apply ka_);refine blk_far ?_ NB457_469.out _;(with_reducible repeat first|apply kn_|apply kd_|apply ka_);refine blk_far ?_ NB457_469.out _;(with_reducible repeat first|apply kn_|apply kd_|apply ka_);exact BK457.out) hb);replace BK458 := sd_ (blk_below (g := gb458) (o := .cells #[.int .i64 a1_0,.int .i64 a1_1] 23 (0,0)) (by (with_reducible repeat first|apply kn_|apply kd_|apply ka_);refine blk_far ?_ NB458_469.out _;(with_reducible repeat first|apply kn_|apply kd_|apply ka_);refine blk_far ?_ NB458_469.out _;(with_reducible repeat first|apply kn_|apply kd_|apply ka_);exact BK458.out) hb);replace BK459 := sd_ (blk_below (g := gb459) (o := .cells #[.int .i64 a2_0,.int .i64 a2_1] 23 (0,0)) (by (with_reducible repeat first|apply kn_|apply kd_|apply ka_);refine blk_far ?_ NB459_469.out _;(with_reducible repeat first|apply kn_|apply kd_|apply ka_);refine blk_far ?_ NB459_469.out _;(with_reducible repeat first|apply kn_|apply kd_|apply ka_);exact BK459.out) hb);replace BK469 := sd_ (blk_below (g := gb469) (o := .cells #[.int .i64 t466,.int .i64 t467] 23 (0,0)) (by (with_reducible repeat first|apply kn_|apply kd_|apply ka_);refine blk_put (cs := #[.int .i64 t466,.int .i64 0]) ?_ 1 _ rfl;(with_reducible repeat first|apply kn_|apply kd_|apply ka_);refine blk_put (cs := #[.int .i64 0,.int .i64 0]) ?_ 0 _ rfl;(with_reducible repeat first|apply kn_|apply kd_|apply ka_);exact BK469.out) hb);replace HB := hb_ HB (e_ GE457 (e_ GE458 (e_ GE459 (e_ GE469 e0_)))) hb;(try clear hb);(try clear hb2);(try clear hk);(try clear hi))|((with_reducible refine gate_dst (N := 10) rfl ?_);refine box_event ?hg (N := 10) ?hd (cs := #[.int .i64 0,.int .i64 0]) (t := 23) ?hr ?_;(case hd => rfl);(case hg => rfl);(case hr => first|(go_simp;done)|(go_simp;rfl));intro gb473 hg w78 hbox hb;have BK473 := sd_ hbox;have GW473 := gw_ HB (e_ GE457 (e_ GE458 (e_ GE459 (e_ GE469 e0_)))) hg;have GE473 := GW473;have NB457_473 := nb_ BK457 hg;have NB473_457 := sy_ NB457_473;have NB458_473 := nb_ BK458 hg;have NB473_458 := sy_ NB458_473;have NB459_473 := nb_ BK459 hg;have NB473_459 := sy_ NB459_473;have NB469_473 := nb_ BK469 hg;have NB473_469 := sy_ NB469_473;replace BK457 := kb_ BK457 hb;replace BK458 := kb_ BK458 hb;replace BK459 := kb_ BK459 hb;replace BK469 := kb_ BK469 hb;replace HB := hb_ HB (e_ GE457 (e_ GE458 (e_ GE459 (e_ GE469 e0_)))) hb;clear hb hbox hg;have hnb79 := NB473_457.out;have hnc79 := NB457_473.out;have hnb80 := NB473_458.out;have hnc80 := NB458_473.out;have hnb81 := NB473_459.out;have hnc81 := NB459_473.out;have hnb82 := NB473_469.out;have hnc82 := NB469_473.out;have hcz83_0 : w78.cell? ⟨gb473,0,none⟩ = some (.int .i64 0) := (kc_ BK473.out 0).trans rfl;have hcz83_1 : w78.cell? ⟨gb473,1,none⟩ = some (.int .i64 0) := (kc_ BK473.out 1).trans rfl;have hfz83_0 := kf_ BK473.out 0;have hfz83_1 := kf_ BK473.out 1))
       (try simp only [Act.put,ls_,lz_,lc_])
       go_cut [68] (fun v68 wc => ∃ (kq : Nat) (x68_62 : Bool),v68 = .bool x68_62 ∧ Aside0 (neumelaw02_RatOrder.j2 kq x68_62 a0_0 a0_1 = some r) ∧ Aside0 (kq ≤ kj36) ∧ Aside0 (wc.heap[gb457]? = some (.cells #[.int .i64 a0_0,.int .i64 a0_1] 23 (0,0))) ∧ Aside0 (wc.heap[gb458]? = some (.cells #[.int .i64 a1_0,.int .i64 a1_1] 23 (0,0))) ∧ Aside0 (wc.heap[gb459]? = some (.cells #[.int .i64 a2_0,.int .i64 a2_1] 23 (0,0))) ∧ Aside0 (wc.heap[gb469]? = some (.cells #[.int .i64 t466,.int .i64 t467] 23 (0,0))) ∧ Aside0 (wc.heap[gb473]? = some (.cells #[.int .i64 t470,.int .i64 t471] 23 (0,0))) ∧ Aside0 (Below w.heap.size w wc))
       case first =>
        have H := HC63.out
        clear HC63
        by_cases c84 : t468 = 0
        ·rw [if_pos c84] at H
         have c84b0 : (t468 == 0) = true := beq_iff_eq.mpr c84
         have c84b1 : (t468 != 0) = false := bne_eq_false_iff_eq.mpr c84
         clear c84
         (first|rw [c84b0]|(simp only [i64_w,i32_w];rw [c84b0])|skip)
         by_cases c85 : t472 = 0
         ·rw [if_pos c85] at H
          have c85b0 : (t472 == 0) = true := beq_iff_eq.mpr c85
          have c85b1 : (t472 != 0) = false := bne_eq_false_iff_eq.mpr c85
          clear c85
          replace H := ob_ H
          obtain ⟨t474,A860,H⟩ := H
          replace H : (neumelaw02_RatOrder.j2 kj36 (t474 != t464) a0_0 a0_1) = some r := H
          have A86 := sd_ A860
          clear A860
          have H' := sd_ H
          clear H
          have hnb87 := NB469_457.out
          have hnc87 := NB457_469.out
          have hnb88 := NB469_458.out
          have hnc88 := NB458_469.out
          have hnb89 := NB469_459.out
          have hnc89 := NB459_469.out
          have hnb90 := NB469_473.out
          have hnc90 := NB473_469.out
          have hcz91_0 : w78.cell? ⟨gb469,0,none⟩ = some (.int .i64 t466) := (kc_ BK469.out 0).trans rfl
          have hcz91_1 : w78.cell? ⟨gb469,1,none⟩ = some (.int .i64 t467) := (kc_ BK469.out 1).trans rfl
          have hfz91_0 := kf_ BK469.out 0
          have hfz91_1 := kf_ BK469.out 1
          have hnb92 := NB473_457.out
          have hnc92 := NB457_473.out
          have hnb93 := NB473_458.out
          have hnc93 := NB458_473.out
          have hnb94 := NB473_459.out
          have hnc94 := NB459_473.out
          have hcz95_0 : w78.cell? ⟨gb473,0,none⟩ = some (.int .i64 0) := (kc_ BK473.out 0).trans rfl
          have hcz95_1 : w78.cell? ⟨gb473,1,none⟩ = some (.int .i64 0) := (kc_ BK473.out 1).trans rfl
          have hfz95_0 := kf_ BK473.out 0
          have hfz95_1 := kf_ BK473.out 1
          go_wp2_with (first|(go_at_call 23;(with_reducible refine (rat_Cmp.calls kj36 t466 t467 t470 t471 t474 _ A86.out).mono ?_);rintro e w96 ⟨rfl,hb⟩;replace BK457 := sd_ (blk_below (g := gb457) (o := .cells #[.int .i64 a0_0,.int .i64 a0_1] 23 (0,0)) (by (with_reducible repeat first|apply kn_|apply kd_|apply ka_);refine blk_far ?_ NB457_473.out _;(with_reducible repeat first|apply kn_|apply kd_|apply ka_);refine blk_far ?_ NB457_473.out _;(with_reducible repeat first|apply kn_|apply kd_|apply ka_);exact BK457.out) hb);replace BK458 := sd_ (blk_below (g := gb458) (o := .cells #[.int .i64 a1_0,.int .i64 a1_1] 23 (0,0)) (by (with_reducible repeat first|apply kn_|apply kd_|apply ka_);refine blk_far ?_ NB458_473.out _;(with_reducible repeat first|apply kn_|apply kd_|apply ka_);refine blk_far ?_ NB458_473.out _;(with_reducible repeat first|apply kn_|apply kd_|apply ka_);exact BK458.out) hb);replace BK459 := sd_ (blk_below (g := gb459) (o := .cells #[.int .i64 a2_0,.int .i64 a2_1] 23 (0,0)) (by (with_reducible repeat first|apply kn_|apply kd_|apply ka_);refine blk_far ?_ NB459_473.out _;(with_reducible repeat first|apply kn_|apply kd_|apply ka_);refine blk_far ?_ NB459_473.out _;(with_reducible repeat first|apply kn_|apply kd_|apply ka_);exact BK459.out) hb);replace BK469 := sd_ (blk_below (g := gb469) (o := .cells #[.int .i64 t466,.int .i64 t467] 23 (0,0)) (by (with_reducible repeat first|apply kn_|apply kd_|apply ka_);refine blk_far ?_ NB469_473.out _;(with_reducible repeat first|apply kn_|apply kd_|apply ka_);refine blk_far ?_ NB469_473.out _;(with_reducible repeat first|apply kn_|apply kd_|apply ka_);exact BK469.out) hb);replace BK473 := sd_ (blk_below (g := gb473) (o := .cells #[.int .i64 t470,.int .i64 t471] 23 (0,0)) (by (with_reducible repeat first|apply kn_|apply kd_|apply ka_);refine blk_put (cs := #[.int .i64 t470,.int .i64 0]) ?_ 1 _ rfl;(with_reducible repeat first|apply kn_|apply kd_|apply ka_);refine blk_put (cs := #[.int .i64 0,.int .i64 0]) ?_ 0 _ rfl;(with_reducible repeat first|apply kn_|apply kd_|apply ka_);exact BK473.out) hb);replace HB := hb_ HB (e_ GE457 (e_ GE458 (e_ GE459 (e_ GE469 (e_ GE473 e0_))))) hb;(try clear hb);(try clear hb2);(try clear hk);(try clear hi)))
          go_meet
          case rel => exact ⟨_,((t474 != t464)),(by first|rfl|(simp;done)|(simp [*];done)|(simp [bne];done)),H',⟨by have := HJ3.out;have := HJ36.out;first|omega|exact Nat.le_refl _⟩,⟨by (with_reducible repeat first|apply kn_|apply kd_|apply ka_);exact BK457.out⟩,⟨by (with_reducible repeat first|apply kn_|apply kd_|apply ka_);exact BK458.out⟩,⟨by (with_reducible repeat first|apply kn_|apply kd_|apply ka_);exact BK459.out⟩,⟨by (with_reducible repeat first|apply kn_|apply kd_|apply ka_);exact BK469.out⟩,⟨by (with_reducible repeat first|apply kn_|apply kd_|apply ka_);exact BK473.out⟩,⟨by repeat (first|(with_reducible first|exact HB.out|apply ba_|apply pd_|apply d1_|refine bs_ ?_ GE457.out|refine bs_ ?_ GE458.out|refine bs_ ?_ GE459.out|refine bs_ ?_ GE469.out|refine bs_ ?_ GE473.out)|exact HB.out)⟩⟩
         ·rw [if_neg c85] at H
          have c85b0 : (t472 == 0) = false := beq_eq_false_iff_ne.mpr c85
          have c85b1 : (t472 != 0) = true := bne_iff_ne.mpr c85
          have H' := sd_ H
          clear H
          go_wp2
          go_meet
          case rel => exact ⟨_,(false),(by first|rfl|(simp;done)|(simp [*];done)|(simp [bne];done)),H',⟨by have := HJ3.out;have := HJ36.out;first|omega|exact Nat.le_refl _⟩,⟨by (with_reducible repeat first|apply kn_|apply kd_|apply ka_);refine blk_far ?_ NB457_473.out _;(with_reducible repeat first|apply kn_|apply kd_|apply ka_);refine blk_far ?_ NB457_473.out _;(with_reducible repeat first|apply kn_|apply kd_|apply ka_);exact BK457.out⟩,⟨by (with_reducible repeat first|apply kn_|apply kd_|apply ka_);refine blk_far ?_ NB458_473.out _;(with_reducible repeat first|apply kn_|apply kd_|apply ka_);refine blk_far ?_ NB458_473.out _;(with_reducible repeat first|apply kn_|apply kd_|apply ka_);exact BK458.out⟩,⟨by (with_reducible repeat first|apply kn_|apply kd_|apply ka_);refine blk_far ?_ NB459_473.out _;(with_reducible repeat first|apply kn_|apply kd_|apply ka_);refine blk_far ?_ NB459_473.out _;(with_reducible repeat first|apply kn_|apply kd_|apply ka_);exact BK459.out⟩,⟨by (with_reducible repeat first|apply kn_|apply kd_|apply ka_);refine blk_far ?_ NB469_473.out _;(with_reducible repeat first|apply kn_|apply kd_|apply ka_);refine blk_far ?_ NB469_473.out _;(with_reducible repeat first|apply kn_|apply kd_|apply ka_);exact BK469.out⟩,⟨by (with_reducible repeat first|apply kn_|apply kd_|apply ka_);refine blk_put (cs := #[.int .i64 t470,.int .i64 0]) ?_ 1 _ rfl;(with_reducible repeat first|apply kn_|apply kd_|apply ka_);refine blk_put (cs := #[.int .i64 0,.int .i64 0]) ?_ 0 _ rfl;(with_reducible repeat first|apply kn_|apply kd_|apply ka_);exact BK473.out⟩,⟨by repeat (first|(with_reducible first|exact HB.out|apply ba_|apply pd_|apply d1_|refine bs_ ?_ GE457.out|refine bs_ ?_ GE458.out|refine bs_ ?_ GE459.out|refine bs_ ?_ GE469.out|refine bs_ ?_ GE473.out)|exact HB.out)⟩⟩
        ·rw [if_neg c84] at H
         have c84b0 : (t468 == 0) = false := beq_eq_false_iff_ne.mpr c84
         have c84b1 : (t468 != 0) = true := bne_iff_ne.mpr c84
         (first|rw [c84b0]|(simp only [i64_w,i32_w];rw [c84b0])|skip)
         have H' := sd_ H
         clear H
         go_wp2
         go_meet
         case rel => exact ⟨_,(false),(by first|rfl|(simp;done)|(simp [*];done)|(simp [bne];done)),H',⟨by have := HJ3.out;have := HJ36.out;first|omega|exact Nat.le_refl _⟩,⟨by (with_reducible repeat first|apply kn_|apply kd_|apply ka_);refine blk_far ?_ NB457_473.out _;(with_reducible repeat first|apply kn_|apply kd_|apply ka_);refine blk_far ?_ NB457_473.out _;(with_reducible repeat first|apply kn_|apply kd_|apply ka_);exact BK457.out⟩,⟨by (with_reducible repeat first|apply kn_|apply kd_|apply ka_);refine blk_far ?_ NB458_473.out _;(with_reducible repeat first|apply kn_|apply kd_|apply ka_);refine blk_far ?_ NB458_473.out _;(with_reducible repeat first|apply kn_|apply kd_|apply ka_);exact BK458.out⟩,⟨by (with_reducible repeat first|apply kn_|apply kd_|apply ka_);refine blk_far ?_ NB459_473.out _;(with_reducible repeat first|apply kn_|apply kd_|apply ka_);refine blk_far ?_ NB459_473.out _;(with_reducible repeat first|apply kn_|apply kd_|apply ka_);exact BK459.out⟩,⟨by (with_reducible repeat first|apply kn_|apply kd_|apply ka_);refine blk_far ?_ NB469_473.out _;(with_reducible repeat first|apply kn_|apply kd_|apply ka_);refine blk_far ?_ NB469_473.out _;(with_reducible repeat first|apply kn_|apply kd_|apply ka_);exact BK469.out⟩,⟨by (with_reducible repeat first|apply kn_|apply kd_|apply ka_);refine blk_put (cs := #[.int .i64 t470,.int .i64 0]) ?_ 1 _ rfl;(with_reducible repeat first|apply kn_|apply kd_|apply ka_);refine blk_put (cs := #[.int .i64 0,.int .i64 0]) ?_ 0 _ rfl;(with_reducible repeat first|apply kn_|apply kd_|apply ka_);exact BK473.out⟩,⟨by repeat (first|(with_reducible first|exact HB.out|apply ba_|apply pd_|apply d1_|refine bs_ ?_ GE457.out|refine bs_ ?_ GE458.out|refine bs_ ?_ GE459.out|refine bs_ ?_ GE469.out|refine bs_ ?_ GE473.out)|exact HB.out)⟩⟩
       case rest =>
        clear HC63
        try clear c1;try clear c2;try clear p2;try clear c3;try clear c4;try clear c5;try clear c6;try clear p6;try clear c7;try clear c8;try clear c9;try clear c11;try clear c13;try clear c14;try clear c17;try clear c18;try clear c22;try clear c23;try clear c26;try clear c29;try clear c30;try clear c33;try clear c38;try clear c39;try clear c41;try clear c45;try clear c45b0;try clear c45b1;try clear c46;try clear c47;try clear c49;try clear c54;try clear c55;try clear c57;try clear c60;try clear c64;try clear p64;try clear c65;try clear c67;try clear c71;try clear c72;try clear c73;try clear c79;try clear c80;try clear c81;try clear c82;try clear c84;try clear c84b0;try clear c84b1;try clear c85;try clear c85b0;try clear c85b1;try clear c87;try clear c88;try clear c89;try clear c90;try clear c92;try clear c93;try clear c94;try clear hcz15_0;try clear hcz15_1;try clear hcz18_0;try clear hcz18_1;try clear hcz20_0;try clear hcz20_1;try clear hcz24_0;try clear hcz24_1;try clear hcz27_0;try clear hcz27_1;try clear hcz31_0;try clear hcz31_1;try clear hcz40_0;try clear hcz40_1;try clear hcz42_0;try clear hcz42_1;try clear hcz48_0;try clear hcz48_1;try clear hcz50_0;try clear hcz50_1;try clear hcz52_0;try clear hcz52_1;try clear hcz53_0;try clear hcz53_1;try clear hcz56_0;try clear hcz56_1;try clear hcz58_0;try clear hcz58_1;try clear hcz66_0;try clear hcz66_1;try clear hcz68_0;try clear hcz68_1;try clear hcz74_0;try clear hcz74_1;try clear hcz75_0;try clear hcz75_1;try clear hcz76_0;try clear hcz76_1;try clear hcz83_0;try clear hcz83_1;try clear hcz91_0;try clear hcz91_1;try clear hcz95_0;try clear hcz95_1;try clear hfz15_0;try clear hfz15_1;try clear hfz18_0;try clear hfz18_1;try clear hfz20_0;try clear hfz20_1;try clear hfz24_0;try clear hfz24_1;try clear hfz27_0;try clear hfz27_1;try clear hfz31_0;try clear hfz31_1;try clear hfz40_0;try clear hfz40_1;try clear hfz42_0;try clear hfz42_1;try clear hfz48_0;try clear hfz48_1;try clear hfz50_0;try clear hfz50_1;try clear hfz52_0;try clear hfz52_1;try clear hfz53_0;try clear hfz53_1;try clear hfz56_0;try clear hfz56_1;try clear hfz58_0;try clear hfz58_1;try clear hfz66_0;try clear hfz66_1;try clear hfz68_0;try clear hfz68_1;try clear hfz74_0;try clear hfz74_1;try clear hfz75_0;try clear hfz75_1;try clear hfz76_0;try clear hfz76_1;try clear hfz83_0;try clear hfz83_1;try clear hfz91_0;try clear hfz91_1;try clear hfz95_0;try clear hfz95_1;try clear p2;try clear p6
        obtain ⟨kq,x68_62,rfl,HA,HJ62,BK457,BK458,BK459,BK469,BK473,HB⟩ := hcut
        cases kq with
        | zero => exact absurd HA.out (by simp [neumelaw02_RatOrder.j2])
        | succ kj62 =>
         have H := HA.out
         clear HA
         simp only [neumelaw02_RatOrder.j2] at H
         by_cases c97 : x68_62 = true
         ·subst c97
          have H1 : (some false) = some r := by rw [if_pos rfl] at H;exact H
          clear H;have H := H1;clear H1
          exact absurd ((Option.some.inj H).trans hxt.out) (by decide)
         ·replace c97 := bf_ c97
          subst c97
          have H1 : ((rat_Floor.f kj62 a0_0 a0_1).bind fun t475 => ((rat_Cmp.f kj62 t475 1 a0_0 a0_1).bind fun t476 => (if t476 ≤ 0 then (if t475 = 1099511627776 then ((neumelaw02_heads.f kj62).bind fun t477 => (some t477)) else ((rat_Cmp.f kj62 a0_0 a0_1 (wrap64 (t475 + 1)) 1).bind fun t478 => (if t478 < 0 then ((neumelaw02_heads.f kj62).bind fun t479 => (some t479)) else (some false)))) else (some false)))) = some r := by rw [if_neg (show ¬ (false = true) by decide)] at H;exact H
          clear H;have H := H1;clear H1
          replace H := ob_ H
          obtain ⟨t475,A980,H⟩ := H
          replace H : ((rat_Cmp.f kj62 t475 1 a0_0 a0_1).bind fun t476 => (if t476 ≤ 0 then (if t475 = 1099511627776 then ((neumelaw02_heads.f kj62).bind fun t477 => (some t477)) else ((rat_Cmp.f kj62 a0_0 a0_1 (wrap64 (t475 + 1)) 1).bind fun t478 => (if t478 < 0 then ((neumelaw02_heads.f kj62).bind fun t479 => (some t479)) else (some false)))) else (some false))) = some r := H
          have A98 := sd_ A980
          clear A980
          replace H := ob_ H
          obtain ⟨t476,A990,H⟩ := H
          replace H : (if t476 ≤ 0 then (if t475 = 1099511627776 then ((neumelaw02_heads.f kj62).bind fun t477 => (some t477)) else ((rat_Cmp.f kj62 a0_0 a0_1 (wrap64 (t475 + 1)) 1).bind fun t478 => (if t478 < 0 then ((neumelaw02_heads.f kj62).bind fun t479 => (some t479)) else (some false)))) else (some false)) = some r := H
          have A99 := sd_ A990
          clear A990
          by_cases c100 : t476 ≤ 0
          ·rw [if_pos c100] at H
           have c100b0 : decide (t476 ≤ 0) = true := dt_ c100
           clear c100
           by_cases c101 : t475 = 1099511627776
           ·rw [if_pos c101] at H
            have c101b0 : (t475 == 1099511627776) = true := beq_iff_eq.mpr c101
            have c101b1 : (t475 != 1099511627776) = false := bne_eq_false_iff_eq.mpr c101
            clear c101
            replace H := ob_ H
            obtain ⟨t477,A1020,H⟩ := H
            replace H : (some t477) = some r := H
            have A102 := sd_ A1020
            clear A1020
            obtain rfl := Option.some.inj H
            have hnb103 := NB457_458.out
            have hnc103 := NB458_457.out
            have hnb104 := NB457_459.out
            have hnc104 := NB459_457.out
            have hnb105 := NB457_469.out
            have hnc105 := NB469_457.out
            have hnb106 := NB457_473.out
            have hnc106 := NB473_457.out
            have hcz107_0 : wc.cell? ⟨gb457,0,none⟩ = some (.int .i64 a0_0) := (kc_ BK457.out 0).trans rfl
            have hcz107_1 : wc.cell? ⟨gb457,1,none⟩ = some (.int .i64 a0_1) := (kc_ BK457.out 1).trans rfl
            have hfz107_0 := kf_ BK457.out 0
            have hfz107_1 := kf_ BK457.out 1
            go_wp2_with (first|((with_reducible refine gate_callee (f := 25) rfl ?_);refine goesL_ (some 70) rfl rfl Tryd.func25 (by kernel_rfl) rfl #[.agg #[.int .i64 a0_0,.int .i64 a0_1]] rfl (by (try simp only [lm_,lq_,lx_]);first|done|rfl|(simp only [ld_,lt_];rfl)) ?_;(with_reducible refine (rat_Floor.calls kj62 a0_0 a0_1 t475 _ A98.out).mono ?_);rintro e w108 ⟨rfl,hb⟩;refine ⟨_,rfl,?_⟩;replace BK457 := kb_ BK457 hb;replace BK458 := kb_ BK458 hb;replace BK459 := kb_ BK459 hb;replace BK469 := kb_ BK469 hb;replace BK473 := kb_ BK473 hb;replace HB := hb_ HB (e_ GE457 (e_ GE458 (e_ GE459 (e_ GE469 (e_ GE473 e0_))))) hb;(try clear hb);(try clear hb2);(try clear hk);(try clear hi);have hcz109_0 : w108.cell? ⟨gb457,0,none⟩ = some (.int .i64 a0_0) := (kc_ BK457.out 0).trans rfl;have hcz109_1 : w108.cell? ⟨gb457,1,none⟩ = some (.int .i64 a0_1) := (kc_ BK457.out 1).trans rfl;have hfz109_0 := kf_ BK457.out 0;have hfz109_1 := kf_ BK457.out 1)|((with_reducible refine gate_callee (f := 23) rfl ?_);refine goesL_ (some 74) rfl rfl Tryd.func23 (by kernel_rfl) rfl #[.agg #[.int .i64 t475,.int .i64 1],.agg #[.int .i64 a0_0,.int .i64 a0_1]] rfl (by (try simp only [lm_,lq_,lx_]);first|done|rfl|(simp only [ld_,lt_];rfl)) ?_;(with_reducible refine (rat_Cmp.calls kj62 t475 1 a0_0 a0_1 t476 _ A99.out).mono ?_);rintro e w110 ⟨rfl,hb⟩;refine ⟨_,rfl,?_⟩;replace BK457 := kb_ BK457 hb;replace BK458 := kb_ BK458 hb;replace BK459 := kb_ BK459 hb;replace BK469 := kb_ BK469 hb;replace BK473 := kb_ BK473 hb;replace HB := hb_ HB (e_ GE457 (e_ GE458 (e_ GE459 (e_ GE469 (e_ GE473 e0_))))) hb;(try clear hb);(try clear hb2);(try clear hk);(try clear hi))|(go_at_call 18;(with_reducible refine (neumelaw02_heads.calls kj62  t477 _ ?side1 A102.out).mono ?_);(case side1 => first|(with_reducible exact hE)|exact sd_ (LaidE.below hE.out (bb_ HB.out (e_ GE457 (e_ GE458 (e_ GE459 (e_ GE469 (e_ GE473 e0_))))))));rintro e w111 ⟨rfl,hb⟩;replace BK457 := kb_ BK457 hb;replace BK458 := kb_ BK458 hb;replace BK459 := kb_ BK459 hb;replace BK469 := kb_ BK469 hb;replace BK473 := kb_ BK473 hb;replace HB := hb_ HB (e_ GE457 (e_ GE458 (e_ GE459 (e_ GE469 (e_ GE473 e0_))))) hb;(try clear hb);(try clear hb2);(try clear hk);(try clear hi)))
            go_ret
            exact ⟨by first|rfl|(simp [errW_none,errW_some] <;> rfl)|(simp [*,errW_none,errW_some] <;> rfl),by repeat (first|(with_reducible first|exact HB.out|apply ba_|apply pd_|apply d1_|refine bs_ ?_ GE457.out|refine bs_ ?_ GE458.out|refine bs_ ?_ GE459.out|refine bs_ ?_ GE469.out|refine bs_ ?_ GE473.out)|exact HB.out)⟩
           ·rw [if_neg c101] at H
            have c101b0 : (t475 == 1099511627776) = false := beq_eq_false_iff_ne.mpr c101
            have c101b1 : (t475 != 1099511627776) = true := bne_iff_ne.mpr c101
            replace H := ob_ H
            obtain ⟨t478,A1120,H⟩ := H
            replace H : (if t478 < 0 then ((neumelaw02_heads.f kj62).bind fun t479 => (some t479)) else (some false)) = some r := H
            have A112 := sd_ A1120
            clear A1120
            by_cases c113 : t478 < 0
            ·rw [if_pos c113] at H
             have c113b0 : decide (t478 < 0) = true := dt_ c113
             clear c113
             replace H := ob_ H
             obtain ⟨t479,A1140,H⟩ := H
             replace H : (some t479) = some r := H
             have A114 := sd_ A1140
             clear A1140
             obtain rfl := Option.some.inj H
             have hnb115 := NB457_458.out
             have hnc115 := NB458_457.out
             have hnb116 := NB457_459.out
             have hnc116 := NB459_457.out
             have hnb117 := NB457_469.out
             have hnc117 := NB469_457.out
             have hnb118 := NB457_473.out
             have hnc118 := NB473_457.out
             have hcz119_0 : wc.cell? ⟨gb457,0,none⟩ = some (.int .i64 a0_0) := (kc_ BK457.out 0).trans rfl
             have hcz119_1 : wc.cell? ⟨gb457,1,none⟩ = some (.int .i64 a0_1) := (kc_ BK457.out 1).trans rfl
             have hfz119_0 := kf_ BK457.out 0
             have hfz119_1 := kf_ BK457.out 1
             go_wp2_with (first|((with_reducible refine gate_callee (f := 25) rfl ?_);refine goesL_ (some 70) rfl rfl Tryd.func25 (by kernel_rfl) rfl #[.agg #[.int .i64 a0_0,.int .i64 a0_1]] rfl (by (try simp only [lm_,lq_,lx_]);first|done|rfl|(simp only [ld_,lt_];rfl)) ?_;(with_reducible refine (rat_Floor.calls kj62 a0_0 a0_1 t475 _ A98.out).mono ?_);rintro e w120 ⟨rfl,hb⟩;refine ⟨_,rfl,?_⟩;replace BK457 := kb_ BK457 hb;replace BK458 := kb_ BK458 hb;replace BK459 := kb_ BK459 hb;replace BK469 := kb_ BK469 hb;replace BK473 := kb_ BK473 hb;replace HB := hb_ HB (e_ GE457 (e_ GE458 (e_ GE459 (e_ GE469 (e_ GE473 e0_))))) hb;(try clear hb);(try clear hb2);(try clear hk);(try clear hi);have hcz121_0 : w120.cell? ⟨gb457,0,none⟩ = some (.int .i64 a0_0) := (kc_ BK457.out 0).trans rfl;have hcz121_1 : w120.cell? ⟨gb457,1,none⟩ = some (.int .i64 a0_1) := (kc_ BK457.out 1).trans rfl;have hfz121_0 := kf_ BK457.out 0;have hfz121_1 := kf_ BK457.out 1)|((with_reducible refine gate_callee (f := 23) rfl ?_);refine goesL_ (some 74) rfl rfl Tryd.func23 (by kernel_rfl) rfl #[.agg #[.int .i64 t475,.int .i64 1],.agg #[.int .i64 a0_0,.int .i64 a0_1]] rfl (by (try simp only [lm_,lq_,lx_]);first|done|rfl|(simp only [ld_,lt_];rfl)) ?_;(with_reducible refine (rat_Cmp.calls kj62 t475 1 a0_0 a0_1 t476 _ A99.out).mono ?_);rintro e w122 ⟨rfl,hb⟩;refine ⟨_,rfl,?_⟩;replace BK457 := kb_ BK457 hb;replace BK458 := kb_ BK458 hb;replace BK459 := kb_ BK459 hb;replace BK469 := kb_ BK469 hb;replace BK473 := kb_ BK473 hb;replace HB := hb_ HB (e_ GE457 (e_ GE458 (e_ GE459 (e_ GE469 (e_ GE473 e0_))))) hb;(try clear hb);(try clear hb2);(try clear hk);(try clear hi);have hcz123_0 : w122.cell? ⟨gb457,0,none⟩ = some (.int .i64 a0_0) := (kc_ BK457.out 0).trans rfl;have hcz123_1 : w122.cell? ⟨gb457,1,none⟩ = some (.int .i64 a0_1) := (kc_ BK457.out 1).trans rfl;have hfz123_0 := kf_ BK457.out 0;have hfz123_1 := kf_ BK457.out 1)|(go_at_call 23;(with_reducible refine (rat_Cmp.calls kj62 a0_0 a0_1 (wrap64 (t475 + 1)) 1 t478 _ A112.out).mono ?_);rintro e w124 ⟨rfl,hb⟩;replace BK457 := kb_ BK457 hb;replace BK458 := kb_ BK458 hb;replace BK459 := kb_ BK459 hb;replace BK469 := kb_ BK469 hb;replace BK473 := kb_ BK473 hb;replace HB := hb_ HB (e_ GE457 (e_ GE458 (e_ GE459 (e_ GE469 (e_ GE473 e0_))))) hb;(try clear hb);(try clear hb2);(try clear hk);(try clear hi))|(go_at_call 18;(with_reducible refine (neumelaw02_heads.calls kj62  t479 _ ?side1 A114.out).mono ?_);(case side1 => first|(with_reducible exact hE)|exact sd_ (LaidE.below hE.out (bb_ HB.out (e_ GE457 (e_ GE458 (e_ GE459 (e_ GE469 (e_ GE473 e0_))))))));rintro e w125 ⟨rfl,hb⟩;replace BK457 := kb_ BK457 hb;replace BK458 := kb_ BK458 hb;replace BK459 := kb_ BK459 hb;replace BK469 := kb_ BK469 hb;replace BK473 := kb_ BK473 hb;replace HB := hb_ HB (e_ GE457 (e_ GE458 (e_ GE459 (e_ GE469 (e_ GE473 e0_))))) hb;(try clear hb);(try clear hb2);(try clear hk);(try clear hi)))
             go_ret
             exact ⟨by first|rfl|(simp [errW_none,errW_some] <;> rfl)|(simp [*,errW_none,errW_some] <;> rfl),by repeat (first|(with_reducible first|exact HB.out|apply ba_|apply pd_|apply d1_|refine bs_ ?_ GE457.out|refine bs_ ?_ GE458.out|refine bs_ ?_ GE459.out|refine bs_ ?_ GE469.out|refine bs_ ?_ GE473.out)|exact HB.out)⟩
            ·rw [if_neg c113] at H
             have c113b0 : decide (t478 < 0) = false := df_ c113
             clear c113
             exact absurd ((Option.some.inj H).trans hxt.out) (by decide)
          ·rw [if_neg c100] at H
           have c100b0 : decide (t476 ≤ 0) = false := df_ c100
           clear c100
           exact absurd ((Option.some.inj H).trans hxt.out) (by decide)

end Go.Proofs.YtmbdbinbdiiapaaDoor.P
