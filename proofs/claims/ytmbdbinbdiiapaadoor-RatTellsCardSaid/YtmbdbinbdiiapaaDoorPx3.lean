-- Written by a program of this session (wip/tools/xprint.py, over the kit's print): Lean checks it.
import Derived.Test.YtmbdbinbdiiapaaDoorPx0
import Derived.Test.YtmbdbinbdiiapaaDoorPx2
namespace Go.Proofs.YtmbdbinbdiiapaaDoor.P
open Go.RowKit Go.Proofs.YtmbdbinbdiiapaaDoorW.PrintWords Go.Proofs.YtmbdbinbdiiapaaDoorW.PrintLast Go.Proofs.YtmbdbinbdiiapaaDoorW.PrintMore
attribute [local go_sem] max2_int min2_int max_two min_two max_three min_three max_four min_four   -- for this text's walks alone
set_option linter.unusedVariables false
set_option linter.unusedSimpArgs false

/-! ### rat_Add: function 8 -/
def rat_Add.f (k : Nat) (a0_0 : Int) (a0_1 : Int) (a1_0 : Int) (a1_1 : Int) : Option (Int × Int × Int) := (rat_both.f k a0_0 a0_1 a1_0 a1_1).bind fun t130 => (if t130 = true then ((rat_common.f k a0_1 a1_1).bind fun t131 => (if t131 = 0 then (none) else ((rat_lowest.f k (wrap64 ((wrap64 (a0_0 * (wrap64 (Int.tdiv a1_1 t131)))) + (wrap64 (a1_0 * (wrap64 (Int.tdiv a0_1 t131)))))) (wrap64 ((wrap64 (Int.tdiv a0_1 t131)) * a1_1))).bind fun bt132 => (some (bt132.1, bt132.2.1, bt132.2.2))))) else ((rat_zero.f).bind fun bt135 => (some (bt135.1, bt135.2, 2))))
theorem rat_Add.mono : ∀ a0 a1 a2 a3 k, LeO (rat_Add.f k a0 a1 a2 a3) (rat_Add.f (k + 1) a0 a1 a2 a3) := by
 intro a0 a1 a2 a3 k
 unfold rat_Add.f
 repeat' first
   | (with_reducible exact rat_both.mono _ _ _ _ _)
   | (with_reducible exact rat_common.mono _ _ _)
   | (with_reducible exact rat_lowest.mono _ _ _)
   | (with_reducible exact LeO.refl _)
   | (with_reducible exact LeO.none _)
   | (with_reducible refine LeO.ite ?_ ?_)
   | (with_reducible refine LeO.bind ?_ (fun _ => ?_))
   | exact rat_both.mono _ _ _ _ _
   | exact rat_common.mono _ _ _
   | exact rat_lowest.mono _ _ _
   | exact LeO.none _
   | refine LeO.ite ?_ ?_
   | refine LeO.bind ?_ (fun _ => ?_)
def rat_Add.T4 : Bool × List (List Nat × List Nat) := (true, [([], []), ([0], [0]), ([], []), ([2], [2]), ([], []), ([3, 4], [3, 4]), ([1, 5], [1, 5]), ([], []), ([7], [7]), ([], []), ([9], [9]), ([], []), ([10, 11], [10, 11]), ([8, 12], [8, 12]), ([6, 13], [6, 13]), ([], []), ([15], [15]), ([], []), ([16, 17], [16, 17]), ([], []), ([19], [19]), ([18, 20], [18, 20]), ([14, 21], [14, 21]), ([22], [22]), ([22], [22]), ([23, 22, 0, 1, 2, 3, 4, 5, 6, 7, 8, 9, 10, 11, 12, 13, 14, 15, 16, 17, 18, 19, 20, 21, 22, 23, 24], [23]), ([24, 25, 0, 1, 2, 3, 4, 5, 6, 7, 8, 9, 10, 11, 12, 13, 14, 15, 16, 17, 18, 19, 20, 21, 22, 23, 24, 25], [24])])
def rat_Add.B4 : List Nat := [0, 1, 0, 4, 0, 28, 63, 0, 128, 0, 512, 0, 3584, 8064, 16383, 0, 32768, 0, 229376, 0, 524288, 2064384, 4194303, 8388607, 8388607, 33554431, 67108863]
theorem rat_Add.tab4 : rtab .any (opsOf Tryd.f8 4) = rat_Add.T4 := by kernel_rfl
theorem rat_Add.bits4 : waitsOk rat_Add.T4.2 rat_Add.B4 = true := by kernel_rfl
set_option maxHeartbeats 8000000 in
set_option maxRecDepth 100000 in
theorem rat_Add.calls (k : Nat) (a0_0 : Int) (a0_1 : Int) (a1_0 : Int) (a1_1 : Int) (r1 : Int) (r2 : Int) (r3 : Int) (w : World) (h : rat_Add.f k a0_0 a0_1 a1_0 a1_1 = some (r1, r2, r3)) :
  Calls Tryd.prog 8 #[.agg #[.int .i64 a0_0,.int .i64 a0_1],.agg #[.int .i64 a1_0,.int .i64 a1_1]] w fun e w' => e = .returned (.tuple #[.agg #[.int .i64 r1,.int .i64 r2],.int .i64 r3]) ∧ Below w.heap.size w w' := by
 have hu23 := Tryd.underlying23
 have HB := sd_ (Below.refl w.heap.size w)
 have H : ((rat_both.f k a0_0 a0_1 a1_0 a1_1).bind fun t130 => (if t130 = true then ((rat_common.f k a0_1 a1_1).bind fun t131 => (if t131 = 0 then (none) else ((rat_lowest.f k (wrap64 ((wrap64 (a0_0 * (wrap64 (Int.tdiv a1_1 t131)))) + (wrap64 (a1_0 * (wrap64 (Int.tdiv a0_1 t131)))))) (wrap64 ((wrap64 (Int.tdiv a0_1 t131)) * a1_1))).bind fun bt132 => (some (bt132.1,bt132.2.1,bt132.2.2))))) else ((rat_zero.f).bind fun bt135 => (some (bt135.1,bt135.2,2))))) = some (r1,r2,r3) := h
 clear h
 replace H := ob_ H
 obtain ⟨t130,A30,H⟩ := H
 replace H : (if t130 = true then ((rat_common.f k a0_1 a1_1).bind fun t131 => (if t131 = 0 then (none) else ((rat_lowest.f k (wrap64 ((wrap64 (a0_0 * (wrap64 (Int.tdiv a1_1 t131)))) + (wrap64 (a1_0 * (wrap64 (Int.tdiv a0_1 t131)))))) (wrap64 ((wrap64 (Int.tdiv a0_1 t131)) * a1_1))).bind fun bt132 => (some (bt132.1,bt132.2.1,bt132.2.2))))) else ((rat_zero.f).bind fun bt135 => (some (bt135.1,bt135.2,2)))) = some (r1,r2,r3) := H
 have A3 := sd_ A30
 clear A30
 by_cases c4 : t130 = true
 ·subst c4
  have H1 : ((rat_common.f k a0_1 a1_1).bind fun t131 => (if t131 = 0 then (none) else ((rat_lowest.f k (wrap64 ((wrap64 (a0_0 * (wrap64 (Int.tdiv a1_1 t131)))) + (wrap64 (a1_0 * (wrap64 (Int.tdiv a0_1 t131)))))) (wrap64 ((wrap64 (Int.tdiv a0_1 t131)) * a1_1))).bind fun bt132 => (some (bt132.1,bt132.2.1,bt132.2.2))))) = some (r1,r2,r3) := by rw [if_pos rfl] at H;exact H
  clear H;have H := H1;clear H1
  replace H := ob_ H
  obtain ⟨t131,A50,H⟩ := H
  replace H : (if t131 = 0 then (none) else ((rat_lowest.f k (wrap64 ((wrap64 (a0_0 * (wrap64 (Int.tdiv a1_1 t131)))) + (wrap64 (a1_0 * (wrap64 (Int.tdiv a0_1 t131)))))) (wrap64 ((wrap64 (Int.tdiv a0_1 t131)) * a1_1))).bind fun bt132 => (some (bt132.1,bt132.2.1,bt132.2.2)))) = some (r1,r2,r3) := H
  have A5 := sd_ A50
  clear A50
  by_cases c6 : t131 = 0
  ·rw [if_pos c6] at H
   exact absurd H (by simp)
  ·rw [if_neg c6] at H
   have c6b0 : (t131 == 0) = false := beq_eq_false_iff_ne.mpr c6
   have c6b1 : (t131 != 0) = true := bne_iff_ne.mpr c6
   replace H := ob_ H
   obtain ⟨⟨t132,t133,t134⟩,A70,H⟩ := H
   replace H : (some (t132,t133,t134)) = some (r1,r2,r3) := H
   have A7 := sd_ A70
   clear A70
   simp only [Option.some.injEq,Prod.mk.injEq] at H
   obtain ⟨rfl,rfl,rfl⟩ := H
   go_enter Tryd.func8,Tryd.ntmps8
   try go_wp2_with (first|((with_reducible refine gate_dst (N := 2) rfl ?_);refine box_event ?hg (N := 2) ?hd (cs := #[.int .i64 a0_0,.int .i64 a0_1]) (t := 23) ?hr ?_;(case hd => rfl);(case hg => rfl);(case hr => first|(go_simp;done)|(go_simp;rfl));intro gb127 hg w8 hbox hb;have BK127 := sd_ hbox;have GW127 := gw_ HB e0_ hg;have GE127 := GW127;replace HB := hb_ HB e0_ hb;clear hb hbox hg)|((with_reducible refine gate_dst (N := 3) rfl ?_);refine box_event ?hg (N := 3) ?hd (cs := #[.int .i64 a1_0,.int .i64 a1_1]) (t := 23) ?hr ?_;(case hd => rfl);(case hg => rfl);(case hr => first|(go_simp;done)|(go_simp;rfl));intro gb128 hg w9 hbox hb;have BK128 := sd_ hbox;have GW128 := gw_ HB (e_ GE127 e0_) hg;have GE128 := GW128;have NB127_128 := nb_ BK127 hg;have NB128_127 := sy_ NB127_128;replace BK127 := kb_ BK127 hb;replace HB := hb_ HB (e_ GE127 e0_) hb;clear hb hbox hg)|((with_reducible refine gate_dst (N := 4) rfl ?_);refine box_event ?hg (N := 4) ?hd (cs := #[.int .i64 0,.int .i64 0]) (t := 23) ?hr ?_;(case hd => rfl);(case hg => rfl);(case hr => first|(go_simp;done)|(go_simp;rfl));intro gb129 hg w10 hbox hb;have BK129 := sd_ hbox;have GW129 := gw_ HB (e_ GE127 (e_ GE128 e0_)) hg;have GE129 := GW129;have NB127_129 := nb_ BK127 hg;have NB129_127 := sy_ NB127_129;have NB128_129 := nb_ BK128 hg;have NB129_128 := sy_ NB128_129;replace BK127 := kb_ BK127 hb;replace BK128 := kb_ BK128 hb;replace HB := hb_ HB (e_ GE127 (e_ GE128 e0_)) hb;clear hb hbox hg;have hnb11 := NB127_128.out;have hnc11 := NB128_127.out;have hnb12 := NB127_129.out;have hnc12 := NB129_127.out;have hcz13_0 : w10.cell? ⟨gb127,0,none⟩ = some (.int .i64 a0_0) := (kc_ BK127.out 0).trans rfl;have hcz13_1 : w10.cell? ⟨gb127,1,none⟩ = some (.int .i64 a0_1) := (kc_ BK127.out 1).trans rfl;have hfz13_0 := kf_ BK127.out 0;have hfz13_1 := kf_ BK127.out 1;have hnb14 := NB128_129.out;have hnc14 := NB129_128.out;have hcz15_0 : w10.cell? ⟨gb128,0,none⟩ = some (.int .i64 a1_0) := (kc_ BK128.out 0).trans rfl;have hcz15_1 : w10.cell? ⟨gb128,1,none⟩ = some (.int .i64 a1_1) := (kc_ BK128.out 1).trans rfl;have hfz15_0 := kf_ BK128.out 0;have hfz15_1 := kf_ BK128.out 1)|((with_reducible refine gate_callee (f := 31) rfl ?_);refine goesL_ (some 9) rfl rfl Tryd.func31 (by kernel_rfl) rfl #[.agg #[.int .i64 a0_0,.int .i64 a0_1],.agg #[.int .i64 a1_0,.int .i64 a1_1]] rfl (by (try simp only [lm_,lq_,lx_]);first|done|rfl|(simp only [ld_,lt_];rfl)) ?_;(with_reducible refine (rat_both.calls k a0_0 a0_1 a1_0 a1_1 true _ A3.out).mono ?_);rintro e w16 ⟨rfl,hb⟩;refine ⟨_,rfl,?_⟩;replace BK127 := kb_ BK127 hb;replace BK128 := kb_ BK128 hb;replace BK129 := kb_ BK129 hb;replace HB := hb_ HB (e_ GE127 (e_ GE128 (e_ GE129 e0_))) hb;(try clear hb);(try clear hb2);(try clear hk);(try clear hi);have hcz17_0 : w16.cell? ⟨gb127,0,none⟩ = some (.int .i64 a0_0) := (kc_ BK127.out 0).trans rfl;have hcz17_1 : w16.cell? ⟨gb127,1,none⟩ = some (.int .i64 a0_1) := (kc_ BK127.out 1).trans rfl;have hfz17_0 := kf_ BK127.out 0;have hfz17_1 := kf_ BK127.out 1;have hcz18_0 : w16.cell? ⟨gb128,0,none⟩ = some (.int .i64 a1_0) := (kc_ BK128.out 0).trans rfl;have hcz18_1 : w16.cell? ⟨gb128,1,none⟩ = some (.int .i64 a1_1) := (kc_ BK128.out 1).trans rfl;have hfz18_0 := kf_ BK128.out 0;have hfz18_1 := kf_ BK128.out 1)|((with_reducible refine gate_callee (f := 33) rfl ?_);refine goesL_ (some 16) rfl rfl Tryd.func33 (by kernel_rfl) rfl #[.int .i64 a0_1,.int .i64 a1_1] rfl (by (try simp only [lm_,lq_,lx_]);first|done|rfl|(simp only [ld_,lt_];rfl)) ?_;(with_reducible refine (rat_common.calls k a0_1 a1_1 t131 _ A5.out).mono ?_);rintro e w' ⟨rfl,⟨nd,rfl⟩⟩;refine ⟨_,rfl,?_⟩;(repeat (rw [drewN_self w16];generalize hq_ : World.drewN w16 _ = w16;have n0_ : Aside0 (w16.heap[gb127]? = some (.cells #[.int .i64 a0_0,.int .i64 a0_1] 23 (0,0))) := ⟨by rw [← hq_];exact (kk_ BK127.out)⟩;have n1_ : Aside0 (w16.heap[gb128]? = some (.cells #[.int .i64 a1_0,.int .i64 a1_1] 23 (0,0))) := ⟨by rw [← hq_];exact (kk_ BK128.out)⟩;have n2_ : Aside0 (w16.heap[gb129]? = some (.cells #[.int .i64 0,.int .i64 0] 23 (0,0))) := ⟨by rw [← hq_];exact (kk_ BK129.out)⟩;have n3_ : Aside0 (Below w.heap.size w w16) := ⟨by rw [← hq_];exact (bb_ HB.out (e_ GE127 (e_ GE128 (e_ GE129 e0_))))⟩;clear BK127 BK128 BK129 HB hq_;have BK127 := n0_;have BK128 := n1_;have BK129 := n2_;have HB := n3_;clear n0_ n1_ n2_ n3_))))
   replace BK127 := sd_ (kd_ BK127.out)
   replace BK128 := sd_ (kd_ BK128.out)
   replace BK129 := sd_ (kd_ BK129.out)
   replace HB := sd_ (d1_ HB.out)
   refine start_ (n := 27) (S := fun w' => w'.cell? ⟨gb127,0,none⟩ = some (.int .i64 a0_0) ∧ w'.cell? ⟨gb127,1,none⟩ = some (.int .i64 a0_1) ∧ w'.cell? ⟨gb128,0,none⟩ = some (.int .i64 a1_0) ∧ w'.cell? ⟨gb128,1,none⟩ = some (.int .i64 a1_1)) (ds := []) (Array.replicate 27 false) (by kernel_rfl) rfl rfl ⟨(kc_ BK127.out 0).trans rfl,(kc_ BK127.out 1).trans rfl,(kc_ BK128.out 0).trans rfl,(kc_ BK128.out 1).trans rfl⟩ (fun hHeld => ?_);refine with_tabW rat_Add.tab4 rat_Add.bits4 (fun HT_ HW_ => ?_)
   generalize w16.drew = w19 at BK127 BK128 BK129 HB hHeld ⊢
   refine pu_ (v := ?_) (a' := ?_) 0 17 (bz 27 1) rfl rfl HT_ (by kernel_rfl) (fun _ _ _ h => h) (by rfl) ?_ ?_ ?_
   rotate_left;(intro w';go_simp;with_reducible rfl);rotate_left;(simp only [Act.put,ls_,lz_,lc_,i64_w,i32_w];rfl)
   refine pu_ (v := ?_) (a' := ?_) 2 19 (bz 27 5) rfl rfl HT_ (by kernel_rfl) (fun _ _ _ h => h) (by rfl) ?_ ?_ ?_
   rotate_left;(intro w';go_simp;with_reducible rfl);rotate_left;(simp only [Act.put,ls_,lz_,lc_,i64_w,i32_w];rfl)
   refine pu_ (v := ?_) (a' := ?_) 4 21 (bz 27 21) rfl rfl HT_ (by kernel_rfl) (fun _ _ _ h => h) (by rfl) ?_ ?_ ?_
   rotate_left;(intro w';go_simp;with_reducible rfl);rotate_left;(simp only [Act.put,ls_,lz_,lc_,i64_w,i32_w];rfl)
   refine pu_ (v := ?_) (a' := ?_) 7 24 (bz 27 149) rfl rfl HT_ (by kernel_rfl) (fun _ _ _ h => h) (by rfl) ?_ ?_ ?_
   rotate_left;(intro w';go_simp;with_reducible rfl);rotate_left;(simp only [Act.put,ls_,lz_,lc_,i64_w,i32_w];rfl)
   refine pu_ (v := ?_) (a' := ?_) 9 26 (bz 27 661) rfl rfl HT_ (by kernel_rfl) (fun _ _ _ h => h) (by rfl) ?_ ?_ ?_
   rotate_left;(intro w';go_simp;with_reducible rfl);rotate_left;(simp only [Act.put,ls_,lz_,lc_,i64_w,i32_w];rfl)
   refine pu_ (v := ?_) (a' := ?_) 11 28 (bz 27 2709) rfl rfl HT_ (by kernel_rfl) (fun _ _ _ h => h) (by rfl) ?_ ?_ ?_
   rotate_left;(intro w';go_simp;with_reducible rfl);rotate_left;(simp only [Act.put,ls_,lz_,lc_,i64_w,i32_w];rfl)
   refine pu_ (v := ?_) (a' := ?_) 15 32 (bz 27 35477) rfl rfl HT_ (by kernel_rfl) (fun _ _ _ h => h) (by rfl) ?_ ?_ ?_
   rotate_left;(intro w';go_simp;with_reducible rfl);rotate_left;(simp only [Act.put,ls_,lz_,lc_,i64_w,i32_w];rfl)
   refine pu_ (v := ?_) (a' := ?_) 17 34 (bz 27 166549) rfl rfl HT_ (by kernel_rfl) (fun _ _ _ h => h) (by rfl) ?_ ?_ ?_
   rotate_left;(intro w';go_simp;with_reducible rfl);rotate_left;(simp only [Act.put,ls_,lz_,lc_,i64_w,i32_w];rfl)
   refine pu_ (v := ?_) (a' := ?_) 19 36 (bz 27 690837) rfl rfl HT_ (by kernel_rfl) (fun _ _ _ h => h) (by rfl) ?_ ?_ ?_
   rotate_left;(intro w';go_simp;with_reducible rfl);rotate_left;(simp only [Act.put,ls_,lz_,lc_,i64_w,i32_w];rfl)
   refine ta_ (v := ?_) (a' := ?_) 1 18 (bz 27 690839) rfl rfl HT_ HW_ (by kernel_rfl) (fun _ _ _ h => h) (by rfl) ?_ hHeld ?_ ?_
   rotate_left
   ·rintro w' ⟨s0,s1,s2,s3⟩
    go_simp
    with_reducible rfl
   rotate_left
   ·simp only [Act.put,ls_,lz_,lc_,i64_w,i32_w]
    rfl
   refine ta_ (v := ?_) (a' := ?_) 3 20 (bz 27 690847) rfl rfl HT_ HW_ (by kernel_rfl) (fun _ _ _ h => h) (by rfl) ?_ hHeld ?_ ?_
   rotate_left
   ·rintro w' ⟨s0,s1,s2,s3⟩
    go_simp
    with_reducible rfl
   rotate_left
   ·simp only [Act.put,ls_,lz_,lc_,i64_w,i32_w]
    rfl
   refine pu_ (v := ?_) (a' := ?_) 5 22 (bz 27 690879) rfl rfl HT_ (by kernel_rfl) (fun _ _ _ h => h) (by rfl) ?_ ?_ ?_
   rotate_left;(intro w';go_simp;with_reducible rfl);rotate_left;(simp only [Act.put,ls_,lz_,lc_,i64_w,i32_w];rfl)
   refine pu_ (v := ?_) (a' := ?_) 6 23 (bz 27 690943) rfl rfl HT_ (by kernel_rfl) (fun _ _ _ h => h) (by rfl) ?_ ?_ ?_
   rotate_left;(intro w';go_simp;with_reducible rfl);rotate_left;(simp only [Act.put,ls_,lz_,lc_,i64_w,i32_w];rfl)
   refine ta_ (v := ?_) (a' := ?_) 8 25 (bz 27 691199) rfl rfl HT_ HW_ (by kernel_rfl) (fun _ _ _ h => h) (by rfl) ?_ hHeld ?_ ?_
   rotate_left
   ·rintro w' ⟨s0,s1,s2,s3⟩
    go_simp
    with_reducible rfl
   rotate_left
   ·simp only [Act.put,ls_,lz_,lc_,i64_w,i32_w]
    rfl
   refine ta_ (v := ?_) (a' := ?_) 10 27 (bz 27 692223) rfl rfl HT_ HW_ (by kernel_rfl) (fun _ _ _ h => h) (by rfl) ?_ hHeld ?_ ?_
   rotate_left
   ·rintro w' ⟨s0,s1,s2,s3⟩
    go_simp
    with_reducible rfl
   rotate_left
   ·simp only [Act.put,ls_,lz_,lc_,i64_w,i32_w]
    rfl
   refine pu_ (v := ?_) (a' := ?_) 12 29 (bz 27 696319) rfl rfl HT_ (by kernel_rfl) (fun _ _ _ h => h) (by rfl) ?_ ?_ ?_
   rotate_left;(intro w';go_simp;with_reducible rfl);rotate_left;(simp only [Act.put,ls_,lz_,lc_,i64_w,i32_w];rfl)
   refine pu_ (v := ?_) (a' := ?_) 13 30 (bz 27 704511) rfl rfl HT_ (by kernel_rfl) (fun _ _ _ h => h) (by rfl) ?_ ?_ ?_
   rotate_left;(intro w';go_simp;with_reducible rfl);rotate_left;(simp only [Act.put,ls_,lz_,lc_,i64_w,i32_w];rfl)
   refine pu_ (v := ?_) (a' := ?_) 14 31 (bz 27 720895) rfl rfl HT_ (by kernel_rfl) (fun _ _ _ h => h) (by rfl) ?_ ?_ ?_
   rotate_left;(intro w';go_simp;with_reducible rfl);rotate_left;(simp only [Act.put,ls_,lz_,lc_,i64_w,i32_w];rfl)
   refine ta_ (v := ?_) (a' := ?_) 16 33 (bz 27 786431) rfl rfl HT_ HW_ (by kernel_rfl) (fun _ _ _ h => h) (by rfl) ?_ hHeld ?_ ?_
   rotate_left
   ·rintro w' ⟨s0,s1,s2,s3⟩
    go_simp
    with_reducible rfl
   rotate_left
   ·simp only [Act.put,ls_,lz_,lc_,i64_w,i32_w]
    rfl
   refine pu_ (v := ?_) (a' := ?_) 18 35 (bz 27 1048575) rfl rfl HT_ (by kernel_rfl) (fun _ _ _ h => h) (by rfl) ?_ ?_ ?_
   rotate_left;(intro w';go_simp;with_reducible rfl);rotate_left;(simp only [Act.put,ls_,lz_,lc_,i64_w,i32_w];rfl)
   refine ta_ (v := ?_) (a' := ?_) 20 37 (bz 27 2097151) rfl rfl HT_ HW_ (by kernel_rfl) (fun _ _ _ h => h) (by rfl) ?_ hHeld ?_ ?_
   rotate_left
   ·rintro w' ⟨s0,s1,s2,s3⟩
    go_simp
    with_reducible rfl
   rotate_left
   ·simp only [Act.put,ls_,lz_,lc_,i64_w,i32_w]
    rfl
   refine pu_ (v := ?_) (a' := ?_) 21 38 (bz 27 4194303) rfl rfl HT_ (by kernel_rfl) (fun _ _ _ h => h) (by rfl) ?_ ?_ ?_
   rotate_left;(intro w';go_simp;with_reducible rfl);rotate_left;(simp only [Act.put,ls_,lz_,lc_,i64_w,i32_w];rfl)
   refine on_ (N := some 39) 22 (bz 27 8388607) rfl rfl HT_ (by kernel_rfl) (by decide) (fun K hK => ?_)
   refine goes_ Tryd.func34 (by kernel_rfl) rfl #[.int .i64 (wrap64 ((wrap64 (a0_0 * (wrap64 (Int.tdiv a1_1 t131)))) + (wrap64 (a1_0 * (wrap64 (Int.tdiv a0_1 t131)))))),.int .i64 (wrap64 ((wrap64 (Int.tdiv a0_1 t131)) * a1_1))] (by rfl) rfl rfl (by (try simp only [lm_,lq_,lx_]);first|done|rfl|(simp only [ld_,lt_];rfl)) ?_
   with_reducible refine (rat_lowest.calls k (wrap64 ((wrap64 (a0_0 * (wrap64 (Int.tdiv a1_1 t131)))) + (wrap64 (a1_0 * (wrap64 (Int.tdiv a0_1 t131)))))) (wrap64 ((wrap64 (Int.tdiv a0_1 t131)) * a1_1)) t132 t133 t134 _ A7.out).mono ?_
   rintro e w20 ⟨rfl,hb⟩
   refine ⟨_,rfl,?_⟩
   replace BK127 := kb_ BK127 hb
   replace BK128 := kb_ BK128 hb
   replace BK129 := kb_ BK129 hb
   replace HB := hb_ HB (e_ GE127 (e_ GE128 (e_ GE129 e0_))) hb
   (try clear hb)
   (try clear hb2)
   (try clear hk)
   (try clear hi)
   refine hK.out _ _ ⟨(kc_ BK127.out 0).trans rfl,(kc_ BK127.out 1).trans rfl,(kc_ BK128.out 0).trans rfl,(kc_ BK128.out 1).trans rfl⟩ (fun hHeld => ?_)
   clear hK K
   refine norm_ (a' := ?_) ?_ ?_
   rotate_left
   ·show Act.put _ (some 39) _ = _
    simp only [Act.put,ls_,lz_,lc_,i64_w,i32_w]
    rfl
   refine pu_ (v := ?_) (a' := ?_) 23 40 (bz 27 16777215) rfl rfl HT_ (by kernel_rfl) (fun _ _ _ h => h) (by rfl) ?_ ?_ ?_
   rotate_left;(intro w';go_simp;with_reducible rfl);rotate_left;(simp only [Act.put,ls_,lz_,lc_,i64_w,i32_w];rfl)
   refine pu_ (v := ?_) (a' := ?_) 24 41 (bz 27 33554431) rfl rfl HT_ (by kernel_rfl) (fun _ _ _ h => h) (by rfl) ?_ ?_ ?_
   rotate_left;(intro w';go_simp;with_reducible rfl);rotate_left;(simp only [Act.put,ls_,lz_,lc_,i64_w,i32_w];rfl)
   refine on_ (N := none) 25 (bz 27 67108863) rfl rfl HT_ (by kernel_rfl) (by decide) (fun K hK => ?_)
   have hs21 : w20.cell? ⟨gb129,0,none⟩ = some (.int .i64 0) := (kc_ BK129.out 0).trans rfl
   have hfs21 := kf_ BK129.out 0
   have hns21_0 := NB127_129.out
   have hns21_1 := NB128_129.out
   have hms21_0 := NB129_127.out
   have hms21_1 := NB129_128.out
   have hs22 : w20.cell? ⟨gb129,1,none⟩ = some (.int .i64 0) := (kc_ BK129.out 1).trans rfl
   have hfs22 := kf_ BK129.out 1
   have hns22_0 := NB127_129.out
   have hns22_1 := NB128_129.out
   have hms22_0 := NB129_127.out
   have hms22_1 := NB129_128.out
   refine skip_ (w1 := ?_) (by rfl) rfl ?_ ?_
   rotate_left
   ·go_simp
    rfl
   refine hK.out _ _ ⟨((cell_far (p := ⟨gb129,_,none⟩) NB127_129.out _).trans (((cell_far (p := ⟨gb129,_,none⟩) NB127_129.out _).trans (hHeld.1)))),((cell_far (p := ⟨gb129,_,none⟩) NB127_129.out _).trans (((cell_far (p := ⟨gb129,_,none⟩) NB127_129.out _).trans (hHeld.2.1)))),((cell_far (p := ⟨gb129,_,none⟩) NB128_129.out _).trans (((cell_far (p := ⟨gb129,_,none⟩) NB128_129.out _).trans (hHeld.2.2.1)))),((cell_far (p := ⟨gb129,_,none⟩) NB128_129.out _).trans (((cell_far (p := ⟨gb129,_,none⟩) NB128_129.out _).trans (hHeld.2.2.2))))⟩ (fun hHeld => ?_)
   clear hK K
   refine pu_ (v := ?_) (a' := ?_) 26 5 (bz 27 134217727) rfl rfl HT_ (by kernel_rfl) (fun _ _ _ h => h) (by rfl) ?_ ?_ ?_
   rotate_left;(intro w';go_simp;with_reducible rfl);rotate_left;(simp only [Act.put,ls_,lz_,lc_,i64_w,i32_w];rfl)
   refine done_ (done_of HT_.out (by kernel_rfl)) ?_
   try go_wp2
   refine bodyPost_ret (results_ct rfl _ _ gb129 23 #[.int .i64 t132,.int .i64 t133] (0,0) _ rfl (by (with_reducible repeat first|apply kn_|apply kd_|apply ka_);refine blk_put (cs := #[.int .i64 t132,.int .i64 0]) ?_ 1 _ rfl;(with_reducible repeat first|apply kn_|apply kd_|apply ka_);refine blk_put (cs := #[.int .i64 0,.int .i64 0]) ?_ 0 _ rfl;(with_reducible repeat first|apply kn_|apply kd_|apply ka_);exact BK129.out) Tryd.underlying23 rfl (by kernel_rfl)) rfl ?_
   exact ⟨by first|rfl|(simp [errW_none,errW_some] <;> rfl)|(simp [*,errW_none,errW_some] <;> rfl),by repeat (first|(with_reducible first|exact HB.out|apply ba_|apply pd_|apply d1_|refine bs_ ?_ GE127.out|refine bs_ ?_ GE128.out|refine bs_ ?_ GE129.out)|exact HB.out)⟩
 ·replace c4 := bf_ c4
  subst c4
  have H1 : ((rat_zero.f).bind fun bt135 => (some (bt135.1,bt135.2,2))) = some (r1,r2,r3) := by rw [if_neg (show ¬ (false = true) by decide)] at H;exact H
  clear H;have H := H1;clear H1
  replace H := ob_ H
  obtain ⟨⟨t135,t136⟩,A230,H⟩ := H
  replace H : (some (t135,t136,2)) = some (r1,r2,r3) := H
  have A23 := sd_ A230
  clear A230
  simp only [Option.some.injEq,Prod.mk.injEq] at H
  obtain ⟨rfl,rfl,rfl⟩ := H
  go_enter Tryd.func8,Tryd.ntmps8
  go_wp2_with (first|((with_reducible refine gate_dst (N := 2) rfl ?_);refine box_event ?hg (N := 2) ?hd (cs := #[.int .i64 a0_0,.int .i64 a0_1]) (t := 23) ?hr ?_;(case hd => rfl);(case hg => rfl);(case hr => first|(go_simp;done)|(go_simp;rfl));intro gb127 hg w24 hbox hb;have BK127 := sd_ hbox;have GW127 := gw_ HB e0_ hg;have GE127 := GW127;replace HB := hb_ HB e0_ hb;clear hb hbox hg)|((with_reducible refine gate_dst (N := 3) rfl ?_);refine box_event ?hg (N := 3) ?hd (cs := #[.int .i64 a1_0,.int .i64 a1_1]) (t := 23) ?hr ?_;(case hd => rfl);(case hg => rfl);(case hr => first|(go_simp;done)|(go_simp;rfl));intro gb128 hg w25 hbox hb;have BK128 := sd_ hbox;have GW128 := gw_ HB (e_ GE127 e0_) hg;have GE128 := GW128;have NB127_128 := nb_ BK127 hg;have NB128_127 := sy_ NB127_128;replace BK127 := kb_ BK127 hb;replace HB := hb_ HB (e_ GE127 e0_) hb;clear hb hbox hg)|((with_reducible refine gate_dst (N := 4) rfl ?_);refine box_event ?hg (N := 4) ?hd (cs := #[.int .i64 0,.int .i64 0]) (t := 23) ?hr ?_;(case hd => rfl);(case hg => rfl);(case hr => first|(go_simp;done)|(go_simp;rfl));intro gb129 hg w26 hbox hb;have BK129 := sd_ hbox;have GW129 := gw_ HB (e_ GE127 (e_ GE128 e0_)) hg;have GE129 := GW129;have NB127_129 := nb_ BK127 hg;have NB129_127 := sy_ NB127_129;have NB128_129 := nb_ BK128 hg;have NB129_128 := sy_ NB128_129;replace BK127 := kb_ BK127 hb;replace BK128 := kb_ BK128 hb;replace HB := hb_ HB (e_ GE127 (e_ GE128 e0_)) hb;clear hb hbox hg;have hnb27 := NB127_128.out;have hnc27 := NB128_127.out;have hnb28 := NB127_129.out;have hnc28 := NB129_127.out;have hcz29_0 : w26.cell? ⟨gb127,0,none⟩ = some (.int .i64 a0_0) := (kc_ BK127.out 0).trans rfl;have hcz29_1 : w26.cell? ⟨gb127,1,none⟩ = some (.int .i64 a0_1) := (kc_ BK127.out 1).trans rfl;have hfz29_0 := kf_ BK127.out 0;have hfz29_1 := kf_ BK127.out 1;have hnb30 := NB128_129.out;have hnc30 := NB129_128.out;have hcz31_0 : w26.cell? ⟨gb128,0,none⟩ = some (.int .i64 a1_0) := (kc_ BK128.out 0).trans rfl;have hcz31_1 : w26.cell? ⟨gb128,1,none⟩ = some (.int .i64 a1_1) := (kc_ BK128.out 1).trans rfl;have hfz31_0 := kf_ BK128.out 0;have hfz31_1 := kf_ BK128.out 1)|((with_reducible refine gate_callee (f := 31) rfl ?_);refine goesL_ (some 9) rfl rfl Tryd.func31 (by kernel_rfl) rfl #[.agg #[.int .i64 a0_0,.int .i64 a0_1],.agg #[.int .i64 a1_0,.int .i64 a1_1]] rfl (by (try simp only [lm_,lq_,lx_]);first|done|rfl|(simp only [ld_,lt_];rfl)) ?_;(with_reducible refine (rat_both.calls k a0_0 a0_1 a1_0 a1_1 false _ A3.out).mono ?_);rintro e w32 ⟨rfl,hb⟩;refine ⟨_,rfl,?_⟩;replace BK127 := kb_ BK127 hb;replace BK128 := kb_ BK128 hb;replace BK129 := kb_ BK129 hb;replace HB := hb_ HB (e_ GE127 (e_ GE128 (e_ GE129 e0_))) hb;(try clear hb);(try clear hb2);(try clear hk);(try clear hi))|((with_reducible refine gate_callee (f := 32) rfl ?_);refine goesL_ (some 11) rfl rfl Tryd.func32 (by kernel_rfl) rfl #[] rfl (by (try simp only [lm_,lq_,lx_]);first|done|rfl|(simp only [ld_,lt_];rfl)) ?_;(with_reducible refine (rat_zero.calls  t135 t136 _ A23.out).mono ?_);rintro e w33 ⟨rfl,hb⟩;refine ⟨_,rfl,?_⟩;replace BK127 := kb_ BK127 hb;replace BK128 := kb_ BK128 hb;replace BK129 := kb_ BK129 hb;replace HB := hb_ HB (e_ GE127 (e_ GE128 (e_ GE129 e0_))) hb;(try clear hb);(try clear hb2);(try clear hk);(try clear hi);have hcz34_0 : w33.cell? ⟨gb129,0,none⟩ = some (.int .i64 0) := (kc_ BK129.out 0).trans rfl;have hcz34_1 : w33.cell? ⟨gb129,1,none⟩ = some (.int .i64 0) := (kc_ BK129.out 1).trans rfl;have hfz34_0 := kf_ BK129.out 0;have hfz34_1 := kf_ BK129.out 1))
  refine bodyPost_ret (results_ct rfl _ _ gb129 23 #[.int .i64 t135,.int .i64 t136] (0,0) _ rfl (by (with_reducible repeat first|apply kn_|apply kd_|apply ka_);refine blk_put (cs := #[.int .i64 t135,.int .i64 0]) ?_ 1 _ rfl;(with_reducible repeat first|apply kn_|apply kd_|apply ka_);refine blk_put (cs := #[.int .i64 0,.int .i64 0]) ?_ 0 _ rfl;(with_reducible repeat first|apply kn_|apply kd_|apply ka_);exact BK129.out) Tryd.underlying23 rfl (by kernel_rfl)) rfl ?_
  exact ⟨by first|rfl|(simp [errW_none,errW_some] <;> rfl)|(simp [*,errW_none,errW_some] <;> rfl),by repeat (first|(with_reducible first|exact HB.out|apply ba_|apply pd_|apply d1_|refine bs_ ?_ GE127.out|refine bs_ ?_ GE128.out|refine bs_ ?_ GE129.out)|exact HB.out)⟩

/-! ### rat_negated: function 37 -/
def rat_negated.f (a0_0 : Int) (a0_1 : Int) : Option (Int × Int) := some (wrap64 (-a0_0), a0_1)
set_option maxHeartbeats 8000000 in
set_option maxRecDepth 100000 in
theorem rat_negated.calls (a0_0 : Int) (a0_1 : Int) (r1 : Int) (r2 : Int) (w : World) (h : rat_negated.f a0_0 a0_1 = some (r1, r2)) :
  Calls Tryd.prog 37 #[.agg #[.int .i64 a0_0,.int .i64 a0_1]] w fun e w' => e = .returned (.agg #[.int .i64 r1,.int .i64 r2]) ∧ Below w.heap.size w w' := by
 have hu23 := Tryd.underlying23
 have HB := sd_ (Below.refl w.heap.size w)
 have H : (some (wrap64 (-a0_0),a0_1)) = some (r1,r2) := h
 clear h
 simp only [Option.some.injEq,Prod.mk.injEq] at H
 obtain ⟨rfl,rfl⟩ := H
 go_enter Tryd.func37,Tryd.ntmps37
 go_wp2_with (first|((with_reducible refine gate_dst (N := 1) rfl ?_);refine box_event ?hg (N := 1) ?hd (cs := #[.int .i64 a0_0,.int .i64 a0_1]) (t := 23) ?hr ?_;(case hd => rfl);(case hg => rfl);(case hr => first|(go_simp;done)|(go_simp;rfl));intro gb154 hg w2 hbox hb;have BK154 := sd_ hbox;have GW154 := gw_ HB e0_ hg;have GE154 := GW154;replace HB := hb_ HB e0_ hb;clear hb hbox hg)|((with_reducible refine gate_dst (N := 2) rfl ?_);refine box_event ?hg (N := 2) ?hd (cs := #[.int .i64 0,.int .i64 0]) (t := 23) ?hr ?_;(case hd => rfl);(case hg => rfl);(case hr => first|(go_simp;done)|(go_simp;rfl));intro gb155 hg w3 hbox hb;have BK155 := sd_ hbox;have GW155 := gw_ HB (e_ GE154 e0_) hg;have GE155 := GW155;have NB154_155 := nb_ BK154 hg;have NB155_154 := sy_ NB154_155;replace BK154 := kb_ BK154 hb;replace HB := hb_ HB (e_ GE154 e0_) hb;clear hb hbox hg;have hnb4 := NB154_155.out;have hnc4 := NB155_154.out;have hcz5_0 : w3.cell? ⟨gb154,0,none⟩ = some (.int .i64 a0_0) := (kc_ BK154.out 0).trans rfl;have hcz5_1 : w3.cell? ⟨gb154,1,none⟩ = some (.int .i64 a0_1) := (kc_ BK154.out 1).trans rfl;have hfz5_0 := kf_ BK154.out 0;have hfz5_1 := kf_ BK154.out 1;have hcz6_0 : w3.cell? ⟨gb155,0,none⟩ = some (.int .i64 0) := (kc_ BK155.out 0).trans rfl;have hcz6_1 : w3.cell? ⟨gb155,1,none⟩ = some (.int .i64 0) := (kc_ BK155.out 1).trans rfl;have hfz6_0 := kf_ BK155.out 0;have hfz6_1 := kf_ BK155.out 1))
 refine bodyPost_ret (results_cell_row rfl _ _ gb155 23 #[.int .i64 (wrap64 (-a0_0)),.int .i64 a0_1] (0,0) _ rfl (by (with_reducible repeat first|apply kn_|apply kd_|apply ka_);refine blk_put (cs := #[.int .i64 (wrap64 (-a0_0)),.int .i64 0]) ?_ 1 _ rfl;(with_reducible repeat first|apply kn_|apply kd_|apply ka_);refine blk_put (cs := #[.int .i64 0,.int .i64 0]) ?_ 0 _ rfl;(with_reducible repeat first|apply kn_|apply kd_|apply ka_);exact BK155.out) Tryd.underlying23 rfl (by kernel_rfl)) rfl ?_
 exact ⟨by first|rfl|(simp [errW_none,errW_some] <;> rfl)|(simp [*,errW_none,errW_some] <;> rfl),by repeat (first|(with_reducible first|exact HB.out|apply ba_|apply pd_|apply d1_|refine bs_ ?_ GE154.out|refine bs_ ?_ GE155.out)|exact HB.out)⟩

/-! ### rat_Sub: function 10 -/
def rat_Sub.f (k : Nat) (a0_0 : Int) (a0_1 : Int) (a1_0 : Int) (a1_1 : Int) : Option (Int × Int × Int) := (rat_both.f k a0_0 a0_1 a1_0 a1_1).bind fun t159 => (if t159 = true then ((rat_negated.f a1_0 a1_1).bind fun bt160 => ((rat_Add.f k a0_0 a0_1 bt160.1 bt160.2).bind fun bt162 => (some (bt162.1, bt162.2.1, bt162.2.2)))) else ((rat_zero.f).bind fun bt165 => (some (bt165.1, bt165.2, 2))))
theorem rat_Sub.mono : ∀ a0 a1 a2 a3 k, LeO (rat_Sub.f k a0 a1 a2 a3) (rat_Sub.f (k + 1) a0 a1 a2 a3) := by
 intro a0 a1 a2 a3 k
 unfold rat_Sub.f
 repeat' first
   | (with_reducible exact rat_Add.mono _ _ _ _ _)
   | (with_reducible exact rat_both.mono _ _ _ _ _)
   | (with_reducible exact LeO.refl _)
   | (with_reducible exact LeO.none _)
   | (with_reducible refine LeO.ite ?_ ?_)
   | (with_reducible refine LeO.bind ?_ (fun _ => ?_))
   | exact rat_Add.mono _ _ _ _ _
   | exact rat_both.mono _ _ _ _ _
   | exact LeO.none _
   | refine LeO.ite ?_ ?_
   | refine LeO.bind ?_ (fun _ => ?_)
def rat_Sub.T3 : Bool × List (List Nat × List Nat) := (true, [([], []), ([], []), ([1], [1]), ([0, 2, 2], [0, 2]), ([3], [3]), ([3], [3]), ([4, 3, 0, 1, 2, 3, 4, 5], [4]), ([5, 6, 0, 1, 2, 3, 4, 5, 6], [5])])
def rat_Sub.B3 : List Nat := [0, 0, 2, 7, 15, 15, 63, 127]
theorem rat_Sub.tab3 : rtab .any (opsOf Tryd.f10 3) = rat_Sub.T3 := by kernel_rfl
theorem rat_Sub.bits3 : waitsOk rat_Sub.T3.2 rat_Sub.B3 = true := by kernel_rfl
set_option maxHeartbeats 8000000 in
set_option maxRecDepth 100000 in
theorem rat_Sub.calls (k : Nat) (a0_0 : Int) (a0_1 : Int) (a1_0 : Int) (a1_1 : Int) (r1 : Int) (r2 : Int) (r3 : Int) (w : World) (h : rat_Sub.f k a0_0 a0_1 a1_0 a1_1 = some (r1, r2, r3)) :
  Calls Tryd.prog 10 #[.agg #[.int .i64 a0_0,.int .i64 a0_1],.agg #[.int .i64 a1_0,.int .i64 a1_1]] w fun e w' => e = .returned (.tuple #[.agg #[.int .i64 r1,.int .i64 r2],.int .i64 r3]) ∧ Below w.heap.size w w' := by
 have hu23 := Tryd.underlying23
 have HB := sd_ (Below.refl w.heap.size w)
 have H : ((rat_both.f k a0_0 a0_1 a1_0 a1_1).bind fun t159 => (if t159 = true then ((rat_negated.f a1_0 a1_1).bind fun bt160 => ((rat_Add.f k a0_0 a0_1 bt160.1 bt160.2).bind fun bt162 => (some (bt162.1,bt162.2.1,bt162.2.2)))) else ((rat_zero.f).bind fun bt165 => (some (bt165.1,bt165.2,2))))) = some (r1,r2,r3) := h
 clear h
 replace H := ob_ H
 obtain ⟨t159,A30,H⟩ := H
 replace H : (if t159 = true then ((rat_negated.f a1_0 a1_1).bind fun bt160 => ((rat_Add.f k a0_0 a0_1 bt160.1 bt160.2).bind fun bt162 => (some (bt162.1,bt162.2.1,bt162.2.2)))) else ((rat_zero.f).bind fun bt165 => (some (bt165.1,bt165.2,2)))) = some (r1,r2,r3) := H
 have A3 := sd_ A30
 clear A30
 by_cases c4 : t159 = true
 ·subst c4
  have H1 : ((rat_negated.f a1_0 a1_1).bind fun bt160 => ((rat_Add.f k a0_0 a0_1 bt160.1 bt160.2).bind fun bt162 => (some (bt162.1,bt162.2.1,bt162.2.2)))) = some (r1,r2,r3) := by rw [if_pos rfl] at H;exact H
  clear H;have H := H1;clear H1
  replace H := ob_ H
  obtain ⟨⟨t160,t161⟩,A50,H⟩ := H
  replace H : ((rat_Add.f k a0_0 a0_1 t160 t161).bind fun bt162 => (some (bt162.1,bt162.2.1,bt162.2.2))) = some (r1,r2,r3) := H
  have A5 := sd_ A50
  clear A50
  replace H := ob_ H
  obtain ⟨⟨t162,t163,t164⟩,A60,H⟩ := H
  replace H : (some (t162,t163,t164)) = some (r1,r2,r3) := H
  have A6 := sd_ A60
  clear A60
  simp only [Option.some.injEq,Prod.mk.injEq] at H
  obtain ⟨rfl,rfl,rfl⟩ := H
  go_enter Tryd.func10,Tryd.ntmps10
  try go_wp2_with (first|((with_reducible refine gate_dst (N := 2) rfl ?_);refine box_event ?hg (N := 2) ?hd (cs := #[.int .i64 a0_0,.int .i64 a0_1]) (t := 23) ?hr ?_;(case hd => rfl);(case hg => rfl);(case hr => first|(go_simp;done)|(go_simp;rfl));intro gb156 hg w7 hbox hb;have BK156 := sd_ hbox;have GW156 := gw_ HB e0_ hg;have GE156 := GW156;replace HB := hb_ HB e0_ hb;clear hb hbox hg)|((with_reducible refine gate_dst (N := 3) rfl ?_);refine box_event ?hg (N := 3) ?hd (cs := #[.int .i64 a1_0,.int .i64 a1_1]) (t := 23) ?hr ?_;(case hd => rfl);(case hg => rfl);(case hr => first|(go_simp;done)|(go_simp;rfl));intro gb157 hg w8 hbox hb;have BK157 := sd_ hbox;have GW157 := gw_ HB (e_ GE156 e0_) hg;have GE157 := GW157;have NB156_157 := nb_ BK156 hg;have NB157_156 := sy_ NB156_157;replace BK156 := kb_ BK156 hb;replace HB := hb_ HB (e_ GE156 e0_) hb;clear hb hbox hg)|((with_reducible refine gate_dst (N := 4) rfl ?_);refine box_event ?hg (N := 4) ?hd (cs := #[.int .i64 0,.int .i64 0]) (t := 23) ?hr ?_;(case hd => rfl);(case hg => rfl);(case hr => first|(go_simp;done)|(go_simp;rfl));intro gb158 hg w9 hbox hb;have BK158 := sd_ hbox;have GW158 := gw_ HB (e_ GE156 (e_ GE157 e0_)) hg;have GE158 := GW158;have NB156_158 := nb_ BK156 hg;have NB158_156 := sy_ NB156_158;have NB157_158 := nb_ BK157 hg;have NB158_157 := sy_ NB157_158;replace BK156 := kb_ BK156 hb;replace BK157 := kb_ BK157 hb;replace HB := hb_ HB (e_ GE156 (e_ GE157 e0_)) hb;clear hb hbox hg;have hnb10 := NB156_157.out;have hnc10 := NB157_156.out;have hnb11 := NB156_158.out;have hnc11 := NB158_156.out;have hcz12_0 : w9.cell? ⟨gb156,0,none⟩ = some (.int .i64 a0_0) := (kc_ BK156.out 0).trans rfl;have hcz12_1 : w9.cell? ⟨gb156,1,none⟩ = some (.int .i64 a0_1) := (kc_ BK156.out 1).trans rfl;have hfz12_0 := kf_ BK156.out 0;have hfz12_1 := kf_ BK156.out 1;have hnb13 := NB157_158.out;have hnc13 := NB158_157.out;have hcz14_0 : w9.cell? ⟨gb157,0,none⟩ = some (.int .i64 a1_0) := (kc_ BK157.out 0).trans rfl;have hcz14_1 : w9.cell? ⟨gb157,1,none⟩ = some (.int .i64 a1_1) := (kc_ BK157.out 1).trans rfl;have hfz14_0 := kf_ BK157.out 0;have hfz14_1 := kf_ BK157.out 1)|((with_reducible refine gate_callee (f := 31) rfl ?_);refine goesL_ (some 8) rfl rfl Tryd.func31 (by kernel_rfl) rfl #[.agg #[.int .i64 a0_0,.int .i64 a0_1],.agg #[.int .i64 a1_0,.int .i64 a1_1]] rfl (by (try simp only [lm_,lq_,lx_]);first|done|rfl|(simp only [ld_,lt_];rfl)) ?_;(with_reducible refine (rat_both.calls k a0_0 a0_1 a1_0 a1_1 true _ A3.out).mono ?_);rintro e w15 ⟨rfl,hb⟩;refine ⟨_,rfl,?_⟩;replace BK156 := kb_ BK156 hb;replace BK157 := kb_ BK157 hb;replace BK158 := kb_ BK158 hb;replace HB := hb_ HB (e_ GE156 (e_ GE157 (e_ GE158 e0_))) hb;(try clear hb);(try clear hb2);(try clear hk);(try clear hi)))
  replace BK156 := sd_ (kd_ BK156.out)
  replace BK157 := sd_ (kd_ BK157.out)
  replace BK158 := sd_ (kd_ BK158.out)
  replace HB := sd_ (d1_ HB.out)
  refine start_ (n := 8) (S := fun w' => w'.cell? ⟨gb156,0,none⟩ = some (.int .i64 a0_0) ∧ w'.cell? ⟨gb156,1,none⟩ = some (.int .i64 a0_1) ∧ w'.cell? ⟨gb157,0,none⟩ = some (.int .i64 a1_0) ∧ w'.cell? ⟨gb157,1,none⟩ = some (.int .i64 a1_1)) (ds := []) (Array.replicate 8 false) (by kernel_rfl) rfl rfl ⟨(kc_ BK156.out 0).trans rfl,(kc_ BK156.out 1).trans rfl,(kc_ BK157.out 0).trans rfl,(kc_ BK157.out 1).trans rfl⟩ (fun hHeld => ?_);refine with_tabW rat_Sub.tab3 rat_Sub.bits3 (fun HT_ HW_ => ?_)
  generalize w15.drew = w16 at BK156 BK157 BK158 HB hHeld ⊢
  refine ta_ (v := ?_) (a' := ?_) 0 11 (bz 8 1) rfl rfl HT_ HW_ (by kernel_rfl) (fun _ _ _ h => h) (by rfl) ?_ hHeld ?_ ?_
  rotate_left
  ·rintro w' ⟨s0,s1,s2,s3⟩
   go_simp
   with_reducible rfl
  rotate_left
  ·simp only [Act.put,ls_,lz_,lc_,i64_w,i32_w]
   rfl
  refine ta_ (v := ?_) (a' := ?_) 1 12 (bz 8 3) rfl rfl HT_ HW_ (by kernel_rfl) (fun _ _ _ h => h) (by rfl) ?_ hHeld ?_ ?_
  rotate_left
  ·rintro w' ⟨s0,s1,s2,s3⟩
   go_simp
   with_reducible rfl
  rotate_left
  ·simp only [Act.put,ls_,lz_,lc_,i64_w,i32_w]
   rfl
  refine on_ (N := some 13) 2 (bz 8 7) rfl rfl HT_ (by kernel_rfl) (by decide) (fun K hK => ?_)
  refine goes_ Tryd.func37 (by kernel_rfl) rfl #[.agg #[.int .i64 a1_0,.int .i64 a1_1]] (by rfl) rfl rfl (by (try simp only [lm_,lq_,lx_]);first|done|rfl|(simp only [ld_,lt_];rfl)) ?_
  with_reducible refine (rat_negated.calls a1_0 a1_1 t160 t161 _ A5.out).mono ?_
  rintro e w17 ⟨rfl,hb⟩
  refine ⟨_,rfl,?_⟩
  replace BK156 := kb_ BK156 hb
  replace BK157 := kb_ BK157 hb
  replace BK158 := kb_ BK158 hb
  replace HB := hb_ HB (e_ GE156 (e_ GE157 (e_ GE158 e0_))) hb
  (try clear hb)
  (try clear hb2)
  (try clear hk)
  (try clear hi)
  refine hK.out _ _ ⟨(kc_ BK156.out 0).trans rfl,(kc_ BK156.out 1).trans rfl,(kc_ BK157.out 0).trans rfl,(kc_ BK157.out 1).trans rfl⟩ (fun hHeld => ?_)
  clear hK K
  refine norm_ (a' := ?_) ?_ ?_
  rotate_left
  ·show Act.put _ (some 13) _ = _
   simp only [Act.put,ls_,lz_,lc_,i64_w,i32_w]
   rfl
  refine on_ (N := some 14) 3 (bz 8 15) rfl rfl HT_ (by kernel_rfl) (by decide) (fun K hK => ?_)
  refine goes_ Tryd.func8 (by kernel_rfl) rfl #[.agg #[.int .i64 a0_0,.int .i64 a0_1],.agg #[.int .i64 t160,.int .i64 t161]] (by rfl) rfl rfl (by (try simp only [lm_,lq_,lx_]);first|done|rfl|(simp only [ld_,lt_];rfl)) ?_
  with_reducible refine (rat_Add.calls k a0_0 a0_1 t160 t161 t162 t163 t164 _ A6.out).mono ?_
  rintro e w18 ⟨rfl,hb⟩
  refine ⟨_,rfl,?_⟩
  replace BK156 := kb_ BK156 hb
  replace BK157 := kb_ BK157 hb
  replace BK158 := kb_ BK158 hb
  replace HB := hb_ HB (e_ GE156 (e_ GE157 (e_ GE158 e0_))) hb
  (try clear hb)
  (try clear hb2)
  (try clear hk)
  (try clear hi)
  refine hK.out _ _ ⟨(kc_ BK156.out 0).trans rfl,(kc_ BK156.out 1).trans rfl,(kc_ BK157.out 0).trans rfl,(kc_ BK157.out 1).trans rfl⟩ (fun hHeld => ?_)
  clear hK K
  refine norm_ (a' := ?_) ?_ ?_
  rotate_left
  ·show Act.put _ (some 14) _ = _
   simp only [Act.put,ls_,lz_,lc_,i64_w,i32_w]
   rfl
  refine pu_ (v := ?_) (a' := ?_) 4 15 (bz 8 31) rfl rfl HT_ (by kernel_rfl) (fun _ _ _ h => h) (by rfl) ?_ ?_ ?_
  rotate_left;(intro w';go_simp;with_reducible rfl);rotate_left;(simp only [Act.put,ls_,lz_,lc_,i64_w,i32_w];rfl)
  refine pu_ (v := ?_) (a' := ?_) 5 16 (bz 8 63) rfl rfl HT_ (by kernel_rfl) (fun _ _ _ h => h) (by rfl) ?_ ?_ ?_
  rotate_left;(intro w';go_simp;with_reducible rfl);rotate_left;(simp only [Act.put,ls_,lz_,lc_,i64_w,i32_w];rfl)
  refine on_ (N := none) 6 (bz 8 127) rfl rfl HT_ (by kernel_rfl) (by decide) (fun K hK => ?_)
  have hs19 : w18.cell? ⟨gb158,0,none⟩ = some (.int .i64 0) := (kc_ BK158.out 0).trans rfl
  have hfs19 := kf_ BK158.out 0
  have hns19_0 := NB156_158.out
  have hns19_1 := NB157_158.out
  have hms19_0 := NB158_156.out
  have hms19_1 := NB158_157.out
  have hs20 : w18.cell? ⟨gb158,1,none⟩ = some (.int .i64 0) := (kc_ BK158.out 1).trans rfl
  have hfs20 := kf_ BK158.out 1
  have hns20_0 := NB156_158.out
  have hns20_1 := NB157_158.out
  have hms20_0 := NB158_156.out
  have hms20_1 := NB158_157.out
  refine skip_ (w1 := ?_) (by rfl) rfl ?_ ?_
  rotate_left
  ·go_simp
   rfl
  refine hK.out _ _ ⟨((cell_far (p := ⟨gb158,_,none⟩) NB156_158.out _).trans (((cell_far (p := ⟨gb158,_,none⟩) NB156_158.out _).trans (hHeld.1)))),((cell_far (p := ⟨gb158,_,none⟩) NB156_158.out _).trans (((cell_far (p := ⟨gb158,_,none⟩) NB156_158.out _).trans (hHeld.2.1)))),((cell_far (p := ⟨gb158,_,none⟩) NB157_158.out _).trans (((cell_far (p := ⟨gb158,_,none⟩) NB157_158.out _).trans (hHeld.2.2.1)))),((cell_far (p := ⟨gb158,_,none⟩) NB157_158.out _).trans (((cell_far (p := ⟨gb158,_,none⟩) NB157_158.out _).trans (hHeld.2.2.2))))⟩ (fun hHeld => ?_)
  clear hK K
  refine pu_ (v := ?_) (a' := ?_) 7 5 (bz 8 255) rfl rfl HT_ (by kernel_rfl) (fun _ _ _ h => h) (by rfl) ?_ ?_ ?_
  rotate_left;(intro w';go_simp;with_reducible rfl);rotate_left;(simp only [Act.put,ls_,lz_,lc_,i64_w,i32_w];rfl)
  refine done_ (done_of HT_.out (by kernel_rfl)) ?_
  try go_wp2
  refine bodyPost_ret (results_ct rfl _ _ gb158 23 #[.int .i64 t162,.int .i64 t163] (0,0) _ rfl (by (with_reducible repeat first|apply kn_|apply kd_|apply ka_);refine blk_put (cs := #[.int .i64 t162,.int .i64 0]) ?_ 1 _ rfl;(with_reducible repeat first|apply kn_|apply kd_|apply ka_);refine blk_put (cs := #[.int .i64 0,.int .i64 0]) ?_ 0 _ rfl;(with_reducible repeat first|apply kn_|apply kd_|apply ka_);exact BK158.out) Tryd.underlying23 rfl (by kernel_rfl)) rfl ?_
  exact ⟨by first|rfl|(simp [errW_none,errW_some] <;> rfl)|(simp [*,errW_none,errW_some] <;> rfl),by repeat (first|(with_reducible first|exact HB.out|apply ba_|apply pd_|apply d1_|refine bs_ ?_ GE156.out|refine bs_ ?_ GE157.out|refine bs_ ?_ GE158.out)|exact HB.out)⟩
 ·replace c4 := bf_ c4
  subst c4
  have H1 : ((rat_zero.f).bind fun bt165 => (some (bt165.1,bt165.2,2))) = some (r1,r2,r3) := by rw [if_neg (show ¬ (false = true) by decide)] at H;exact H
  clear H;have H := H1;clear H1
  replace H := ob_ H
  obtain ⟨⟨t165,t166⟩,A210,H⟩ := H
  replace H : (some (t165,t166,2)) = some (r1,r2,r3) := H
  have A21 := sd_ A210
  clear A210
  simp only [Option.some.injEq,Prod.mk.injEq] at H
  obtain ⟨rfl,rfl,rfl⟩ := H
  go_enter Tryd.func10,Tryd.ntmps10
  go_wp2_with (first|((with_reducible refine gate_dst (N := 2) rfl ?_);refine box_event ?hg (N := 2) ?hd (cs := #[.int .i64 a0_0,.int .i64 a0_1]) (t := 23) ?hr ?_;(case hd => rfl);(case hg => rfl);(case hr => first|(go_simp;done)|(go_simp;rfl));intro gb156 hg w22 hbox hb;have BK156 := sd_ hbox;have GW156 := gw_ HB e0_ hg;have GE156 := GW156;replace HB := hb_ HB e0_ hb;clear hb hbox hg)|((with_reducible refine gate_dst (N := 3) rfl ?_);refine box_event ?hg (N := 3) ?hd (cs := #[.int .i64 a1_0,.int .i64 a1_1]) (t := 23) ?hr ?_;(case hd => rfl);(case hg => rfl);(case hr => first|(go_simp;done)|(go_simp;rfl));intro gb157 hg w23 hbox hb;have BK157 := sd_ hbox;have GW157 := gw_ HB (e_ GE156 e0_) hg;have GE157 := GW157;have NB156_157 := nb_ BK156 hg;have NB157_156 := sy_ NB156_157;replace BK156 := kb_ BK156 hb;replace HB := hb_ HB (e_ GE156 e0_) hb;clear hb hbox hg)|((with_reducible refine gate_dst (N := 4) rfl ?_);refine box_event ?hg (N := 4) ?hd (cs := #[.int .i64 0,.int .i64 0]) (t := 23) ?hr ?_;(case hd => rfl);(case hg => rfl);(case hr => first|(go_simp;done)|(go_simp;rfl));intro gb158 hg w24 hbox hb;have BK158 := sd_ hbox;have GW158 := gw_ HB (e_ GE156 (e_ GE157 e0_)) hg;have GE158 := GW158;have NB156_158 := nb_ BK156 hg;have NB158_156 := sy_ NB156_158;have NB157_158 := nb_ BK157 hg;have NB158_157 := sy_ NB157_158;replace BK156 := kb_ BK156 hb;replace BK157 := kb_ BK157 hb;replace HB := hb_ HB (e_ GE156 (e_ GE157 e0_)) hb;clear hb hbox hg;have hnb25 := NB156_157.out;have hnc25 := NB157_156.out;have hnb26 := NB156_158.out;have hnc26 := NB158_156.out;have hcz27_0 : w24.cell? ⟨gb156,0,none⟩ = some (.int .i64 a0_0) := (kc_ BK156.out 0).trans rfl;have hcz27_1 : w24.cell? ⟨gb156,1,none⟩ = some (.int .i64 a0_1) := (kc_ BK156.out 1).trans rfl;have hfz27_0 := kf_ BK156.out 0;have hfz27_1 := kf_ BK156.out 1;have hnb28 := NB157_158.out;have hnc28 := NB158_157.out;have hcz29_0 : w24.cell? ⟨gb157,0,none⟩ = some (.int .i64 a1_0) := (kc_ BK157.out 0).trans rfl;have hcz29_1 : w24.cell? ⟨gb157,1,none⟩ = some (.int .i64 a1_1) := (kc_ BK157.out 1).trans rfl;have hfz29_0 := kf_ BK157.out 0;have hfz29_1 := kf_ BK157.out 1)|((with_reducible refine gate_callee (f := 31) rfl ?_);refine goesL_ (some 8) rfl rfl Tryd.func31 (by kernel_rfl) rfl #[.agg #[.int .i64 a0_0,.int .i64 a0_1],.agg #[.int .i64 a1_0,.int .i64 a1_1]] rfl (by (try simp only [lm_,lq_,lx_]);first|done|rfl|(simp only [ld_,lt_];rfl)) ?_;(with_reducible refine (rat_both.calls k a0_0 a0_1 a1_0 a1_1 false _ A3.out).mono ?_);rintro e w30 ⟨rfl,hb⟩;refine ⟨_,rfl,?_⟩;replace BK156 := kb_ BK156 hb;replace BK157 := kb_ BK157 hb;replace BK158 := kb_ BK158 hb;replace HB := hb_ HB (e_ GE156 (e_ GE157 (e_ GE158 e0_))) hb;(try clear hb);(try clear hb2);(try clear hk);(try clear hi))|((with_reducible refine gate_callee (f := 32) rfl ?_);refine goesL_ (some 10) rfl rfl Tryd.func32 (by kernel_rfl) rfl #[] rfl (by (try simp only [lm_,lq_,lx_]);first|done|rfl|(simp only [ld_,lt_];rfl)) ?_;(with_reducible refine (rat_zero.calls  t165 t166 _ A21.out).mono ?_);rintro e w31 ⟨rfl,hb⟩;refine ⟨_,rfl,?_⟩;replace BK156 := kb_ BK156 hb;replace BK157 := kb_ BK157 hb;replace BK158 := kb_ BK158 hb;replace HB := hb_ HB (e_ GE156 (e_ GE157 (e_ GE158 e0_))) hb;(try clear hb);(try clear hb2);(try clear hk);(try clear hi);have hcz32_0 : w31.cell? ⟨gb158,0,none⟩ = some (.int .i64 0) := (kc_ BK158.out 0).trans rfl;have hcz32_1 : w31.cell? ⟨gb158,1,none⟩ = some (.int .i64 0) := (kc_ BK158.out 1).trans rfl;have hfz32_0 := kf_ BK158.out 0;have hfz32_1 := kf_ BK158.out 1))
  refine bodyPost_ret (results_ct rfl _ _ gb158 23 #[.int .i64 t165,.int .i64 t166] (0,0) _ rfl (by (with_reducible repeat first|apply kn_|apply kd_|apply ka_);refine blk_put (cs := #[.int .i64 t165,.int .i64 0]) ?_ 1 _ rfl;(with_reducible repeat first|apply kn_|apply kd_|apply ka_);refine blk_put (cs := #[.int .i64 0,.int .i64 0]) ?_ 0 _ rfl;(with_reducible repeat first|apply kn_|apply kd_|apply ka_);exact BK158.out) Tryd.underlying23 rfl (by kernel_rfl)) rfl ?_
  exact ⟨by first|rfl|(simp [errW_none,errW_some] <;> rfl)|(simp [*,errW_none,errW_some] <;> rfl),by repeat (first|(with_reducible first|exact HB.out|apply ba_|apply pd_|apply d1_|refine bs_ ?_ GE156.out|refine bs_ ?_ GE157.out|refine bs_ ?_ GE158.out)|exact HB.out)⟩

/-! ### rat_whole: function 38 -/
def rat_whole.f (a0 : Int) : Option (Int × Int) := some (a0, 1)
set_option maxHeartbeats 8000000 in
set_option maxRecDepth 100000 in
theorem rat_whole.calls (a0 : Int) (r1 : Int) (r2 : Int) (w : World) (h : rat_whole.f a0 = some (r1, r2)) :
  Calls Tryd.prog 38 #[.int .i64 a0] w fun e w' => e = .returned (.agg #[.int .i64 r1,.int .i64 r2]) ∧ Below w.heap.size w w' := by
 have hu23 := Tryd.underlying23
 have HB := sd_ (Below.refl w.heap.size w)
 have H : (some (a0,1)) = some (r1,r2) := h
 clear h
 simp only [Option.some.injEq,Prod.mk.injEq] at H
 obtain ⟨rfl,rfl⟩ := H
 go_enter Tryd.func38,Tryd.ntmps38
 go_wp2_with (first|((with_reducible refine gate_dst (N := 2) rfl ?_);refine box_event ?hg (N := 2) ?hd (cs := #[.int .i64 0,.int .i64 0]) (t := 23) ?hr ?_;(case hd => rfl);(case hg => rfl);(case hr => first|(go_simp;done)|(go_simp;rfl));intro gb174 hg w2 hbox hb;have BK174 := sd_ hbox;have GW174 := gw_ HB e0_ hg;have GE174 := GW174;replace HB := hb_ HB e0_ hb;clear hb hbox hg;have hcz3_0 : w2.cell? ⟨gb174,0,none⟩ = some (.int .i64 0) := (kc_ BK174.out 0).trans rfl;have hcz3_1 : w2.cell? ⟨gb174,1,none⟩ = some (.int .i64 0) := (kc_ BK174.out 1).trans rfl;have hfz3_0 := kf_ BK174.out 0;have hfz3_1 := kf_ BK174.out 1))
 refine bodyPost_ret (results_cell_row rfl _ _ gb174 23 #[.int .i64 a0,.int .i64 1] (0,0) _ rfl (by (with_reducible repeat first|apply kn_|apply kd_|apply ka_);refine blk_put (cs := #[.int .i64 a0,.int .i64 0]) ?_ 1 _ rfl;(with_reducible repeat first|apply kn_|apply kd_|apply ka_);refine blk_put (cs := #[.int .i64 0,.int .i64 0]) ?_ 0 _ rfl;(with_reducible repeat first|apply kn_|apply kd_|apply ka_);exact BK174.out) Tryd.underlying23 rfl (by kernel_rfl)) rfl ?_
 exact ⟨by first|rfl|(simp [errW_none,errW_some] <;> rfl)|(simp [*,errW_none,errW_some] <;> rfl),by repeat (first|(with_reducible first|exact HB.out|apply ba_|apply pd_|apply d1_|refine bs_ ?_ GE174.out)|exact HB.out)⟩

/-! ### rat_product: function 39 -/
def rat_product.j0 : Nat → Int → Int → Int → Int → Bool → Option (Int × Int × Int)
 | 0, _, _, _, _, _ => none
 | k + 1, x8, x9, x10, x11, x55 => if x55 = true then ((rat_zero.f).bind fun bt184 => (some (bt184.1, bt184.2, 3))) else ((rat_sized.f (wrap64 (x8 * x9)) (wrap64 (x10 * x11))).bind fun bt186 => (some (bt186.1, bt186.2.1, bt186.2.2)))
def rat_product.f (k : Nat) (a0_0 : Int) (a0_1 : Int) (a1_0 : Int) (a1_1 : Int) : Option (Int × Int × Int) := (rat_abs.f a0_0).bind fun t178 => ((rat_common.f k t178 a1_1).bind fun t179 => ((rat_abs.f a1_0).bind fun t180 => ((rat_common.f k t180 a0_1).bind fun t181 => (if t179 = 0 then (none) else (if t181 = 0 then (none) else (if (wrap64 (Int.tdiv a1_0 t181)) = 0 then (if (wrap64 (Int.tdiv a1_1 t179)) = 0 then (none) else (rat_product.j0 k (wrap64 (Int.tdiv a0_0 t179)) (wrap64 (Int.tdiv a1_0 t181)) (wrap64 (Int.tdiv a0_1 t181)) (wrap64 (Int.tdiv a1_1 t179)) (decide ((wrap64 (Int.tdiv a0_1 t181)) > (wrap64 (Int.tdiv (1048576 : Int) (wrap64 (Int.tdiv a1_1 t179)))))))) else ((rat_abs.f (wrap64 (Int.tdiv a0_0 t179))).bind fun t182 => ((rat_abs.f (wrap64 (Int.tdiv a1_0 t181))).bind fun t183 => (if t183 = 0 then (none) else (if t182 > (wrap64 (Int.tdiv (1099511627776 : Int) t183)) then (rat_product.j0 k (wrap64 (Int.tdiv a0_0 t179)) (wrap64 (Int.tdiv a1_0 t181)) (wrap64 (Int.tdiv a0_1 t181)) (wrap64 (Int.tdiv a1_1 t179)) true) else (if (wrap64 (Int.tdiv a1_1 t179)) = 0 then (none) else (rat_product.j0 k (wrap64 (Int.tdiv a0_0 t179)) (wrap64 (Int.tdiv a1_0 t181)) (wrap64 (Int.tdiv a0_1 t181)) (wrap64 (Int.tdiv a1_1 t179)) (decide ((wrap64 (Int.tdiv a0_1 t181)) > (wrap64 (Int.tdiv (1048576 : Int) (wrap64 (Int.tdiv a1_1 t179))))))))))))))))))
theorem rat_product.mono_l : ∀ k, (∀ y0 y1 y2 y3 y4, LeO (rat_product.j0 k y0 y1 y2 y3 y4) (rat_product.j0 (k + 1) y0 y1 y2 y3 y4))
 | 0 => fun _ _ _ _ _ r h => by simp [rat_product.j0] at h
 | k + 1 => by
  have ih0 := rat_product.mono_l k
  ·intro y0 y1 y2 y3 y4
   unfold rat_product.j0
   repeat' first
   | (with_reducible exact ih0 _ _ _ _ _)
   | (with_reducible exact rat_common.mono _ _ _)
   | (with_reducible exact LeO.refl _)
   | (with_reducible exact LeO.none _)
   | (with_reducible refine LeO.ite ?_ ?_)
   | (with_reducible refine LeO.bind ?_ (fun _ => ?_))
   | exact ih0 _ _ _ _ _
   | exact rat_common.mono _ _ _
   | exact LeO.none _
   | refine LeO.ite ?_ ?_
   | refine LeO.bind ?_ (fun _ => ?_)
theorem rat_product.mono : ∀ a0 a1 a2 a3 k, LeO (rat_product.f k a0 a1 a2 a3) (rat_product.f (k + 1) a0 a1 a2 a3) := by
 intro a0 a1 a2 a3 k
 have ih0 := rat_product.mono_l k
 unfold rat_product.f
 repeat' first
   | (with_reducible exact ih0 _ _ _ _ _)
   | (with_reducible exact rat_common.mono _ _ _)
   | (with_reducible exact LeO.refl _)
   | (with_reducible exact LeO.none _)
   | (with_reducible refine LeO.ite ?_ ?_)
   | (with_reducible refine LeO.bind ?_ (fun _ => ?_))
   | exact ih0 _ _ _ _ _
   | exact rat_common.mono _ _ _
   | exact LeO.none _
   | refine LeO.ite ?_ ?_
   | refine LeO.bind ?_ (fun _ => ?_)
set_option maxHeartbeats 8000000 in
set_option maxRecDepth 100000 in
theorem rat_product.calls (k : Nat) (a0_0 : Int) (a0_1 : Int) (a1_0 : Int) (a1_1 : Int) (r1 : Int) (r2 : Int) (r3 : Int) (w : World) (h : rat_product.f k a0_0 a0_1 a1_0 a1_1 = some (r1, r2, r3)) :
  Calls Tryd.prog 39 #[.agg #[.int .i64 a0_0,.int .i64 a0_1],.agg #[.int .i64 a1_0,.int .i64 a1_1]] w fun e w' => e = .returned (.tuple #[.agg #[.int .i64 r1,.int .i64 r2],.int .i64 r3]) ∧ Below w.heap.size w w' := by
 have hu23 := Tryd.underlying23
 have HB := sd_ (Below.refl w.heap.size w)
 have H : ((rat_abs.f a0_0).bind fun t178 => ((rat_common.f k t178 a1_1).bind fun t179 => ((rat_abs.f a1_0).bind fun t180 => ((rat_common.f k t180 a0_1).bind fun t181 => (if t179 = 0 then (none) else (if t181 = 0 then (none) else (if (wrap64 (Int.tdiv a1_0 t181)) = 0 then (if (wrap64 (Int.tdiv a1_1 t179)) = 0 then (none) else (rat_product.j0 k (wrap64 (Int.tdiv a0_0 t179)) (wrap64 (Int.tdiv a1_0 t181)) (wrap64 (Int.tdiv a0_1 t181)) (wrap64 (Int.tdiv a1_1 t179)) (decide ((wrap64 (Int.tdiv a0_1 t181)) > (wrap64 (Int.tdiv (1048576 : Int) (wrap64 (Int.tdiv a1_1 t179)))))))) else ((rat_abs.f (wrap64 (Int.tdiv a0_0 t179))).bind fun t182 => ((rat_abs.f (wrap64 (Int.tdiv a1_0 t181))).bind fun t183 => (if t183 = 0 then (none) else (if t182 > (wrap64 (Int.tdiv (1099511627776 : Int) t183)) then (rat_product.j0 k (wrap64 (Int.tdiv a0_0 t179)) (wrap64 (Int.tdiv a1_0 t181)) (wrap64 (Int.tdiv a0_1 t181)) (wrap64 (Int.tdiv a1_1 t179)) true) else (if (wrap64 (Int.tdiv a1_1 t179)) = 0 then (none) else (rat_product.j0 k (wrap64 (Int.tdiv a0_0 t179)) (wrap64 (Int.tdiv a1_0 t181)) (wrap64 (Int.tdiv a0_1 t181)) (wrap64 (Int.tdiv a1_1 t179)) (decide ((wrap64 (Int.tdiv a0_1 t181)) > (wrap64 (Int.tdiv (1048576 : Int) (wrap64 (Int.tdiv a1_1 t179))))))))))))))))))) = some (r1,r2,r3) := h
 clear h
 replace H := ob_ H
 obtain ⟨t178,A30,H⟩ := H
 replace H : ((rat_common.f k t178 a1_1).bind fun t179 => ((rat_abs.f a1_0).bind fun t180 => ((rat_common.f k t180 a0_1).bind fun t181 => (if t179 = 0 then (none) else (if t181 = 0 then (none) else (if (wrap64 (Int.tdiv a1_0 t181)) = 0 then (if (wrap64 (Int.tdiv a1_1 t179)) = 0 then (none) else (rat_product.j0 k (wrap64 (Int.tdiv a0_0 t179)) (wrap64 (Int.tdiv a1_0 t181)) (wrap64 (Int.tdiv a0_1 t181)) (wrap64 (Int.tdiv a1_1 t179)) (decide ((wrap64 (Int.tdiv a0_1 t181)) > (wrap64 (Int.tdiv (1048576 : Int) (wrap64 (Int.tdiv a1_1 t179)))))))) else ((rat_abs.f (wrap64 (Int.tdiv a0_0 t179))).bind fun t182 => ((rat_abs.f (wrap64 (Int.tdiv a1_0 t181))).bind fun t183 => (if t183 = 0 then (none) else (if t182 > (wrap64 (Int.tdiv (1099511627776 : Int) t183)) then (rat_product.j0 k (wrap64 (Int.tdiv a0_0 t179)) (wrap64 (Int.tdiv a1_0 t181)) (wrap64 (Int.tdiv a0_1 t181)) (wrap64 (Int.tdiv a1_1 t179)) true) else (if (wrap64 (Int.tdiv a1_1 t179)) = 0 then (none) else (rat_product.j0 k (wrap64 (Int.tdiv a0_0 t179)) (wrap64 (Int.tdiv a1_0 t181)) (wrap64 (Int.tdiv a0_1 t181)) (wrap64 (Int.tdiv a1_1 t179)) (decide ((wrap64 (Int.tdiv a0_1 t181)) > (wrap64 (Int.tdiv (1048576 : Int) (wrap64 (Int.tdiv a1_1 t179)))))))))))))))))) = some (r1,r2,r3) := H
 have A3 := sd_ A30
 clear A30
 replace H := ob_ H
 obtain ⟨t179,A40,H⟩ := H
 replace H : ((rat_abs.f a1_0).bind fun t180 => ((rat_common.f k t180 a0_1).bind fun t181 => (if t179 = 0 then (none) else (if t181 = 0 then (none) else (if (wrap64 (Int.tdiv a1_0 t181)) = 0 then (if (wrap64 (Int.tdiv a1_1 t179)) = 0 then (none) else (rat_product.j0 k (wrap64 (Int.tdiv a0_0 t179)) (wrap64 (Int.tdiv a1_0 t181)) (wrap64 (Int.tdiv a0_1 t181)) (wrap64 (Int.tdiv a1_1 t179)) (decide ((wrap64 (Int.tdiv a0_1 t181)) > (wrap64 (Int.tdiv (1048576 : Int) (wrap64 (Int.tdiv a1_1 t179)))))))) else ((rat_abs.f (wrap64 (Int.tdiv a0_0 t179))).bind fun t182 => ((rat_abs.f (wrap64 (Int.tdiv a1_0 t181))).bind fun t183 => (if t183 = 0 then (none) else (if t182 > (wrap64 (Int.tdiv (1099511627776 : Int) t183)) then (rat_product.j0 k (wrap64 (Int.tdiv a0_0 t179)) (wrap64 (Int.tdiv a1_0 t181)) (wrap64 (Int.tdiv a0_1 t181)) (wrap64 (Int.tdiv a1_1 t179)) true) else (if (wrap64 (Int.tdiv a1_1 t179)) = 0 then (none) else (rat_product.j0 k (wrap64 (Int.tdiv a0_0 t179)) (wrap64 (Int.tdiv a1_0 t181)) (wrap64 (Int.tdiv a0_1 t181)) (wrap64 (Int.tdiv a1_1 t179)) (decide ((wrap64 (Int.tdiv a0_1 t181)) > (wrap64 (Int.tdiv (1048576 : Int) (wrap64 (Int.tdiv a1_1 t179))))))))))))))))) = some (r1,r2,r3) := H
 have A4 := sd_ A40
 clear A40
 replace H := ob_ H
 obtain ⟨t180,A50,H⟩ := H
 replace H : ((rat_common.f k t180 a0_1).bind fun t181 => (if t179 = 0 then (none) else (if t181 = 0 then (none) else (if (wrap64 (Int.tdiv a1_0 t181)) = 0 then (if (wrap64 (Int.tdiv a1_1 t179)) = 0 then (none) else (rat_product.j0 k (wrap64 (Int.tdiv a0_0 t179)) (wrap64 (Int.tdiv a1_0 t181)) (wrap64 (Int.tdiv a0_1 t181)) (wrap64 (Int.tdiv a1_1 t179)) (decide ((wrap64 (Int.tdiv a0_1 t181)) > (wrap64 (Int.tdiv (1048576 : Int) (wrap64 (Int.tdiv a1_1 t179)))))))) else ((rat_abs.f (wrap64 (Int.tdiv a0_0 t179))).bind fun t182 => ((rat_abs.f (wrap64 (Int.tdiv a1_0 t181))).bind fun t183 => (if t183 = 0 then (none) else (if t182 > (wrap64 (Int.tdiv (1099511627776 : Int) t183)) then (rat_product.j0 k (wrap64 (Int.tdiv a0_0 t179)) (wrap64 (Int.tdiv a1_0 t181)) (wrap64 (Int.tdiv a0_1 t181)) (wrap64 (Int.tdiv a1_1 t179)) true) else (if (wrap64 (Int.tdiv a1_1 t179)) = 0 then (none) else (rat_product.j0 k (wrap64 (Int.tdiv a0_0 t179)) (wrap64 (Int.tdiv a1_0 t181)) (wrap64 (Int.tdiv a0_1 t181)) (wrap64 (Int.tdiv a1_1 t179)) (decide ((wrap64 (Int.tdiv a0_1 t181)) > (wrap64 (Int.tdiv (1048576 : Int) (wrap64 (Int.tdiv a1_1 t179)))))))))))))))) = some (r1,r2,r3) := H
 have A5 := sd_ A50
 clear A50
 replace H := ob_ H
 obtain ⟨t181,A60,H⟩ := H
 replace H : (if t179 = 0 then (none) else (if t181 = 0 then (none) else (if (wrap64 (Int.tdiv a1_0 t181)) = 0 then (if (wrap64 (Int.tdiv a1_1 t179)) = 0 then (none) else (rat_product.j0 k (wrap64 (Int.tdiv a0_0 t179)) (wrap64 (Int.tdiv a1_0 t181)) (wrap64 (Int.tdiv a0_1 t181)) (wrap64 (Int.tdiv a1_1 t179)) (decide ((wrap64 (Int.tdiv a0_1 t181)) > (wrap64 (Int.tdiv (1048576 : Int) (wrap64 (Int.tdiv a1_1 t179)))))))) else ((rat_abs.f (wrap64 (Int.tdiv a0_0 t179))).bind fun t182 => ((rat_abs.f (wrap64 (Int.tdiv a1_0 t181))).bind fun t183 => (if t183 = 0 then (none) else (if t182 > (wrap64 (Int.tdiv (1099511627776 : Int) t183)) then (rat_product.j0 k (wrap64 (Int.tdiv a0_0 t179)) (wrap64 (Int.tdiv a1_0 t181)) (wrap64 (Int.tdiv a0_1 t181)) (wrap64 (Int.tdiv a1_1 t179)) true) else (if (wrap64 (Int.tdiv a1_1 t179)) = 0 then (none) else (rat_product.j0 k (wrap64 (Int.tdiv a0_0 t179)) (wrap64 (Int.tdiv a1_0 t181)) (wrap64 (Int.tdiv a0_1 t181)) (wrap64 (Int.tdiv a1_1 t179)) (decide ((wrap64 (Int.tdiv a0_1 t181)) > (wrap64 (Int.tdiv (1048576 : Int) (wrap64 (Int.tdiv a1_1 t179))))))))))))))) = some (r1,r2,r3) := H
 have A6 := sd_ A60
 clear A60
 by_cases c7 : t179 = 0
 ·rw [if_pos c7] at H
  exact absurd H (by simp)
 ·rw [if_neg c7] at H
  have c7b0 : (t179 == 0) = false := beq_eq_false_iff_ne.mpr c7
  have c7b1 : (t179 != 0) = true := bne_iff_ne.mpr c7
  by_cases c8 : t181 = 0
  ·rw [if_pos c8] at H
   exact absurd H (by simp)
  ·rw [if_neg c8] at H
   have c8b0 : (t181 == 0) = false := beq_eq_false_iff_ne.mpr c8
   have c8b1 : (t181 != 0) = true := bne_iff_ne.mpr c8
   have HC9 := sd_ H
   clear H
   go_enter Tryd.func39,Tryd.ntmps39
   go_upto_region 4 with (first|((with_reducible refine gate_dst (N := 2) rfl ?_);refine box_event ?hg (N := 2) ?hd (cs := #[.int .i64 a0_0,.int .i64 a0_1]) (t := 23) ?hr ?_;(case hd => rfl);(case hg => rfl);(case hr => first|(go_simp;done)|(go_simp;rfl));intro gb175 hg w10 hbox hb;have BK175 := sd_ hbox;have GW175 := gw_ HB e0_ hg;have GE175 := GW175;replace HB := hb_ HB e0_ hb;clear hb hbox hg)|((with_reducible refine gate_dst (N := 3) rfl ?_);refine box_event ?hg (N := 3) ?hd (cs := #[.int .i64 a1_0,.int .i64 a1_1]) (t := 23) ?hr ?_;(case hd => rfl);(case hg => rfl);(case hr => first|(go_simp;done)|(go_simp;rfl));intro gb176 hg w11 hbox hb;have BK176 := sd_ hbox;have GW176 := gw_ HB (e_ GE175 e0_) hg;have GE176 := GW176;have NB175_176 := nb_ BK175 hg;have NB176_175 := sy_ NB175_176;replace BK175 := kb_ BK175 hb;replace HB := hb_ HB (e_ GE175 e0_) hb;clear hb hbox hg)|((with_reducible refine gate_dst (N := 4) rfl ?_);refine box_event ?hg (N := 4) ?hd (cs := #[.int .i64 0,.int .i64 0]) (t := 23) ?hr ?_;(case hd => rfl);(case hg => rfl);(case hr => first|(go_simp;done)|(go_simp;rfl));intro gb177 hg w12 hbox hb;have BK177 := sd_ hbox;have GW177 := gw_ HB (e_ GE175 (e_ GE176 e0_)) hg;have GE177 := GW177;have NB175_177 := nb_ BK175 hg;have NB177_175 := sy_ NB175_177;have NB176_177 := nb_ BK176 hg;have NB177_176 := sy_ NB176_177;replace BK175 := kb_ BK175 hb;replace BK176 := kb_ BK176 hb;replace HB := hb_ HB (e_ GE175 (e_ GE176 e0_)) hb;clear hb hbox hg;have hnb13 := NB175_176.out;have hnc13 := NB176_175.out;have hnb14 := NB175_177.out;have hnc14 := NB177_175.out;have hcz15_0 : w12.cell? ⟨gb175,0,none⟩ = some (.int .i64 a0_0) := (kc_ BK175.out 0).trans rfl;have hcz15_1 : w12.cell? ⟨gb175,1,none⟩ = some (.int .i64 a0_1) := (kc_ BK175.out 1).trans rfl;have hfz15_0 := kf_ BK175.out 0;have hfz15_1 := kf_ BK175.out 1)|(go_at_call 48;(with_reducible refine (rat_abs.calls a0_0 t178 _ A3.out).mono ?_);rintro e w' ⟨rfl,⟨nd,rfl⟩⟩;(try first|exact ⟨rfl,_,World.drewN_drewN _ _ _⟩|exact ⟨rfl,_,Eq.trans (World.drewN_drewN _ _ _) (congrArg (World.drewN _) (Nat.add_assoc _ _ _))⟩);have hnb16 := NB176_177.out;have hnc16 := NB177_176.out;have hcz17_0 : w12.cell? ⟨gb176,0,none⟩ = some (.int .i64 a1_0) := (kc_ BK176.out 0).trans rfl;have hcz17_1 : w12.cell? ⟨gb176,1,none⟩ = some (.int .i64 a1_1) := (kc_ BK176.out 1).trans rfl;have hfz17_0 := kf_ BK176.out 0;have hfz17_1 := kf_ BK176.out 1)|(go_at_call 33;(with_reducible refine (rat_common.calls k t178 a1_1 t179 _ A4.out).mono ?_);rintro e w' ⟨rfl,⟨nd,rfl⟩⟩;(try first|exact ⟨rfl,_,World.drewN_drewN _ _ _⟩|exact ⟨rfl,_,Eq.trans (World.drewN_drewN _ _ _) (congrArg (World.drewN _) (Nat.add_assoc _ _ _))⟩))|(go_at_call 48;(with_reducible refine (rat_abs.calls a1_0 t180 _ A5.out).mono ?_);rintro e w' ⟨rfl,⟨nd,rfl⟩⟩;(try first|exact ⟨rfl,_,World.drewN_drewN _ _ _⟩|exact ⟨rfl,_,Eq.trans (World.drewN_drewN _ _ _) (congrArg (World.drewN _) (Nat.add_assoc _ _ _))⟩))|(go_at_call 33;(with_reducible refine (rat_common.calls k t180 a0_1 t181 _ A6.out).mono ?_);rintro e w' ⟨rfl,⟨nd,rfl⟩⟩;(try first|exact ⟨rfl,_,World.drewN_drewN _ _ _⟩|exact ⟨rfl,_,Eq.trans (World.drewN_drewN _ _ _) (congrArg (World.drewN _) (Nat.add_assoc _ _ _))⟩)))
   repeat (go_quiet (first|((with_reducible refine gate_dst (N := 2) rfl ?_);refine box_event ?hg (N := 2) ?hd (cs := #[.int .i64 a0_0,.int .i64 a0_1]) (t := 23) ?hr ?_;(case hd => rfl);(case hg => rfl);(case hr => first|(go_simp;done)|(go_simp;rfl));intro gb175 hg w10 hbox hb;have BK175 := sd_ hbox;have GW175 := gw_ HB e0_ hg;have GE175 := GW175;replace HB := hb_ HB e0_ hb;clear hb hbox hg)|((with_reducible refine gate_dst (N := 3) rfl ?_);refine box_event ?hg (N := 3) ?hd (cs := #[.int .i64 a1_0,.int .i64 a1_1]) (t := 23) ?hr ?_;(case hd => rfl);(case hg => rfl);(case hr => first|(go_simp;done)|(go_simp;rfl));intro gb176 hg w11 hbox hb;have BK176 := sd_ hbox;have GW176 := gw_ HB (e_ GE175 e0_) hg;have GE176 := GW176;have NB175_176 := nb_ BK175 hg;have NB176_175 := sy_ NB175_176;replace BK175 := kb_ BK175 hb;replace HB := hb_ HB (e_ GE175 e0_) hb;clear hb hbox hg)|((with_reducible refine gate_dst (N := 4) rfl ?_);refine box_event ?hg (N := 4) ?hd (cs := #[.int .i64 0,.int .i64 0]) (t := 23) ?hr ?_;(case hd => rfl);(case hg => rfl);(case hr => first|(go_simp;done)|(go_simp;rfl));intro gb177 hg w12 hbox hb;have BK177 := sd_ hbox;have GW177 := gw_ HB (e_ GE175 (e_ GE176 e0_)) hg;have GE177 := GW177;have NB175_177 := nb_ BK175 hg;have NB177_175 := sy_ NB175_177;have NB176_177 := nb_ BK176 hg;have NB177_176 := sy_ NB176_177;replace BK175 := kb_ BK175 hb;replace BK176 := kb_ BK176 hb;replace HB := hb_ HB (e_ GE175 (e_ GE176 e0_)) hb;clear hb hbox hg;have hnb13 := NB175_176.out;have hnc13 := NB176_175.out;have hnb14 := NB175_177.out;have hnc14 := NB177_175.out;have hcz15_0 : w12.cell? ⟨gb175,0,none⟩ = some (.int .i64 a0_0) := (kc_ BK175.out 0).trans rfl;have hcz15_1 : w12.cell? ⟨gb175,1,none⟩ = some (.int .i64 a0_1) := (kc_ BK175.out 1).trans rfl;have hfz15_0 := kf_ BK175.out 0;have hfz15_1 := kf_ BK175.out 1)|(go_at_call 48;(with_reducible refine (rat_abs.calls a0_0 t178 _ A3.out).mono ?_);rintro e w' ⟨rfl,⟨nd,rfl⟩⟩;(try first|exact ⟨rfl,_,World.drewN_drewN _ _ _⟩|exact ⟨rfl,_,Eq.trans (World.drewN_drewN _ _ _) (congrArg (World.drewN _) (Nat.add_assoc _ _ _))⟩);have hnb16 := NB176_177.out;have hnc16 := NB177_176.out;have hcz17_0 : w12.cell? ⟨gb176,0,none⟩ = some (.int .i64 a1_0) := (kc_ BK176.out 0).trans rfl;have hcz17_1 : w12.cell? ⟨gb176,1,none⟩ = some (.int .i64 a1_1) := (kc_ BK176.out 1).trans rfl;have hfz17_0 := kf_ BK176.out 0;have hfz17_1 := kf_ BK176.out 1)|(go_at_call 33;(with_reducible refine (rat_common.calls k t178 a1_1 t179 _ A4.out).mono ?_);rintro e w' ⟨rfl,⟨nd,rfl⟩⟩;(try first|exact ⟨rfl,_,World.drewN_drewN _ _ _⟩|exact ⟨rfl,_,Eq.trans (World.drewN_drewN _ _ _) (congrArg (World.drewN _) (Nat.add_assoc _ _ _))⟩))|(go_at_call 48;(with_reducible refine (rat_abs.calls a1_0 t180 _ A5.out).mono ?_);rintro e w' ⟨rfl,⟨nd,rfl⟩⟩;(try first|exact ⟨rfl,_,World.drewN_drewN _ _ _⟩|exact ⟨rfl,_,Eq.trans (World.drewN_drewN _ _ _) (congrArg (World.drewN _) (Nat.add_assoc _ _ _))⟩))|(go_at_call 33;(with_reducible refine (rat_common.calls k t180 a0_1 t181 _ A6.out).mono ?_);rintro e w' ⟨rfl,⟨nd,rfl⟩⟩;(try first|exact ⟨rfl,_,World.drewN_drewN _ _ _⟩|exact ⟨rfl,_,Eq.trans (World.drewN_drewN _ _ _) (congrArg (World.drewN _) (Nat.add_assoc _ _ _))⟩)));go_upto_region 4 with (first|((with_reducible refine gate_dst (N := 2) rfl ?_);refine box_event ?hg (N := 2) ?hd (cs := #[.int .i64 a0_0,.int .i64 a0_1]) (t := 23) ?hr ?_;(case hd => rfl);(case hg => rfl);(case hr => first|(go_simp;done)|(go_simp;rfl));intro gb175 hg w10 hbox hb;have BK175 := sd_ hbox;have GW175 := gw_ HB e0_ hg;have GE175 := GW175;replace HB := hb_ HB e0_ hb;clear hb hbox hg)|((with_reducible refine gate_dst (N := 3) rfl ?_);refine box_event ?hg (N := 3) ?hd (cs := #[.int .i64 a1_0,.int .i64 a1_1]) (t := 23) ?hr ?_;(case hd => rfl);(case hg => rfl);(case hr => first|(go_simp;done)|(go_simp;rfl));intro gb176 hg w11 hbox hb;have BK176 := sd_ hbox;have GW176 := gw_ HB (e_ GE175 e0_) hg;have GE176 := GW176;have NB175_176 := nb_ BK175 hg;have NB176_175 := sy_ NB175_176;replace BK175 := kb_ BK175 hb;replace HB := hb_ HB (e_ GE175 e0_) hb;clear hb hbox hg)|((with_reducible refine gate_dst (N := 4) rfl ?_);refine box_event ?hg (N := 4) ?hd (cs := #[.int .i64 0,.int .i64 0]) (t := 23) ?hr ?_;(case hd => rfl);(case hg => rfl);(case hr => first|(go_simp;done)|(go_simp;rfl));intro gb177 hg w12 hbox hb;have BK177 := sd_ hbox;have GW177 := gw_ HB (e_ GE175 (e_ GE176 e0_)) hg;have GE177 := GW177;have NB175_177 := nb_ BK175 hg;have NB177_175 := sy_ NB175_177;have NB176_177 := nb_ BK176 hg;have NB177_176 := sy_ NB176_177;replace BK175 := kb_ BK175 hb;replace BK176 := kb_ BK176 hb;replace HB := hb_ HB (e_ GE175 (e_ GE176 e0_)) hb;clear hb hbox hg;have hnb13 := NB175_176.out;have hnc13 := NB176_175.out;have hnb14 := NB175_177.out;have hnc14 := NB177_175.out;have hcz15_0 : w12.cell? ⟨gb175,0,none⟩ = some (.int .i64 a0_0) := (kc_ BK175.out 0).trans rfl;have hcz15_1 : w12.cell? ⟨gb175,1,none⟩ = some (.int .i64 a0_1) := (kc_ BK175.out 1).trans rfl;have hfz15_0 := kf_ BK175.out 0;have hfz15_1 := kf_ BK175.out 1)|(go_at_call 48;(with_reducible refine (rat_abs.calls a0_0 t178 _ A3.out).mono ?_);rintro e w' ⟨rfl,⟨nd,rfl⟩⟩;(try first|exact ⟨rfl,_,World.drewN_drewN _ _ _⟩|exact ⟨rfl,_,Eq.trans (World.drewN_drewN _ _ _) (congrArg (World.drewN _) (Nat.add_assoc _ _ _))⟩);have hnb16 := NB176_177.out;have hnc16 := NB177_176.out;have hcz17_0 : w12.cell? ⟨gb176,0,none⟩ = some (.int .i64 a1_0) := (kc_ BK176.out 0).trans rfl;have hcz17_1 : w12.cell? ⟨gb176,1,none⟩ = some (.int .i64 a1_1) := (kc_ BK176.out 1).trans rfl;have hfz17_0 := kf_ BK176.out 0;have hfz17_1 := kf_ BK176.out 1)|(go_at_call 33;(with_reducible refine (rat_common.calls k t178 a1_1 t179 _ A4.out).mono ?_);rintro e w' ⟨rfl,⟨nd,rfl⟩⟩;(try first|exact ⟨rfl,_,World.drewN_drewN _ _ _⟩|exact ⟨rfl,_,Eq.trans (World.drewN_drewN _ _ _) (congrArg (World.drewN _) (Nat.add_assoc _ _ _))⟩))|(go_at_call 48;(with_reducible refine (rat_abs.calls a1_0 t180 _ A5.out).mono ?_);rintro e w' ⟨rfl,⟨nd,rfl⟩⟩;(try first|exact ⟨rfl,_,World.drewN_drewN _ _ _⟩|exact ⟨rfl,_,Eq.trans (World.drewN_drewN _ _ _) (congrArg (World.drewN _) (Nat.add_assoc _ _ _))⟩))|(go_at_call 33;(with_reducible refine (rat_common.calls k t180 a0_1 t181 _ A6.out).mono ?_);rintro e w' ⟨rfl,⟨nd,rfl⟩⟩;(try first|exact ⟨rfl,_,World.drewN_drewN _ _ _⟩|exact ⟨rfl,_,Eq.trans (World.drewN_drewN _ _ _) (congrArg (World.drewN _) (Nat.add_assoc _ _ _))⟩))))
   (try simp only [Act.put,ls_,lz_,lc_])
   go_cut [55] (fun v55 wc => ∃ (kq : Nat) (x55_8 : Bool),v55 = .bool x55_8 ∧ Aside0 (rat_product.j0 kq (wrap64 (Int.tdiv a0_0 t179)) (wrap64 (Int.tdiv a1_0 t181)) (wrap64 (Int.tdiv a0_1 t181)) (wrap64 (Int.tdiv a1_1 t179)) x55_8 = some (r1,r2,r3)) ∧ Aside0 (kq ≤ k) ∧ Aside0 (wc.heap[gb175]? = some (.cells #[.int .i64 a0_0,.int .i64 a0_1] 23 (0,0))) ∧ Aside0 (wc.heap[gb176]? = some (.cells #[.int .i64 a1_0,.int .i64 a1_1] 23 (0,0))) ∧ Aside0 (wc.heap[gb177]? = some (.cells #[.int .i64 0,.int .i64 0] 23 (0,0))) ∧ Aside0 (Below w.heap.size w wc))
   case first =>
    have H := HC9.out
    clear HC9
    by_cases c18 : (wrap64 (Int.tdiv a1_0 t181)) = 0
    ·rw [if_pos c18] at H
     have c18b0 : ((wrap64 (Int.tdiv a1_0 t181)) == 0) = true := beq_iff_eq.mpr c18
     have c18b1 : ((wrap64 (Int.tdiv a1_0 t181)) != 0) = false := bne_eq_false_iff_eq.mpr c18
     clear c18
     (first|rw [c18b0]|(simp only [i64_w,i32_w];rw [c18b0])|skip)
     by_cases c19 : (wrap64 (Int.tdiv a1_1 t179)) = 0
     ·rw [if_pos c19] at H
      exact absurd H (by simp)
     ·rw [if_neg c19] at H
      have c19b0 : ((wrap64 (Int.tdiv a1_1 t179)) == 0) = false := beq_eq_false_iff_ne.mpr c19
      have c19b1 : ((wrap64 (Int.tdiv a1_1 t179)) != 0) = true := bne_iff_ne.mpr c19
      have H' := sd_ H
      clear H
      go_wp2
      repeat (go_quiet (fail);try go_wp2)
      go_meet
      case rel => exact ⟨_,(decide ((wrap64 (Int.tdiv a0_1 t181)) > (wrap64 (Int.tdiv (1048576 : Int) (wrap64 (Int.tdiv a1_1 t179)))))),(by first|rfl|(simp;done)|(simp [*];done)|(simp [bne];done)),H',⟨by first|omega|exact Nat.le_refl _⟩,⟨by (with_reducible repeat first|apply kn_|apply kd_|apply ka_);exact BK175.out⟩,⟨by (with_reducible repeat first|apply kn_|apply kd_|apply ka_);exact BK176.out⟩,⟨by (with_reducible repeat first|apply kn_|apply kd_|apply ka_);exact BK177.out⟩,⟨by repeat (first|(with_reducible first|exact HB.out|apply ba_|apply pd_|apply d1_|refine bs_ ?_ GE175.out|refine bs_ ?_ GE176.out|refine bs_ ?_ GE177.out)|exact HB.out)⟩⟩
    ·rw [if_neg c18] at H
     have c18b0 : ((wrap64 (Int.tdiv a1_0 t181)) == 0) = false := beq_eq_false_iff_ne.mpr c18
     have c18b1 : ((wrap64 (Int.tdiv a1_0 t181)) != 0) = true := bne_iff_ne.mpr c18
     (first|rw [c18b0]|(simp only [i64_w,i32_w];rw [c18b0])|skip)
     replace H := ob_ H
     obtain ⟨t182,A200,H⟩ := H
     replace H : ((rat_abs.f (wrap64 (Int.tdiv a1_0 t181))).bind fun t183 => (if t183 = 0 then (none) else (if t182 > (wrap64 (Int.tdiv (1099511627776 : Int) t183)) then (rat_product.j0 k (wrap64 (Int.tdiv a0_0 t179)) (wrap64 (Int.tdiv a1_0 t181)) (wrap64 (Int.tdiv a0_1 t181)) (wrap64 (Int.tdiv a1_1 t179)) true) else (if (wrap64 (Int.tdiv a1_1 t179)) = 0 then (none) else (rat_product.j0 k (wrap64 (Int.tdiv a0_0 t179)) (wrap64 (Int.tdiv a1_0 t181)) (wrap64 (Int.tdiv a0_1 t181)) (wrap64 (Int.tdiv a1_1 t179)) (decide ((wrap64 (Int.tdiv a0_1 t181)) > (wrap64 (Int.tdiv (1048576 : Int) (wrap64 (Int.tdiv a1_1 t179))))))))))) = some (r1,r2,r3) := H
     have A20 := sd_ A200
     clear A200
     replace H := ob_ H
     obtain ⟨t183,A210,H⟩ := H
     replace H : (if t183 = 0 then (none) else (if t182 > (wrap64 (Int.tdiv (1099511627776 : Int) t183)) then (rat_product.j0 k (wrap64 (Int.tdiv a0_0 t179)) (wrap64 (Int.tdiv a1_0 t181)) (wrap64 (Int.tdiv a0_1 t181)) (wrap64 (Int.tdiv a1_1 t179)) true) else (if (wrap64 (Int.tdiv a1_1 t179)) = 0 then (none) else (rat_product.j0 k (wrap64 (Int.tdiv a0_0 t179)) (wrap64 (Int.tdiv a1_0 t181)) (wrap64 (Int.tdiv a0_1 t181)) (wrap64 (Int.tdiv a1_1 t179)) (decide ((wrap64 (Int.tdiv a0_1 t181)) > (wrap64 (Int.tdiv (1048576 : Int) (wrap64 (Int.tdiv a1_1 t179)))))))))) = some (r1,r2,r3) := H
     have A21 := sd_ A210
     clear A210
     by_cases c22 : t183 = 0
     ·rw [if_pos c22] at H
      exact absurd H (by simp)
     ·rw [if_neg c22] at H
      have c22b0 : (t183 == 0) = false := beq_eq_false_iff_ne.mpr c22
      have c22b1 : (t183 != 0) = true := bne_iff_ne.mpr c22
      by_cases c23 : t182 > (wrap64 (Int.tdiv (1099511627776 : Int) t183))
      ·rw [if_pos c23] at H
       have c23b0 : decide ((wrap64 (Int.tdiv (1099511627776 : Int) t183)) < t182) = true := dt_ c23
       clear c23
       have H' := sd_ H
       clear H
       go_wp2_with (first|(go_at_call 48;(with_reducible refine (rat_abs.calls (wrap64 (Int.tdiv a0_0 t179)) t182 _ A20.out).mono ?_);rintro e w' ⟨rfl,⟨nd,rfl⟩⟩;(try first|exact ⟨rfl,_,World.drewN_drewN _ _ _⟩|exact ⟨rfl,_,Eq.trans (World.drewN_drewN _ _ _) (congrArg (World.drewN _) (Nat.add_assoc _ _ _))⟩))|(go_at_call 48;(with_reducible refine (rat_abs.calls (wrap64 (Int.tdiv a1_0 t181)) t183 _ A21.out).mono ?_);rintro e w' ⟨rfl,⟨nd,rfl⟩⟩;(try first|exact ⟨rfl,_,World.drewN_drewN _ _ _⟩|exact ⟨rfl,_,Eq.trans (World.drewN_drewN _ _ _) (congrArg (World.drewN _) (Nat.add_assoc _ _ _))⟩)))
       repeat (go_quiet (first|(go_at_call 48;(with_reducible refine (rat_abs.calls (wrap64 (Int.tdiv a0_0 t179)) t182 _ A20.out).mono ?_);rintro e w' ⟨rfl,⟨nd,rfl⟩⟩;(try first|exact ⟨rfl,_,World.drewN_drewN _ _ _⟩|exact ⟨rfl,_,Eq.trans (World.drewN_drewN _ _ _) (congrArg (World.drewN _) (Nat.add_assoc _ _ _))⟩))|(go_at_call 48;(with_reducible refine (rat_abs.calls (wrap64 (Int.tdiv a1_0 t181)) t183 _ A21.out).mono ?_);rintro e w' ⟨rfl,⟨nd,rfl⟩⟩;(try first|exact ⟨rfl,_,World.drewN_drewN _ _ _⟩|exact ⟨rfl,_,Eq.trans (World.drewN_drewN _ _ _) (congrArg (World.drewN _) (Nat.add_assoc _ _ _))⟩)));try go_wp2_with (first|(go_at_call 48;(with_reducible refine (rat_abs.calls (wrap64 (Int.tdiv a0_0 t179)) t182 _ A20.out).mono ?_);rintro e w' ⟨rfl,⟨nd,rfl⟩⟩;(try first|exact ⟨rfl,_,World.drewN_drewN _ _ _⟩|exact ⟨rfl,_,Eq.trans (World.drewN_drewN _ _ _) (congrArg (World.drewN _) (Nat.add_assoc _ _ _))⟩))|(go_at_call 48;(with_reducible refine (rat_abs.calls (wrap64 (Int.tdiv a1_0 t181)) t183 _ A21.out).mono ?_);rintro e w' ⟨rfl,⟨nd,rfl⟩⟩;(try first|exact ⟨rfl,_,World.drewN_drewN _ _ _⟩|exact ⟨rfl,_,Eq.trans (World.drewN_drewN _ _ _) (congrArg (World.drewN _) (Nat.add_assoc _ _ _))⟩))))
       go_meet
       case rel => exact ⟨_,(true),(by first|rfl|(simp;done)|(simp [*];done)|(simp [bne];done)),H',⟨by first|omega|exact Nat.le_refl _⟩,⟨by (with_reducible repeat first|apply kn_|apply kd_|apply ka_);exact BK175.out⟩,⟨by (with_reducible repeat first|apply kn_|apply kd_|apply ka_);exact BK176.out⟩,⟨by (with_reducible repeat first|apply kn_|apply kd_|apply ka_);exact BK177.out⟩,⟨by repeat (first|(with_reducible first|exact HB.out|apply ba_|apply pd_|apply d1_|refine bs_ ?_ GE175.out|refine bs_ ?_ GE176.out|refine bs_ ?_ GE177.out)|exact HB.out)⟩⟩
      ·rw [if_neg c23] at H
       have c23b0 : decide ((wrap64 (Int.tdiv (1099511627776 : Int) t183)) < t182) = false := df_ c23
       clear c23
       by_cases c24 : (wrap64 (Int.tdiv a1_1 t179)) = 0
       ·rw [if_pos c24] at H
        exact absurd H (by simp)
       ·rw [if_neg c24] at H
        have c24b0 : ((wrap64 (Int.tdiv a1_1 t179)) == 0) = false := beq_eq_false_iff_ne.mpr c24
        have c24b1 : ((wrap64 (Int.tdiv a1_1 t179)) != 0) = true := bne_iff_ne.mpr c24
        have H' := sd_ H
        clear H
        go_wp2_with (first|(go_at_call 48;(with_reducible refine (rat_abs.calls (wrap64 (Int.tdiv a0_0 t179)) t182 _ A20.out).mono ?_);rintro e w' ⟨rfl,⟨nd,rfl⟩⟩;(try first|exact ⟨rfl,_,World.drewN_drewN _ _ _⟩|exact ⟨rfl,_,Eq.trans (World.drewN_drewN _ _ _) (congrArg (World.drewN _) (Nat.add_assoc _ _ _))⟩))|(go_at_call 48;(with_reducible refine (rat_abs.calls (wrap64 (Int.tdiv a1_0 t181)) t183 _ A21.out).mono ?_);rintro e w' ⟨rfl,⟨nd,rfl⟩⟩;(try first|exact ⟨rfl,_,World.drewN_drewN _ _ _⟩|exact ⟨rfl,_,Eq.trans (World.drewN_drewN _ _ _) (congrArg (World.drewN _) (Nat.add_assoc _ _ _))⟩)))
        repeat (go_quiet (first|(go_at_call 48;(with_reducible refine (rat_abs.calls (wrap64 (Int.tdiv a0_0 t179)) t182 _ A20.out).mono ?_);rintro e w' ⟨rfl,⟨nd,rfl⟩⟩;(try first|exact ⟨rfl,_,World.drewN_drewN _ _ _⟩|exact ⟨rfl,_,Eq.trans (World.drewN_drewN _ _ _) (congrArg (World.drewN _) (Nat.add_assoc _ _ _))⟩))|(go_at_call 48;(with_reducible refine (rat_abs.calls (wrap64 (Int.tdiv a1_0 t181)) t183 _ A21.out).mono ?_);rintro e w' ⟨rfl,⟨nd,rfl⟩⟩;(try first|exact ⟨rfl,_,World.drewN_drewN _ _ _⟩|exact ⟨rfl,_,Eq.trans (World.drewN_drewN _ _ _) (congrArg (World.drewN _) (Nat.add_assoc _ _ _))⟩)));try go_wp2_with (first|(go_at_call 48;(with_reducible refine (rat_abs.calls (wrap64 (Int.tdiv a0_0 t179)) t182 _ A20.out).mono ?_);rintro e w' ⟨rfl,⟨nd,rfl⟩⟩;(try first|exact ⟨rfl,_,World.drewN_drewN _ _ _⟩|exact ⟨rfl,_,Eq.trans (World.drewN_drewN _ _ _) (congrArg (World.drewN _) (Nat.add_assoc _ _ _))⟩))|(go_at_call 48;(with_reducible refine (rat_abs.calls (wrap64 (Int.tdiv a1_0 t181)) t183 _ A21.out).mono ?_);rintro e w' ⟨rfl,⟨nd,rfl⟩⟩;(try first|exact ⟨rfl,_,World.drewN_drewN _ _ _⟩|exact ⟨rfl,_,Eq.trans (World.drewN_drewN _ _ _) (congrArg (World.drewN _) (Nat.add_assoc _ _ _))⟩))))
        go_meet
        case rel => exact ⟨_,(decide ((wrap64 (Int.tdiv a0_1 t181)) > (wrap64 (Int.tdiv (1048576 : Int) (wrap64 (Int.tdiv a1_1 t179)))))),(by first|rfl|(simp;done)|(simp [*];done)|(simp [bne];done)),H',⟨by first|omega|exact Nat.le_refl _⟩,⟨by (with_reducible repeat first|apply kn_|apply kd_|apply ka_);exact BK175.out⟩,⟨by (with_reducible repeat first|apply kn_|apply kd_|apply ka_);exact BK176.out⟩,⟨by (with_reducible repeat first|apply kn_|apply kd_|apply ka_);exact BK177.out⟩,⟨by repeat (first|(with_reducible first|exact HB.out|apply ba_|apply pd_|apply d1_|refine bs_ ?_ GE175.out|refine bs_ ?_ GE176.out|refine bs_ ?_ GE177.out)|exact HB.out)⟩⟩
   case rest =>
    clear HC9
    try clear c1;try clear c2;try clear p2;try clear c3;try clear p6;try clear c7;try clear c7b0;try clear c7b1;try clear c8;try clear c8b0;try clear c8b1;try clear c13;try clear c14;try clear c16;try clear c18;try clear c18b0;try clear c18b1;try clear c19;try clear c19b0;try clear c19b1;try clear c22;try clear c22b0;try clear c22b1;try clear c23;try clear c23b0;try clear c24;try clear c24b0;try clear c24b1;try clear hcz15_0;try clear hcz15_1;try clear hcz17_0;try clear hcz17_1;try clear hfz15_0;try clear hfz15_1;try clear hfz17_0;try clear hfz17_1
    obtain ⟨kq,x55_8,rfl,HA,HJ8,BK175,BK176,BK177,HB⟩ := hcut
    cases kq with
    | zero => exact absurd HA.out (by simp [rat_product.j0])
    | succ kj8 =>
     have H := HA.out
     clear HA
     simp only [rat_product.j0] at H
     by_cases c25 : x55_8 = true
     ·subst c25
      have H1 : ((rat_zero.f).bind fun bt184 => (some (bt184.1,bt184.2,3))) = some (r1,r2,r3) := by rw [if_pos rfl] at H;exact H
      clear H;have H := H1;clear H1
      replace H := ob_ H
      obtain ⟨⟨t184,t185⟩,A260,H⟩ := H
      replace H : (some (t184,t185,3)) = some (r1,r2,r3) := H
      have A26 := sd_ A260
      clear A260
      simp only [Option.some.injEq,Prod.mk.injEq] at H
      obtain ⟨rfl,rfl,rfl⟩ := H
      go_wp2_with (first|(go_at_call 32;(with_reducible refine (rat_zero.calls  t184 t185 _ A26.out).mono ?_);rintro e w27 ⟨rfl,hb⟩;replace BK175 := kb_ BK175 hb;replace BK176 := kb_ BK176 hb;replace BK177 := kb_ BK177 hb;replace HB := hb_ HB (e_ GE175 (e_ GE176 (e_ GE177 e0_))) hb;(try clear hb);(try clear hb2);(try clear hk);(try clear hi);have hnb28 := NB177_175.out;have hnc28 := NB175_177.out;have hnb29 := NB177_176.out;have hnc29 := NB176_177.out;have hcz30_0 : w27.cell? ⟨gb177,0,none⟩ = some (.int .i64 0) := (kc_ BK177.out 0).trans rfl;have hcz30_1 : w27.cell? ⟨gb177,1,none⟩ = some (.int .i64 0) := (kc_ BK177.out 1).trans rfl;have hfz30_0 := kf_ BK177.out 0;have hfz30_1 := kf_ BK177.out 1))
      repeat (go_quiet (first|(go_at_call 32;(with_reducible refine (rat_zero.calls  t184 t185 _ A26.out).mono ?_);rintro e w27 ⟨rfl,hb⟩;replace BK175 := kb_ BK175 hb;replace BK176 := kb_ BK176 hb;replace BK177 := kb_ BK177 hb;replace HB := hb_ HB (e_ GE175 (e_ GE176 (e_ GE177 e0_))) hb;(try clear hb);(try clear hb2);(try clear hk);(try clear hi);have hnb28 := NB177_175.out;have hnc28 := NB175_177.out;have hnb29 := NB177_176.out;have hnc29 := NB176_177.out;have hcz30_0 : w27.cell? ⟨gb177,0,none⟩ = some (.int .i64 0) := (kc_ BK177.out 0).trans rfl;have hcz30_1 : w27.cell? ⟨gb177,1,none⟩ = some (.int .i64 0) := (kc_ BK177.out 1).trans rfl;have hfz30_0 := kf_ BK177.out 0;have hfz30_1 := kf_ BK177.out 1));try go_wp2_with (first|(go_at_call 32;(with_reducible refine (rat_zero.calls  t184 t185 _ A26.out).mono ?_);rintro e w27 ⟨rfl,hb⟩;replace BK175 := kb_ BK175 hb;replace BK176 := kb_ BK176 hb;replace BK177 := kb_ BK177 hb;replace HB := hb_ HB (e_ GE175 (e_ GE176 (e_ GE177 e0_))) hb;(try clear hb);(try clear hb2);(try clear hk);(try clear hi);have hnb28 := NB177_175.out;have hnc28 := NB175_177.out;have hnb29 := NB177_176.out;have hnc29 := NB176_177.out;have hcz30_0 : w27.cell? ⟨gb177,0,none⟩ = some (.int .i64 0) := (kc_ BK177.out 0).trans rfl;have hcz30_1 : w27.cell? ⟨gb177,1,none⟩ = some (.int .i64 0) := (kc_ BK177.out 1).trans rfl;have hfz30_0 := kf_ BK177.out 0;have hfz30_1 := kf_ BK177.out 1)))
      refine bodyPost_ret (results_ct rfl _ _ gb177 23 #[.int .i64 t184,.int .i64 t185] (0,0) _ rfl (by (with_reducible repeat first|apply kn_|apply kd_|apply ka_);refine blk_put (cs := #[.int .i64 t184,.int .i64 0]) ?_ 1 _ rfl;(with_reducible repeat first|apply kn_|apply kd_|apply ka_);refine blk_put (cs := #[.int .i64 0,.int .i64 0]) ?_ 0 _ rfl;(with_reducible repeat first|apply kn_|apply kd_|apply ka_);exact BK177.out) Tryd.underlying23 rfl (by kernel_rfl)) rfl ?_
      exact ⟨by first|rfl|(simp [errW_none,errW_some] <;> rfl)|(simp [*,errW_none,errW_some] <;> rfl),by repeat (first|(with_reducible first|exact HB.out|apply ba_|apply pd_|apply d1_|refine bs_ ?_ GE175.out|refine bs_ ?_ GE176.out|refine bs_ ?_ GE177.out)|exact HB.out)⟩
     ·replace c25 := bf_ c25
      subst c25
      have H1 : ((rat_sized.f (wrap64 ((wrap64 (Int.tdiv a0_0 t179)) * (wrap64 (Int.tdiv a1_0 t181)))) (wrap64 ((wrap64 (Int.tdiv a0_1 t181)) * (wrap64 (Int.tdiv a1_1 t179))))).bind fun bt186 => (some (bt186.1,bt186.2.1,bt186.2.2))) = some (r1,r2,r3) := by rw [if_neg (show ¬ (false = true) by decide)] at H;exact H
      clear H;have H := H1;clear H1
      replace H := ob_ H
      obtain ⟨⟨t186,t187,t188⟩,A310,H⟩ := H
      replace H : (some (t186,t187,t188)) = some (r1,r2,r3) := H
      have A31 := sd_ A310
      clear A310
      simp only [Option.some.injEq,Prod.mk.injEq] at H
      obtain ⟨rfl,rfl,rfl⟩ := H
      go_wp2_with (first|(go_at_call 49;(with_reducible refine (rat_sized.calls (wrap64 ((wrap64 (Int.tdiv a0_0 t179)) * (wrap64 (Int.tdiv a1_0 t181)))) (wrap64 ((wrap64 (Int.tdiv a0_1 t181)) * (wrap64 (Int.tdiv a1_1 t179)))) t186 t187 t188 _ A31.out).mono ?_);rintro e w32 ⟨rfl,hb⟩;replace BK175 := kb_ BK175 hb;replace BK176 := kb_ BK176 hb;replace BK177 := kb_ BK177 hb;replace HB := hb_ HB (e_ GE175 (e_ GE176 (e_ GE177 e0_))) hb;(try clear hb);(try clear hb2);(try clear hk);(try clear hi);have hnb33 := NB177_175.out;have hnc33 := NB175_177.out;have hnb34 := NB177_176.out;have hnc34 := NB176_177.out;have hcz35_0 : w32.cell? ⟨gb177,0,none⟩ = some (.int .i64 0) := (kc_ BK177.out 0).trans rfl;have hcz35_1 : w32.cell? ⟨gb177,1,none⟩ = some (.int .i64 0) := (kc_ BK177.out 1).trans rfl;have hfz35_0 := kf_ BK177.out 0;have hfz35_1 := kf_ BK177.out 1))
      repeat (go_quiet (first|(go_at_call 49;(with_reducible refine (rat_sized.calls (wrap64 ((wrap64 (Int.tdiv a0_0 t179)) * (wrap64 (Int.tdiv a1_0 t181)))) (wrap64 ((wrap64 (Int.tdiv a0_1 t181)) * (wrap64 (Int.tdiv a1_1 t179)))) t186 t187 t188 _ A31.out).mono ?_);rintro e w32 ⟨rfl,hb⟩;replace BK175 := kb_ BK175 hb;replace BK176 := kb_ BK176 hb;replace BK177 := kb_ BK177 hb;replace HB := hb_ HB (e_ GE175 (e_ GE176 (e_ GE177 e0_))) hb;(try clear hb);(try clear hb2);(try clear hk);(try clear hi);have hnb33 := NB177_175.out;have hnc33 := NB175_177.out;have hnb34 := NB177_176.out;have hnc34 := NB176_177.out;have hcz35_0 : w32.cell? ⟨gb177,0,none⟩ = some (.int .i64 0) := (kc_ BK177.out 0).trans rfl;have hcz35_1 : w32.cell? ⟨gb177,1,none⟩ = some (.int .i64 0) := (kc_ BK177.out 1).trans rfl;have hfz35_0 := kf_ BK177.out 0;have hfz35_1 := kf_ BK177.out 1));try go_wp2_with (first|(go_at_call 49;(with_reducible refine (rat_sized.calls (wrap64 ((wrap64 (Int.tdiv a0_0 t179)) * (wrap64 (Int.tdiv a1_0 t181)))) (wrap64 ((wrap64 (Int.tdiv a0_1 t181)) * (wrap64 (Int.tdiv a1_1 t179)))) t186 t187 t188 _ A31.out).mono ?_);rintro e w32 ⟨rfl,hb⟩;replace BK175 := kb_ BK175 hb;replace BK176 := kb_ BK176 hb;replace BK177 := kb_ BK177 hb;replace HB := hb_ HB (e_ GE175 (e_ GE176 (e_ GE177 e0_))) hb;(try clear hb);(try clear hb2);(try clear hk);(try clear hi);have hnb33 := NB177_175.out;have hnc33 := NB175_177.out;have hnb34 := NB177_176.out;have hnc34 := NB176_177.out;have hcz35_0 : w32.cell? ⟨gb177,0,none⟩ = some (.int .i64 0) := (kc_ BK177.out 0).trans rfl;have hcz35_1 : w32.cell? ⟨gb177,1,none⟩ = some (.int .i64 0) := (kc_ BK177.out 1).trans rfl;have hfz35_0 := kf_ BK177.out 0;have hfz35_1 := kf_ BK177.out 1)))
      refine bodyPost_ret (results_ct rfl _ _ gb177 23 #[.int .i64 t186,.int .i64 t187] (0,0) _ rfl (by (with_reducible repeat first|apply kn_|apply kd_|apply ka_);refine blk_put (cs := #[.int .i64 t186,.int .i64 0]) ?_ 1 _ rfl;(with_reducible repeat first|apply kn_|apply kd_|apply ka_);refine blk_put (cs := #[.int .i64 0,.int .i64 0]) ?_ 0 _ rfl;(with_reducible repeat first|apply kn_|apply kd_|apply ka_);exact BK177.out) Tryd.underlying23 rfl (by kernel_rfl)) rfl ?_
      exact ⟨by first|rfl|(simp [errW_none,errW_some] <;> rfl)|(simp [*,errW_none,errW_some] <;> rfl),by repeat (first|(with_reducible first|exact HB.out|apply ba_|apply pd_|apply d1_|refine bs_ ?_ GE175.out|refine bs_ ?_ GE176.out|refine bs_ ?_ GE177.out)|exact HB.out)⟩

end Go.Proofs.YtmbdbinbdiiapaaDoor.P
