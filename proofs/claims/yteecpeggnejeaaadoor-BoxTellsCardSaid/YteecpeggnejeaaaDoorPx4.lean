-- Written by a program of this session (wip/tools/xprint.py, over the kit's print): Lean checks it.
import Derived.Test.YteecpeggnejeaaaDoorPx0
import Derived.Test.YteecpeggnejeaaaDoorPx1
import Derived.Test.YteecpeggnejeaaaDoorPx2
import Derived.Test.YteecpeggnejeaaaDoorPx3
namespace Go.Proofs.YteecpeggnejeaaaDoor.P
open Go.RowKit Go.Proofs.YteecpeggnejeaaaDoorW.PrintWords Go.Proofs.YteecpeggnejeaaaDoorW.PrintLast Go.Proofs.YteecpeggnejeaaaDoorW.PrintMore
attribute [local go_sem] max2_int min2_int max_two min_two max_three min_three max_four min_four   -- for this text's walks alone
set_option linter.unusedVariables false
set_option linter.unusedSimpArgs false

attribute [local go_sem high] eqA23
/-! ### box_Inside: function 18 -/
def box_Inside.f (k : Nat) (a0_0 : Int) (a0_1 : Int) (a0_2 : Int) (a0_3 : Int) (a1_0 : Int) (a1_1 : Int) (a1_2 : Int) (a1_3 : Int) : Option (Bool) := (box_Check.f a0_0 a0_1 a0_2 a0_3).bind fun t184 => (if t184 = true then ((box_Check.f a1_0 a1_1 a1_2 a1_3).bind fun t185 => (if t185 = true then ((box_Join.f k a0_0 a0_1 a0_2 a0_3 a1_0 a1_1 a1_2 a1_3).bind fun bt186 => (some (bt186.1 == a1_0 && (bt186.2.1 == a1_1 && (bt186.2.2.1 == a1_2 && (bt186.2.2.2 == a1_3)))))) else (some false))) else (some false))
theorem box_Inside.mono : ∀ a0 a1 a2 a3 a4 a5 a6 a7 k, LeO (box_Inside.f k a0 a1 a2 a3 a4 a5 a6 a7) (box_Inside.f (k + 1) a0 a1 a2 a3 a4 a5 a6 a7) := by
 intro a0 a1 a2 a3 a4 a5 a6 a7 k
 unfold box_Inside.f
 repeat' first
   | (with_reducible exact box_Join.mono _ _ _ _ _ _ _ _ _)
   | (with_reducible exact LeO.refl _)
   | (with_reducible exact LeO.none _)
   | (with_reducible refine LeO.ite ?_ ?_)
   | (with_reducible refine LeO.bind ?_ (fun _ => ?_))
   | exact box_Join.mono _ _ _ _ _ _ _ _ _
   | exact LeO.none _
   | refine LeO.ite ?_ ?_
   | refine LeO.bind ?_ (fun _ => ?_)
def box_Inside.T1 : Bool × List (List Nat × List Nat) := (true, [([], []), ([0], [0]), ([1, 1], [1]), ([2], [2]), ([3, 2, 2], [2, 3]), ([2, 4], [2, 4]), ([5, 4], [5]), ([6], [6]), ([6], [6]), ([7, 8, 6, 6], [6, 7, 8]), ([6], [6]), ([9, 10, 6], [6, 9, 10]), ([6, 11], [6, 11]), ([12, 9, 0, 1, 2, 3, 4, 5, 6, 7, 8, 9, 10, 11, 12], [12])])
def box_Inside.B1 : List Nat := [0, 1, 3, 7, 15, 31, 63, 127, 127, 511, 127, 2047, 4095, 8191]
theorem box_Inside.tab1 : rtab .any (opsOf Tryd.f18 1) = box_Inside.T1 := by kernel_rfl
theorem box_Inside.bits1 : waitsOk box_Inside.T1.2 box_Inside.B1 = true := by kernel_rfl
set_option maxHeartbeats 8000000 in
set_option maxRecDepth 100000 in
theorem box_Inside.calls (k : Nat) (a0_0 : Int) (a0_1 : Int) (a0_2 : Int) (a0_3 : Int) (a1_0 : Int) (a1_1 : Int) (a1_2 : Int) (a1_3 : Int) (r : Bool) (w : World) (h : box_Inside.f k a0_0 a0_1 a0_2 a0_3 a1_0 a1_1 a1_2 a1_3 = some r) :
  Calls Tryd.prog 18 #[.agg #[.int .i64 a0_0,.int .i64 a0_1,.int .i64 a0_2,.int .i64 a0_3],.agg #[.int .i64 a1_0,.int .i64 a1_1,.int .i64 a1_2,.int .i64 a1_3]] w fun e w' => e = .returned (.bool r) ∧ Below w.heap.size w w' := by
 have hu23 := Tryd.underlying23
 have HB := sd_ (Below.refl w.heap.size w)
 have H : ((box_Check.f a0_0 a0_1 a0_2 a0_3).bind fun t184 => (if t184 = true then ((box_Check.f a1_0 a1_1 a1_2 a1_3).bind fun t185 => (if t185 = true then ((box_Join.f k a0_0 a0_1 a0_2 a0_3 a1_0 a1_1 a1_2 a1_3).bind fun bt186 => (some (bt186.1 == a1_0 && (bt186.2.1 == a1_1 && (bt186.2.2.1 == a1_2 && (bt186.2.2.2 == a1_3)))))) else (some false))) else (some false))) = some r := h
 clear h
 replace H := ob_ H
 obtain ⟨t184,A30,H⟩ := H
 replace H : (if t184 = true then ((box_Check.f a1_0 a1_1 a1_2 a1_3).bind fun t185 => (if t185 = true then ((box_Join.f k a0_0 a0_1 a0_2 a0_3 a1_0 a1_1 a1_2 a1_3).bind fun bt186 => (some (bt186.1 == a1_0 && (bt186.2.1 == a1_1 && (bt186.2.2.1 == a1_2 && (bt186.2.2.2 == a1_3)))))) else (some false))) else (some false)) = some r := H
 have A3 := sd_ A30
 clear A30
 by_cases c4 : t184 = true
 ·subst c4
  have H1 : ((box_Check.f a1_0 a1_1 a1_2 a1_3).bind fun t185 => (if t185 = true then ((box_Join.f k a0_0 a0_1 a0_2 a0_3 a1_0 a1_1 a1_2 a1_3).bind fun bt186 => (some (bt186.1 == a1_0 && (bt186.2.1 == a1_1 && (bt186.2.2.1 == a1_2 && (bt186.2.2.2 == a1_3)))))) else (some false))) = some r := by rw [if_pos rfl] at H;exact H
  clear H;have H := H1;clear H1
  replace H := ob_ H
  obtain ⟨t185,A50,H⟩ := H
  replace H : (if t185 = true then ((box_Join.f k a0_0 a0_1 a0_2 a0_3 a1_0 a1_1 a1_2 a1_3).bind fun bt186 => (some (bt186.1 == a1_0 && (bt186.2.1 == a1_1 && (bt186.2.2.1 == a1_2 && (bt186.2.2.2 == a1_3)))))) else (some false)) = some r := H
  have A5 := sd_ A50
  clear A50
  by_cases c6 : t185 = true
  ·subst c6
   have H1 : ((box_Join.f k a0_0 a0_1 a0_2 a0_3 a1_0 a1_1 a1_2 a1_3).bind fun bt186 => (some (bt186.1 == a1_0 && (bt186.2.1 == a1_1 && (bt186.2.2.1 == a1_2 && (bt186.2.2.2 == a1_3)))))) = some r := by rw [if_pos rfl] at H;exact H
   clear H;have H := H1;clear H1
   replace H := ob_ H
   obtain ⟨⟨t186,t187,t188,t189⟩,A70,H⟩ := H
   replace H : (some (t186 == a1_0 && (t187 == a1_1 && (t188 == a1_2 && (t189 == a1_3))))) = some r := H
   have A7 := sd_ A70
   clear A70
   obtain rfl := Option.some.inj H
   go_enter Tryd.func18,Tryd.ntmps18
   try go_wp2_with (first|((with_reducible refine gate_dst (N := 2) rfl ?_);refine box_event ?hg (N := 2) ?hd (cs := #[.int .i64 a0_0,.int .i64 a0_1,.int .i64 a0_2,.int .i64 a0_3]) (t := 23) ?hr ?_;(case hd => rfl);(case hg => rfl);(case hr => first|(go_simp;done)|(go_simp;rfl));intro gb182 hg w8 hbox hb;have n0_ := sd_ (bt_ (by repeat (first|(with_reducible first|exact HB.out|apply ba_|apply pd_|apply d1_)|exact HB.out)) hb);have n1_ := sd_ (hbox);have n2_ := sd_ ((by rw [hg];exact (bz_ (by repeat (first|(with_reducible first|exact HB.out|apply ba_|apply pd_|apply d1_)|exact HB.out))) : w.heap.size ≤ gb182));have n3_ := sd_ ((by rw [hg];exact (bz_ (by repeat (first|(with_reducible first|exact HB.out|apply ba_|apply pd_|apply d1_)|exact HB.out))) : w.heap.size ≤ gb182));clear HB;have HB := n0_;have BK182 := n1_;have GW182 := n2_;have GE182 := n3_;clear n0_ n1_ n2_ n3_;clear hb hbox hg)|((with_reducible refine gate_dst (N := 3) rfl ?_);refine box_event ?hg (N := 3) ?hd (cs := #[.int .i64 a1_0,.int .i64 a1_1,.int .i64 a1_2,.int .i64 a1_3]) (t := 23) ?hr ?_;(case hd => rfl);(case hg => rfl);(case hr => first|(go_simp;done)|(go_simp;rfl));intro gb183 hg w9 hbox hb;have n0_ := sd_ (blk_below (g := gb182) (o := .cells #[.int .i64 a0_0,.int .i64 a0_1,.int .i64 a0_2,.int .i64 a0_3] 23 (0,0)) (by (with_reducible repeat first|apply kn_|apply kd_|apply ka_);exact BK182.out) hb);have n1_ := sd_ (bt_ (by repeat (first|(with_reducible first|exact HB.out|apply ba_|apply pd_|apply d1_|refine bs_ ?_ GE182.out)|exact HB.out)) hb);have n2_ := sd_ (hbox);have n3_ := sd_ ((by rw [hg];exact (bz_ (by repeat (first|(with_reducible first|exact HB.out|apply ba_|apply pd_|apply d1_|refine bs_ ?_ GE182.out)|exact HB.out))) : w.heap.size ≤ gb183));have n4_ := sd_ ((by rw [hg];exact (bz_ (by repeat (first|(with_reducible first|exact HB.out|apply ba_|apply pd_|apply d1_|refine bs_ ?_ GE182.out)|exact HB.out))) : w.heap.size ≤ gb183));have n5_ := sd_ ((by rw [hg];exact nn_ (blk_lt (g := gb182) (o := .cells #[.int .i64 a0_0,.int .i64 a0_1,.int .i64 a0_2,.int .i64 a0_3] 23 (0,0)) (by (with_reducible repeat first|apply kn_|apply kd_|apply ka_);exact BK182.out)) : gb182 ≠ gb183));have n6_ := sd_ ((by rw [hg];exact Nat.ne_of_gt (blk_lt (g := gb182) (o := .cells #[.int .i64 a0_0,.int .i64 a0_1,.int .i64 a0_2,.int .i64 a0_3] 23 (0,0)) (by (with_reducible repeat first|apply kn_|apply kd_|apply ka_);exact BK182.out)) : gb183 ≠ gb182));clear BK182;clear HB;have BK182 := n0_;have HB := n1_;have BK183 := n2_;have GW183 := n3_;have GE183 := n4_;have NB182_183 := n5_;have NB183_182 := n6_;clear n0_ n1_ n2_ n3_ n4_ n5_ n6_;clear hb hbox hg))
   have n0_ := sd_ (kd_ BK182.out)
   have n1_ := sd_ (kd_ BK183.out)
   have n2_ := sd_ (d1_ HB.out)
   clear BK182
   clear BK183
   clear HB
   have BK182 := n0_
   have BK183 := n1_
   have HB := n2_
   clear n0_ n1_ n2_
   refine start_ (n := 14) (S := fun w' => w'.cell? ⟨gb182,0,none⟩ = some (.int .i64 a0_0) ∧ w'.cell? ⟨gb182,1,none⟩ = some (.int .i64 a0_1) ∧ w'.cell? ⟨gb182,2,none⟩ = some (.int .i64 a0_2) ∧ w'.cell? ⟨gb182,3,none⟩ = some (.int .i64 a0_3) ∧ w'.cell? ⟨gb183,0,none⟩ = some (.int .i64 a1_0) ∧ w'.cell? ⟨gb183,1,none⟩ = some (.int .i64 a1_1) ∧ w'.cell? ⟨gb183,2,none⟩ = some (.int .i64 a1_2) ∧ w'.cell? ⟨gb183,3,none⟩ = some (.int .i64 a1_3)) (ds := []) #[false,false,false,false,false,false,false,false,false,false,false,false,false,false] (by kernel_rfl) rfl rfl ⟨(kc_ BK182.out 0).trans rfl,(kc_ BK182.out 1).trans rfl,(kc_ BK182.out 2).trans rfl,(kc_ BK182.out 3).trans rfl,(kc_ BK183.out 0).trans rfl,(kc_ BK183.out 1).trans rfl,(kc_ BK183.out 2).trans rfl,(kc_ BK183.out 3).trans rfl⟩ (fun hHeld => ?_);refine with_tabW box_Inside.tab1 box_Inside.bits1 (fun HT_ HW_ => ?_)
   generalize w9.drew = w10 at BK182 BK183 HB hHeld ⊢
   refine take_ (i := 0) (N := some 5) (v := ?_) (a' := ?_) #[true,false,false,false,false,false,false,false,false,false,false,false,false,false] rfl rfl (take_ofW HT_.out HW_.out (by kernel_rfl)) (fun _ _ _ h => h) (Or.inl ⟨by rfl,?_⟩) hHeld ?_ ?_
   rotate_left
   ·rintro w' ⟨s0,s1,s2,s3,s4,s5,s6,s7⟩
    go_simp
    with_reducible rfl
   rotate_left
   ·simp only [Act.put,ls_,lz_,lc_,i64_w,i32_w]
    rfl
   refine one_ (i := 1) (N := some 6) #[true,true,false,false,false,false,false,false,false,false,false,false,false,false] rfl rfl (one_of HT_.out (by kernel_rfl)) (by decide) (fun K hK => ?_)
   refine goes_ Tryd.func12 (by kernel_rfl) rfl #[.agg #[.int .i64 a0_0,.int .i64 a0_1,.int .i64 a0_2,.int .i64 a0_3]] (by rfl) rfl rfl (by (try simp only [lm_,lq_,lx_]);first|done|rfl|(simp only [ld_,lt_];rfl)) ?_
   with_reducible refine (box_Check.calls a0_0 a0_1 a0_2 a0_3 true _ A3.out).mono ?_
   rintro e w11 ⟨rfl,hb⟩
   refine ⟨_,rfl,?_⟩
   have n0_ := sd_ (blk_below (g := gb182) (o := .cells #[.int .i64 a0_0,.int .i64 a0_1,.int .i64 a0_2,.int .i64 a0_3] 23 (0,0)) (by (with_reducible repeat first|apply kn_|apply kd_|apply ka_);exact BK182.out) hb)
   have n1_ := sd_ (blk_below (g := gb183) (o := .cells #[.int .i64 a1_0,.int .i64 a1_1,.int .i64 a1_2,.int .i64 a1_3] 23 (0,0)) (by (with_reducible repeat first|apply kn_|apply kd_|apply ka_);exact BK183.out) hb)
   have n2_ := sd_ (bt_ (by repeat (first|(with_reducible first|exact HB.out|apply ba_|apply pd_|apply d1_|refine bs_ ?_ GE182.out|refine bs_ ?_ GE183.out)|exact HB.out)) hb)
   clear BK182
   clear BK183
   clear HB
   have BK182 := n0_
   have BK183 := n1_
   have HB := n2_
   clear n0_ n1_ n2_
   (try clear hb)
   (try clear hb2)
   (try clear hk)
   (try clear hi)
   refine hK.out _ _ ⟨(kc_ BK182.out 0).trans rfl,(kc_ BK182.out 1).trans rfl,(kc_ BK182.out 2).trans rfl,(kc_ BK182.out 3).trans rfl,(kc_ BK183.out 0).trans rfl,(kc_ BK183.out 1).trans rfl,(kc_ BK183.out 2).trans rfl,(kc_ BK183.out 3).trans rfl⟩ (fun hHeld => ?_)
   clear hK K
   refine norm_ (a' := ?_) ?_ ?_
   rotate_left
   ·show Act.put _ (some 6) _ = _
    simp only [Act.put,ls_,lz_,lc_,i64_w,i32_w]
    rfl
   refine pure_ (i := 2) (N := some 7) (v := ?_) (a' := ?_) #[true,true,true,false,false,false,false,false,false,false,false,false,false,false] rfl rfl (any_of HT_.out (by kernel_rfl)) (fun _ _ _ h => h) (Or.inl ⟨by rfl,?_⟩) ?_ ?_
   rotate_left;(intro w';go_simp;with_reducible rfl);rotate_left;(simp only [Act.put,ls_,lz_,lc_,i64_w,i32_w];rfl)
   refine take_ (i := 3) (N := some 8) (v := ?_) (a' := ?_) #[true,true,true,true,false,false,false,false,false,false,false,false,false,false] rfl rfl (take_ofW HT_.out HW_.out (by kernel_rfl)) (fun _ _ _ h => h) (Or.inl ⟨by rfl,?_⟩) hHeld ?_ ?_
   rotate_left
   ·rintro w' ⟨s0,s1,s2,s3,s4,s5,s6,s7⟩
    go_simp
    with_reducible rfl
   rotate_left
   ·simp only [Act.put,ls_,lz_,lc_,i64_w,i32_w]
    rfl
   refine one_ (i := 4) (N := some 9) #[true,true,true,true,true,false,false,false,false,false,false,false,false,false] rfl rfl (one_of HT_.out (by kernel_rfl)) (by decide) (fun K hK => ?_)
   refine goes_ Tryd.func12 (by kernel_rfl) rfl #[.agg #[.int .i64 a1_0,.int .i64 a1_1,.int .i64 a1_2,.int .i64 a1_3]] (by rfl) rfl rfl (by (try simp only [lm_,lq_,lx_]);first|done|rfl|(simp only [ld_,lt_];rfl)) ?_
   with_reducible refine (box_Check.calls a1_0 a1_1 a1_2 a1_3 true _ A5.out).mono ?_
   rintro e w12 ⟨rfl,hb⟩
   refine ⟨_,rfl,?_⟩
   have n0_ := sd_ (blk_below (g := gb182) (o := .cells #[.int .i64 a0_0,.int .i64 a0_1,.int .i64 a0_2,.int .i64 a0_3] 23 (0,0)) (by (with_reducible repeat first|apply kn_|apply kd_|apply ka_);exact BK182.out) hb)
   have n1_ := sd_ (blk_below (g := gb183) (o := .cells #[.int .i64 a1_0,.int .i64 a1_1,.int .i64 a1_2,.int .i64 a1_3] 23 (0,0)) (by (with_reducible repeat first|apply kn_|apply kd_|apply ka_);exact BK183.out) hb)
   have n2_ := sd_ (bt_ (by repeat (first|(with_reducible first|exact HB.out|apply ba_|apply pd_|apply d1_|refine bs_ ?_ GE182.out|refine bs_ ?_ GE183.out)|exact HB.out)) hb)
   clear BK182
   clear BK183
   clear HB
   have BK182 := n0_
   have BK183 := n1_
   have HB := n2_
   clear n0_ n1_ n2_
   (try clear hb)
   (try clear hb2)
   (try clear hk)
   (try clear hi)
   refine hK.out _ _ ⟨(kc_ BK182.out 0).trans rfl,(kc_ BK182.out 1).trans rfl,(kc_ BK182.out 2).trans rfl,(kc_ BK182.out 3).trans rfl,(kc_ BK183.out 0).trans rfl,(kc_ BK183.out 1).trans rfl,(kc_ BK183.out 2).trans rfl,(kc_ BK183.out 3).trans rfl⟩ (fun hHeld => ?_)
   clear hK K
   refine norm_ (a' := ?_) ?_ ?_
   rotate_left
   ·show Act.put _ (some 9) _ = _
    simp only [Act.put,ls_,lz_,lc_,i64_w,i32_w]
    rfl
   refine pure_ (i := 5) (N := some 10) (v := ?_) (a' := ?_) #[true,true,true,true,true,true,false,false,false,false,false,false,false,false] rfl rfl (any_of HT_.out (by kernel_rfl)) (fun _ _ _ h => h) (Or.inl ⟨by rfl,?_⟩) ?_ ?_
   rotate_left;(intro w';go_simp;with_reducible rfl);rotate_left;(simp only [Act.put,ls_,lz_,lc_,i64_w,i32_w];rfl)
   refine pure_ (i := 6) (N := some 11) (v := ?_) (a' := ?_) #[true,true,true,true,true,true,true,false,false,false,false,false,false,false] rfl rfl (any_of HT_.out (by kernel_rfl)) (fun _ _ _ h => h) (Or.inl ⟨by rfl,?_⟩) ?_ ?_
   rotate_left;(intro w';go_simp;with_reducible rfl);rotate_left;(simp only [Act.put,ls_,lz_,lc_,i64_w,i32_w];rfl)
   refine take_ (i := 7) (N := some 12) (v := ?_) (a' := ?_) #[true,true,true,true,true,true,true,true,false,false,false,false,false,false] rfl rfl (take_ofW HT_.out HW_.out (by kernel_rfl)) (fun _ _ _ h => h) (Or.inl ⟨by rfl,?_⟩) hHeld ?_ ?_
   rotate_left
   ·rintro w' ⟨s0,s1,s2,s3,s4,s5,s6,s7⟩
    go_simp
    with_reducible rfl
   rotate_left
   ·simp only [Act.put,ls_,lz_,lc_,i64_w,i32_w]
    rfl
   refine take_ (i := 8) (N := some 13) (v := ?_) (a' := ?_) #[true,true,true,true,true,true,true,true,true,false,false,false,false,false] rfl rfl (take_ofW HT_.out HW_.out (by kernel_rfl)) (fun _ _ _ h => h) (Or.inl ⟨by rfl,?_⟩) hHeld ?_ ?_
   rotate_left
   ·rintro w' ⟨s0,s1,s2,s3,s4,s5,s6,s7⟩
    go_simp
    with_reducible rfl
   rotate_left
   ·simp only [Act.put,ls_,lz_,lc_,i64_w,i32_w]
    rfl
   refine take_ (i := 10) (N := some 15) (v := ?_) (a' := ?_) #[true,true,true,true,true,true,true,true,true,false,true,false,false,false] rfl rfl (take_ofW HT_.out HW_.out (by kernel_rfl)) (fun _ _ _ h => h) (Or.inl ⟨by rfl,?_⟩) hHeld ?_ ?_
   rotate_left
   ·rintro w' ⟨s0,s1,s2,s3,s4,s5,s6,s7⟩
    go_simp
    with_reducible rfl
   rotate_left
   ·simp only [Act.put,ls_,lz_,lc_,i64_w,i32_w]
    rfl
   refine one_ (i := 9) (N := some 14) #[true,true,true,true,true,true,true,true,true,true,true,false,false,false] rfl rfl (one_of HT_.out (by kernel_rfl)) (by decide) (fun K hK => ?_)
   refine goes_ Tryd.func14 (by kernel_rfl) rfl #[.agg #[.int .i64 a0_0,.int .i64 a0_1,.int .i64 a0_2,.int .i64 a0_3],.agg #[.int .i64 a1_0,.int .i64 a1_1,.int .i64 a1_2,.int .i64 a1_3]] (by rfl) rfl rfl (by (try simp only [lm_,lq_,lx_]);first|done|rfl|(simp only [ld_,lt_];rfl)) ?_
   with_reducible refine (box_Join.calls k a0_0 a0_1 a0_2 a0_3 a1_0 a1_1 a1_2 a1_3 t186 t187 t188 t189 _ A7.out).mono ?_
   rintro e w13 ⟨rfl,hb⟩
   refine ⟨_,rfl,?_⟩
   have n0_ := sd_ (blk_below (g := gb182) (o := .cells #[.int .i64 a0_0,.int .i64 a0_1,.int .i64 a0_2,.int .i64 a0_3] 23 (0,0)) (by (with_reducible repeat first|apply kn_|apply kd_|apply ka_);exact BK182.out) hb)
   have n1_ := sd_ (blk_below (g := gb183) (o := .cells #[.int .i64 a1_0,.int .i64 a1_1,.int .i64 a1_2,.int .i64 a1_3] 23 (0,0)) (by (with_reducible repeat first|apply kn_|apply kd_|apply ka_);exact BK183.out) hb)
   have n2_ := sd_ (bt_ (by repeat (first|(with_reducible first|exact HB.out|apply ba_|apply pd_|apply d1_|refine bs_ ?_ GE182.out|refine bs_ ?_ GE183.out)|exact HB.out)) hb)
   clear BK182
   clear BK183
   clear HB
   have BK182 := n0_
   have BK183 := n1_
   have HB := n2_
   clear n0_ n1_ n2_
   (try clear hb)
   (try clear hb2)
   (try clear hk)
   (try clear hi)
   refine hK.out _ _ ⟨(kc_ BK182.out 0).trans rfl,(kc_ BK182.out 1).trans rfl,(kc_ BK182.out 2).trans rfl,(kc_ BK182.out 3).trans rfl,(kc_ BK183.out 0).trans rfl,(kc_ BK183.out 1).trans rfl,(kc_ BK183.out 2).trans rfl,(kc_ BK183.out 3).trans rfl⟩ (fun hHeld => ?_)
   clear hK K
   refine norm_ (a' := ?_) ?_ ?_
   rotate_left
   ·show Act.put _ (some 14) _ = _
    simp only [Act.put,ls_,lz_,lc_,i64_w,i32_w]
    rfl
   refine pure_ (i := 11) (N := some 16) (v := ?_) (a' := ?_) #[true,true,true,true,true,true,true,true,true,true,true,true,false,false] rfl rfl (any_of HT_.out (by kernel_rfl)) (fun _ _ _ h => h) (Or.inl ⟨by rfl,?_⟩) ?_ ?_
   rotate_left;(intro w';go_simp;with_reducible rfl);rotate_left;(simp only [Act.put,ls_,lz_,lc_,i64_w,i32_w];rfl)
   refine pure_ (i := 12) (N := some 17) (v := ?_) (a' := ?_) #[true,true,true,true,true,true,true,true,true,true,true,true,true,false] rfl rfl (any_of HT_.out (by kernel_rfl)) (fun _ _ _ h => h) (Or.inl ⟨by rfl,?_⟩) ?_ ?_
   rotate_left;(intro w';go_simp;with_reducible rfl);rotate_left;(simp only [Act.put,ls_,lz_,lc_,i64_w,i32_w];rfl)
   refine pure_ (i := 13) (N := some 4) (v := ?_) (a' := ?_) #[true,true,true,true,true,true,true,true,true,true,true,true,true,true] rfl rfl (any_of HT_.out (by kernel_rfl)) (fun _ _ _ h => h) (Or.inl ⟨by rfl,?_⟩) ?_ ?_
   rotate_left;(intro w';go_simp;with_reducible rfl);rotate_left;(simp only [Act.put,ls_,lz_,lc_,i64_w,i32_w];rfl)
   refine done_ (done_of HT_.out (by kernel_rfl)) ?_
   try go_wp2
   go_ret
   exact ⟨by first|rfl|(simp [errW_none,errW_some] <;> rfl)|(simp [*,errW_none,errW_some] <;> rfl),by repeat (first|(with_reducible first|exact HB.out|apply ba_|apply pd_|apply d1_|refine bs_ ?_ GE182.out|refine bs_ ?_ GE183.out)|exact HB.out)⟩
  ·replace c6 := bf_ c6
   subst c6
   have H1 : (some false) = some r := by rw [if_neg (show ¬ (false = true) by decide)] at H;exact H
   clear H;have H := H1;clear H1
   obtain rfl := Option.some.inj H
   go_enter Tryd.func18,Tryd.ntmps18
   try go_wp2_with (first|((with_reducible refine gate_dst (N := 2) rfl ?_);refine box_event ?hg (N := 2) ?hd (cs := #[.int .i64 a0_0,.int .i64 a0_1,.int .i64 a0_2,.int .i64 a0_3]) (t := 23) ?hr ?_;(case hd => rfl);(case hg => rfl);(case hr => first|(go_simp;done)|(go_simp;rfl));intro gb182 hg w14 hbox hb;have n0_ := sd_ (bt_ (by repeat (first|(with_reducible first|exact HB.out|apply ba_|apply pd_|apply d1_)|exact HB.out)) hb);have n1_ := sd_ (hbox);have n2_ := sd_ ((by rw [hg];exact (bz_ (by repeat (first|(with_reducible first|exact HB.out|apply ba_|apply pd_|apply d1_)|exact HB.out))) : w.heap.size ≤ gb182));have n3_ := sd_ ((by rw [hg];exact (bz_ (by repeat (first|(with_reducible first|exact HB.out|apply ba_|apply pd_|apply d1_)|exact HB.out))) : w.heap.size ≤ gb182));clear HB;have HB := n0_;have BK182 := n1_;have GW182 := n2_;have GE182 := n3_;clear n0_ n1_ n2_ n3_;clear hb hbox hg)|((with_reducible refine gate_dst (N := 3) rfl ?_);refine box_event ?hg (N := 3) ?hd (cs := #[.int .i64 a1_0,.int .i64 a1_1,.int .i64 a1_2,.int .i64 a1_3]) (t := 23) ?hr ?_;(case hd => rfl);(case hg => rfl);(case hr => first|(go_simp;done)|(go_simp;rfl));intro gb183 hg w15 hbox hb;have n0_ := sd_ (blk_below (g := gb182) (o := .cells #[.int .i64 a0_0,.int .i64 a0_1,.int .i64 a0_2,.int .i64 a0_3] 23 (0,0)) (by (with_reducible repeat first|apply kn_|apply kd_|apply ka_);exact BK182.out) hb);have n1_ := sd_ (bt_ (by repeat (first|(with_reducible first|exact HB.out|apply ba_|apply pd_|apply d1_|refine bs_ ?_ GE182.out)|exact HB.out)) hb);have n2_ := sd_ (hbox);have n3_ := sd_ ((by rw [hg];exact (bz_ (by repeat (first|(with_reducible first|exact HB.out|apply ba_|apply pd_|apply d1_|refine bs_ ?_ GE182.out)|exact HB.out))) : w.heap.size ≤ gb183));have n4_ := sd_ ((by rw [hg];exact (bz_ (by repeat (first|(with_reducible first|exact HB.out|apply ba_|apply pd_|apply d1_|refine bs_ ?_ GE182.out)|exact HB.out))) : w.heap.size ≤ gb183));have n5_ := sd_ ((by rw [hg];exact nn_ (blk_lt (g := gb182) (o := .cells #[.int .i64 a0_0,.int .i64 a0_1,.int .i64 a0_2,.int .i64 a0_3] 23 (0,0)) (by (with_reducible repeat first|apply kn_|apply kd_|apply ka_);exact BK182.out)) : gb182 ≠ gb183));have n6_ := sd_ ((by rw [hg];exact Nat.ne_of_gt (blk_lt (g := gb182) (o := .cells #[.int .i64 a0_0,.int .i64 a0_1,.int .i64 a0_2,.int .i64 a0_3] 23 (0,0)) (by (with_reducible repeat first|apply kn_|apply kd_|apply ka_);exact BK182.out)) : gb183 ≠ gb182));clear BK182;clear HB;have BK182 := n0_;have HB := n1_;have BK183 := n2_;have GW183 := n3_;have GE183 := n4_;have NB182_183 := n5_;have NB183_182 := n6_;clear n0_ n1_ n2_ n3_ n4_ n5_ n6_;clear hb hbox hg))
   have n0_ := sd_ (kd_ BK182.out)
   have n1_ := sd_ (kd_ BK183.out)
   have n2_ := sd_ (d1_ HB.out)
   clear BK182
   clear BK183
   clear HB
   have BK182 := n0_
   have BK183 := n1_
   have HB := n2_
   clear n0_ n1_ n2_
   refine start_ (n := 14) (S := fun w' => w'.cell? ⟨gb182,0,none⟩ = some (.int .i64 a0_0) ∧ w'.cell? ⟨gb182,1,none⟩ = some (.int .i64 a0_1) ∧ w'.cell? ⟨gb182,2,none⟩ = some (.int .i64 a0_2) ∧ w'.cell? ⟨gb182,3,none⟩ = some (.int .i64 a0_3) ∧ w'.cell? ⟨gb183,0,none⟩ = some (.int .i64 a1_0) ∧ w'.cell? ⟨gb183,1,none⟩ = some (.int .i64 a1_1) ∧ w'.cell? ⟨gb183,2,none⟩ = some (.int .i64 a1_2) ∧ w'.cell? ⟨gb183,3,none⟩ = some (.int .i64 a1_3)) (ds := []) #[false,false,false,false,false,false,false,false,false,false,false,false,false,false] (by kernel_rfl) rfl rfl ⟨(kc_ BK182.out 0).trans rfl,(kc_ BK182.out 1).trans rfl,(kc_ BK182.out 2).trans rfl,(kc_ BK182.out 3).trans rfl,(kc_ BK183.out 0).trans rfl,(kc_ BK183.out 1).trans rfl,(kc_ BK183.out 2).trans rfl,(kc_ BK183.out 3).trans rfl⟩ (fun hHeld => ?_);refine with_tabW box_Inside.tab1 box_Inside.bits1 (fun HT_ HW_ => ?_)
   generalize w15.drew = w16 at BK182 BK183 HB hHeld ⊢
   refine take_ (i := 0) (N := some 5) (v := ?_) (a' := ?_) #[true,false,false,false,false,false,false,false,false,false,false,false,false,false] rfl rfl (take_ofW HT_.out HW_.out (by kernel_rfl)) (fun _ _ _ h => h) (Or.inl ⟨by rfl,?_⟩) hHeld ?_ ?_
   rotate_left
   ·rintro w' ⟨s0,s1,s2,s3,s4,s5,s6,s7⟩
    go_simp
    with_reducible rfl
   rotate_left
   ·simp only [Act.put,ls_,lz_,lc_,i64_w,i32_w]
    rfl
   refine one_ (i := 1) (N := some 6) #[true,true,false,false,false,false,false,false,false,false,false,false,false,false] rfl rfl (one_of HT_.out (by kernel_rfl)) (by decide) (fun K hK => ?_)
   refine goes_ Tryd.func12 (by kernel_rfl) rfl #[.agg #[.int .i64 a0_0,.int .i64 a0_1,.int .i64 a0_2,.int .i64 a0_3]] (by rfl) rfl rfl (by (try simp only [lm_,lq_,lx_]);first|done|rfl|(simp only [ld_,lt_];rfl)) ?_
   with_reducible refine (box_Check.calls a0_0 a0_1 a0_2 a0_3 true _ A3.out).mono ?_
   rintro e w17 ⟨rfl,hb⟩
   refine ⟨_,rfl,?_⟩
   have n0_ := sd_ (blk_below (g := gb182) (o := .cells #[.int .i64 a0_0,.int .i64 a0_1,.int .i64 a0_2,.int .i64 a0_3] 23 (0,0)) (by (with_reducible repeat first|apply kn_|apply kd_|apply ka_);exact BK182.out) hb)
   have n1_ := sd_ (blk_below (g := gb183) (o := .cells #[.int .i64 a1_0,.int .i64 a1_1,.int .i64 a1_2,.int .i64 a1_3] 23 (0,0)) (by (with_reducible repeat first|apply kn_|apply kd_|apply ka_);exact BK183.out) hb)
   have n2_ := sd_ (bt_ (by repeat (first|(with_reducible first|exact HB.out|apply ba_|apply pd_|apply d1_|refine bs_ ?_ GE182.out|refine bs_ ?_ GE183.out)|exact HB.out)) hb)
   clear BK182
   clear BK183
   clear HB
   have BK182 := n0_
   have BK183 := n1_
   have HB := n2_
   clear n0_ n1_ n2_
   (try clear hb)
   (try clear hb2)
   (try clear hk)
   (try clear hi)
   refine hK.out _ _ ⟨(kc_ BK182.out 0).trans rfl,(kc_ BK182.out 1).trans rfl,(kc_ BK182.out 2).trans rfl,(kc_ BK182.out 3).trans rfl,(kc_ BK183.out 0).trans rfl,(kc_ BK183.out 1).trans rfl,(kc_ BK183.out 2).trans rfl,(kc_ BK183.out 3).trans rfl⟩ (fun hHeld => ?_)
   clear hK K
   refine norm_ (a' := ?_) ?_ ?_
   rotate_left
   ·show Act.put _ (some 6) _ = _
    simp only [Act.put,ls_,lz_,lc_,i64_w,i32_w]
    rfl
   refine pure_ (i := 2) (N := some 7) (v := ?_) (a' := ?_) #[true,true,true,false,false,false,false,false,false,false,false,false,false,false] rfl rfl (any_of HT_.out (by kernel_rfl)) (fun _ _ _ h => h) (Or.inl ⟨by rfl,?_⟩) ?_ ?_
   rotate_left;(intro w';go_simp;with_reducible rfl);rotate_left;(simp only [Act.put,ls_,lz_,lc_,i64_w,i32_w];rfl)
   refine take_ (i := 3) (N := some 8) (v := ?_) (a' := ?_) #[true,true,true,true,false,false,false,false,false,false,false,false,false,false] rfl rfl (take_ofW HT_.out HW_.out (by kernel_rfl)) (fun _ _ _ h => h) (Or.inl ⟨by rfl,?_⟩) hHeld ?_ ?_
   rotate_left
   ·rintro w' ⟨s0,s1,s2,s3,s4,s5,s6,s7⟩
    go_simp
    with_reducible rfl
   rotate_left
   ·simp only [Act.put,ls_,lz_,lc_,i64_w,i32_w]
    rfl
   refine one_ (i := 4) (N := some 9) #[true,true,true,true,true,false,false,false,false,false,false,false,false,false] rfl rfl (one_of HT_.out (by kernel_rfl)) (by decide) (fun K hK => ?_)
   refine goes_ Tryd.func12 (by kernel_rfl) rfl #[.agg #[.int .i64 a1_0,.int .i64 a1_1,.int .i64 a1_2,.int .i64 a1_3]] (by rfl) rfl rfl (by (try simp only [lm_,lq_,lx_]);first|done|rfl|(simp only [ld_,lt_];rfl)) ?_
   with_reducible refine (box_Check.calls a1_0 a1_1 a1_2 a1_3 false _ A5.out).mono ?_
   rintro e w18 ⟨rfl,hb⟩
   refine ⟨_,rfl,?_⟩
   have n0_ := sd_ (blk_below (g := gb182) (o := .cells #[.int .i64 a0_0,.int .i64 a0_1,.int .i64 a0_2,.int .i64 a0_3] 23 (0,0)) (by (with_reducible repeat first|apply kn_|apply kd_|apply ka_);exact BK182.out) hb)
   have n1_ := sd_ (blk_below (g := gb183) (o := .cells #[.int .i64 a1_0,.int .i64 a1_1,.int .i64 a1_2,.int .i64 a1_3] 23 (0,0)) (by (with_reducible repeat first|apply kn_|apply kd_|apply ka_);exact BK183.out) hb)
   have n2_ := sd_ (bt_ (by repeat (first|(with_reducible first|exact HB.out|apply ba_|apply pd_|apply d1_|refine bs_ ?_ GE182.out|refine bs_ ?_ GE183.out)|exact HB.out)) hb)
   clear BK182
   clear BK183
   clear HB
   have BK182 := n0_
   have BK183 := n1_
   have HB := n2_
   clear n0_ n1_ n2_
   (try clear hb)
   (try clear hb2)
   (try clear hk)
   (try clear hi)
   refine hK.out _ _ ⟨(kc_ BK182.out 0).trans rfl,(kc_ BK182.out 1).trans rfl,(kc_ BK182.out 2).trans rfl,(kc_ BK182.out 3).trans rfl,(kc_ BK183.out 0).trans rfl,(kc_ BK183.out 1).trans rfl,(kc_ BK183.out 2).trans rfl,(kc_ BK183.out 3).trans rfl⟩ (fun hHeld => ?_)
   clear hK K
   refine norm_ (a' := ?_) ?_ ?_
   rotate_left
   ·show Act.put _ (some 9) _ = _
    simp only [Act.put,ls_,lz_,lc_,i64_w,i32_w]
    rfl
   refine pure_ (i := 5) (N := some 10) (v := ?_) (a' := ?_) #[true,true,true,true,true,true,false,false,false,false,false,false,false,false] rfl rfl (any_of HT_.out (by kernel_rfl)) (fun _ _ _ h => h) (Or.inl ⟨by rfl,?_⟩) ?_ ?_
   rotate_left;(intro w';go_simp;with_reducible rfl);rotate_left;(simp only [Act.put,ls_,lz_,lc_,i64_w,i32_w];rfl)
   refine pure_ (i := 6) (N := some 11) (v := ?_) (a' := ?_) #[true,true,true,true,true,true,true,false,false,false,false,false,false,false] rfl rfl (any_of HT_.out (by kernel_rfl)) (fun _ _ _ h => h) (Or.inl ⟨by rfl,?_⟩) ?_ ?_
   rotate_left;(intro w';go_simp;with_reducible rfl);rotate_left;(simp only [Act.put,ls_,lz_,lc_,i64_w,i32_w];rfl)
   refine pure_ (i := 7) (N := some 12) (v := undef) (a' := ?_) #[true,true,true,true,true,true,true,true,false,false,false,false,false,false] rfl rfl (any_of HT_.out (by kernel_rfl)) (fun _ _ _ h => h) (Or.inr ⟨by rfl,rfl⟩) ?_ ?_
   rotate_left
   ·simp only [Act.put,ls_,lz_,lc_,i64_w,i32_w]
    rfl
   refine pure_ (i := 8) (N := some 13) (v := undef) (a' := ?_) #[true,true,true,true,true,true,true,true,true,false,false,false,false,false] rfl rfl (any_of HT_.out (by kernel_rfl)) (fun _ _ _ h => h) (Or.inr ⟨by rfl,rfl⟩) ?_ ?_
   rotate_left
   ·simp only [Act.put,ls_,lz_,lc_,i64_w,i32_w]
    rfl
   refine pure_ (i := 9) (N := some 14) (v := undef) (a' := ?_) #[true,true,true,true,true,true,true,true,true,true,false,false,false,false] rfl rfl (any_of HT_.out (by kernel_rfl)) (fun _ _ _ h => h) (Or.inr ⟨by rfl,rfl⟩) ?_ ?_
   rotate_left
   ·simp only [Act.put,ls_,lz_,lc_,i64_w,i32_w]
    rfl
   refine pure_ (i := 10) (N := some 15) (v := undef) (a' := ?_) #[true,true,true,true,true,true,true,true,true,true,true,false,false,false] rfl rfl (any_of HT_.out (by kernel_rfl)) (fun _ _ _ h => h) (Or.inr ⟨by rfl,rfl⟩) ?_ ?_
   rotate_left
   ·simp only [Act.put,ls_,lz_,lc_,i64_w,i32_w]
    rfl
   refine pure_ (i := 11) (N := some 16) (v := undef) (a' := ?_) #[true,true,true,true,true,true,true,true,true,true,true,true,false,false] rfl rfl (any_of HT_.out (by kernel_rfl)) (fun _ _ _ h => h) (Or.inr ⟨by rfl,rfl⟩) ?_ ?_
   rotate_left
   ·simp only [Act.put,ls_,lz_,lc_,i64_w,i32_w]
    rfl
   refine pure_ (i := 12) (N := some 17) (v := ?_) (a' := ?_) #[true,true,true,true,true,true,true,true,true,true,true,true,true,false] rfl rfl (any_of HT_.out (by kernel_rfl)) (fun _ _ _ h => h) (Or.inl ⟨by rfl,?_⟩) ?_ ?_
   rotate_left;(intro w';go_simp;with_reducible rfl);rotate_left;(simp only [Act.put,ls_,lz_,lc_,i64_w,i32_w];rfl)
   refine pure_ (i := 13) (N := some 4) (v := ?_) (a' := ?_) #[true,true,true,true,true,true,true,true,true,true,true,true,true,true] rfl rfl (any_of HT_.out (by kernel_rfl)) (fun _ _ _ h => h) (Or.inl ⟨by rfl,?_⟩) ?_ ?_
   rotate_left;(intro w';go_simp;with_reducible rfl);rotate_left;(simp only [Act.put,ls_,lz_,lc_,i64_w,i32_w];rfl)
   refine done_ (done_of HT_.out (by kernel_rfl)) ?_
   try go_wp2
   go_ret
   exact ⟨by first|rfl|(simp [errW_none,errW_some] <;> rfl)|(simp [*,errW_none,errW_some] <;> rfl),by repeat (first|(with_reducible first|exact HB.out|apply ba_|apply pd_|apply d1_|refine bs_ ?_ GE182.out|refine bs_ ?_ GE183.out)|exact HB.out)⟩
 ·replace c4 := bf_ c4
  subst c4
  have H1 : (some false) = some r := by rw [if_neg (show ¬ (false = true) by decide)] at H;exact H
  clear H;have H := H1;clear H1
  obtain rfl := Option.some.inj H
  go_enter Tryd.func18,Tryd.ntmps18
  try go_wp2_with (first|((with_reducible refine gate_dst (N := 2) rfl ?_);refine box_event ?hg (N := 2) ?hd (cs := #[.int .i64 a0_0,.int .i64 a0_1,.int .i64 a0_2,.int .i64 a0_3]) (t := 23) ?hr ?_;(case hd => rfl);(case hg => rfl);(case hr => first|(go_simp;done)|(go_simp;rfl));intro gb182 hg w19 hbox hb;have n0_ := sd_ (bt_ (by repeat (first|(with_reducible first|exact HB.out|apply ba_|apply pd_|apply d1_)|exact HB.out)) hb);have n1_ := sd_ (hbox);have n2_ := sd_ ((by rw [hg];exact (bz_ (by repeat (first|(with_reducible first|exact HB.out|apply ba_|apply pd_|apply d1_)|exact HB.out))) : w.heap.size ≤ gb182));have n3_ := sd_ ((by rw [hg];exact (bz_ (by repeat (first|(with_reducible first|exact HB.out|apply ba_|apply pd_|apply d1_)|exact HB.out))) : w.heap.size ≤ gb182));clear HB;have HB := n0_;have BK182 := n1_;have GW182 := n2_;have GE182 := n3_;clear n0_ n1_ n2_ n3_;clear hb hbox hg)|((with_reducible refine gate_dst (N := 3) rfl ?_);refine box_event ?hg (N := 3) ?hd (cs := #[.int .i64 a1_0,.int .i64 a1_1,.int .i64 a1_2,.int .i64 a1_3]) (t := 23) ?hr ?_;(case hd => rfl);(case hg => rfl);(case hr => first|(go_simp;done)|(go_simp;rfl));intro gb183 hg w20 hbox hb;have n0_ := sd_ (blk_below (g := gb182) (o := .cells #[.int .i64 a0_0,.int .i64 a0_1,.int .i64 a0_2,.int .i64 a0_3] 23 (0,0)) (by (with_reducible repeat first|apply kn_|apply kd_|apply ka_);exact BK182.out) hb);have n1_ := sd_ (bt_ (by repeat (first|(with_reducible first|exact HB.out|apply ba_|apply pd_|apply d1_|refine bs_ ?_ GE182.out)|exact HB.out)) hb);have n2_ := sd_ (hbox);have n3_ := sd_ ((by rw [hg];exact (bz_ (by repeat (first|(with_reducible first|exact HB.out|apply ba_|apply pd_|apply d1_|refine bs_ ?_ GE182.out)|exact HB.out))) : w.heap.size ≤ gb183));have n4_ := sd_ ((by rw [hg];exact (bz_ (by repeat (first|(with_reducible first|exact HB.out|apply ba_|apply pd_|apply d1_|refine bs_ ?_ GE182.out)|exact HB.out))) : w.heap.size ≤ gb183));have n5_ := sd_ ((by rw [hg];exact nn_ (blk_lt (g := gb182) (o := .cells #[.int .i64 a0_0,.int .i64 a0_1,.int .i64 a0_2,.int .i64 a0_3] 23 (0,0)) (by (with_reducible repeat first|apply kn_|apply kd_|apply ka_);exact BK182.out)) : gb182 ≠ gb183));have n6_ := sd_ ((by rw [hg];exact Nat.ne_of_gt (blk_lt (g := gb182) (o := .cells #[.int .i64 a0_0,.int .i64 a0_1,.int .i64 a0_2,.int .i64 a0_3] 23 (0,0)) (by (with_reducible repeat first|apply kn_|apply kd_|apply ka_);exact BK182.out)) : gb183 ≠ gb182));clear BK182;clear HB;have BK182 := n0_;have HB := n1_;have BK183 := n2_;have GW183 := n3_;have GE183 := n4_;have NB182_183 := n5_;have NB183_182 := n6_;clear n0_ n1_ n2_ n3_ n4_ n5_ n6_;clear hb hbox hg))
  have n0_ := sd_ (kd_ BK182.out)
  have n1_ := sd_ (kd_ BK183.out)
  have n2_ := sd_ (d1_ HB.out)
  clear BK182
  clear BK183
  clear HB
  have BK182 := n0_
  have BK183 := n1_
  have HB := n2_
  clear n0_ n1_ n2_
  refine start_ (n := 14) (S := fun w' => w'.cell? ⟨gb182,0,none⟩ = some (.int .i64 a0_0) ∧ w'.cell? ⟨gb182,1,none⟩ = some (.int .i64 a0_1) ∧ w'.cell? ⟨gb182,2,none⟩ = some (.int .i64 a0_2) ∧ w'.cell? ⟨gb182,3,none⟩ = some (.int .i64 a0_3)) (ds := []) #[false,false,false,false,false,false,false,false,false,false,false,false,false,false] (by kernel_rfl) rfl rfl ⟨(kc_ BK182.out 0).trans rfl,(kc_ BK182.out 1).trans rfl,(kc_ BK182.out 2).trans rfl,(kc_ BK182.out 3).trans rfl⟩ (fun hHeld => ?_);refine with_tabW box_Inside.tab1 box_Inside.bits1 (fun HT_ HW_ => ?_)
  generalize w20.drew = w21 at BK182 BK183 HB hHeld ⊢
  refine take_ (i := 0) (N := some 5) (v := ?_) (a' := ?_) #[true,false,false,false,false,false,false,false,false,false,false,false,false,false] rfl rfl (take_ofW HT_.out HW_.out (by kernel_rfl)) (fun _ _ _ h => h) (Or.inl ⟨by rfl,?_⟩) hHeld ?_ ?_
  rotate_left
  ·rintro w' ⟨s0,s1,s2,s3⟩
   go_simp
   with_reducible rfl
  rotate_left
  ·simp only [Act.put,ls_,lz_,lc_,i64_w,i32_w]
   rfl
  refine one_ (i := 1) (N := some 6) #[true,true,false,false,false,false,false,false,false,false,false,false,false,false] rfl rfl (one_of HT_.out (by kernel_rfl)) (by decide) (fun K hK => ?_)
  refine goes_ Tryd.func12 (by kernel_rfl) rfl #[.agg #[.int .i64 a0_0,.int .i64 a0_1,.int .i64 a0_2,.int .i64 a0_3]] (by rfl) rfl rfl (by (try simp only [lm_,lq_,lx_]);first|done|rfl|(simp only [ld_,lt_];rfl)) ?_
  with_reducible refine (box_Check.calls a0_0 a0_1 a0_2 a0_3 false _ A3.out).mono ?_
  rintro e w22 ⟨rfl,hb⟩
  refine ⟨_,rfl,?_⟩
  have n0_ := sd_ (blk_below (g := gb182) (o := .cells #[.int .i64 a0_0,.int .i64 a0_1,.int .i64 a0_2,.int .i64 a0_3] 23 (0,0)) (by (with_reducible repeat first|apply kn_|apply kd_|apply ka_);exact BK182.out) hb)
  have n1_ := sd_ (blk_below (g := gb183) (o := .cells #[.int .i64 a1_0,.int .i64 a1_1,.int .i64 a1_2,.int .i64 a1_3] 23 (0,0)) (by (with_reducible repeat first|apply kn_|apply kd_|apply ka_);exact BK183.out) hb)
  have n2_ := sd_ (bt_ (by repeat (first|(with_reducible first|exact HB.out|apply ba_|apply pd_|apply d1_|refine bs_ ?_ GE182.out|refine bs_ ?_ GE183.out)|exact HB.out)) hb)
  clear BK182
  clear BK183
  clear HB
  have BK182 := n0_
  have BK183 := n1_
  have HB := n2_
  clear n0_ n1_ n2_
  (try clear hb)
  (try clear hb2)
  (try clear hk)
  (try clear hi)
  refine hK.out _ _ ⟨(kc_ BK182.out 0).trans rfl,(kc_ BK182.out 1).trans rfl,(kc_ BK182.out 2).trans rfl,(kc_ BK182.out 3).trans rfl⟩ (fun hHeld => ?_)
  clear hK K
  refine norm_ (a' := ?_) ?_ ?_
  rotate_left
  ·show Act.put _ (some 6) _ = _
   simp only [Act.put,ls_,lz_,lc_,i64_w,i32_w]
   rfl
  refine pure_ (i := 2) (N := some 7) (v := ?_) (a' := ?_) #[true,true,true,false,false,false,false,false,false,false,false,false,false,false] rfl rfl (any_of HT_.out (by kernel_rfl)) (fun _ _ _ h => h) (Or.inl ⟨by rfl,?_⟩) ?_ ?_
  rotate_left;(intro w';go_simp;with_reducible rfl);rotate_left;(simp only [Act.put,ls_,lz_,lc_,i64_w,i32_w];rfl)
  refine pure_ (i := 3) (N := some 8) (v := undef) (a' := ?_) #[true,true,true,true,false,false,false,false,false,false,false,false,false,false] rfl rfl (any_of HT_.out (by kernel_rfl)) (fun _ _ _ h => h) (Or.inr ⟨by rfl,rfl⟩) ?_ ?_
  rotate_left
  ·simp only [Act.put,ls_,lz_,lc_,i64_w,i32_w]
   rfl
  refine pure_ (i := 4) (N := some 9) (v := undef) (a' := ?_) #[true,true,true,true,true,false,false,false,false,false,false,false,false,false] rfl rfl (any_of HT_.out (by kernel_rfl)) (fun _ _ _ h => h) (Or.inr ⟨by rfl,rfl⟩) ?_ ?_
  rotate_left
  ·simp only [Act.put,ls_,lz_,lc_,i64_w,i32_w]
   rfl
  refine pure_ (i := 5) (N := some 10) (v := ?_) (a' := ?_) #[true,true,true,true,true,true,false,false,false,false,false,false,false,false] rfl rfl (any_of HT_.out (by kernel_rfl)) (fun _ _ _ h => h) (Or.inl ⟨by rfl,?_⟩) ?_ ?_
  rotate_left;(intro w';go_simp;with_reducible rfl);rotate_left;(simp only [Act.put,ls_,lz_,lc_,i64_w,i32_w];rfl)
  refine pure_ (i := 6) (N := some 11) (v := ?_) (a' := ?_) #[true,true,true,true,true,true,true,false,false,false,false,false,false,false] rfl rfl (any_of HT_.out (by kernel_rfl)) (fun _ _ _ h => h) (Or.inl ⟨by rfl,?_⟩) ?_ ?_
  rotate_left;(intro w';go_simp;with_reducible rfl);rotate_left;(simp only [Act.put,ls_,lz_,lc_,i64_w,i32_w];rfl)
  refine pure_ (i := 7) (N := some 12) (v := undef) (a' := ?_) #[true,true,true,true,true,true,true,true,false,false,false,false,false,false] rfl rfl (any_of HT_.out (by kernel_rfl)) (fun _ _ _ h => h) (Or.inr ⟨by rfl,rfl⟩) ?_ ?_
  rotate_left
  ·simp only [Act.put,ls_,lz_,lc_,i64_w,i32_w]
   rfl
  refine pure_ (i := 8) (N := some 13) (v := undef) (a' := ?_) #[true,true,true,true,true,true,true,true,true,false,false,false,false,false] rfl rfl (any_of HT_.out (by kernel_rfl)) (fun _ _ _ h => h) (Or.inr ⟨by rfl,rfl⟩) ?_ ?_
  rotate_left
  ·simp only [Act.put,ls_,lz_,lc_,i64_w,i32_w]
   rfl
  refine pure_ (i := 9) (N := some 14) (v := undef) (a' := ?_) #[true,true,true,true,true,true,true,true,true,true,false,false,false,false] rfl rfl (any_of HT_.out (by kernel_rfl)) (fun _ _ _ h => h) (Or.inr ⟨by rfl,rfl⟩) ?_ ?_
  rotate_left
  ·simp only [Act.put,ls_,lz_,lc_,i64_w,i32_w]
   rfl
  refine pure_ (i := 10) (N := some 15) (v := undef) (a' := ?_) #[true,true,true,true,true,true,true,true,true,true,true,false,false,false] rfl rfl (any_of HT_.out (by kernel_rfl)) (fun _ _ _ h => h) (Or.inr ⟨by rfl,rfl⟩) ?_ ?_
  rotate_left
  ·simp only [Act.put,ls_,lz_,lc_,i64_w,i32_w]
   rfl
  refine pure_ (i := 11) (N := some 16) (v := undef) (a' := ?_) #[true,true,true,true,true,true,true,true,true,true,true,true,false,false] rfl rfl (any_of HT_.out (by kernel_rfl)) (fun _ _ _ h => h) (Or.inr ⟨by rfl,rfl⟩) ?_ ?_
  rotate_left
  ·simp only [Act.put,ls_,lz_,lc_,i64_w,i32_w]
   rfl
  refine pure_ (i := 12) (N := some 17) (v := ?_) (a' := ?_) #[true,true,true,true,true,true,true,true,true,true,true,true,true,false] rfl rfl (any_of HT_.out (by kernel_rfl)) (fun _ _ _ h => h) (Or.inl ⟨by rfl,?_⟩) ?_ ?_
  rotate_left;(intro w';go_simp;with_reducible rfl);rotate_left;(simp only [Act.put,ls_,lz_,lc_,i64_w,i32_w];rfl)
  refine pure_ (i := 13) (N := some 4) (v := ?_) (a' := ?_) #[true,true,true,true,true,true,true,true,true,true,true,true,true,true] rfl rfl (any_of HT_.out (by kernel_rfl)) (fun _ _ _ h => h) (Or.inl ⟨by rfl,?_⟩) ?_ ?_
  rotate_left;(intro w';go_simp;with_reducible rfl);rotate_left;(simp only [Act.put,ls_,lz_,lc_,i64_w,i32_w];rfl)
  refine done_ (done_of HT_.out (by kernel_rfl)) ?_
  try go_wp2
  go_ret
  exact ⟨by first|rfl|(simp [errW_none,errW_some] <;> rfl)|(simp [*,errW_none,errW_some] <;> rfl),by repeat (first|(with_reducible first|exact HB.out|apply ba_|apply pd_|apply d1_|refine bs_ ?_ GE182.out|refine bs_ ?_ GE183.out)|exact HB.out)⟩

/-! ### neumeref03_Inside: function 19 -/
def neumeref03_Inside.f (a0_0 : Int) (a0_1 : Int) (a0_2 : Int) (a0_3 : Int) (a1_0 : Int) (a1_1 : Int) (a1_2 : Int) (a1_3 : Int) : Option (Bool) := (neumeref03_Check.f a0_0 a0_1 a0_2 a0_3).bind fun t192 => (if t192 = true then ((neumeref03_Check.f a1_0 a1_1 a1_2 a1_3).bind fun t193 => (if t193 = true then (if a0_0 ≥ a1_0 then (if a0_2 ≤ a1_2 then (if a0_1 ≥ a1_1 then (some (decide (a0_3 ≤ a1_3))) else (some false)) else (some false)) else (some false)) else (some false))) else (some false))
set_option maxHeartbeats 8000000 in
set_option maxRecDepth 100000 in
theorem neumeref03_Inside.calls (a0_0 : Int) (a0_1 : Int) (a0_2 : Int) (a0_3 : Int) (a1_0 : Int) (a1_1 : Int) (a1_2 : Int) (a1_3 : Int) (r : Bool) (w : World) (h : neumeref03_Inside.f a0_0 a0_1 a0_2 a0_3 a1_0 a1_1 a1_2 a1_3 = some r) :
  Calls Tryd.prog 19 #[.agg #[.int .i64 a0_0,.int .i64 a0_1,.int .i64 a0_2,.int .i64 a0_3],.agg #[.int .i64 a1_0,.int .i64 a1_1,.int .i64 a1_2,.int .i64 a1_3]] w fun e w' => e = .returned (.bool r) ∧ Below w.heap.size w w' := by
 have hu23 := Tryd.underlying23
 have HB := sd_ (Below.refl w.heap.size w)
 have H : ((neumeref03_Check.f a0_0 a0_1 a0_2 a0_3).bind fun t192 => (if t192 = true then ((neumeref03_Check.f a1_0 a1_1 a1_2 a1_3).bind fun t193 => (if t193 = true then (if a0_0 ≥ a1_0 then (if a0_2 ≤ a1_2 then (if a0_1 ≥ a1_1 then (some (decide (a0_3 ≤ a1_3))) else (some false)) else (some false)) else (some false)) else (some false))) else (some false))) = some r := h
 clear h
 replace H := ob_ H
 obtain ⟨t192,A30,H⟩ := H
 replace H : (if t192 = true then ((neumeref03_Check.f a1_0 a1_1 a1_2 a1_3).bind fun t193 => (if t193 = true then (if a0_0 ≥ a1_0 then (if a0_2 ≤ a1_2 then (if a0_1 ≥ a1_1 then (some (decide (a0_3 ≤ a1_3))) else (some false)) else (some false)) else (some false)) else (some false))) else (some false)) = some r := H
 have A3 := sd_ A30
 clear A30
 by_cases c4 : t192 = true
 ·subst c4
  have H1 : ((neumeref03_Check.f a1_0 a1_1 a1_2 a1_3).bind fun t193 => (if t193 = true then (if a0_0 ≥ a1_0 then (if a0_2 ≤ a1_2 then (if a0_1 ≥ a1_1 then (some (decide (a0_3 ≤ a1_3))) else (some false)) else (some false)) else (some false)) else (some false))) = some r := by rw [if_pos rfl] at H;exact H
  clear H;have H := H1;clear H1
  replace H := ob_ H
  obtain ⟨t193,A50,H⟩ := H
  replace H : (if t193 = true then (if a0_0 ≥ a1_0 then (if a0_2 ≤ a1_2 then (if a0_1 ≥ a1_1 then (some (decide (a0_3 ≤ a1_3))) else (some false)) else (some false)) else (some false)) else (some false)) = some r := H
  have A5 := sd_ A50
  clear A50
  by_cases c6 : t193 = true
  ·subst c6
   have H1 : (if a0_0 ≥ a1_0 then (if a0_2 ≤ a1_2 then (if a0_1 ≥ a1_1 then (some (decide (a0_3 ≤ a1_3))) else (some false)) else (some false)) else (some false)) = some r := by rw [if_pos rfl] at H;exact H
   clear H;have H := H1;clear H1
   by_cases c7 : a0_0 ≥ a1_0
   ·rw [if_pos c7] at H
    have c7b0 : decide (a1_0 ≤ a0_0) = true := dt_ c7
    clear c7
    by_cases c8 : a0_2 ≤ a1_2
    ·rw [if_pos c8] at H
     have c8b0 : decide (a0_2 ≤ a1_2) = true := dt_ c8
     clear c8
     by_cases c9 : a0_1 ≥ a1_1
     ·rw [if_pos c9] at H
      have c9b0 : decide (a1_1 ≤ a0_1) = true := dt_ c9
      clear c9
      obtain rfl := Option.some.inj H
      go_enter Tryd.func19,Tryd.ntmps19
      go_wp2_with (first|((with_reducible refine gate_dst (N := 2) rfl ?_);refine box_event ?hg (N := 2) ?hd (cs := #[.int .i64 a0_0,.int .i64 a0_1,.int .i64 a0_2,.int .i64 a0_3]) (t := 23) ?hr ?_;(case hd => rfl);(case hg => rfl);(case hr => first|(go_simp;done)|(go_simp;rfl));intro gb190 hg w10 hbox hb;have n0_ := sd_ (bt_ (by repeat (first|(with_reducible first|exact HB.out|apply ba_|apply pd_|apply d1_)|exact HB.out)) hb);have n1_ := sd_ (hbox);have n2_ := sd_ ((by rw [hg];exact (bz_ (by repeat (first|(with_reducible first|exact HB.out|apply ba_|apply pd_|apply d1_)|exact HB.out))) : w.heap.size ≤ gb190));have n3_ := sd_ ((by rw [hg];exact (bz_ (by repeat (first|(with_reducible first|exact HB.out|apply ba_|apply pd_|apply d1_)|exact HB.out))) : w.heap.size ≤ gb190));clear HB;have HB := n0_;have BK190 := n1_;have GW190 := n2_;have GE190 := n3_;clear n0_ n1_ n2_ n3_;clear hb hbox hg)|((with_reducible refine gate_dst (N := 3) rfl ?_);refine box_event ?hg (N := 3) ?hd (cs := #[.int .i64 a1_0,.int .i64 a1_1,.int .i64 a1_2,.int .i64 a1_3]) (t := 23) ?hr ?_;(case hd => rfl);(case hg => rfl);(case hr => first|(go_simp;done)|(go_simp;rfl));intro gb191 hg w11 hbox hb;have n0_ := sd_ (blk_below (g := gb190) (o := .cells #[.int .i64 a0_0,.int .i64 a0_1,.int .i64 a0_2,.int .i64 a0_3] 23 (0,0)) (by (with_reducible repeat first|apply kn_|apply kd_|apply ka_);exact BK190.out) hb);have n1_ := sd_ (bt_ (by repeat (first|(with_reducible first|exact HB.out|apply ba_|apply pd_|apply d1_|refine bs_ ?_ GE190.out)|exact HB.out)) hb);have n2_ := sd_ (hbox);have n3_ := sd_ ((by rw [hg];exact (bz_ (by repeat (first|(with_reducible first|exact HB.out|apply ba_|apply pd_|apply d1_|refine bs_ ?_ GE190.out)|exact HB.out))) : w.heap.size ≤ gb191));have n4_ := sd_ ((by rw [hg];exact (bz_ (by repeat (first|(with_reducible first|exact HB.out|apply ba_|apply pd_|apply d1_|refine bs_ ?_ GE190.out)|exact HB.out))) : w.heap.size ≤ gb191));have n5_ := sd_ ((by rw [hg];exact nn_ (blk_lt (g := gb190) (o := .cells #[.int .i64 a0_0,.int .i64 a0_1,.int .i64 a0_2,.int .i64 a0_3] 23 (0,0)) (by (with_reducible repeat first|apply kn_|apply kd_|apply ka_);exact BK190.out)) : gb190 ≠ gb191));have n6_ := sd_ ((by rw [hg];exact Nat.ne_of_gt (blk_lt (g := gb190) (o := .cells #[.int .i64 a0_0,.int .i64 a0_1,.int .i64 a0_2,.int .i64 a0_3] 23 (0,0)) (by (with_reducible repeat first|apply kn_|apply kd_|apply ka_);exact BK190.out)) : gb191 ≠ gb190));clear BK190;clear HB;have BK190 := n0_;have HB := n1_;have BK191 := n2_;have GW191 := n3_;have GE191 := n4_;have NB190_191 := n5_;have NB191_190 := n6_;clear n0_ n1_ n2_ n3_ n4_ n5_ n6_;clear hb hbox hg;have hnb12 := NB190_191.out;have hnc12 := NB191_190.out;have hcz13_0 : w11.cell? ⟨gb190,0,none⟩ = some (.int .i64 a0_0) := (kc_ BK190.out 0).trans rfl;have hcz13_1 : w11.cell? ⟨gb190,1,none⟩ = some (.int .i64 a0_1) := (kc_ BK190.out 1).trans rfl;have hcz13_2 : w11.cell? ⟨gb190,2,none⟩ = some (.int .i64 a0_2) := (kc_ BK190.out 2).trans rfl;have hcz13_3 : w11.cell? ⟨gb190,3,none⟩ = some (.int .i64 a0_3) := (kc_ BK190.out 3).trans rfl;have hfz13_0 := kf_ BK190.out 0;have hfz13_1 := kf_ BK190.out 1;have hfz13_2 := kf_ BK190.out 2;have hfz13_3 := kf_ BK190.out 3)|((with_reducible refine gate_callee (f := 13) rfl ?_);refine goesL_ (some 6) rfl rfl Tryd.func13 (by kernel_rfl) rfl #[.agg #[.int .i64 a0_0,.int .i64 a0_1,.int .i64 a0_2,.int .i64 a0_3]] rfl (by (try simp only [lm_,lq_,lx_]);first|done|rfl|(simp only [ld_,lt_];rfl)) ?_;(with_reducible refine (neumeref03_Check.calls a0_0 a0_1 a0_2 a0_3 true _ A3.out).mono ?_);rintro e w14 ⟨rfl,hb⟩;refine ⟨_,rfl,?_⟩;have n0_ := sd_ (blk_below (g := gb190) (o := .cells #[.int .i64 a0_0,.int .i64 a0_1,.int .i64 a0_2,.int .i64 a0_3] 23 (0,0)) (by (with_reducible repeat first|apply kn_|apply kd_|apply ka_);exact BK190.out) hb);have n1_ := sd_ (blk_below (g := gb191) (o := .cells #[.int .i64 a1_0,.int .i64 a1_1,.int .i64 a1_2,.int .i64 a1_3] 23 (0,0)) (by (with_reducible repeat first|apply kn_|apply kd_|apply ka_);exact BK191.out) hb);have n2_ := sd_ (bt_ (by repeat (first|(with_reducible first|exact HB.out|apply ba_|apply pd_|apply d1_|refine bs_ ?_ GE190.out|refine bs_ ?_ GE191.out)|exact HB.out)) hb);clear BK190;clear BK191;clear HB;have BK190 := n0_;have BK191 := n1_;have HB := n2_;clear n0_ n1_ n2_;(try clear hb);(try clear hb2);(try clear hk);(try clear hi);have hcz15_0 : w14.cell? ⟨gb191,0,none⟩ = some (.int .i64 a1_0) := (kc_ BK191.out 0).trans rfl;have hcz15_1 : w14.cell? ⟨gb191,1,none⟩ = some (.int .i64 a1_1) := (kc_ BK191.out 1).trans rfl;have hcz15_2 : w14.cell? ⟨gb191,2,none⟩ = some (.int .i64 a1_2) := (kc_ BK191.out 2).trans rfl;have hcz15_3 : w14.cell? ⟨gb191,3,none⟩ = some (.int .i64 a1_3) := (kc_ BK191.out 3).trans rfl;have hfz15_0 := kf_ BK191.out 0;have hfz15_1 := kf_ BK191.out 1;have hfz15_2 := kf_ BK191.out 2;have hfz15_3 := kf_ BK191.out 3)|(go_at_call 13;(with_reducible refine (neumeref03_Check.calls a1_0 a1_1 a1_2 a1_3 true _ A5.out).mono ?_);rintro e w16 ⟨rfl,hb⟩;have n0_ := sd_ (blk_below (g := gb190) (o := .cells #[.int .i64 a0_0,.int .i64 a0_1,.int .i64 a0_2,.int .i64 a0_3] 23 (0,0)) (by (with_reducible repeat first|apply kn_|apply kd_|apply ka_);exact BK190.out) hb);have n1_ := sd_ (blk_below (g := gb191) (o := .cells #[.int .i64 a1_0,.int .i64 a1_1,.int .i64 a1_2,.int .i64 a1_3] 23 (0,0)) (by (with_reducible repeat first|apply kn_|apply kd_|apply ka_);exact BK191.out) hb);have n2_ := sd_ (bt_ (by repeat (first|(with_reducible first|exact HB.out|apply ba_|apply pd_|apply d1_|refine bs_ ?_ GE190.out|refine bs_ ?_ GE191.out)|exact HB.out)) hb);clear BK190;clear BK191;clear HB;have BK190 := n0_;have BK191 := n1_;have HB := n2_;clear n0_ n1_ n2_;(try clear hb);(try clear hb2);(try clear hk);(try clear hi);have hcz17_0 : w16.cell? ⟨gb190,0,none⟩ = some (.int .i64 a0_0) := (kc_ BK190.out 0).trans rfl;have hcz17_1 : w16.cell? ⟨gb190,1,none⟩ = some (.int .i64 a0_1) := (kc_ BK190.out 1).trans rfl;have hcz17_2 : w16.cell? ⟨gb190,2,none⟩ = some (.int .i64 a0_2) := (kc_ BK190.out 2).trans rfl;have hcz17_3 : w16.cell? ⟨gb190,3,none⟩ = some (.int .i64 a0_3) := (kc_ BK190.out 3).trans rfl;have hfz17_0 := kf_ BK190.out 0;have hfz17_1 := kf_ BK190.out 1;have hfz17_2 := kf_ BK190.out 2;have hfz17_3 := kf_ BK190.out 3;have hcz18_0 : w16.cell? ⟨gb191,0,none⟩ = some (.int .i64 a1_0) := (kc_ BK191.out 0).trans rfl;have hcz18_1 : w16.cell? ⟨gb191,1,none⟩ = some (.int .i64 a1_1) := (kc_ BK191.out 1).trans rfl;have hcz18_2 : w16.cell? ⟨gb191,2,none⟩ = some (.int .i64 a1_2) := (kc_ BK191.out 2).trans rfl;have hcz18_3 : w16.cell? ⟨gb191,3,none⟩ = some (.int .i64 a1_3) := (kc_ BK191.out 3).trans rfl;have hfz18_0 := kf_ BK191.out 0;have hfz18_1 := kf_ BK191.out 1;have hfz18_2 := kf_ BK191.out 2;have hfz18_3 := kf_ BK191.out 3))
      go_ret
      exact ⟨by first|rfl|(simp [errW_none,errW_some] <;> rfl)|(simp [*,errW_none,errW_some] <;> rfl),by repeat (first|(with_reducible first|exact HB.out|apply ba_|apply pd_|apply d1_|refine bs_ ?_ GE190.out|refine bs_ ?_ GE191.out)|exact HB.out)⟩
     ·rw [if_neg c9] at H
      have c9b0 : decide (a1_1 ≤ a0_1) = false := df_ c9
      clear c9
      obtain rfl := Option.some.inj H
      go_enter Tryd.func19,Tryd.ntmps19
      go_wp2_with (first|((with_reducible refine gate_dst (N := 2) rfl ?_);refine box_event ?hg (N := 2) ?hd (cs := #[.int .i64 a0_0,.int .i64 a0_1,.int .i64 a0_2,.int .i64 a0_3]) (t := 23) ?hr ?_;(case hd => rfl);(case hg => rfl);(case hr => first|(go_simp;done)|(go_simp;rfl));intro gb190 hg w19 hbox hb;have n0_ := sd_ (bt_ (by repeat (first|(with_reducible first|exact HB.out|apply ba_|apply pd_|apply d1_)|exact HB.out)) hb);have n1_ := sd_ (hbox);have n2_ := sd_ ((by rw [hg];exact (bz_ (by repeat (first|(with_reducible first|exact HB.out|apply ba_|apply pd_|apply d1_)|exact HB.out))) : w.heap.size ≤ gb190));have n3_ := sd_ ((by rw [hg];exact (bz_ (by repeat (first|(with_reducible first|exact HB.out|apply ba_|apply pd_|apply d1_)|exact HB.out))) : w.heap.size ≤ gb190));clear HB;have HB := n0_;have BK190 := n1_;have GW190 := n2_;have GE190 := n3_;clear n0_ n1_ n2_ n3_;clear hb hbox hg)|((with_reducible refine gate_dst (N := 3) rfl ?_);refine box_event ?hg (N := 3) ?hd (cs := #[.int .i64 a1_0,.int .i64 a1_1,.int .i64 a1_2,.int .i64 a1_3]) (t := 23) ?hr ?_;(case hd => rfl);(case hg => rfl);(case hr => first|(go_simp;done)|(go_simp;rfl));intro gb191 hg w20 hbox hb;have n0_ := sd_ (blk_below (g := gb190) (o := .cells #[.int .i64 a0_0,.int .i64 a0_1,.int .i64 a0_2,.int .i64 a0_3] 23 (0,0)) (by (with_reducible repeat first|apply kn_|apply kd_|apply ka_);exact BK190.out) hb);have n1_ := sd_ (bt_ (by repeat (first|(with_reducible first|exact HB.out|apply ba_|apply pd_|apply d1_|refine bs_ ?_ GE190.out)|exact HB.out)) hb);have n2_ := sd_ (hbox);have n3_ := sd_ ((by rw [hg];exact (bz_ (by repeat (first|(with_reducible first|exact HB.out|apply ba_|apply pd_|apply d1_|refine bs_ ?_ GE190.out)|exact HB.out))) : w.heap.size ≤ gb191));have n4_ := sd_ ((by rw [hg];exact (bz_ (by repeat (first|(with_reducible first|exact HB.out|apply ba_|apply pd_|apply d1_|refine bs_ ?_ GE190.out)|exact HB.out))) : w.heap.size ≤ gb191));have n5_ := sd_ ((by rw [hg];exact nn_ (blk_lt (g := gb190) (o := .cells #[.int .i64 a0_0,.int .i64 a0_1,.int .i64 a0_2,.int .i64 a0_3] 23 (0,0)) (by (with_reducible repeat first|apply kn_|apply kd_|apply ka_);exact BK190.out)) : gb190 ≠ gb191));have n6_ := sd_ ((by rw [hg];exact Nat.ne_of_gt (blk_lt (g := gb190) (o := .cells #[.int .i64 a0_0,.int .i64 a0_1,.int .i64 a0_2,.int .i64 a0_3] 23 (0,0)) (by (with_reducible repeat first|apply kn_|apply kd_|apply ka_);exact BK190.out)) : gb191 ≠ gb190));clear BK190;clear HB;have BK190 := n0_;have HB := n1_;have BK191 := n2_;have GW191 := n3_;have GE191 := n4_;have NB190_191 := n5_;have NB191_190 := n6_;clear n0_ n1_ n2_ n3_ n4_ n5_ n6_;clear hb hbox hg;have hnb21 := NB190_191.out;have hnc21 := NB191_190.out;have hcz22_0 : w20.cell? ⟨gb190,0,none⟩ = some (.int .i64 a0_0) := (kc_ BK190.out 0).trans rfl;have hcz22_1 : w20.cell? ⟨gb190,1,none⟩ = some (.int .i64 a0_1) := (kc_ BK190.out 1).trans rfl;have hcz22_2 : w20.cell? ⟨gb190,2,none⟩ = some (.int .i64 a0_2) := (kc_ BK190.out 2).trans rfl;have hcz22_3 : w20.cell? ⟨gb190,3,none⟩ = some (.int .i64 a0_3) := (kc_ BK190.out 3).trans rfl;have hfz22_0 := kf_ BK190.out 0;have hfz22_1 := kf_ BK190.out 1;have hfz22_2 := kf_ BK190.out 2;have hfz22_3 := kf_ BK190.out 3)|((with_reducible refine gate_callee (f := 13) rfl ?_);refine goesL_ (some 6) rfl rfl Tryd.func13 (by kernel_rfl) rfl #[.agg #[.int .i64 a0_0,.int .i64 a0_1,.int .i64 a0_2,.int .i64 a0_3]] rfl (by (try simp only [lm_,lq_,lx_]);first|done|rfl|(simp only [ld_,lt_];rfl)) ?_;(with_reducible refine (neumeref03_Check.calls a0_0 a0_1 a0_2 a0_3 true _ A3.out).mono ?_);rintro e w23 ⟨rfl,hb⟩;refine ⟨_,rfl,?_⟩;have n0_ := sd_ (blk_below (g := gb190) (o := .cells #[.int .i64 a0_0,.int .i64 a0_1,.int .i64 a0_2,.int .i64 a0_3] 23 (0,0)) (by (with_reducible repeat first|apply kn_|apply kd_|apply ka_);exact BK190.out) hb);have n1_ := sd_ (blk_below (g := gb191) (o := .cells #[.int .i64 a1_0,.int .i64 a1_1,.int .i64 a1_2,.int .i64 a1_3] 23 (0,0)) (by (with_reducible repeat first|apply kn_|apply kd_|apply ka_);exact BK191.out) hb);have n2_ := sd_ (bt_ (by repeat (first|(with_reducible first|exact HB.out|apply ba_|apply pd_|apply d1_|refine bs_ ?_ GE190.out|refine bs_ ?_ GE191.out)|exact HB.out)) hb);clear BK190;clear BK191;clear HB;have BK190 := n0_;have BK191 := n1_;have HB := n2_;clear n0_ n1_ n2_;(try clear hb);(try clear hb2);(try clear hk);(try clear hi);have hcz24_0 : w23.cell? ⟨gb191,0,none⟩ = some (.int .i64 a1_0) := (kc_ BK191.out 0).trans rfl;have hcz24_1 : w23.cell? ⟨gb191,1,none⟩ = some (.int .i64 a1_1) := (kc_ BK191.out 1).trans rfl;have hcz24_2 : w23.cell? ⟨gb191,2,none⟩ = some (.int .i64 a1_2) := (kc_ BK191.out 2).trans rfl;have hcz24_3 : w23.cell? ⟨gb191,3,none⟩ = some (.int .i64 a1_3) := (kc_ BK191.out 3).trans rfl;have hfz24_0 := kf_ BK191.out 0;have hfz24_1 := kf_ BK191.out 1;have hfz24_2 := kf_ BK191.out 2;have hfz24_3 := kf_ BK191.out 3)|(go_at_call 13;(with_reducible refine (neumeref03_Check.calls a1_0 a1_1 a1_2 a1_3 true _ A5.out).mono ?_);rintro e w25 ⟨rfl,hb⟩;have n0_ := sd_ (blk_below (g := gb190) (o := .cells #[.int .i64 a0_0,.int .i64 a0_1,.int .i64 a0_2,.int .i64 a0_3] 23 (0,0)) (by (with_reducible repeat first|apply kn_|apply kd_|apply ka_);exact BK190.out) hb);have n1_ := sd_ (blk_below (g := gb191) (o := .cells #[.int .i64 a1_0,.int .i64 a1_1,.int .i64 a1_2,.int .i64 a1_3] 23 (0,0)) (by (with_reducible repeat first|apply kn_|apply kd_|apply ka_);exact BK191.out) hb);have n2_ := sd_ (bt_ (by repeat (first|(with_reducible first|exact HB.out|apply ba_|apply pd_|apply d1_|refine bs_ ?_ GE190.out|refine bs_ ?_ GE191.out)|exact HB.out)) hb);clear BK190;clear BK191;clear HB;have BK190 := n0_;have BK191 := n1_;have HB := n2_;clear n0_ n1_ n2_;(try clear hb);(try clear hb2);(try clear hk);(try clear hi);have hcz26_0 : w25.cell? ⟨gb190,0,none⟩ = some (.int .i64 a0_0) := (kc_ BK190.out 0).trans rfl;have hcz26_1 : w25.cell? ⟨gb190,1,none⟩ = some (.int .i64 a0_1) := (kc_ BK190.out 1).trans rfl;have hcz26_2 : w25.cell? ⟨gb190,2,none⟩ = some (.int .i64 a0_2) := (kc_ BK190.out 2).trans rfl;have hcz26_3 : w25.cell? ⟨gb190,3,none⟩ = some (.int .i64 a0_3) := (kc_ BK190.out 3).trans rfl;have hfz26_0 := kf_ BK190.out 0;have hfz26_1 := kf_ BK190.out 1;have hfz26_2 := kf_ BK190.out 2;have hfz26_3 := kf_ BK190.out 3;have hcz27_0 : w25.cell? ⟨gb191,0,none⟩ = some (.int .i64 a1_0) := (kc_ BK191.out 0).trans rfl;have hcz27_1 : w25.cell? ⟨gb191,1,none⟩ = some (.int .i64 a1_1) := (kc_ BK191.out 1).trans rfl;have hcz27_2 : w25.cell? ⟨gb191,2,none⟩ = some (.int .i64 a1_2) := (kc_ BK191.out 2).trans rfl;have hcz27_3 : w25.cell? ⟨gb191,3,none⟩ = some (.int .i64 a1_3) := (kc_ BK191.out 3).trans rfl;have hfz27_0 := kf_ BK191.out 0;have hfz27_1 := kf_ BK191.out 1;have hfz27_2 := kf_ BK191.out 2;have hfz27_3 := kf_ BK191.out 3))
      go_ret
      exact ⟨by first|rfl|(simp [errW_none,errW_some] <;> rfl)|(simp [*,errW_none,errW_some] <;> rfl),by repeat (first|(with_reducible first|exact HB.out|apply ba_|apply pd_|apply d1_|refine bs_ ?_ GE190.out|refine bs_ ?_ GE191.out)|exact HB.out)⟩
    ·rw [if_neg c8] at H
     have c8b0 : decide (a0_2 ≤ a1_2) = false := df_ c8
     clear c8
     obtain rfl := Option.some.inj H
     go_enter Tryd.func19,Tryd.ntmps19
     go_wp2_with (first|((with_reducible refine gate_dst (N := 2) rfl ?_);refine box_event ?hg (N := 2) ?hd (cs := #[.int .i64 a0_0,.int .i64 a0_1,.int .i64 a0_2,.int .i64 a0_3]) (t := 23) ?hr ?_;(case hd => rfl);(case hg => rfl);(case hr => first|(go_simp;done)|(go_simp;rfl));intro gb190 hg w28 hbox hb;have n0_ := sd_ (bt_ (by repeat (first|(with_reducible first|exact HB.out|apply ba_|apply pd_|apply d1_)|exact HB.out)) hb);have n1_ := sd_ (hbox);have n2_ := sd_ ((by rw [hg];exact (bz_ (by repeat (first|(with_reducible first|exact HB.out|apply ba_|apply pd_|apply d1_)|exact HB.out))) : w.heap.size ≤ gb190));have n3_ := sd_ ((by rw [hg];exact (bz_ (by repeat (first|(with_reducible first|exact HB.out|apply ba_|apply pd_|apply d1_)|exact HB.out))) : w.heap.size ≤ gb190));clear HB;have HB := n0_;have BK190 := n1_;have GW190 := n2_;have GE190 := n3_;clear n0_ n1_ n2_ n3_;clear hb hbox hg)|((with_reducible refine gate_dst (N := 3) rfl ?_);refine box_event ?hg (N := 3) ?hd (cs := #[.int .i64 a1_0,.int .i64 a1_1,.int .i64 a1_2,.int .i64 a1_3]) (t := 23) ?hr ?_;(case hd => rfl);(case hg => rfl);(case hr => first|(go_simp;done)|(go_simp;rfl));intro gb191 hg w29 hbox hb;have n0_ := sd_ (blk_below (g := gb190) (o := .cells #[.int .i64 a0_0,.int .i64 a0_1,.int .i64 a0_2,.int .i64 a0_3] 23 (0,0)) (by (with_reducible repeat first|apply kn_|apply kd_|apply ka_);exact BK190.out) hb);have n1_ := sd_ (bt_ (by repeat (first|(with_reducible first|exact HB.out|apply ba_|apply pd_|apply d1_|refine bs_ ?_ GE190.out)|exact HB.out)) hb);have n2_ := sd_ (hbox);have n3_ := sd_ ((by rw [hg];exact (bz_ (by repeat (first|(with_reducible first|exact HB.out|apply ba_|apply pd_|apply d1_|refine bs_ ?_ GE190.out)|exact HB.out))) : w.heap.size ≤ gb191));have n4_ := sd_ ((by rw [hg];exact (bz_ (by repeat (first|(with_reducible first|exact HB.out|apply ba_|apply pd_|apply d1_|refine bs_ ?_ GE190.out)|exact HB.out))) : w.heap.size ≤ gb191));have n5_ := sd_ ((by rw [hg];exact nn_ (blk_lt (g := gb190) (o := .cells #[.int .i64 a0_0,.int .i64 a0_1,.int .i64 a0_2,.int .i64 a0_3] 23 (0,0)) (by (with_reducible repeat first|apply kn_|apply kd_|apply ka_);exact BK190.out)) : gb190 ≠ gb191));have n6_ := sd_ ((by rw [hg];exact Nat.ne_of_gt (blk_lt (g := gb190) (o := .cells #[.int .i64 a0_0,.int .i64 a0_1,.int .i64 a0_2,.int .i64 a0_3] 23 (0,0)) (by (with_reducible repeat first|apply kn_|apply kd_|apply ka_);exact BK190.out)) : gb191 ≠ gb190));clear BK190;clear HB;have BK190 := n0_;have HB := n1_;have BK191 := n2_;have GW191 := n3_;have GE191 := n4_;have NB190_191 := n5_;have NB191_190 := n6_;clear n0_ n1_ n2_ n3_ n4_ n5_ n6_;clear hb hbox hg;have hnb30 := NB190_191.out;have hnc30 := NB191_190.out;have hcz31_0 : w29.cell? ⟨gb190,0,none⟩ = some (.int .i64 a0_0) := (kc_ BK190.out 0).trans rfl;have hcz31_1 : w29.cell? ⟨gb190,1,none⟩ = some (.int .i64 a0_1) := (kc_ BK190.out 1).trans rfl;have hcz31_2 : w29.cell? ⟨gb190,2,none⟩ = some (.int .i64 a0_2) := (kc_ BK190.out 2).trans rfl;have hcz31_3 : w29.cell? ⟨gb190,3,none⟩ = some (.int .i64 a0_3) := (kc_ BK190.out 3).trans rfl;have hfz31_0 := kf_ BK190.out 0;have hfz31_1 := kf_ BK190.out 1;have hfz31_2 := kf_ BK190.out 2;have hfz31_3 := kf_ BK190.out 3)|((with_reducible refine gate_callee (f := 13) rfl ?_);refine goesL_ (some 6) rfl rfl Tryd.func13 (by kernel_rfl) rfl #[.agg #[.int .i64 a0_0,.int .i64 a0_1,.int .i64 a0_2,.int .i64 a0_3]] rfl (by (try simp only [lm_,lq_,lx_]);first|done|rfl|(simp only [ld_,lt_];rfl)) ?_;(with_reducible refine (neumeref03_Check.calls a0_0 a0_1 a0_2 a0_3 true _ A3.out).mono ?_);rintro e w32 ⟨rfl,hb⟩;refine ⟨_,rfl,?_⟩;have n0_ := sd_ (blk_below (g := gb190) (o := .cells #[.int .i64 a0_0,.int .i64 a0_1,.int .i64 a0_2,.int .i64 a0_3] 23 (0,0)) (by (with_reducible repeat first|apply kn_|apply kd_|apply ka_);exact BK190.out) hb);have n1_ := sd_ (blk_below (g := gb191) (o := .cells #[.int .i64 a1_0,.int .i64 a1_1,.int .i64 a1_2,.int .i64 a1_3] 23 (0,0)) (by (with_reducible repeat first|apply kn_|apply kd_|apply ka_);exact BK191.out) hb);have n2_ := sd_ (bt_ (by repeat (first|(with_reducible first|exact HB.out|apply ba_|apply pd_|apply d1_|refine bs_ ?_ GE190.out|refine bs_ ?_ GE191.out)|exact HB.out)) hb);clear BK190;clear BK191;clear HB;have BK190 := n0_;have BK191 := n1_;have HB := n2_;clear n0_ n1_ n2_;(try clear hb);(try clear hb2);(try clear hk);(try clear hi);have hcz33_0 : w32.cell? ⟨gb191,0,none⟩ = some (.int .i64 a1_0) := (kc_ BK191.out 0).trans rfl;have hcz33_1 : w32.cell? ⟨gb191,1,none⟩ = some (.int .i64 a1_1) := (kc_ BK191.out 1).trans rfl;have hcz33_2 : w32.cell? ⟨gb191,2,none⟩ = some (.int .i64 a1_2) := (kc_ BK191.out 2).trans rfl;have hcz33_3 : w32.cell? ⟨gb191,3,none⟩ = some (.int .i64 a1_3) := (kc_ BK191.out 3).trans rfl;have hfz33_0 := kf_ BK191.out 0;have hfz33_1 := kf_ BK191.out 1;have hfz33_2 := kf_ BK191.out 2;have hfz33_3 := kf_ BK191.out 3)|(go_at_call 13;(with_reducible refine (neumeref03_Check.calls a1_0 a1_1 a1_2 a1_3 true _ A5.out).mono ?_);rintro e w34 ⟨rfl,hb⟩;have n0_ := sd_ (blk_below (g := gb190) (o := .cells #[.int .i64 a0_0,.int .i64 a0_1,.int .i64 a0_2,.int .i64 a0_3] 23 (0,0)) (by (with_reducible repeat first|apply kn_|apply kd_|apply ka_);exact BK190.out) hb);have n1_ := sd_ (blk_below (g := gb191) (o := .cells #[.int .i64 a1_0,.int .i64 a1_1,.int .i64 a1_2,.int .i64 a1_3] 23 (0,0)) (by (with_reducible repeat first|apply kn_|apply kd_|apply ka_);exact BK191.out) hb);have n2_ := sd_ (bt_ (by repeat (first|(with_reducible first|exact HB.out|apply ba_|apply pd_|apply d1_|refine bs_ ?_ GE190.out|refine bs_ ?_ GE191.out)|exact HB.out)) hb);clear BK190;clear BK191;clear HB;have BK190 := n0_;have BK191 := n1_;have HB := n2_;clear n0_ n1_ n2_;(try clear hb);(try clear hb2);(try clear hk);(try clear hi);have hcz35_0 : w34.cell? ⟨gb190,0,none⟩ = some (.int .i64 a0_0) := (kc_ BK190.out 0).trans rfl;have hcz35_1 : w34.cell? ⟨gb190,1,none⟩ = some (.int .i64 a0_1) := (kc_ BK190.out 1).trans rfl;have hcz35_2 : w34.cell? ⟨gb190,2,none⟩ = some (.int .i64 a0_2) := (kc_ BK190.out 2).trans rfl;have hcz35_3 : w34.cell? ⟨gb190,3,none⟩ = some (.int .i64 a0_3) := (kc_ BK190.out 3).trans rfl;have hfz35_0 := kf_ BK190.out 0;have hfz35_1 := kf_ BK190.out 1;have hfz35_2 := kf_ BK190.out 2;have hfz35_3 := kf_ BK190.out 3;have hcz36_0 : w34.cell? ⟨gb191,0,none⟩ = some (.int .i64 a1_0) := (kc_ BK191.out 0).trans rfl;have hcz36_1 : w34.cell? ⟨gb191,1,none⟩ = some (.int .i64 a1_1) := (kc_ BK191.out 1).trans rfl;have hcz36_2 : w34.cell? ⟨gb191,2,none⟩ = some (.int .i64 a1_2) := (kc_ BK191.out 2).trans rfl;have hcz36_3 : w34.cell? ⟨gb191,3,none⟩ = some (.int .i64 a1_3) := (kc_ BK191.out 3).trans rfl;have hfz36_0 := kf_ BK191.out 0;have hfz36_1 := kf_ BK191.out 1;have hfz36_2 := kf_ BK191.out 2;have hfz36_3 := kf_ BK191.out 3))
     go_ret
     exact ⟨by first|rfl|(simp [errW_none,errW_some] <;> rfl)|(simp [*,errW_none,errW_some] <;> rfl),by repeat (first|(with_reducible first|exact HB.out|apply ba_|apply pd_|apply d1_|refine bs_ ?_ GE190.out|refine bs_ ?_ GE191.out)|exact HB.out)⟩
   ·rw [if_neg c7] at H
    have c7b0 : decide (a1_0 ≤ a0_0) = false := df_ c7
    clear c7
    obtain rfl := Option.some.inj H
    go_enter Tryd.func19,Tryd.ntmps19
    go_wp2_with (first|((with_reducible refine gate_dst (N := 2) rfl ?_);refine box_event ?hg (N := 2) ?hd (cs := #[.int .i64 a0_0,.int .i64 a0_1,.int .i64 a0_2,.int .i64 a0_3]) (t := 23) ?hr ?_;(case hd => rfl);(case hg => rfl);(case hr => first|(go_simp;done)|(go_simp;rfl));intro gb190 hg w37 hbox hb;have n0_ := sd_ (bt_ (by repeat (first|(with_reducible first|exact HB.out|apply ba_|apply pd_|apply d1_)|exact HB.out)) hb);have n1_ := sd_ (hbox);have n2_ := sd_ ((by rw [hg];exact (bz_ (by repeat (first|(with_reducible first|exact HB.out|apply ba_|apply pd_|apply d1_)|exact HB.out))) : w.heap.size ≤ gb190));have n3_ := sd_ ((by rw [hg];exact (bz_ (by repeat (first|(with_reducible first|exact HB.out|apply ba_|apply pd_|apply d1_)|exact HB.out))) : w.heap.size ≤ gb190));clear HB;have HB := n0_;have BK190 := n1_;have GW190 := n2_;have GE190 := n3_;clear n0_ n1_ n2_ n3_;clear hb hbox hg)|((with_reducible refine gate_dst (N := 3) rfl ?_);refine box_event ?hg (N := 3) ?hd (cs := #[.int .i64 a1_0,.int .i64 a1_1,.int .i64 a1_2,.int .i64 a1_3]) (t := 23) ?hr ?_;(case hd => rfl);(case hg => rfl);(case hr => first|(go_simp;done)|(go_simp;rfl));intro gb191 hg w38 hbox hb;have n0_ := sd_ (blk_below (g := gb190) (o := .cells #[.int .i64 a0_0,.int .i64 a0_1,.int .i64 a0_2,.int .i64 a0_3] 23 (0,0)) (by (with_reducible repeat first|apply kn_|apply kd_|apply ka_);exact BK190.out) hb);have n1_ := sd_ (bt_ (by repeat (first|(with_reducible first|exact HB.out|apply ba_|apply pd_|apply d1_|refine bs_ ?_ GE190.out)|exact HB.out)) hb);have n2_ := sd_ (hbox);have n3_ := sd_ ((by rw [hg];exact (bz_ (by repeat (first|(with_reducible first|exact HB.out|apply ba_|apply pd_|apply d1_|refine bs_ ?_ GE190.out)|exact HB.out))) : w.heap.size ≤ gb191));have n4_ := sd_ ((by rw [hg];exact (bz_ (by repeat (first|(with_reducible first|exact HB.out|apply ba_|apply pd_|apply d1_|refine bs_ ?_ GE190.out)|exact HB.out))) : w.heap.size ≤ gb191));have n5_ := sd_ ((by rw [hg];exact nn_ (blk_lt (g := gb190) (o := .cells #[.int .i64 a0_0,.int .i64 a0_1,.int .i64 a0_2,.int .i64 a0_3] 23 (0,0)) (by (with_reducible repeat first|apply kn_|apply kd_|apply ka_);exact BK190.out)) : gb190 ≠ gb191));have n6_ := sd_ ((by rw [hg];exact Nat.ne_of_gt (blk_lt (g := gb190) (o := .cells #[.int .i64 a0_0,.int .i64 a0_1,.int .i64 a0_2,.int .i64 a0_3] 23 (0,0)) (by (with_reducible repeat first|apply kn_|apply kd_|apply ka_);exact BK190.out)) : gb191 ≠ gb190));clear BK190;clear HB;have BK190 := n0_;have HB := n1_;have BK191 := n2_;have GW191 := n3_;have GE191 := n4_;have NB190_191 := n5_;have NB191_190 := n6_;clear n0_ n1_ n2_ n3_ n4_ n5_ n6_;clear hb hbox hg;have hnb39 := NB190_191.out;have hnc39 := NB191_190.out;have hcz40_0 : w38.cell? ⟨gb190,0,none⟩ = some (.int .i64 a0_0) := (kc_ BK190.out 0).trans rfl;have hcz40_1 : w38.cell? ⟨gb190,1,none⟩ = some (.int .i64 a0_1) := (kc_ BK190.out 1).trans rfl;have hcz40_2 : w38.cell? ⟨gb190,2,none⟩ = some (.int .i64 a0_2) := (kc_ BK190.out 2).trans rfl;have hcz40_3 : w38.cell? ⟨gb190,3,none⟩ = some (.int .i64 a0_3) := (kc_ BK190.out 3).trans rfl;have hfz40_0 := kf_ BK190.out 0;have hfz40_1 := kf_ BK190.out 1;have hfz40_2 := kf_ BK190.out 2;have hfz40_3 := kf_ BK190.out 3)|((with_reducible refine gate_callee (f := 13) rfl ?_);refine goesL_ (some 6) rfl rfl Tryd.func13 (by kernel_rfl) rfl #[.agg #[.int .i64 a0_0,.int .i64 a0_1,.int .i64 a0_2,.int .i64 a0_3]] rfl (by (try simp only [lm_,lq_,lx_]);first|done|rfl|(simp only [ld_,lt_];rfl)) ?_;(with_reducible refine (neumeref03_Check.calls a0_0 a0_1 a0_2 a0_3 true _ A3.out).mono ?_);rintro e w41 ⟨rfl,hb⟩;refine ⟨_,rfl,?_⟩;have n0_ := sd_ (blk_below (g := gb190) (o := .cells #[.int .i64 a0_0,.int .i64 a0_1,.int .i64 a0_2,.int .i64 a0_3] 23 (0,0)) (by (with_reducible repeat first|apply kn_|apply kd_|apply ka_);exact BK190.out) hb);have n1_ := sd_ (blk_below (g := gb191) (o := .cells #[.int .i64 a1_0,.int .i64 a1_1,.int .i64 a1_2,.int .i64 a1_3] 23 (0,0)) (by (with_reducible repeat first|apply kn_|apply kd_|apply ka_);exact BK191.out) hb);have n2_ := sd_ (bt_ (by repeat (first|(with_reducible first|exact HB.out|apply ba_|apply pd_|apply d1_|refine bs_ ?_ GE190.out|refine bs_ ?_ GE191.out)|exact HB.out)) hb);clear BK190;clear BK191;clear HB;have BK190 := n0_;have BK191 := n1_;have HB := n2_;clear n0_ n1_ n2_;(try clear hb);(try clear hb2);(try clear hk);(try clear hi);have hcz42_0 : w41.cell? ⟨gb191,0,none⟩ = some (.int .i64 a1_0) := (kc_ BK191.out 0).trans rfl;have hcz42_1 : w41.cell? ⟨gb191,1,none⟩ = some (.int .i64 a1_1) := (kc_ BK191.out 1).trans rfl;have hcz42_2 : w41.cell? ⟨gb191,2,none⟩ = some (.int .i64 a1_2) := (kc_ BK191.out 2).trans rfl;have hcz42_3 : w41.cell? ⟨gb191,3,none⟩ = some (.int .i64 a1_3) := (kc_ BK191.out 3).trans rfl;have hfz42_0 := kf_ BK191.out 0;have hfz42_1 := kf_ BK191.out 1;have hfz42_2 := kf_ BK191.out 2;have hfz42_3 := kf_ BK191.out 3)|(go_at_call 13;(with_reducible refine (neumeref03_Check.calls a1_0 a1_1 a1_2 a1_3 true _ A5.out).mono ?_);rintro e w43 ⟨rfl,hb⟩;have n0_ := sd_ (blk_below (g := gb190) (o := .cells #[.int .i64 a0_0,.int .i64 a0_1,.int .i64 a0_2,.int .i64 a0_3] 23 (0,0)) (by (with_reducible repeat first|apply kn_|apply kd_|apply ka_);exact BK190.out) hb);have n1_ := sd_ (blk_below (g := gb191) (o := .cells #[.int .i64 a1_0,.int .i64 a1_1,.int .i64 a1_2,.int .i64 a1_3] 23 (0,0)) (by (with_reducible repeat first|apply kn_|apply kd_|apply ka_);exact BK191.out) hb);have n2_ := sd_ (bt_ (by repeat (first|(with_reducible first|exact HB.out|apply ba_|apply pd_|apply d1_|refine bs_ ?_ GE190.out|refine bs_ ?_ GE191.out)|exact HB.out)) hb);clear BK190;clear BK191;clear HB;have BK190 := n0_;have BK191 := n1_;have HB := n2_;clear n0_ n1_ n2_;(try clear hb);(try clear hb2);(try clear hk);(try clear hi);have hcz44_0 : w43.cell? ⟨gb190,0,none⟩ = some (.int .i64 a0_0) := (kc_ BK190.out 0).trans rfl;have hcz44_1 : w43.cell? ⟨gb190,1,none⟩ = some (.int .i64 a0_1) := (kc_ BK190.out 1).trans rfl;have hcz44_2 : w43.cell? ⟨gb190,2,none⟩ = some (.int .i64 a0_2) := (kc_ BK190.out 2).trans rfl;have hcz44_3 : w43.cell? ⟨gb190,3,none⟩ = some (.int .i64 a0_3) := (kc_ BK190.out 3).trans rfl;have hfz44_0 := kf_ BK190.out 0;have hfz44_1 := kf_ BK190.out 1;have hfz44_2 := kf_ BK190.out 2;have hfz44_3 := kf_ BK190.out 3;have hcz45_0 : w43.cell? ⟨gb191,0,none⟩ = some (.int .i64 a1_0) := (kc_ BK191.out 0).trans rfl;have hcz45_1 : w43.cell? ⟨gb191,1,none⟩ = some (.int .i64 a1_1) := (kc_ BK191.out 1).trans rfl;have hcz45_2 : w43.cell? ⟨gb191,2,none⟩ = some (.int .i64 a1_2) := (kc_ BK191.out 2).trans rfl;have hcz45_3 : w43.cell? ⟨gb191,3,none⟩ = some (.int .i64 a1_3) := (kc_ BK191.out 3).trans rfl;have hfz45_0 := kf_ BK191.out 0;have hfz45_1 := kf_ BK191.out 1;have hfz45_2 := kf_ BK191.out 2;have hfz45_3 := kf_ BK191.out 3))
    go_ret
    exact ⟨by first|rfl|(simp [errW_none,errW_some] <;> rfl)|(simp [*,errW_none,errW_some] <;> rfl),by repeat (first|(with_reducible first|exact HB.out|apply ba_|apply pd_|apply d1_|refine bs_ ?_ GE190.out|refine bs_ ?_ GE191.out)|exact HB.out)⟩
  ·replace c6 := bf_ c6
   subst c6
   have H1 : (some false) = some r := by rw [if_neg (show ¬ (false = true) by decide)] at H;exact H
   clear H;have H := H1;clear H1
   obtain rfl := Option.some.inj H
   go_enter Tryd.func19,Tryd.ntmps19
   go_wp2_with (first|((with_reducible refine gate_dst (N := 2) rfl ?_);refine box_event ?hg (N := 2) ?hd (cs := #[.int .i64 a0_0,.int .i64 a0_1,.int .i64 a0_2,.int .i64 a0_3]) (t := 23) ?hr ?_;(case hd => rfl);(case hg => rfl);(case hr => first|(go_simp;done)|(go_simp;rfl));intro gb190 hg w46 hbox hb;have n0_ := sd_ (bt_ (by repeat (first|(with_reducible first|exact HB.out|apply ba_|apply pd_|apply d1_)|exact HB.out)) hb);have n1_ := sd_ (hbox);have n2_ := sd_ ((by rw [hg];exact (bz_ (by repeat (first|(with_reducible first|exact HB.out|apply ba_|apply pd_|apply d1_)|exact HB.out))) : w.heap.size ≤ gb190));have n3_ := sd_ ((by rw [hg];exact (bz_ (by repeat (first|(with_reducible first|exact HB.out|apply ba_|apply pd_|apply d1_)|exact HB.out))) : w.heap.size ≤ gb190));clear HB;have HB := n0_;have BK190 := n1_;have GW190 := n2_;have GE190 := n3_;clear n0_ n1_ n2_ n3_;clear hb hbox hg)|((with_reducible refine gate_dst (N := 3) rfl ?_);refine box_event ?hg (N := 3) ?hd (cs := #[.int .i64 a1_0,.int .i64 a1_1,.int .i64 a1_2,.int .i64 a1_3]) (t := 23) ?hr ?_;(case hd => rfl);(case hg => rfl);(case hr => first|(go_simp;done)|(go_simp;rfl));intro gb191 hg w47 hbox hb;have n0_ := sd_ (blk_below (g := gb190) (o := .cells #[.int .i64 a0_0,.int .i64 a0_1,.int .i64 a0_2,.int .i64 a0_3] 23 (0,0)) (by (with_reducible repeat first|apply kn_|apply kd_|apply ka_);exact BK190.out) hb);have n1_ := sd_ (bt_ (by repeat (first|(with_reducible first|exact HB.out|apply ba_|apply pd_|apply d1_|refine bs_ ?_ GE190.out)|exact HB.out)) hb);have n2_ := sd_ (hbox);have n3_ := sd_ ((by rw [hg];exact (bz_ (by repeat (first|(with_reducible first|exact HB.out|apply ba_|apply pd_|apply d1_|refine bs_ ?_ GE190.out)|exact HB.out))) : w.heap.size ≤ gb191));have n4_ := sd_ ((by rw [hg];exact (bz_ (by repeat (first|(with_reducible first|exact HB.out|apply ba_|apply pd_|apply d1_|refine bs_ ?_ GE190.out)|exact HB.out))) : w.heap.size ≤ gb191));have n5_ := sd_ ((by rw [hg];exact nn_ (blk_lt (g := gb190) (o := .cells #[.int .i64 a0_0,.int .i64 a0_1,.int .i64 a0_2,.int .i64 a0_3] 23 (0,0)) (by (with_reducible repeat first|apply kn_|apply kd_|apply ka_);exact BK190.out)) : gb190 ≠ gb191));have n6_ := sd_ ((by rw [hg];exact Nat.ne_of_gt (blk_lt (g := gb190) (o := .cells #[.int .i64 a0_0,.int .i64 a0_1,.int .i64 a0_2,.int .i64 a0_3] 23 (0,0)) (by (with_reducible repeat first|apply kn_|apply kd_|apply ka_);exact BK190.out)) : gb191 ≠ gb190));clear BK190;clear HB;have BK190 := n0_;have HB := n1_;have BK191 := n2_;have GW191 := n3_;have GE191 := n4_;have NB190_191 := n5_;have NB191_190 := n6_;clear n0_ n1_ n2_ n3_ n4_ n5_ n6_;clear hb hbox hg;have hnb48 := NB190_191.out;have hnc48 := NB191_190.out;have hcz49_0 : w47.cell? ⟨gb190,0,none⟩ = some (.int .i64 a0_0) := (kc_ BK190.out 0).trans rfl;have hcz49_1 : w47.cell? ⟨gb190,1,none⟩ = some (.int .i64 a0_1) := (kc_ BK190.out 1).trans rfl;have hcz49_2 : w47.cell? ⟨gb190,2,none⟩ = some (.int .i64 a0_2) := (kc_ BK190.out 2).trans rfl;have hcz49_3 : w47.cell? ⟨gb190,3,none⟩ = some (.int .i64 a0_3) := (kc_ BK190.out 3).trans rfl;have hfz49_0 := kf_ BK190.out 0;have hfz49_1 := kf_ BK190.out 1;have hfz49_2 := kf_ BK190.out 2;have hfz49_3 := kf_ BK190.out 3)|((with_reducible refine gate_callee (f := 13) rfl ?_);refine goesL_ (some 6) rfl rfl Tryd.func13 (by kernel_rfl) rfl #[.agg #[.int .i64 a0_0,.int .i64 a0_1,.int .i64 a0_2,.int .i64 a0_3]] rfl (by (try simp only [lm_,lq_,lx_]);first|done|rfl|(simp only [ld_,lt_];rfl)) ?_;(with_reducible refine (neumeref03_Check.calls a0_0 a0_1 a0_2 a0_3 true _ A3.out).mono ?_);rintro e w50 ⟨rfl,hb⟩;refine ⟨_,rfl,?_⟩;have n0_ := sd_ (blk_below (g := gb190) (o := .cells #[.int .i64 a0_0,.int .i64 a0_1,.int .i64 a0_2,.int .i64 a0_3] 23 (0,0)) (by (with_reducible repeat first|apply kn_|apply kd_|apply ka_);exact BK190.out) hb);have n1_ := sd_ (blk_below (g := gb191) (o := .cells #[.int .i64 a1_0,.int .i64 a1_1,.int .i64 a1_2,.int .i64 a1_3] 23 (0,0)) (by (with_reducible repeat first|apply kn_|apply kd_|apply ka_);exact BK191.out) hb);have n2_ := sd_ (bt_ (by repeat (first|(with_reducible first|exact HB.out|apply ba_|apply pd_|apply d1_|refine bs_ ?_ GE190.out|refine bs_ ?_ GE191.out)|exact HB.out)) hb);clear BK190;clear BK191;clear HB;have BK190 := n0_;have BK191 := n1_;have HB := n2_;clear n0_ n1_ n2_;(try clear hb);(try clear hb2);(try clear hk);(try clear hi);have hcz51_0 : w50.cell? ⟨gb191,0,none⟩ = some (.int .i64 a1_0) := (kc_ BK191.out 0).trans rfl;have hcz51_1 : w50.cell? ⟨gb191,1,none⟩ = some (.int .i64 a1_1) := (kc_ BK191.out 1).trans rfl;have hcz51_2 : w50.cell? ⟨gb191,2,none⟩ = some (.int .i64 a1_2) := (kc_ BK191.out 2).trans rfl;have hcz51_3 : w50.cell? ⟨gb191,3,none⟩ = some (.int .i64 a1_3) := (kc_ BK191.out 3).trans rfl;have hfz51_0 := kf_ BK191.out 0;have hfz51_1 := kf_ BK191.out 1;have hfz51_2 := kf_ BK191.out 2;have hfz51_3 := kf_ BK191.out 3)|(go_at_call 13;(with_reducible refine (neumeref03_Check.calls a1_0 a1_1 a1_2 a1_3 false _ A5.out).mono ?_);rintro e w52 ⟨rfl,hb⟩;have n0_ := sd_ (blk_below (g := gb190) (o := .cells #[.int .i64 a0_0,.int .i64 a0_1,.int .i64 a0_2,.int .i64 a0_3] 23 (0,0)) (by (with_reducible repeat first|apply kn_|apply kd_|apply ka_);exact BK190.out) hb);have n1_ := sd_ (blk_below (g := gb191) (o := .cells #[.int .i64 a1_0,.int .i64 a1_1,.int .i64 a1_2,.int .i64 a1_3] 23 (0,0)) (by (with_reducible repeat first|apply kn_|apply kd_|apply ka_);exact BK191.out) hb);have n2_ := sd_ (bt_ (by repeat (first|(with_reducible first|exact HB.out|apply ba_|apply pd_|apply d1_|refine bs_ ?_ GE190.out|refine bs_ ?_ GE191.out)|exact HB.out)) hb);clear BK190;clear BK191;clear HB;have BK190 := n0_;have BK191 := n1_;have HB := n2_;clear n0_ n1_ n2_;(try clear hb);(try clear hb2);(try clear hk);(try clear hi)))
   go_ret
   exact ⟨by first|rfl|(simp [errW_none,errW_some] <;> rfl)|(simp [*,errW_none,errW_some] <;> rfl),by repeat (first|(with_reducible first|exact HB.out|apply ba_|apply pd_|apply d1_|refine bs_ ?_ GE190.out|refine bs_ ?_ GE191.out)|exact HB.out)⟩
 ·replace c4 := bf_ c4
  subst c4
  have H1 : (some false) = some r := by rw [if_neg (show ¬ (false = true) by decide)] at H;exact H
  clear H;have H := H1;clear H1
  obtain rfl := Option.some.inj H
  go_enter Tryd.func19,Tryd.ntmps19
  go_wp2_with (first|((with_reducible refine gate_dst (N := 2) rfl ?_);refine box_event ?hg (N := 2) ?hd (cs := #[.int .i64 a0_0,.int .i64 a0_1,.int .i64 a0_2,.int .i64 a0_3]) (t := 23) ?hr ?_;(case hd => rfl);(case hg => rfl);(case hr => first|(go_simp;done)|(go_simp;rfl));intro gb190 hg w53 hbox hb;have n0_ := sd_ (bt_ (by repeat (first|(with_reducible first|exact HB.out|apply ba_|apply pd_|apply d1_)|exact HB.out)) hb);have n1_ := sd_ (hbox);have n2_ := sd_ ((by rw [hg];exact (bz_ (by repeat (first|(with_reducible first|exact HB.out|apply ba_|apply pd_|apply d1_)|exact HB.out))) : w.heap.size ≤ gb190));have n3_ := sd_ ((by rw [hg];exact (bz_ (by repeat (first|(with_reducible first|exact HB.out|apply ba_|apply pd_|apply d1_)|exact HB.out))) : w.heap.size ≤ gb190));clear HB;have HB := n0_;have BK190 := n1_;have GW190 := n2_;have GE190 := n3_;clear n0_ n1_ n2_ n3_;clear hb hbox hg)|((with_reducible refine gate_dst (N := 3) rfl ?_);refine box_event ?hg (N := 3) ?hd (cs := #[.int .i64 a1_0,.int .i64 a1_1,.int .i64 a1_2,.int .i64 a1_3]) (t := 23) ?hr ?_;(case hd => rfl);(case hg => rfl);(case hr => first|(go_simp;done)|(go_simp;rfl));intro gb191 hg w54 hbox hb;have n0_ := sd_ (blk_below (g := gb190) (o := .cells #[.int .i64 a0_0,.int .i64 a0_1,.int .i64 a0_2,.int .i64 a0_3] 23 (0,0)) (by (with_reducible repeat first|apply kn_|apply kd_|apply ka_);exact BK190.out) hb);have n1_ := sd_ (bt_ (by repeat (first|(with_reducible first|exact HB.out|apply ba_|apply pd_|apply d1_|refine bs_ ?_ GE190.out)|exact HB.out)) hb);have n2_ := sd_ (hbox);have n3_ := sd_ ((by rw [hg];exact (bz_ (by repeat (first|(with_reducible first|exact HB.out|apply ba_|apply pd_|apply d1_|refine bs_ ?_ GE190.out)|exact HB.out))) : w.heap.size ≤ gb191));have n4_ := sd_ ((by rw [hg];exact (bz_ (by repeat (first|(with_reducible first|exact HB.out|apply ba_|apply pd_|apply d1_|refine bs_ ?_ GE190.out)|exact HB.out))) : w.heap.size ≤ gb191));have n5_ := sd_ ((by rw [hg];exact nn_ (blk_lt (g := gb190) (o := .cells #[.int .i64 a0_0,.int .i64 a0_1,.int .i64 a0_2,.int .i64 a0_3] 23 (0,0)) (by (with_reducible repeat first|apply kn_|apply kd_|apply ka_);exact BK190.out)) : gb190 ≠ gb191));have n6_ := sd_ ((by rw [hg];exact Nat.ne_of_gt (blk_lt (g := gb190) (o := .cells #[.int .i64 a0_0,.int .i64 a0_1,.int .i64 a0_2,.int .i64 a0_3] 23 (0,0)) (by (with_reducible repeat first|apply kn_|apply kd_|apply ka_);exact BK190.out)) : gb191 ≠ gb190));clear BK190;clear HB;have BK190 := n0_;have HB := n1_;have BK191 := n2_;have GW191 := n3_;have GE191 := n4_;have NB190_191 := n5_;have NB191_190 := n6_;clear n0_ n1_ n2_ n3_ n4_ n5_ n6_;clear hb hbox hg;have hnb55 := NB190_191.out;have hnc55 := NB191_190.out;have hcz56_0 : w54.cell? ⟨gb190,0,none⟩ = some (.int .i64 a0_0) := (kc_ BK190.out 0).trans rfl;have hcz56_1 : w54.cell? ⟨gb190,1,none⟩ = some (.int .i64 a0_1) := (kc_ BK190.out 1).trans rfl;have hcz56_2 : w54.cell? ⟨gb190,2,none⟩ = some (.int .i64 a0_2) := (kc_ BK190.out 2).trans rfl;have hcz56_3 : w54.cell? ⟨gb190,3,none⟩ = some (.int .i64 a0_3) := (kc_ BK190.out 3).trans rfl;have hfz56_0 := kf_ BK190.out 0;have hfz56_1 := kf_ BK190.out 1;have hfz56_2 := kf_ BK190.out 2;have hfz56_3 := kf_ BK190.out 3)|((with_reducible refine gate_callee (f := 13) rfl ?_);refine goesL_ (some 6) rfl rfl Tryd.func13 (by kernel_rfl) rfl #[.agg #[.int .i64 a0_0,.int .i64 a0_1,.int .i64 a0_2,.int .i64 a0_3]] rfl (by (try simp only [lm_,lq_,lx_]);first|done|rfl|(simp only [ld_,lt_];rfl)) ?_;(with_reducible refine (neumeref03_Check.calls a0_0 a0_1 a0_2 a0_3 false _ A3.out).mono ?_);rintro e w57 ⟨rfl,hb⟩;refine ⟨_,rfl,?_⟩;have n0_ := sd_ (blk_below (g := gb190) (o := .cells #[.int .i64 a0_0,.int .i64 a0_1,.int .i64 a0_2,.int .i64 a0_3] 23 (0,0)) (by (with_reducible repeat first|apply kn_|apply kd_|apply ka_);exact BK190.out) hb);have n1_ := sd_ (blk_below (g := gb191) (o := .cells #[.int .i64 a1_0,.int .i64 a1_1,.int .i64 a1_2,.int .i64 a1_3] 23 (0,0)) (by (with_reducible repeat first|apply kn_|apply kd_|apply ka_);exact BK191.out) hb);have n2_ := sd_ (bt_ (by repeat (first|(with_reducible first|exact HB.out|apply ba_|apply pd_|apply d1_|refine bs_ ?_ GE190.out|refine bs_ ?_ GE191.out)|exact HB.out)) hb);clear BK190;clear BK191;clear HB;have BK190 := n0_;have BK191 := n1_;have HB := n2_;clear n0_ n1_ n2_;(try clear hb);(try clear hb2);(try clear hk);(try clear hi)))
  go_ret
  exact ⟨by first|rfl|(simp [errW_none,errW_some] <;> rfl)|(simp [*,errW_none,errW_some] <;> rfl),by repeat (first|(with_reducible first|exact HB.out|apply ba_|apply pd_|apply d1_|refine bs_ ?_ GE190.out|refine bs_ ?_ GE191.out)|exact HB.out)⟩

/-! ### box_Bounds: function 21 -/
def box_Bounds.l0 : Nat → List (S23) → List (S23) → Int → Int → Int → Int → Int → Int → Option (Int × Int × Int × Int × Bool)
 | 0, _, _, _, _, _, _, _, _ => none
 | k + 1, x0, x7, x8, x9, x196000, x196001, x196002, x196003 => if x9 < x8 then (if 0 ≤ x9 then (if x9 < (x7.length : Int) then ((box_Check.f ((rd_T23 x7 x9).f0) ((rd_T23 x7 x9).f1) ((rd_T23 x7 x9).f2) ((rd_T23 x7 x9).f3)).bind fun t198 => (if t198 = true then (if x9 = 0 then ((box_Join.f k ((rd_T23 x7 x9).f0) ((rd_T23 x7 x9).f1) ((rd_T23 x7 x9).f2) ((rd_T23 x7 x9).f3) ((rd_T23 x7 x9).f0) ((rd_T23 x7 x9).f1) ((rd_T23 x7 x9).f2) ((rd_T23 x7 x9).f3)).bind fun bt199 => (box_Bounds.l0 k x0 x7 x8 (wrap64 (x9 + 1)) bt199.1 bt199.2.1 bt199.2.2.1 bt199.2.2.2)) else ((box_Join.f k x196000 x196001 x196002 x196003 ((rd_T23 x7 x9).f0) ((rd_T23 x7 x9).f1) ((rd_T23 x7 x9).f2) ((rd_T23 x7 x9).f3)).bind fun bt203 => (box_Bounds.l0 k x0 x7 x8 (wrap64 (x9 + 1)) bt203.1 bt203.2.1 bt203.2.2.1 bt203.2.2.2))) else (some (0, 0, 0, 0, false)))) else (none)) else (none)) else (some (x196000, x196001, x196002, x196003, decide ((x0.length : Int) > 0)))
def box_Bounds.f (k : Nat) (l0 : List (S23)) : Option (Int × Int × Int × Int × Bool) := box_Bounds.l0 k l0 l0 (l0.length : Int) 0 0 0 0 0
theorem box_Bounds.mono_l : ∀ k, (∀ y0 y1 y2 y3 y4 y5 y6 y7, LeO (box_Bounds.l0 k y0 y1 y2 y3 y4 y5 y6 y7) (box_Bounds.l0 (k + 1) y0 y1 y2 y3 y4 y5 y6 y7))
 | 0 => fun _ _ _ _ _ _ _ _ r h => by simp [box_Bounds.l0] at h
 | k + 1 => by
  have ih0 := box_Bounds.mono_l k
  ·intro y0 y1 y2 y3 y4 y5 y6 y7
   unfold box_Bounds.l0
   repeat' first
   | (with_reducible exact ih0 _ _ _ _ _ _ _ _)
   | (with_reducible exact box_Join.mono _ _ _ _ _ _ _ _ _)
   | (with_reducible exact LeO.refl _)
   | (with_reducible exact LeO.none _)
   | (with_reducible refine LeO.ite ?_ ?_)
   | (with_reducible refine LeO.bind ?_ (fun _ => ?_))
   | exact ih0 _ _ _ _ _ _ _ _
   | exact box_Join.mono _ _ _ _ _ _ _ _ _
   | exact LeO.none _
   | refine LeO.ite ?_ ?_
   | refine LeO.bind ?_ (fun _ => ?_)
theorem box_Bounds.mono : ∀ a0 k, LeO (box_Bounds.f k a0) (box_Bounds.f (k + 1) a0) := by
 intro a0 k
 have ih0 := box_Bounds.mono_l k
 unfold box_Bounds.f
 repeat' first
   | (with_reducible exact ih0 _ _ _ _ _ _ _ _)
   | (with_reducible exact box_Join.mono _ _ _ _ _ _ _ _ _)
   | (with_reducible exact LeO.refl _)
   | (with_reducible exact LeO.none _)
   | (with_reducible refine LeO.ite ?_ ?_)
   | (with_reducible refine LeO.bind ?_ (fun _ => ?_))
   | exact ih0 _ _ _ _ _ _ _ _
   | exact box_Join.mono _ _ _ _ _ _ _ _ _
   | exact LeO.none _
   | refine LeO.ite ?_ ?_
   | refine LeO.bind ?_ (fun _ => ?_)
set_option maxHeartbeats 8000000 in
set_option maxRecDepth 100000 in
theorem box_Bounds.calls (k : Nat) (A0 : Option Addr) (c0 : Nat) (l0 : List (S23)) (r1 : Int) (r2 : Int) (r3 : Int) (r4 : Int) (r5 : Bool) (w : World) (hr0 : Kd.C k23 w A0 l0.length l0) (hc0 : l0.length ≤ c0) (h : box_Bounds.f k l0 = some (r1, r2, r3, r4, r5)) :
  Calls Tryd.prog 21 #[.slice A0 l0.length c0] w fun e w' => e = .returned (.tuple #[.agg #[.int .i64 r1,.int .i64 r2,.int .i64 r3,.int .i64 r4],.bool r5]) ∧ Below w.heap.size w w' := by
 have hu23 := Tryd.underlying23
 have HR0 := sd_ hr0
 have HC0 := sd_ hc0
 clear hr0 hc0
 have HB := sd_ (Below.refl w.heap.size w)
 have H : (box_Bounds.l0 k l0 l0 (l0.length : Int) 0 0 0 0 0) = some (r1,r2,r3,r4,r5) := h
 clear h
 have H' := sd_ H
 clear H
 go_enter Tryd.func21,Tryd.ntmps21
 go_wp2_with (first|((with_reducible refine gate_dst (N := 2) rfl ?_);refine box_event ?hg (N := 2) ?hd (cs := #[.int .i64 0,.int .i64 0,.int .i64 0,.int .i64 0]) (t := 23) ?hr ?_;(case hd => rfl);(case hg => rfl);(case hr => first|(go_simp;done)|(go_simp;rfl));intro gb194 hg w2 hbox hb;have n0_ := sd_ (bt_ (by repeat (first|(with_reducible first|exact HB.out|apply ba_|apply pd_|apply d1_)|exact HB.out)) hb);have n1_ := sd_ (hbox);have n2_ := sd_ ((by rw [hg];exact (bz_ (by repeat (first|(with_reducible first|exact HB.out|apply ba_|apply pd_|apply d1_)|exact HB.out))) : w.heap.size ≤ gb194));have n3_ := sd_ ((by rw [hg];exact (bz_ (by repeat (first|(with_reducible first|exact HB.out|apply ba_|apply pd_|apply d1_)|exact HB.out))) : w.heap.size ≤ gb194));clear HB;have HB := n0_;have BK194 := n1_;have GW194 := n2_;have GE194 := n3_;clear n0_ n1_ n2_ n3_;clear hb hbox hg)|((with_reducible refine gate_dst (N := 4) rfl ?_);refine box_event ?hg (N := 4) ?hd (cs := #[.int .i64 0,.int .i64 0,.int .i64 0,.int .i64 0]) (t := 23) ?hr ?_;(case hd => rfl);(case hg => rfl);(case hr => first|(go_simp;done)|(go_simp;rfl));intro gb195 hg w3 hbox hb;have n0_ := sd_ (blk_below (g := gb194) (o := .cells #[.int .i64 0,.int .i64 0,.int .i64 0,.int .i64 0] 23 (0,0)) (by (with_reducible repeat first|apply kn_|apply kd_|apply ka_);exact BK194.out) hb);have n1_ := sd_ (bt_ (by repeat (first|(with_reducible first|exact HB.out|apply ba_|apply pd_|apply d1_|refine bs_ ?_ GE194.out)|exact HB.out)) hb);have n2_ := sd_ (hbox);have n3_ := sd_ ((by rw [hg];exact (bz_ (by repeat (first|(with_reducible first|exact HB.out|apply ba_|apply pd_|apply d1_|refine bs_ ?_ GE194.out)|exact HB.out))) : w.heap.size ≤ gb195));have n4_ := sd_ ((by rw [hg];exact (bz_ (by repeat (first|(with_reducible first|exact HB.out|apply ba_|apply pd_|apply d1_|refine bs_ ?_ GE194.out)|exact HB.out))) : w.heap.size ≤ gb195));have n5_ := sd_ ((by rw [hg];exact nn_ (blk_lt (g := gb194) (o := .cells #[.int .i64 0,.int .i64 0,.int .i64 0,.int .i64 0] 23 (0,0)) (by (with_reducible repeat first|apply kn_|apply kd_|apply ka_);exact BK194.out)) : gb194 ≠ gb195));have n6_ := sd_ ((by rw [hg];exact Nat.ne_of_gt (blk_lt (g := gb194) (o := .cells #[.int .i64 0,.int .i64 0,.int .i64 0,.int .i64 0] 23 (0,0)) (by (with_reducible repeat first|apply kn_|apply kd_|apply ka_);exact BK194.out)) : gb195 ≠ gb194));clear BK194;clear HB;have BK194 := n0_;have HB := n1_;have BK195 := n2_;have GW195 := n3_;have GE195 := n4_;have NB194_195 := n5_;have NB195_194 := n6_;clear n0_ n1_ n2_ n3_ n4_ n5_ n6_;clear hb hbox hg))
 go_loopg [9] k (fun kq v9 w' => ∃ (x9_1 : Int) (x195000_1 : Int) (x195001_1 : Int) (x195002_1 : Int) (x195003_1 : Int) (x196000_1 : Int) (x196001_1 : Int) (x196002_1 : Int) (x196003_1 : Int),v9 = .int .i64 x9_1 ∧ Aside0 (box_Bounds.l0 kq l0 l0 (l0.length : Int) x9_1 x196000_1 x196001_1 x196002_1 x196003_1 = some (r1,r2,r3,r4,r5)) ∧ Aside0 (kq ≤ k) ∧ Aside0 (w'.heap[gb194]? = some (.cells #[.int .i64 x195000_1,.int .i64 x195001_1,.int .i64 x195002_1,.int .i64 x195003_1] 23 (0,0))) ∧ Aside0 (w'.heap[gb195]? = some (.cells #[.int .i64 x196000_1,.int .i64 x196001_1,.int .i64 x196002_1,.int .i64 x196003_1] 23 (0,0))) ∧ Aside0 (Below w.heap.size w w'))
 case atStart => exact ⟨(0),(0),(0),(0),(0),(0),(0),(0),(0),(by first|rfl|(simp;done)|(simp [*];done)|(simp [bne];done)),H',⟨Nat.le_refl _⟩,⟨by (with_reducible repeat first|apply kn_|apply kd_|apply ka_);exact BK194.out⟩,⟨by (with_reducible repeat first|apply kn_|apply kd_|apply ka_);exact BK195.out⟩,⟨by repeat (first|(with_reducible first|exact HB.out|apply ba_|apply pd_|apply d1_|refine bs_ ?_ GE194.out|refine bs_ ?_ GE195.out)|exact HB.out)⟩⟩
 case round =>
  clear H'
  try clear c2;try clear p2
  obtain ⟨x9_1,x195000_1,x195001_1,x195002_1,x195003_1,x196000_1,x196001_1,x196002_1,x196003_1,rfl,HA,HK1,BK194,BK195,HB⟩ := hrel
  cases gk with
  | zero => exact absurd HA.out (by simp [box_Bounds.l0])
  | succ k1 =>
   have H := HA.out
   clear HA
   simp only [box_Bounds.l0] at H
   by_cases c4 : x9_1 < (l0.length : Int)
   ·rw [if_pos c4] at H
    have c4b0 : decide (x9_1 < (l0.length : Int)) = true := dt_ c4
    clear c4
    by_cases c5 : 0 ≤ x9_1
    ·rw [if_pos c5] at H
     have c5b0 : decide (0 ≤ x9_1) = true := dt_ c5
     clear c5
     by_cases c6 : x9_1 < (l0.length : Int)
     ·rw [if_pos c6] at H
      have c6b0 : decide (x9_1 < (l0.length : Int)) = true := dt_ c6
      clear c6
      replace H := ob_ H
      obtain ⟨t198,A70,H⟩ := H
      replace H : (if t198 = true then (if x9_1 = 0 then ((box_Join.f k1 ((rd_T23 l0 x9_1).f0) ((rd_T23 l0 x9_1).f1) ((rd_T23 l0 x9_1).f2) ((rd_T23 l0 x9_1).f3) ((rd_T23 l0 x9_1).f0) ((rd_T23 l0 x9_1).f1) ((rd_T23 l0 x9_1).f2) ((rd_T23 l0 x9_1).f3)).bind fun bt199 => (box_Bounds.l0 k1 l0 l0 (l0.length : Int) (wrap64 (x9_1 + 1)) bt199.1 bt199.2.1 bt199.2.2.1 bt199.2.2.2)) else ((box_Join.f k1 x196000_1 x196001_1 x196002_1 x196003_1 ((rd_T23 l0 x9_1).f0) ((rd_T23 l0 x9_1).f1) ((rd_T23 l0 x9_1).f2) ((rd_T23 l0 x9_1).f3)).bind fun bt203 => (box_Bounds.l0 k1 l0 l0 (l0.length : Int) (wrap64 (x9_1 + 1)) bt203.1 bt203.2.1 bt203.2.2.1 bt203.2.2.2))) else (some (0,0,0,0,false))) = some (r1,r2,r3,r4,r5) := H
      have A7 := sd_ A70
      clear A70
      by_cases c8 : t198 = true
      ·subst c8
       have H1 : (if x9_1 = 0 then ((box_Join.f k1 ((rd_T23 l0 x9_1).f0) ((rd_T23 l0 x9_1).f1) ((rd_T23 l0 x9_1).f2) ((rd_T23 l0 x9_1).f3) ((rd_T23 l0 x9_1).f0) ((rd_T23 l0 x9_1).f1) ((rd_T23 l0 x9_1).f2) ((rd_T23 l0 x9_1).f3)).bind fun bt199 => (box_Bounds.l0 k1 l0 l0 (l0.length : Int) (wrap64 (x9_1 + 1)) bt199.1 bt199.2.1 bt199.2.2.1 bt199.2.2.2)) else ((box_Join.f k1 x196000_1 x196001_1 x196002_1 x196003_1 ((rd_T23 l0 x9_1).f0) ((rd_T23 l0 x9_1).f1) ((rd_T23 l0 x9_1).f2) ((rd_T23 l0 x9_1).f3)).bind fun bt203 => (box_Bounds.l0 k1 l0 l0 (l0.length : Int) (wrap64 (x9_1 + 1)) bt203.1 bt203.2.1 bt203.2.2.1 bt203.2.2.2))) = some (r1,r2,r3,r4,r5) := by rw [if_pos rfl] at H;exact H
       clear H;have H := H1;clear H1
       by_cases c9 : x9_1 = 0
       ·rw [if_pos c9] at H
        have c9b0 : (x9_1 == 0) = true := beq_iff_eq.mpr c9
        have c9b1 : (x9_1 != 0) = false := bne_eq_false_iff_eq.mpr c9
        clear c9
        replace H := ob_ H
        obtain ⟨⟨t199,t200,t201,t202⟩,A100,H⟩ := H
        replace H : (box_Bounds.l0 k1 l0 l0 (l0.length : Int) (wrap64 (x9_1 + 1)) t199 t200 t201 t202) = some (r1,r2,r3,r4,r5) := H
        have A10 := sd_ A100
        clear A100
        have H' := sd_ H
        clear H
        have p196 : 0 ≤ (x9_1 : Int) := od_ (by first|(with_reducible assumption)|assumption)
        have q196 : x9_1 < (l0.length : Int) := od_ (by first|(with_reducible assumption)|assumption)
        obtain ⟨ad196,e196,hx196_0,hx196_1,hx196_2,hx196_3⟩ := at_T23 HR0.out x9_1 p196 q196
        cases e196
        replace hx196_0 := (HB.out.cell (wb_ w _ hx196_0)).trans hx196_0
        replace hx196_1 := (HB.out.cell (wb_ w _ hx196_1)).trans hx196_1
        replace hx196_2 := (HB.out.cell (wb_ w _ hx196_2)).trans hx196_2
        replace hx196_3 := (HB.out.cell (wb_ w _ hx196_3)).trans hx196_3
        replace p196 := eq_true p196
        replace q196 := eq_true q196
        go_wp2_with (first|((with_reducible refine gate_dst (N := 6) rfl ?_);refine box_event ?hg (N := 6) ?hd (cs := #[.int .i64 0,.int .i64 0,.int .i64 0,.int .i64 0]) (t := 23) ?hr ?_;(case hd => rfl);(case hg => rfl);(case hr => first|(go_simp;done)|(go_simp;rfl));intro gb197 hg w11 hbox hb;have n0_ := sd_ (blk_below (g := gb194) (o := .cells #[.int .i64 x195000_1,.int .i64 x195001_1,.int .i64 x195002_1,.int .i64 x195003_1] 23 (0,0)) (by (with_reducible repeat first|apply kn_|apply kd_|apply ka_);exact BK194.out) hb);have n1_ := sd_ (blk_below (g := gb195) (o := .cells #[.int .i64 x196000_1,.int .i64 x196001_1,.int .i64 x196002_1,.int .i64 x196003_1] 23 (0,0)) (by (with_reducible repeat first|apply kn_|apply kd_|apply ka_);exact BK195.out) hb);have n2_ := sd_ (bt_ (by repeat (first|(with_reducible first|exact HB.out|apply ba_|apply pd_|apply d1_|refine bs_ ?_ GE194.out|refine bs_ ?_ GE195.out)|exact HB.out)) hb);have n3_ := sd_ (hbox);have n4_ := sd_ ((by rw [hg];exact (bz_ (by repeat (first|(with_reducible first|exact HB.out|apply ba_|apply pd_|apply d1_|refine bs_ ?_ GE194.out|refine bs_ ?_ GE195.out)|exact HB.out))) : w.heap.size ≤ gb197));have n5_ := sd_ ((by rw [hg];exact (bz_ (by repeat (first|(with_reducible first|exact HB.out|apply ba_|apply pd_|apply d1_|refine bs_ ?_ GE194.out|refine bs_ ?_ GE195.out)|exact HB.out))) : w.heap.size ≤ gb197));have n6_ := sd_ ((by rw [hg];exact nn_ (blk_lt (g := gb194) (o := .cells #[.int .i64 x195000_1,.int .i64 x195001_1,.int .i64 x195002_1,.int .i64 x195003_1] 23 (0,0)) (by (with_reducible repeat first|apply kn_|apply kd_|apply ka_);exact BK194.out)) : gb194 ≠ gb197));have n7_ := sd_ ((by rw [hg];exact Nat.ne_of_gt (blk_lt (g := gb194) (o := .cells #[.int .i64 x195000_1,.int .i64 x195001_1,.int .i64 x195002_1,.int .i64 x195003_1] 23 (0,0)) (by (with_reducible repeat first|apply kn_|apply kd_|apply ka_);exact BK194.out)) : gb197 ≠ gb194));have n8_ := sd_ ((by rw [hg];exact nn_ (blk_lt (g := gb195) (o := .cells #[.int .i64 x196000_1,.int .i64 x196001_1,.int .i64 x196002_1,.int .i64 x196003_1] 23 (0,0)) (by (with_reducible repeat first|apply kn_|apply kd_|apply ka_);exact BK195.out)) : gb195 ≠ gb197));have n9_ := sd_ ((by rw [hg];exact Nat.ne_of_gt (blk_lt (g := gb195) (o := .cells #[.int .i64 x196000_1,.int .i64 x196001_1,.int .i64 x196002_1,.int .i64 x196003_1] 23 (0,0)) (by (with_reducible repeat first|apply kn_|apply kd_|apply ka_);exact BK195.out)) : gb197 ≠ gb195));clear BK194;clear BK195;clear HB;have BK194 := n0_;have BK195 := n1_;have HB := n2_;have BK197 := n3_;have GW197 := n4_;have GE197 := n5_;have NB194_197 := n6_;have NB197_194 := n7_;have NB195_197 := n8_;have NB197_195 := n9_;clear n0_ n1_ n2_ n3_ n4_ n5_ n6_ n7_ n8_ n9_;clear hb hbox hg;have hnb12 := NB197_194.out;have hnc12 := NB194_197.out;have hnb13 := NB197_195.out;have hnc13 := NB195_197.out;have hcz14_0 : w11.cell? ⟨gb197,0,none⟩ = some (.int .i64 0) := (kc_ BK197.out 0).trans rfl;have hcz14_1 : w11.cell? ⟨gb197,1,none⟩ = some (.int .i64 0) := (kc_ BK197.out 1).trans rfl;have hcz14_2 : w11.cell? ⟨gb197,2,none⟩ = some (.int .i64 0) := (kc_ BK197.out 2).trans rfl;have hcz14_3 : w11.cell? ⟨gb197,3,none⟩ = some (.int .i64 0) := (kc_ BK197.out 3).trans rfl;have hfz14_0 := kf_ BK197.out 0;have hfz14_1 := kf_ BK197.out 1;have hfz14_2 := kf_ BK197.out 2;have hfz14_3 := kf_ BK197.out 3)|((with_reducible refine gate_callee (f := 12) rfl ?_);refine goesL_ (some 15) rfl rfl Tryd.func12 (by kernel_rfl) rfl #[.agg #[.int .i64 ((rd_T23 l0 x9_1).f0),.int .i64 ((rd_T23 l0 x9_1).f1),.int .i64 ((rd_T23 l0 x9_1).f2),.int .i64 ((rd_T23 l0 x9_1).f3)]] rfl (by (try simp only [lm_,lq_,lx_]);first|done|rfl|(simp only [ld_,lt_];rfl)) ?_;(with_reducible refine (box_Check.calls ((rd_T23 l0 x9_1).f0) ((rd_T23 l0 x9_1).f1) ((rd_T23 l0 x9_1).f2) ((rd_T23 l0 x9_1).f3) true _ A7.out).mono ?_);rintro e w15 ⟨rfl,hb⟩;refine ⟨_,rfl,?_⟩;have n0_ := sd_ (blk_below (g := gb194) (o := .cells #[.int .i64 x195000_1,.int .i64 x195001_1,.int .i64 x195002_1,.int .i64 x195003_1] 23 (0,0)) (by (with_reducible repeat first|apply kn_|apply kd_|apply ka_);refine blk_far ?_ NB194_197.out _;(with_reducible repeat first|apply kn_|apply kd_|apply ka_);refine blk_far ?_ NB194_197.out _;(with_reducible repeat first|apply kn_|apply kd_|apply ka_);refine blk_far ?_ NB194_197.out _;(with_reducible repeat first|apply kn_|apply kd_|apply ka_);refine blk_far ?_ NB194_197.out _;(with_reducible repeat first|apply kn_|apply kd_|apply ka_);exact BK194.out) hb);have n1_ := sd_ (blk_below (g := gb195) (o := .cells #[.int .i64 x196000_1,.int .i64 x196001_1,.int .i64 x196002_1,.int .i64 x196003_1] 23 (0,0)) (by (with_reducible repeat first|apply kn_|apply kd_|apply ka_);refine blk_far ?_ NB195_197.out _;(with_reducible repeat first|apply kn_|apply kd_|apply ka_);refine blk_far ?_ NB195_197.out _;(with_reducible repeat first|apply kn_|apply kd_|apply ka_);refine blk_far ?_ NB195_197.out _;(with_reducible repeat first|apply kn_|apply kd_|apply ka_);refine blk_far ?_ NB195_197.out _;(with_reducible repeat first|apply kn_|apply kd_|apply ka_);exact BK195.out) hb);have n2_ := sd_ (blk_below (g := gb197) (o := .cells #[.int .i64 ((rd_T23 l0 x9_1).f0),.int .i64 ((rd_T23 l0 x9_1).f1),.int .i64 ((rd_T23 l0 x9_1).f2),.int .i64 ((rd_T23 l0 x9_1).f3)] 23 (0,0)) (by (with_reducible repeat first|apply kn_|apply kd_|apply ka_);refine blk_put (cs := #[.int .i64 ((rd_T23 l0 x9_1).f0),.int .i64 ((rd_T23 l0 x9_1).f1),.int .i64 ((rd_T23 l0 x9_1).f2),.int .i64 0]) ?_ 3 _ rfl;(with_reducible repeat first|apply kn_|apply kd_|apply ka_);refine blk_put (cs := #[.int .i64 ((rd_T23 l0 x9_1).f0),.int .i64 ((rd_T23 l0 x9_1).f1),.int .i64 0,.int .i64 0]) ?_ 2 _ rfl;(with_reducible repeat first|apply kn_|apply kd_|apply ka_);refine blk_put (cs := #[.int .i64 ((rd_T23 l0 x9_1).f0),.int .i64 0,.int .i64 0,.int .i64 0]) ?_ 1 _ rfl;(with_reducible repeat first|apply kn_|apply kd_|apply ka_);refine blk_put (cs := #[.int .i64 0,.int .i64 0,.int .i64 0,.int .i64 0]) ?_ 0 _ rfl;(with_reducible repeat first|apply kn_|apply kd_|apply ka_);exact BK197.out) hb);have n3_ := sd_ (bt_ (by repeat (first|(with_reducible first|exact HB.out|apply ba_|apply pd_|apply d1_|refine bs_ ?_ GE194.out|refine bs_ ?_ GE195.out|refine bs_ ?_ GE197.out)|exact HB.out)) hb);clear BK194;clear BK195;clear BK197;clear HB;have BK194 := n0_;have BK195 := n1_;have BK197 := n2_;have HB := n3_;clear n0_ n1_ n2_ n3_;(try clear hb);(try clear hb2);(try clear hk);(try clear hi);have hcz16_0 : w15.cell? ⟨gb197,0,none⟩ = some (.int .i64 ((rd_T23 l0 x9_1).f0)) := (kc_ BK197.out 0).trans rfl;have hcz16_1 : w15.cell? ⟨gb197,1,none⟩ = some (.int .i64 ((rd_T23 l0 x9_1).f1)) := (kc_ BK197.out 1).trans rfl;have hcz16_2 : w15.cell? ⟨gb197,2,none⟩ = some (.int .i64 ((rd_T23 l0 x9_1).f2)) := (kc_ BK197.out 2).trans rfl;have hcz16_3 : w15.cell? ⟨gb197,3,none⟩ = some (.int .i64 ((rd_T23 l0 x9_1).f3)) := (kc_ BK197.out 3).trans rfl;have hfz16_0 := kf_ BK197.out 0;have hfz16_1 := kf_ BK197.out 1;have hfz16_2 := kf_ BK197.out 2;have hfz16_3 := kf_ BK197.out 3;have hnb17 := NB195_194.out;have hnc17 := NB194_195.out;have hcz18_0 : w15.cell? ⟨gb195,0,none⟩ = some (.int .i64 x196000_1) := (kc_ BK195.out 0).trans rfl;have hcz18_1 : w15.cell? ⟨gb195,1,none⟩ = some (.int .i64 x196001_1) := (kc_ BK195.out 1).trans rfl;have hcz18_2 : w15.cell? ⟨gb195,2,none⟩ = some (.int .i64 x196002_1) := (kc_ BK195.out 2).trans rfl;have hcz18_3 : w15.cell? ⟨gb195,3,none⟩ = some (.int .i64 x196003_1) := (kc_ BK195.out 3).trans rfl;have hfz18_0 := kf_ BK195.out 0;have hfz18_1 := kf_ BK195.out 1;have hfz18_2 := kf_ BK195.out 2;have hfz18_3 := kf_ BK195.out 3)|((with_reducible refine gate_callee (f := 14) rfl ?_);refine goesL_ (some 23) rfl rfl Tryd.func14 (by kernel_rfl) rfl #[.agg #[.int .i64 ((rd_T23 l0 x9_1).f0),.int .i64 ((rd_T23 l0 x9_1).f1),.int .i64 ((rd_T23 l0 x9_1).f2),.int .i64 ((rd_T23 l0 x9_1).f3)],.agg #[.int .i64 ((rd_T23 l0 x9_1).f0),.int .i64 ((rd_T23 l0 x9_1).f1),.int .i64 ((rd_T23 l0 x9_1).f2),.int .i64 ((rd_T23 l0 x9_1).f3)]] rfl (by (try simp only [lm_,lq_,lx_]);first|done|rfl|(simp only [ld_,lt_];rfl)) ?_;(with_reducible refine (box_Join.calls k1 ((rd_T23 l0 x9_1).f0) ((rd_T23 l0 x9_1).f1) ((rd_T23 l0 x9_1).f2) ((rd_T23 l0 x9_1).f3) ((rd_T23 l0 x9_1).f0) ((rd_T23 l0 x9_1).f1) ((rd_T23 l0 x9_1).f2) ((rd_T23 l0 x9_1).f3) t199 t200 t201 t202 _ A10.out).mono ?_);rintro e w19 ⟨rfl,hb⟩;refine ⟨_,rfl,?_⟩;have n0_ := sd_ (blk_below (g := gb194) (o := .cells #[.int .i64 x195000_1,.int .i64 x195001_1,.int .i64 x195002_1,.int .i64 x195003_1] 23 (0,0)) (by (with_reducible repeat first|apply kn_|apply kd_|apply ka_);refine blk_far ?_ NB194_195.out _;(with_reducible repeat first|apply kn_|apply kd_|apply ka_);refine blk_far ?_ NB194_195.out _;(with_reducible repeat first|apply kn_|apply kd_|apply ka_);refine blk_far ?_ NB194_195.out _;(with_reducible repeat first|apply kn_|apply kd_|apply ka_);refine blk_far ?_ NB194_195.out _;(with_reducible repeat first|apply kn_|apply kd_|apply ka_);exact BK194.out) hb);have n1_ := sd_ (blk_below (g := gb195) (o := .cells #[.int .i64 ((rd_T23 l0 x9_1).f0),.int .i64 ((rd_T23 l0 x9_1).f1),.int .i64 ((rd_T23 l0 x9_1).f2),.int .i64 ((rd_T23 l0 x9_1).f3)] 23 (0,0)) (by (with_reducible repeat first|apply kn_|apply kd_|apply ka_);refine blk_put (cs := #[.int .i64 ((rd_T23 l0 x9_1).f0),.int .i64 ((rd_T23 l0 x9_1).f1),.int .i64 ((rd_T23 l0 x9_1).f2),.int .i64 x196003_1]) ?_ 3 _ rfl;(with_reducible repeat first|apply kn_|apply kd_|apply ka_);refine blk_put (cs := #[.int .i64 ((rd_T23 l0 x9_1).f0),.int .i64 ((rd_T23 l0 x9_1).f1),.int .i64 x196002_1,.int .i64 x196003_1]) ?_ 2 _ rfl;(with_reducible repeat first|apply kn_|apply kd_|apply ka_);refine blk_put (cs := #[.int .i64 ((rd_T23 l0 x9_1).f0),.int .i64 x196001_1,.int .i64 x196002_1,.int .i64 x196003_1]) ?_ 1 _ rfl;(with_reducible repeat first|apply kn_|apply kd_|apply ka_);refine blk_put (cs := #[.int .i64 x196000_1,.int .i64 x196001_1,.int .i64 x196002_1,.int .i64 x196003_1]) ?_ 0 _ rfl;(with_reducible repeat first|apply kn_|apply kd_|apply ka_);exact BK195.out) hb);have n2_ := sd_ (blk_below (g := gb197) (o := .cells #[.int .i64 ((rd_T23 l0 x9_1).f0),.int .i64 ((rd_T23 l0 x9_1).f1),.int .i64 ((rd_T23 l0 x9_1).f2),.int .i64 ((rd_T23 l0 x9_1).f3)] 23 (0,0)) (by (with_reducible repeat first|apply kn_|apply kd_|apply ka_);refine blk_far ?_ NB197_195.out _;(with_reducible repeat first|apply kn_|apply kd_|apply ka_);refine blk_far ?_ NB197_195.out _;(with_reducible repeat first|apply kn_|apply kd_|apply ka_);refine blk_far ?_ NB197_195.out _;(with_reducible repeat first|apply kn_|apply kd_|apply ka_);refine blk_far ?_ NB197_195.out _;(with_reducible repeat first|apply kn_|apply kd_|apply ka_);exact BK197.out) hb);have n3_ := sd_ (bt_ (by repeat (first|(with_reducible first|exact HB.out|apply ba_|apply pd_|apply d1_|refine bs_ ?_ GE194.out|refine bs_ ?_ GE195.out|refine bs_ ?_ GE197.out)|exact HB.out)) hb);clear BK194;clear BK195;clear BK197;clear HB;have BK194 := n0_;have BK195 := n1_;have BK197 := n2_;have HB := n3_;clear n0_ n1_ n2_ n3_;(try clear hb);(try clear hb2);(try clear hk);(try clear hi);have hcz20_0 : w19.cell? ⟨gb195,0,none⟩ = some (.int .i64 ((rd_T23 l0 x9_1).f0)) := (kc_ BK195.out 0).trans rfl;have hcz20_1 : w19.cell? ⟨gb195,1,none⟩ = some (.int .i64 ((rd_T23 l0 x9_1).f1)) := (kc_ BK195.out 1).trans rfl;have hcz20_2 : w19.cell? ⟨gb195,2,none⟩ = some (.int .i64 ((rd_T23 l0 x9_1).f2)) := (kc_ BK195.out 2).trans rfl;have hcz20_3 : w19.cell? ⟨gb195,3,none⟩ = some (.int .i64 ((rd_T23 l0 x9_1).f3)) := (kc_ BK195.out 3).trans rfl;have hfz20_0 := kf_ BK195.out 0;have hfz20_1 := kf_ BK195.out 1;have hfz20_2 := kf_ BK195.out 2;have hfz20_3 := kf_ BK195.out 3))
        go_roundg k1
        case measure => have := HK1.out;omega
        case rel => exact ⟨(wrap64 (x9_1 + 1)),(x195000_1),(x195001_1),(x195002_1),(x195003_1),(t199),(t200),(t201),(t202),(by first|rfl|(simp;done)|(simp [*];done)|(simp [bne];done)),H',⟨by have := HK1.out;omega⟩,⟨by (with_reducible repeat first|apply kn_|apply kd_|apply ka_);refine blk_far ?_ NB194_195.out _;(with_reducible repeat first|apply kn_|apply kd_|apply ka_);refine blk_far ?_ NB194_195.out _;(with_reducible repeat first|apply kn_|apply kd_|apply ka_);refine blk_far ?_ NB194_195.out _;(with_reducible repeat first|apply kn_|apply kd_|apply ka_);refine blk_far ?_ NB194_195.out _;(with_reducible repeat first|apply kn_|apply kd_|apply ka_);exact BK194.out⟩,⟨by (with_reducible repeat first|apply kn_|apply kd_|apply ka_);refine blk_put (cs := #[.int .i64 t199,.int .i64 t200,.int .i64 t201,.int .i64 ((rd_T23 l0 x9_1).f3)]) ?_ 3 _ rfl;(with_reducible repeat first|apply kn_|apply kd_|apply ka_);refine blk_put (cs := #[.int .i64 t199,.int .i64 t200,.int .i64 ((rd_T23 l0 x9_1).f2),.int .i64 ((rd_T23 l0 x9_1).f3)]) ?_ 2 _ rfl;(with_reducible repeat first|apply kn_|apply kd_|apply ka_);refine blk_put (cs := #[.int .i64 t199,.int .i64 ((rd_T23 l0 x9_1).f1),.int .i64 ((rd_T23 l0 x9_1).f2),.int .i64 ((rd_T23 l0 x9_1).f3)]) ?_ 1 _ rfl;(with_reducible repeat first|apply kn_|apply kd_|apply ka_);refine blk_put (cs := #[.int .i64 ((rd_T23 l0 x9_1).f0),.int .i64 ((rd_T23 l0 x9_1).f1),.int .i64 ((rd_T23 l0 x9_1).f2),.int .i64 ((rd_T23 l0 x9_1).f3)]) ?_ 0 _ rfl;(with_reducible repeat first|apply kn_|apply kd_|apply ka_);exact BK195.out⟩,⟨by repeat (first|(with_reducible first|exact HB.out|apply ba_|apply pd_|apply d1_|refine bs_ ?_ GE194.out|refine bs_ ?_ GE195.out|refine bs_ ?_ GE197.out)|exact HB.out)⟩⟩
       ·rw [if_neg c9] at H
        have c9b0 : (x9_1 == 0) = false := beq_eq_false_iff_ne.mpr c9
        have c9b1 : (x9_1 != 0) = true := bne_iff_ne.mpr c9
        replace H := ob_ H
        obtain ⟨⟨t203,t204,t205,t206⟩,A210,H⟩ := H
        replace H : (box_Bounds.l0 k1 l0 l0 (l0.length : Int) (wrap64 (x9_1 + 1)) t203 t204 t205 t206) = some (r1,r2,r3,r4,r5) := H
        have A21 := sd_ A210
        clear A210
        have H' := sd_ H
        clear H
        have p196 : 0 ≤ (x9_1 : Int) := od_ (by first|(with_reducible assumption)|assumption)
        have q196 : x9_1 < (l0.length : Int) := od_ (by first|(with_reducible assumption)|assumption)
        obtain ⟨ad196,e196,hx196_0,hx196_1,hx196_2,hx196_3⟩ := at_T23 HR0.out x9_1 p196 q196
        cases e196
        replace hx196_0 := (HB.out.cell (wb_ w _ hx196_0)).trans hx196_0
        replace hx196_1 := (HB.out.cell (wb_ w _ hx196_1)).trans hx196_1
        replace hx196_2 := (HB.out.cell (wb_ w _ hx196_2)).trans hx196_2
        replace hx196_3 := (HB.out.cell (wb_ w _ hx196_3)).trans hx196_3
        replace p196 := eq_true p196
        replace q196 := eq_true q196
        go_wp2_with (first|((with_reducible refine gate_dst (N := 6) rfl ?_);refine box_event ?hg (N := 6) ?hd (cs := #[.int .i64 0,.int .i64 0,.int .i64 0,.int .i64 0]) (t := 23) ?hr ?_;(case hd => rfl);(case hg => rfl);(case hr => first|(go_simp;done)|(go_simp;rfl));intro gb197 hg w22 hbox hb;have n0_ := sd_ (blk_below (g := gb194) (o := .cells #[.int .i64 x195000_1,.int .i64 x195001_1,.int .i64 x195002_1,.int .i64 x195003_1] 23 (0,0)) (by (with_reducible repeat first|apply kn_|apply kd_|apply ka_);exact BK194.out) hb);have n1_ := sd_ (blk_below (g := gb195) (o := .cells #[.int .i64 x196000_1,.int .i64 x196001_1,.int .i64 x196002_1,.int .i64 x196003_1] 23 (0,0)) (by (with_reducible repeat first|apply kn_|apply kd_|apply ka_);exact BK195.out) hb);have n2_ := sd_ (bt_ (by repeat (first|(with_reducible first|exact HB.out|apply ba_|apply pd_|apply d1_|refine bs_ ?_ GE194.out|refine bs_ ?_ GE195.out)|exact HB.out)) hb);have n3_ := sd_ (hbox);have n4_ := sd_ ((by rw [hg];exact (bz_ (by repeat (first|(with_reducible first|exact HB.out|apply ba_|apply pd_|apply d1_|refine bs_ ?_ GE194.out|refine bs_ ?_ GE195.out)|exact HB.out))) : w.heap.size ≤ gb197));have n5_ := sd_ ((by rw [hg];exact (bz_ (by repeat (first|(with_reducible first|exact HB.out|apply ba_|apply pd_|apply d1_|refine bs_ ?_ GE194.out|refine bs_ ?_ GE195.out)|exact HB.out))) : w.heap.size ≤ gb197));have n6_ := sd_ ((by rw [hg];exact nn_ (blk_lt (g := gb194) (o := .cells #[.int .i64 x195000_1,.int .i64 x195001_1,.int .i64 x195002_1,.int .i64 x195003_1] 23 (0,0)) (by (with_reducible repeat first|apply kn_|apply kd_|apply ka_);exact BK194.out)) : gb194 ≠ gb197));have n7_ := sd_ ((by rw [hg];exact Nat.ne_of_gt (blk_lt (g := gb194) (o := .cells #[.int .i64 x195000_1,.int .i64 x195001_1,.int .i64 x195002_1,.int .i64 x195003_1] 23 (0,0)) (by (with_reducible repeat first|apply kn_|apply kd_|apply ka_);exact BK194.out)) : gb197 ≠ gb194));have n8_ := sd_ ((by rw [hg];exact nn_ (blk_lt (g := gb195) (o := .cells #[.int .i64 x196000_1,.int .i64 x196001_1,.int .i64 x196002_1,.int .i64 x196003_1] 23 (0,0)) (by (with_reducible repeat first|apply kn_|apply kd_|apply ka_);exact BK195.out)) : gb195 ≠ gb197));have n9_ := sd_ ((by rw [hg];exact Nat.ne_of_gt (blk_lt (g := gb195) (o := .cells #[.int .i64 x196000_1,.int .i64 x196001_1,.int .i64 x196002_1,.int .i64 x196003_1] 23 (0,0)) (by (with_reducible repeat first|apply kn_|apply kd_|apply ka_);exact BK195.out)) : gb197 ≠ gb195));clear BK194;clear BK195;clear HB;have BK194 := n0_;have BK195 := n1_;have HB := n2_;have BK197 := n3_;have GW197 := n4_;have GE197 := n5_;have NB194_197 := n6_;have NB197_194 := n7_;have NB195_197 := n8_;have NB197_195 := n9_;clear n0_ n1_ n2_ n3_ n4_ n5_ n6_ n7_ n8_ n9_;clear hb hbox hg;have hnb23 := NB197_194.out;have hnc23 := NB194_197.out;have hnb24 := NB197_195.out;have hnc24 := NB195_197.out;have hcz25_0 : w22.cell? ⟨gb197,0,none⟩ = some (.int .i64 0) := (kc_ BK197.out 0).trans rfl;have hcz25_1 : w22.cell? ⟨gb197,1,none⟩ = some (.int .i64 0) := (kc_ BK197.out 1).trans rfl;have hcz25_2 : w22.cell? ⟨gb197,2,none⟩ = some (.int .i64 0) := (kc_ BK197.out 2).trans rfl;have hcz25_3 : w22.cell? ⟨gb197,3,none⟩ = some (.int .i64 0) := (kc_ BK197.out 3).trans rfl;have hfz25_0 := kf_ BK197.out 0;have hfz25_1 := kf_ BK197.out 1;have hfz25_2 := kf_ BK197.out 2;have hfz25_3 := kf_ BK197.out 3)|((with_reducible refine gate_callee (f := 12) rfl ?_);refine goesL_ (some 15) rfl rfl Tryd.func12 (by kernel_rfl) rfl #[.agg #[.int .i64 ((rd_T23 l0 x9_1).f0),.int .i64 ((rd_T23 l0 x9_1).f1),.int .i64 ((rd_T23 l0 x9_1).f2),.int .i64 ((rd_T23 l0 x9_1).f3)]] rfl (by (try simp only [lm_,lq_,lx_]);first|done|rfl|(simp only [ld_,lt_];rfl)) ?_;(with_reducible refine (box_Check.calls ((rd_T23 l0 x9_1).f0) ((rd_T23 l0 x9_1).f1) ((rd_T23 l0 x9_1).f2) ((rd_T23 l0 x9_1).f3) true _ A7.out).mono ?_);rintro e w26 ⟨rfl,hb⟩;refine ⟨_,rfl,?_⟩;have n0_ := sd_ (blk_below (g := gb194) (o := .cells #[.int .i64 x195000_1,.int .i64 x195001_1,.int .i64 x195002_1,.int .i64 x195003_1] 23 (0,0)) (by (with_reducible repeat first|apply kn_|apply kd_|apply ka_);refine blk_far ?_ NB194_197.out _;(with_reducible repeat first|apply kn_|apply kd_|apply ka_);refine blk_far ?_ NB194_197.out _;(with_reducible repeat first|apply kn_|apply kd_|apply ka_);refine blk_far ?_ NB194_197.out _;(with_reducible repeat first|apply kn_|apply kd_|apply ka_);refine blk_far ?_ NB194_197.out _;(with_reducible repeat first|apply kn_|apply kd_|apply ka_);exact BK194.out) hb);have n1_ := sd_ (blk_below (g := gb195) (o := .cells #[.int .i64 x196000_1,.int .i64 x196001_1,.int .i64 x196002_1,.int .i64 x196003_1] 23 (0,0)) (by (with_reducible repeat first|apply kn_|apply kd_|apply ka_);refine blk_far ?_ NB195_197.out _;(with_reducible repeat first|apply kn_|apply kd_|apply ka_);refine blk_far ?_ NB195_197.out _;(with_reducible repeat first|apply kn_|apply kd_|apply ka_);refine blk_far ?_ NB195_197.out _;(with_reducible repeat first|apply kn_|apply kd_|apply ka_);refine blk_far ?_ NB195_197.out _;(with_reducible repeat first|apply kn_|apply kd_|apply ka_);exact BK195.out) hb);have n2_ := sd_ (blk_below (g := gb197) (o := .cells #[.int .i64 ((rd_T23 l0 x9_1).f0),.int .i64 ((rd_T23 l0 x9_1).f1),.int .i64 ((rd_T23 l0 x9_1).f2),.int .i64 ((rd_T23 l0 x9_1).f3)] 23 (0,0)) (by (with_reducible repeat first|apply kn_|apply kd_|apply ka_);refine blk_put (cs := #[.int .i64 ((rd_T23 l0 x9_1).f0),.int .i64 ((rd_T23 l0 x9_1).f1),.int .i64 ((rd_T23 l0 x9_1).f2),.int .i64 0]) ?_ 3 _ rfl;(with_reducible repeat first|apply kn_|apply kd_|apply ka_);refine blk_put (cs := #[.int .i64 ((rd_T23 l0 x9_1).f0),.int .i64 ((rd_T23 l0 x9_1).f1),.int .i64 0,.int .i64 0]) ?_ 2 _ rfl;(with_reducible repeat first|apply kn_|apply kd_|apply ka_);refine blk_put (cs := #[.int .i64 ((rd_T23 l0 x9_1).f0),.int .i64 0,.int .i64 0,.int .i64 0]) ?_ 1 _ rfl;(with_reducible repeat first|apply kn_|apply kd_|apply ka_);refine blk_put (cs := #[.int .i64 0,.int .i64 0,.int .i64 0,.int .i64 0]) ?_ 0 _ rfl;(with_reducible repeat first|apply kn_|apply kd_|apply ka_);exact BK197.out) hb);have n3_ := sd_ (bt_ (by repeat (first|(with_reducible first|exact HB.out|apply ba_|apply pd_|apply d1_|refine bs_ ?_ GE194.out|refine bs_ ?_ GE195.out|refine bs_ ?_ GE197.out)|exact HB.out)) hb);clear BK194;clear BK195;clear BK197;clear HB;have BK194 := n0_;have BK195 := n1_;have BK197 := n2_;have HB := n3_;clear n0_ n1_ n2_ n3_;(try clear hb);(try clear hb2);(try clear hk);(try clear hi);have hnb27 := NB195_194.out;have hnc27 := NB194_195.out;have hcz28_0 : w26.cell? ⟨gb195,0,none⟩ = some (.int .i64 x196000_1) := (kc_ BK195.out 0).trans rfl;have hcz28_1 : w26.cell? ⟨gb195,1,none⟩ = some (.int .i64 x196001_1) := (kc_ BK195.out 1).trans rfl;have hcz28_2 : w26.cell? ⟨gb195,2,none⟩ = some (.int .i64 x196002_1) := (kc_ BK195.out 2).trans rfl;have hcz28_3 : w26.cell? ⟨gb195,3,none⟩ = some (.int .i64 x196003_1) := (kc_ BK195.out 3).trans rfl;have hfz28_0 := kf_ BK195.out 0;have hfz28_1 := kf_ BK195.out 1;have hfz28_2 := kf_ BK195.out 2;have hfz28_3 := kf_ BK195.out 3;have hcz29_0 : w26.cell? ⟨gb197,0,none⟩ = some (.int .i64 ((rd_T23 l0 x9_1).f0)) := (kc_ BK197.out 0).trans rfl;have hcz29_1 : w26.cell? ⟨gb197,1,none⟩ = some (.int .i64 ((rd_T23 l0 x9_1).f1)) := (kc_ BK197.out 1).trans rfl;have hcz29_2 : w26.cell? ⟨gb197,2,none⟩ = some (.int .i64 ((rd_T23 l0 x9_1).f2)) := (kc_ BK197.out 2).trans rfl;have hcz29_3 : w26.cell? ⟨gb197,3,none⟩ = some (.int .i64 ((rd_T23 l0 x9_1).f3)) := (kc_ BK197.out 3).trans rfl;have hfz29_0 := kf_ BK197.out 0;have hfz29_1 := kf_ BK197.out 1;have hfz29_2 := kf_ BK197.out 2;have hfz29_3 := kf_ BK197.out 3)|((with_reducible refine gate_callee (f := 14) rfl ?_);refine goesL_ (some 23) rfl rfl Tryd.func14 (by kernel_rfl) rfl #[.agg #[.int .i64 x196000_1,.int .i64 x196001_1,.int .i64 x196002_1,.int .i64 x196003_1],.agg #[.int .i64 ((rd_T23 l0 x9_1).f0),.int .i64 ((rd_T23 l0 x9_1).f1),.int .i64 ((rd_T23 l0 x9_1).f2),.int .i64 ((rd_T23 l0 x9_1).f3)]] rfl (by (try simp only [lm_,lq_,lx_]);first|done|rfl|(simp only [ld_,lt_];rfl)) ?_;(with_reducible refine (box_Join.calls k1 x196000_1 x196001_1 x196002_1 x196003_1 ((rd_T23 l0 x9_1).f0) ((rd_T23 l0 x9_1).f1) ((rd_T23 l0 x9_1).f2) ((rd_T23 l0 x9_1).f3) t203 t204 t205 t206 _ A21.out).mono ?_);rintro e w30 ⟨rfl,hb⟩;refine ⟨_,rfl,?_⟩;have n0_ := sd_ (blk_below (g := gb194) (o := .cells #[.int .i64 x195000_1,.int .i64 x195001_1,.int .i64 x195002_1,.int .i64 x195003_1] 23 (0,0)) (by (with_reducible repeat first|apply kn_|apply kd_|apply ka_);exact BK194.out) hb);have n1_ := sd_ (blk_below (g := gb195) (o := .cells #[.int .i64 x196000_1,.int .i64 x196001_1,.int .i64 x196002_1,.int .i64 x196003_1] 23 (0,0)) (by (with_reducible repeat first|apply kn_|apply kd_|apply ka_);exact BK195.out) hb);have n2_ := sd_ (blk_below (g := gb197) (o := .cells #[.int .i64 ((rd_T23 l0 x9_1).f0),.int .i64 ((rd_T23 l0 x9_1).f1),.int .i64 ((rd_T23 l0 x9_1).f2),.int .i64 ((rd_T23 l0 x9_1).f3)] 23 (0,0)) (by (with_reducible repeat first|apply kn_|apply kd_|apply ka_);exact BK197.out) hb);have n3_ := sd_ (bt_ (by repeat (first|(with_reducible first|exact HB.out|apply ba_|apply pd_|apply d1_|refine bs_ ?_ GE194.out|refine bs_ ?_ GE195.out|refine bs_ ?_ GE197.out)|exact HB.out)) hb);clear BK194;clear BK195;clear BK197;clear HB;have BK194 := n0_;have BK195 := n1_;have BK197 := n2_;have HB := n3_;clear n0_ n1_ n2_ n3_;(try clear hb);(try clear hb2);(try clear hk);(try clear hi);have hcz31_0 : w30.cell? ⟨gb195,0,none⟩ = some (.int .i64 x196000_1) := (kc_ BK195.out 0).trans rfl;have hcz31_1 : w30.cell? ⟨gb195,1,none⟩ = some (.int .i64 x196001_1) := (kc_ BK195.out 1).trans rfl;have hcz31_2 : w30.cell? ⟨gb195,2,none⟩ = some (.int .i64 x196002_1) := (kc_ BK195.out 2).trans rfl;have hcz31_3 : w30.cell? ⟨gb195,3,none⟩ = some (.int .i64 x196003_1) := (kc_ BK195.out 3).trans rfl;have hfz31_0 := kf_ BK195.out 0;have hfz31_1 := kf_ BK195.out 1;have hfz31_2 := kf_ BK195.out 2;have hfz31_3 := kf_ BK195.out 3))
        go_roundg k1
        case measure => have := HK1.out;omega
        case rel => exact ⟨(wrap64 (x9_1 + 1)),(x195000_1),(x195001_1),(x195002_1),(x195003_1),(t203),(t204),(t205),(t206),(by first|rfl|(simp;done)|(simp [*];done)|(simp [bne];done)),H',⟨by have := HK1.out;omega⟩,⟨by (with_reducible repeat first|apply kn_|apply kd_|apply ka_);refine blk_far ?_ NB194_195.out _;(with_reducible repeat first|apply kn_|apply kd_|apply ka_);refine blk_far ?_ NB194_195.out _;(with_reducible repeat first|apply kn_|apply kd_|apply ka_);refine blk_far ?_ NB194_195.out _;(with_reducible repeat first|apply kn_|apply kd_|apply ka_);refine blk_far ?_ NB194_195.out _;(with_reducible repeat first|apply kn_|apply kd_|apply ka_);exact BK194.out⟩,⟨by (with_reducible repeat first|apply kn_|apply kd_|apply ka_);refine blk_put (cs := #[.int .i64 t203,.int .i64 t204,.int .i64 t205,.int .i64 x196003_1]) ?_ 3 _ rfl;(with_reducible repeat first|apply kn_|apply kd_|apply ka_);refine blk_put (cs := #[.int .i64 t203,.int .i64 t204,.int .i64 x196002_1,.int .i64 x196003_1]) ?_ 2 _ rfl;(with_reducible repeat first|apply kn_|apply kd_|apply ka_);refine blk_put (cs := #[.int .i64 t203,.int .i64 x196001_1,.int .i64 x196002_1,.int .i64 x196003_1]) ?_ 1 _ rfl;(with_reducible repeat first|apply kn_|apply kd_|apply ka_);refine blk_put (cs := #[.int .i64 x196000_1,.int .i64 x196001_1,.int .i64 x196002_1,.int .i64 x196003_1]) ?_ 0 _ rfl;(with_reducible repeat first|apply kn_|apply kd_|apply ka_);exact BK195.out⟩,⟨by repeat (first|(with_reducible first|exact HB.out|apply ba_|apply pd_|apply d1_|refine bs_ ?_ GE194.out|refine bs_ ?_ GE195.out|refine bs_ ?_ GE197.out)|exact HB.out)⟩⟩
      ·replace c8 := bf_ c8
       subst c8
       have H1 : (some (0,0,0,0,false)) = some (r1,r2,r3,r4,r5) := by rw [if_neg (show ¬ (false = true) by decide)] at H;exact H
       clear H;have H := H1;clear H1
       simp only [Option.some.injEq,Prod.mk.injEq] at H
       obtain ⟨rfl,rfl,rfl,rfl,rfl⟩ := H
       have p196 : 0 ≤ (x9_1 : Int) := od_ (by first|(with_reducible assumption)|assumption)
       have q196 : x9_1 < (l0.length : Int) := od_ (by first|(with_reducible assumption)|assumption)
       obtain ⟨ad196,e196,hx196_0,hx196_1,hx196_2,hx196_3⟩ := at_T23 HR0.out x9_1 p196 q196
       cases e196
       replace hx196_0 := (HB.out.cell (wb_ w _ hx196_0)).trans hx196_0
       replace hx196_1 := (HB.out.cell (wb_ w _ hx196_1)).trans hx196_1
       replace hx196_2 := (HB.out.cell (wb_ w _ hx196_2)).trans hx196_2
       replace hx196_3 := (HB.out.cell (wb_ w _ hx196_3)).trans hx196_3
       replace p196 := eq_true p196
       replace q196 := eq_true q196
       go_wp2_with (first|((with_reducible refine gate_dst (N := 6) rfl ?_);refine box_event ?hg (N := 6) ?hd (cs := #[.int .i64 0,.int .i64 0,.int .i64 0,.int .i64 0]) (t := 23) ?hr ?_;(case hd => rfl);(case hg => rfl);(case hr => first|(go_simp;done)|(go_simp;rfl));intro gb197 hg w32 hbox hb;have n0_ := sd_ (blk_below (g := gb194) (o := .cells #[.int .i64 x195000_1,.int .i64 x195001_1,.int .i64 x195002_1,.int .i64 x195003_1] 23 (0,0)) (by (with_reducible repeat first|apply kn_|apply kd_|apply ka_);exact BK194.out) hb);have n1_ := sd_ (blk_below (g := gb195) (o := .cells #[.int .i64 x196000_1,.int .i64 x196001_1,.int .i64 x196002_1,.int .i64 x196003_1] 23 (0,0)) (by (with_reducible repeat first|apply kn_|apply kd_|apply ka_);exact BK195.out) hb);have n2_ := sd_ (bt_ (by repeat (first|(with_reducible first|exact HB.out|apply ba_|apply pd_|apply d1_|refine bs_ ?_ GE194.out|refine bs_ ?_ GE195.out)|exact HB.out)) hb);have n3_ := sd_ (hbox);have n4_ := sd_ ((by rw [hg];exact (bz_ (by repeat (first|(with_reducible first|exact HB.out|apply ba_|apply pd_|apply d1_|refine bs_ ?_ GE194.out|refine bs_ ?_ GE195.out)|exact HB.out))) : w.heap.size ≤ gb197));have n5_ := sd_ ((by rw [hg];exact (bz_ (by repeat (first|(with_reducible first|exact HB.out|apply ba_|apply pd_|apply d1_|refine bs_ ?_ GE194.out|refine bs_ ?_ GE195.out)|exact HB.out))) : w.heap.size ≤ gb197));have n6_ := sd_ ((by rw [hg];exact nn_ (blk_lt (g := gb194) (o := .cells #[.int .i64 x195000_1,.int .i64 x195001_1,.int .i64 x195002_1,.int .i64 x195003_1] 23 (0,0)) (by (with_reducible repeat first|apply kn_|apply kd_|apply ka_);exact BK194.out)) : gb194 ≠ gb197));have n7_ := sd_ ((by rw [hg];exact Nat.ne_of_gt (blk_lt (g := gb194) (o := .cells #[.int .i64 x195000_1,.int .i64 x195001_1,.int .i64 x195002_1,.int .i64 x195003_1] 23 (0,0)) (by (with_reducible repeat first|apply kn_|apply kd_|apply ka_);exact BK194.out)) : gb197 ≠ gb194));have n8_ := sd_ ((by rw [hg];exact nn_ (blk_lt (g := gb195) (o := .cells #[.int .i64 x196000_1,.int .i64 x196001_1,.int .i64 x196002_1,.int .i64 x196003_1] 23 (0,0)) (by (with_reducible repeat first|apply kn_|apply kd_|apply ka_);exact BK195.out)) : gb195 ≠ gb197));have n9_ := sd_ ((by rw [hg];exact Nat.ne_of_gt (blk_lt (g := gb195) (o := .cells #[.int .i64 x196000_1,.int .i64 x196001_1,.int .i64 x196002_1,.int .i64 x196003_1] 23 (0,0)) (by (with_reducible repeat first|apply kn_|apply kd_|apply ka_);exact BK195.out)) : gb197 ≠ gb195));clear BK194;clear BK195;clear HB;have BK194 := n0_;have BK195 := n1_;have HB := n2_;have BK197 := n3_;have GW197 := n4_;have GE197 := n5_;have NB194_197 := n6_;have NB197_194 := n7_;have NB195_197 := n8_;have NB197_195 := n9_;clear n0_ n1_ n2_ n3_ n4_ n5_ n6_ n7_ n8_ n9_;clear hb hbox hg;have hnb33 := NB197_194.out;have hnc33 := NB194_197.out;have hnb34 := NB197_195.out;have hnc34 := NB195_197.out;have hcz35_0 : w32.cell? ⟨gb197,0,none⟩ = some (.int .i64 0) := (kc_ BK197.out 0).trans rfl;have hcz35_1 : w32.cell? ⟨gb197,1,none⟩ = some (.int .i64 0) := (kc_ BK197.out 1).trans rfl;have hcz35_2 : w32.cell? ⟨gb197,2,none⟩ = some (.int .i64 0) := (kc_ BK197.out 2).trans rfl;have hcz35_3 : w32.cell? ⟨gb197,3,none⟩ = some (.int .i64 0) := (kc_ BK197.out 3).trans rfl;have hfz35_0 := kf_ BK197.out 0;have hfz35_1 := kf_ BK197.out 1;have hfz35_2 := kf_ BK197.out 2;have hfz35_3 := kf_ BK197.out 3)|((with_reducible refine gate_callee (f := 12) rfl ?_);refine goesL_ (some 15) rfl rfl Tryd.func12 (by kernel_rfl) rfl #[.agg #[.int .i64 ((rd_T23 l0 x9_1).f0),.int .i64 ((rd_T23 l0 x9_1).f1),.int .i64 ((rd_T23 l0 x9_1).f2),.int .i64 ((rd_T23 l0 x9_1).f3)]] rfl (by (try simp only [lm_,lq_,lx_]);first|done|rfl|(simp only [ld_,lt_];rfl)) ?_;(with_reducible refine (box_Check.calls ((rd_T23 l0 x9_1).f0) ((rd_T23 l0 x9_1).f1) ((rd_T23 l0 x9_1).f2) ((rd_T23 l0 x9_1).f3) false _ A7.out).mono ?_);rintro e w36 ⟨rfl,hb⟩;refine ⟨_,rfl,?_⟩;have n0_ := sd_ (blk_below (g := gb194) (o := .cells #[.int .i64 x195000_1,.int .i64 x195001_1,.int .i64 x195002_1,.int .i64 x195003_1] 23 (0,0)) (by (with_reducible repeat first|apply kn_|apply kd_|apply ka_);refine blk_far ?_ NB194_197.out _;(with_reducible repeat first|apply kn_|apply kd_|apply ka_);refine blk_far ?_ NB194_197.out _;(with_reducible repeat first|apply kn_|apply kd_|apply ka_);refine blk_far ?_ NB194_197.out _;(with_reducible repeat first|apply kn_|apply kd_|apply ka_);refine blk_far ?_ NB194_197.out _;(with_reducible repeat first|apply kn_|apply kd_|apply ka_);exact BK194.out) hb);have n1_ := sd_ (blk_below (g := gb195) (o := .cells #[.int .i64 x196000_1,.int .i64 x196001_1,.int .i64 x196002_1,.int .i64 x196003_1] 23 (0,0)) (by (with_reducible repeat first|apply kn_|apply kd_|apply ka_);refine blk_far ?_ NB195_197.out _;(with_reducible repeat first|apply kn_|apply kd_|apply ka_);refine blk_far ?_ NB195_197.out _;(with_reducible repeat first|apply kn_|apply kd_|apply ka_);refine blk_far ?_ NB195_197.out _;(with_reducible repeat first|apply kn_|apply kd_|apply ka_);refine blk_far ?_ NB195_197.out _;(with_reducible repeat first|apply kn_|apply kd_|apply ka_);exact BK195.out) hb);have n2_ := sd_ (blk_below (g := gb197) (o := .cells #[.int .i64 ((rd_T23 l0 x9_1).f0),.int .i64 ((rd_T23 l0 x9_1).f1),.int .i64 ((rd_T23 l0 x9_1).f2),.int .i64 ((rd_T23 l0 x9_1).f3)] 23 (0,0)) (by (with_reducible repeat first|apply kn_|apply kd_|apply ka_);refine blk_put (cs := #[.int .i64 ((rd_T23 l0 x9_1).f0),.int .i64 ((rd_T23 l0 x9_1).f1),.int .i64 ((rd_T23 l0 x9_1).f2),.int .i64 0]) ?_ 3 _ rfl;(with_reducible repeat first|apply kn_|apply kd_|apply ka_);refine blk_put (cs := #[.int .i64 ((rd_T23 l0 x9_1).f0),.int .i64 ((rd_T23 l0 x9_1).f1),.int .i64 0,.int .i64 0]) ?_ 2 _ rfl;(with_reducible repeat first|apply kn_|apply kd_|apply ka_);refine blk_put (cs := #[.int .i64 ((rd_T23 l0 x9_1).f0),.int .i64 0,.int .i64 0,.int .i64 0]) ?_ 1 _ rfl;(with_reducible repeat first|apply kn_|apply kd_|apply ka_);refine blk_put (cs := #[.int .i64 0,.int .i64 0,.int .i64 0,.int .i64 0]) ?_ 0 _ rfl;(with_reducible repeat first|apply kn_|apply kd_|apply ka_);exact BK197.out) hb);have n3_ := sd_ (bt_ (by repeat (first|(with_reducible first|exact HB.out|apply ba_|apply pd_|apply d1_|refine bs_ ?_ GE194.out|refine bs_ ?_ GE195.out|refine bs_ ?_ GE197.out)|exact HB.out)) hb);clear BK194;clear BK195;clear BK197;clear HB;have BK194 := n0_;have BK195 := n1_;have BK197 := n2_;have HB := n3_;clear n0_ n1_ n2_ n3_;(try clear hb);(try clear hb2);(try clear hk);(try clear hi);have hnb37 := NB194_195.out;have hnc37 := NB195_194.out;have hcz38_0 : w36.cell? ⟨gb194,0,none⟩ = some (.int .i64 x195000_1) := (kc_ BK194.out 0).trans rfl;have hcz38_1 : w36.cell? ⟨gb194,1,none⟩ = some (.int .i64 x195001_1) := (kc_ BK194.out 1).trans rfl;have hcz38_2 : w36.cell? ⟨gb194,2,none⟩ = some (.int .i64 x195002_1) := (kc_ BK194.out 2).trans rfl;have hcz38_3 : w36.cell? ⟨gb194,3,none⟩ = some (.int .i64 x195003_1) := (kc_ BK194.out 3).trans rfl;have hfz38_0 := kf_ BK194.out 0;have hfz38_1 := kf_ BK194.out 1;have hfz38_2 := kf_ BK194.out 2;have hfz38_3 := kf_ BK194.out 3))
       refine bodyPost_ret (results_ct rfl _ _ gb194 23 #[.int .i64 0,.int .i64 0,.int .i64 0,.int .i64 0] (0,0) _ rfl (by (with_reducible repeat first|apply kn_|apply kd_|apply ka_);refine blk_put (cs := #[.int .i64 0,.int .i64 0,.int .i64 0,.int .i64 x195003_1]) ?_ 3 _ rfl;(with_reducible repeat first|apply kn_|apply kd_|apply ka_);refine blk_put (cs := #[.int .i64 0,.int .i64 0,.int .i64 x195002_1,.int .i64 x195003_1]) ?_ 2 _ rfl;(with_reducible repeat first|apply kn_|apply kd_|apply ka_);refine blk_put (cs := #[.int .i64 0,.int .i64 x195001_1,.int .i64 x195002_1,.int .i64 x195003_1]) ?_ 1 _ rfl;(with_reducible repeat first|apply kn_|apply kd_|apply ka_);refine blk_put (cs := #[.int .i64 x195000_1,.int .i64 x195001_1,.int .i64 x195002_1,.int .i64 x195003_1]) ?_ 0 _ rfl;(with_reducible repeat first|apply kn_|apply kd_|apply ka_);exact BK194.out) Tryd.underlying23 rfl (by kernel_rfl)) rfl ?_
       exact ⟨by first|rfl|(simp [errW_none,errW_some] <;> rfl)|(simp [*,errW_none,errW_some] <;> rfl),by repeat (first|(with_reducible first|exact HB.out|apply ba_|apply pd_|apply d1_|refine bs_ ?_ GE194.out|refine bs_ ?_ GE195.out|refine bs_ ?_ GE197.out)|exact HB.out)⟩
     ·rw [if_neg c6] at H
      exact absurd H (by simp)
    ·rw [if_neg c5] at H
     exact absurd H (by simp)
   ·rw [if_neg c4] at H
    have c4b0 : decide (x9_1 < (l0.length : Int)) = false := df_ c4
    clear c4
    simp only [Option.some.injEq,Prod.mk.injEq] at H
    obtain ⟨rfl,rfl,rfl,rfl,rfl⟩ := H
    have hnb39 := NB195_194.out
    have hnc39 := NB194_195.out
    have hcz40_0 : wr.cell? ⟨gb195,0,none⟩ = some (.int .i64 x196000_1) := (kc_ BK195.out 0).trans rfl
    have hcz40_1 : wr.cell? ⟨gb195,1,none⟩ = some (.int .i64 x196001_1) := (kc_ BK195.out 1).trans rfl
    have hcz40_2 : wr.cell? ⟨gb195,2,none⟩ = some (.int .i64 x196002_1) := (kc_ BK195.out 2).trans rfl
    have hcz40_3 : wr.cell? ⟨gb195,3,none⟩ = some (.int .i64 x196003_1) := (kc_ BK195.out 3).trans rfl
    have hfz40_0 := kf_ BK195.out 0
    have hfz40_1 := kf_ BK195.out 1
    have hfz40_2 := kf_ BK195.out 2
    have hfz40_3 := kf_ BK195.out 3
    have hcz41_0 : wr.cell? ⟨gb194,0,none⟩ = some (.int .i64 x195000_1) := (kc_ BK194.out 0).trans rfl
    have hcz41_1 : wr.cell? ⟨gb194,1,none⟩ = some (.int .i64 x195001_1) := (kc_ BK194.out 1).trans rfl
    have hcz41_2 : wr.cell? ⟨gb194,2,none⟩ = some (.int .i64 x195002_1) := (kc_ BK194.out 2).trans rfl
    have hcz41_3 : wr.cell? ⟨gb194,3,none⟩ = some (.int .i64 x195003_1) := (kc_ BK194.out 3).trans rfl
    have hfz41_0 := kf_ BK194.out 0
    have hfz41_1 := kf_ BK194.out 1
    have hfz41_2 := kf_ BK194.out 2
    have hfz41_3 := kf_ BK194.out 3
    go_wp2
    refine bodyPost_ret (results_ct rfl _ _ gb194 23 #[.int .i64 x196000_1,.int .i64 x196001_1,.int .i64 x196002_1,.int .i64 x196003_1] (0,0) _ rfl (by (with_reducible repeat first|apply kn_|apply kd_|apply ka_);refine blk_put (cs := #[.int .i64 x196000_1,.int .i64 x196001_1,.int .i64 x196002_1,.int .i64 x195003_1]) ?_ 3 _ rfl;(with_reducible repeat first|apply kn_|apply kd_|apply ka_);refine blk_put (cs := #[.int .i64 x196000_1,.int .i64 x196001_1,.int .i64 x195002_1,.int .i64 x195003_1]) ?_ 2 _ rfl;(with_reducible repeat first|apply kn_|apply kd_|apply ka_);refine blk_put (cs := #[.int .i64 x196000_1,.int .i64 x195001_1,.int .i64 x195002_1,.int .i64 x195003_1]) ?_ 1 _ rfl;(with_reducible repeat first|apply kn_|apply kd_|apply ka_);refine blk_put (cs := #[.int .i64 x195000_1,.int .i64 x195001_1,.int .i64 x195002_1,.int .i64 x195003_1]) ?_ 0 _ rfl;(with_reducible repeat first|apply kn_|apply kd_|apply ka_);exact BK194.out) Tryd.underlying23 rfl (by kernel_rfl)) rfl ?_
    exact ⟨by first|rfl|(simp [errW_none,errW_some] <;> rfl)|(simp [*,errW_none,errW_some] <;> rfl),by repeat (first|(with_reducible first|exact HB.out|apply ba_|apply pd_|apply d1_|refine bs_ ?_ GE194.out|refine bs_ ?_ GE195.out)|exact HB.out)⟩

end Go.Proofs.YteecpeggnejeaaaDoor.P
