-- Written by a program of this session (wip/tools/xprint.py, over the kit's print): Lean checks it.
import Derived.Test.YtdiccfonlojlfaaDoorPx0
import Derived.Test.YtdiccfonlojlfaaDoorPx3
import Derived.Test.YtdiccfonlojlfaaDoorPx5
namespace Go.Proofs.YtdiccfonlojlfaaDoor.P
open Go.RowKit Go.Proofs.YtdiccfonlojlfaaDoorW.PrintWords Go.Proofs.YtdiccfonlojlfaaDoorW.PrintLast Go.Proofs.YtdiccfonlojlfaaDoorW.PrintMore
attribute [local go_sem] max2_int min2_int max_two min_two max_three min_three max_four min_four   -- for this text's walks alone
set_option linter.unusedVariables false
set_option linter.unusedSimpArgs false

/-! ### rat_negated: function 63 -/
def rat_negated.f (a0_0 : Int) (a0_1 : Int) : Option (Int × Int) := some (wrap64 (-a0_0), a0_1)
set_option maxHeartbeats 8000000 in
set_option maxRecDepth 100000 in
theorem rat_negated.calls (a0_0 : Int) (a0_1 : Int) (r1 : Int) (r2 : Int) (w : World) (h : rat_negated.f a0_0 a0_1 = some (r1, r2)) :
  Calls Tryd.prog 63 #[.agg #[.int .i64 a0_0,.int .i64 a0_1]] w fun e w' => e = .returned (.agg #[.int .i64 r1,.int .i64 r2]) ∧ Below w.heap.size w w' := by
 have hu25 := Tryd.underlying25
 have HB := sd_ (Below.refl w.heap.size w)
 have H : (some (wrap64 (-a0_0),a0_1)) = some (r1,r2) := h
 clear h
 simp only [Option.some.injEq,Prod.mk.injEq] at H
 obtain ⟨rfl,rfl⟩ := H
 go_enter Tryd.func63,Tryd.ntmps63
 go_wp2_with (first|((with_reducible refine gate_dst (N := 1) rfl ?_);refine box_event ?hg (N := 1) ?hd (cs := #[.int .i64 a0_0,.int .i64 a0_1]) (t := 25) ?hr ?_;(case hd => rfl);(case hg => rfl);(case hr => first|(go_simp;done)|(go_simp;rfl));intro gb186 hg w2 hbox hb;have BK186 := sd_ hbox;have GW186 := gw_ HB e0_ hg;have GE186 := GW186;replace HB := hb_ HB e0_ hb;clear hb hbox hg)|((with_reducible refine gate_dst (N := 2) rfl ?_);refine box_event ?hg (N := 2) ?hd (cs := #[.int .i64 0,.int .i64 0]) (t := 25) ?hr ?_;(case hd => rfl);(case hg => rfl);(case hr => first|(go_simp;done)|(go_simp;rfl));intro gb187 hg w3 hbox hb;have BK187 := sd_ hbox;have GW187 := gw_ HB (e_ GE186 e0_) hg;have GE187 := GW187;have NB186_187 := nb_ BK186 hg;have NB187_186 := sy_ NB186_187;replace BK186 := kb_ BK186 hb;replace HB := hb_ HB (e_ GE186 e0_) hb;clear hb hbox hg;have hnb4 := NB186_187.out;have hnc4 := NB187_186.out;have hcz5_0 : w3.cell? ⟨gb186,0,none⟩ = some (.int .i64 a0_0) := (kc_ BK186.out 0).trans rfl;have hcz5_1 : w3.cell? ⟨gb186,1,none⟩ = some (.int .i64 a0_1) := (kc_ BK186.out 1).trans rfl;have hfz5_0 := kf_ BK186.out 0;have hfz5_1 := kf_ BK186.out 1;have hcz6_0 : w3.cell? ⟨gb187,0,none⟩ = some (.int .i64 0) := (kc_ BK187.out 0).trans rfl;have hcz6_1 : w3.cell? ⟨gb187,1,none⟩ = some (.int .i64 0) := (kc_ BK187.out 1).trans rfl;have hfz6_0 := kf_ BK187.out 0;have hfz6_1 := kf_ BK187.out 1))
 refine bodyPost_ret (results_cell_row rfl _ _ gb187 25 #[.int .i64 (wrap64 (-a0_0)),.int .i64 a0_1] (0,0) _ rfl (by (with_reducible repeat first|apply kn_|apply kd_|apply ka_);refine blk_put (cs := #[.int .i64 (wrap64 (-a0_0)),.int .i64 0]) ?_ 1 _ rfl;(with_reducible repeat first|apply kn_|apply kd_|apply ka_);refine blk_put (cs := #[.int .i64 0,.int .i64 0]) ?_ 0 _ rfl;(with_reducible repeat first|apply kn_|apply kd_|apply ka_);exact BK187.out) Tryd.underlying25 rfl (by kernel_rfl)) rfl ?_
 exact ⟨by first|rfl|(simp [errW_none,errW_some] <;> rfl)|(simp [*,errW_none,errW_some] <;> rfl),by repeat (first|(with_reducible first|exact HB.out|apply ba_|apply pd_|apply d1_|refine bs_ ?_ GE186.out|refine bs_ ?_ GE187.out)|exact HB.out)⟩

/-! ### rat_Sub: function 36 -/
def rat_Sub.f (k : Nat) (a0_0 : Int) (a0_1 : Int) (a1_0 : Int) (a1_1 : Int) : Option (Int × Int × Int) := (rat_both.f k a0_0 a0_1 a1_0 a1_1).bind fun t191 => (if t191 = true then ((rat_negated.f a1_0 a1_1).bind fun bt192 => ((rat_Add.f k a0_0 a0_1 bt192.1 bt192.2).bind fun bt194 => (some (bt194.1, bt194.2.1, bt194.2.2)))) else ((rat_zero.f).bind fun bt197 => (some (bt197.1, bt197.2, 2))))
theorem rat_Sub.mono : ∀ a0 a1 a2 a3 k, LeO (rat_Sub.f k a0 a1 a2 a3) (rat_Sub.f (k + 1) a0 a1 a2 a3) := by
 intro a0 a1 a2 a3 k
 unfold rat_Sub.f
 repeat' first
   | (with_reducible exact rat_Add.mono _ _ _ _ _)
   | (with_reducible exact rat_both.mono _ _ _ _ _)
   | (with_reducible exact LeO.refl _)
   | (with_reducible exact LeO.none _)
   | (with_reducible refine LeO.ite ?_ ?_)
   | (with_reducible refine LeO.bind ?_ (fun _ => ?_))
   | exact rat_Add.mono _ _ _ _ _
   | exact rat_both.mono _ _ _ _ _
   | exact LeO.none _
   | refine LeO.ite ?_ ?_
   | refine LeO.bind ?_ (fun _ => ?_)
def rat_Sub.T3 : Bool × List (List Nat × List Nat) := (true, [([], []), ([], []), ([1], [1]), ([0, 2, 2], [0, 2]), ([3], [3]), ([3], [3]), ([4, 3, 0, 1, 2, 3, 4, 5], [4]), ([5, 6, 0, 1, 2, 3, 4, 5, 6], [5])])
def rat_Sub.B3 : List Nat := [0, 0, 2, 7, 15, 15, 63, 127]
theorem rat_Sub.tab3 : rtab .any (opsOf Tryd.f36 3) = rat_Sub.T3 := by kernel_rfl
theorem rat_Sub.bits3 : waitsOk rat_Sub.T3.2 rat_Sub.B3 = true := by kernel_rfl
set_option maxHeartbeats 8000000 in
set_option maxRecDepth 100000 in
theorem rat_Sub.calls (k : Nat) (a0_0 : Int) (a0_1 : Int) (a1_0 : Int) (a1_1 : Int) (r1 : Int) (r2 : Int) (r3 : Int) (w : World) (h : rat_Sub.f k a0_0 a0_1 a1_0 a1_1 = some (r1, r2, r3)) :
  Calls Tryd.prog 36 #[.agg #[.int .i64 a0_0,.int .i64 a0_1],.agg #[.int .i64 a1_0,.int .i64 a1_1]] w fun e w' => e = .returned (.tuple #[.agg #[.int .i64 r1,.int .i64 r2],.int .i64 r3]) ∧ Below w.heap.size w w' := by
 have hu25 := Tryd.underlying25
 have HB := sd_ (Below.refl w.heap.size w)
 have H : ((rat_both.f k a0_0 a0_1 a1_0 a1_1).bind fun t191 => (if t191 = true then ((rat_negated.f a1_0 a1_1).bind fun bt192 => ((rat_Add.f k a0_0 a0_1 bt192.1 bt192.2).bind fun bt194 => (some (bt194.1,bt194.2.1,bt194.2.2)))) else ((rat_zero.f).bind fun bt197 => (some (bt197.1,bt197.2,2))))) = some (r1,r2,r3) := h
 clear h
 replace H := ob_ H
 obtain ⟨t191,A30,H⟩ := H
 try dsimp only at H
 have A3 := sd_ A30
 clear A30
 by_cases c4 : t191 = true
 ·subst c4
  have H1 : ((rat_negated.f a1_0 a1_1).bind fun bt192 => ((rat_Add.f k a0_0 a0_1 bt192.1 bt192.2).bind fun bt194 => (some (bt194.1,bt194.2.1,bt194.2.2)))) = some (r1,r2,r3) := by rw [if_pos rfl] at H;exact H
  clear H;have H := H1;clear H1
  replace H := ob_ H
  obtain ⟨⟨t192,t193⟩,A50,H⟩ := H
  replace H : ((rat_Add.f k a0_0 a0_1 t192 t193).bind fun bt194 => (some (bt194.1,bt194.2.1,bt194.2.2))) = some (r1,r2,r3) := H
  have A5 := sd_ A50
  clear A50
  replace H := ob_ H
  obtain ⟨⟨t194,t195,t196⟩,A60,H⟩ := H
  replace H : (some (t194,t195,t196)) = some (r1,r2,r3) := H
  have A6 := sd_ A60
  clear A60
  simp only [Option.some.injEq,Prod.mk.injEq] at H
  obtain ⟨rfl,rfl,rfl⟩ := H
  go_enter Tryd.func36,Tryd.ntmps36
  try go_wp2_with (first|((with_reducible refine gate_dst (N := 2) rfl ?_);refine box_event ?hg (N := 2) ?hd (cs := #[.int .i64 a0_0,.int .i64 a0_1]) (t := 25) ?hr ?_;(case hd => rfl);(case hg => rfl);(case hr => first|(go_simp;done)|(go_simp;rfl));intro gb188 hg w7 hbox hb;have BK188 := sd_ hbox;have GW188 := gw_ HB e0_ hg;have GE188 := GW188;replace HB := hb_ HB e0_ hb;clear hb hbox hg)|((with_reducible refine gate_dst (N := 3) rfl ?_);refine box_event ?hg (N := 3) ?hd (cs := #[.int .i64 a1_0,.int .i64 a1_1]) (t := 25) ?hr ?_;(case hd => rfl);(case hg => rfl);(case hr => first|(go_simp;done)|(go_simp;rfl));intro gb189 hg w8 hbox hb;have BK189 := sd_ hbox;have GW189 := gw_ HB (e_ GE188 e0_) hg;have GE189 := GW189;have NB188_189 := nb_ BK188 hg;have NB189_188 := sy_ NB188_189;replace BK188 := kb_ BK188 hb;replace HB := hb_ HB (e_ GE188 e0_) hb;clear hb hbox hg)|((with_reducible refine gate_dst (N := 4) rfl ?_);refine box_event ?hg (N := 4) ?hd (cs := #[.int .i64 0,.int .i64 0]) (t := 25) ?hr ?_;(case hd => rfl);(case hg => rfl);(case hr => first|(go_simp;done)|(go_simp;rfl));intro gb190 hg w9 hbox hb;have BK190 := sd_ hbox;have GW190 := gw_ HB (e_ GE188 (e_ GE189 e0_)) hg;have GE190 := GW190;have NB188_190 := nb_ BK188 hg;have NB190_188 := sy_ NB188_190;have NB189_190 := nb_ BK189 hg;have NB190_189 := sy_ NB189_190;replace BK188 := kb_ BK188 hb;replace BK189 := kb_ BK189 hb;replace HB := hb_ HB (e_ GE188 (e_ GE189 e0_)) hb;clear hb hbox hg;have hnb10 := NB188_189.out;have hnc10 := NB189_188.out;have hnb11 := NB188_190.out;have hnc11 := NB190_188.out;have hcz12_0 : w9.cell? ⟨gb188,0,none⟩ = some (.int .i64 a0_0) := (kc_ BK188.out 0).trans rfl;have hcz12_1 : w9.cell? ⟨gb188,1,none⟩ = some (.int .i64 a0_1) := (kc_ BK188.out 1).trans rfl;have hfz12_0 := kf_ BK188.out 0;have hfz12_1 := kf_ BK188.out 1;have hnb13 := NB189_190.out;have hnc13 := NB190_189.out;have hcz14_0 : w9.cell? ⟨gb189,0,none⟩ = some (.int .i64 a1_0) := (kc_ BK189.out 0).trans rfl;have hcz14_1 : w9.cell? ⟨gb189,1,none⟩ = some (.int .i64 a1_1) := (kc_ BK189.out 1).trans rfl;have hfz14_0 := kf_ BK189.out 0;have hfz14_1 := kf_ BK189.out 1)|((with_reducible refine gate_callee (f := 61) rfl ?_);refine goesL_ (some 8) rfl rfl Tryd.func61 (by kernel_rfl) rfl #[.agg #[.int .i64 a0_0,.int .i64 a0_1],.agg #[.int .i64 a1_0,.int .i64 a1_1]] rfl (by (try simp only [lm_,lq_,lx_]);first|done|rfl|(simp only [ld_,lt_];rfl)) ?_;(with_reducible refine (rat_both.calls k a0_0 a0_1 a1_0 a1_1 true _ A3.out).mono ?_);rintro e w15 ⟨rfl,hb⟩;refine ⟨_,rfl,?_⟩;replace BK188 := kb_ BK188 hb;replace BK189 := kb_ BK189 hb;replace BK190 := kb_ BK190 hb;replace HB := hb_ HB (e_ GE188 (e_ GE189 (e_ GE190 e0_))) hb;(try clear hb);(try clear hb2);(try clear hk);(try clear hi)))
  replace BK188 := sd_ (kd_ BK188.out)
  replace BK189 := sd_ (kd_ BK189.out)
  replace BK190 := sd_ (kd_ BK190.out)
  replace HB := sd_ (d1_ HB.out)
  refine start_ (n := 8) (S := fun w' => w'.cell? ⟨gb188,0,none⟩ = some (.int .i64 a0_0) ∧ w'.cell? ⟨gb188,1,none⟩ = some (.int .i64 a0_1) ∧ w'.cell? ⟨gb189,0,none⟩ = some (.int .i64 a1_0) ∧ w'.cell? ⟨gb189,1,none⟩ = some (.int .i64 a1_1)) (ds := []) (Array.replicate 8 false) (by kernel_rfl) rfl rfl ⟨(kc_ BK188.out 0).trans rfl,(kc_ BK188.out 1).trans rfl,(kc_ BK189.out 0).trans rfl,(kc_ BK189.out 1).trans rfl⟩ (fun hHeld => ?_);refine with_tabW rat_Sub.tab3 rat_Sub.bits3 (fun HT_ HW_ => ?_)
  generalize w15.drew = w16 at BK188 BK189 BK190 HB hHeld ⊢
  refine ta_ (v := ?_) (a' := ?_) 0 11 (bz 8 1) rfl rfl HT_ HW_ (by kernel_rfl) (fun _ _ _ h => h) (by rfl) ?_ hHeld ?_ ?_
  rotate_left
  ·rintro w' ⟨s0,s1,s2,s3⟩
   go_simp
   with_reducible rfl
  rotate_left
  ·simp only [Act.put,ls_,lz_,lc_,i64_w,i32_w]
   rfl
  refine ta_ (v := ?_) (a' := ?_) 1 12 (bz 8 3) rfl rfl HT_ HW_ (by kernel_rfl) (fun _ _ _ h => h) (by rfl) ?_ hHeld ?_ ?_
  rotate_left
  ·rintro w' ⟨s0,s1,s2,s3⟩
   go_simp
   with_reducible rfl
  rotate_left
  ·simp only [Act.put,ls_,lz_,lc_,i64_w,i32_w]
   rfl
  refine on_ (N := some 13) 2 (bz 8 7) rfl rfl HT_ (by kernel_rfl) (by decide) (fun K hK => ?_)
  refine goes_ Tryd.func63 (by kernel_rfl) rfl #[.agg #[.int .i64 a1_0,.int .i64 a1_1]] (by rfl) rfl rfl (by (try simp only [lm_,lq_,lx_]);first|done|rfl|(simp only [ld_,lt_];rfl)) ?_
  with_reducible refine (rat_negated.calls a1_0 a1_1 t192 t193 _ A5.out).mono ?_
  rintro e w17 ⟨rfl,hb⟩
  refine ⟨_,rfl,?_⟩
  replace BK188 := kb_ BK188 hb
  replace BK189 := kb_ BK189 hb
  replace BK190 := kb_ BK190 hb
  replace HB := hb_ HB (e_ GE188 (e_ GE189 (e_ GE190 e0_))) hb
  (try clear hb)
  (try clear hb2)
  (try clear hk)
  (try clear hi)
  refine hK.out _ _ ⟨(kc_ BK188.out 0).trans rfl,(kc_ BK188.out 1).trans rfl,(kc_ BK189.out 0).trans rfl,(kc_ BK189.out 1).trans rfl⟩ (fun hHeld => ?_)
  clear hK K
  refine norm_ (a' := ?_) ?_ ?_
  rotate_left
  ·show Act.put _ (some 13) _ = _
   simp only [Act.put,ls_,lz_,lc_,i64_w,i32_w]
   rfl
  refine on_ (N := some 14) 3 (bz 8 15) rfl rfl HT_ (by kernel_rfl) (by decide) (fun K hK => ?_)
  refine goes_ Tryd.func62 (by kernel_rfl) rfl #[.agg #[.int .i64 a0_0,.int .i64 a0_1],.agg #[.int .i64 t192,.int .i64 t193]] (by rfl) rfl rfl (by (try simp only [lm_,lq_,lx_]);first|done|rfl|(simp only [ld_,lt_];rfl)) ?_
  with_reducible refine (rat_Add.calls k a0_0 a0_1 t192 t193 t194 t195 t196 _ A6.out).mono ?_
  rintro e w18 ⟨rfl,hb⟩
  refine ⟨_,rfl,?_⟩
  replace BK188 := kb_ BK188 hb
  replace BK189 := kb_ BK189 hb
  replace BK190 := kb_ BK190 hb
  replace HB := hb_ HB (e_ GE188 (e_ GE189 (e_ GE190 e0_))) hb
  (try clear hb)
  (try clear hb2)
  (try clear hk)
  (try clear hi)
  refine hK.out _ _ ⟨(kc_ BK188.out 0).trans rfl,(kc_ BK188.out 1).trans rfl,(kc_ BK189.out 0).trans rfl,(kc_ BK189.out 1).trans rfl⟩ (fun hHeld => ?_)
  clear hK K
  refine norm_ (a' := ?_) ?_ ?_
  rotate_left
  ·show Act.put _ (some 14) _ = _
   simp only [Act.put,ls_,lz_,lc_,i64_w,i32_w]
   rfl
  refine pu_ (v := ?_) (a' := ?_) 4 15 (bz 8 31) rfl rfl HT_ (by kernel_rfl) (fun _ _ _ h => h) (by rfl) ?_ ?_ ?_
  rotate_left;(intro w';go_simp;with_reducible rfl);rotate_left;(simp only [Act.put,ls_,lz_,lc_,i64_w,i32_w];rfl)
  refine pu_ (v := ?_) (a' := ?_) 5 16 (bz 8 63) rfl rfl HT_ (by kernel_rfl) (fun _ _ _ h => h) (by rfl) ?_ ?_ ?_
  rotate_left;(intro w';go_simp;with_reducible rfl);rotate_left;(simp only [Act.put,ls_,lz_,lc_,i64_w,i32_w];rfl)
  refine on_ (N := none) 6 (bz 8 127) rfl rfl HT_ (by kernel_rfl) (by decide) (fun K hK => ?_)
  have hs19 : w18.cell? ⟨gb190,0,none⟩ = some (.int .i64 0) := (kc_ BK190.out 0).trans rfl
  have hfs19 := kf_ BK190.out 0
  have hns19_0 := NB188_190.out
  have hns19_1 := NB189_190.out
  have hms19_0 := NB190_188.out
  have hms19_1 := NB190_189.out
  have hs20 : w18.cell? ⟨gb190,1,none⟩ = some (.int .i64 0) := (kc_ BK190.out 1).trans rfl
  have hfs20 := kf_ BK190.out 1
  have hns20_0 := NB188_190.out
  have hns20_1 := NB189_190.out
  have hms20_0 := NB190_188.out
  have hms20_1 := NB190_189.out
  refine skip_ (w1 := ?_) (by rfl) rfl ?_ ?_
  rotate_left
  ·go_simp
   rfl
  refine hK.out _ _ ⟨((cell_far (p := ⟨gb190,_,none⟩) NB188_190.out _).trans (((cell_far (p := ⟨gb190,_,none⟩) NB188_190.out _).trans (hHeld.1)))),((cell_far (p := ⟨gb190,_,none⟩) NB188_190.out _).trans (((cell_far (p := ⟨gb190,_,none⟩) NB188_190.out _).trans (hHeld.2.1)))),((cell_far (p := ⟨gb190,_,none⟩) NB189_190.out _).trans (((cell_far (p := ⟨gb190,_,none⟩) NB189_190.out _).trans (hHeld.2.2.1)))),((cell_far (p := ⟨gb190,_,none⟩) NB189_190.out _).trans (((cell_far (p := ⟨gb190,_,none⟩) NB189_190.out _).trans (hHeld.2.2.2))))⟩ (fun hHeld => ?_)
  clear hK K
  refine pu_ (v := ?_) (a' := ?_) 7 5 (bz 8 255) rfl rfl HT_ (by kernel_rfl) (fun _ _ _ h => h) (by rfl) ?_ ?_ ?_
  rotate_left;(intro w';go_simp;with_reducible rfl);rotate_left;(simp only [Act.put,ls_,lz_,lc_,i64_w,i32_w];rfl)
  refine done_ (done_of HT_.out (by kernel_rfl)) ?_
  try go_wp2
  refine bodyPost_ret (results_ct rfl _ _ gb190 25 #[.int .i64 t194,.int .i64 t195] (0,0) _ rfl (by (with_reducible repeat first|apply kn_|apply kd_|apply ka_);refine blk_put (cs := #[.int .i64 t194,.int .i64 0]) ?_ 1 _ rfl;(with_reducible repeat first|apply kn_|apply kd_|apply ka_);refine blk_put (cs := #[.int .i64 0,.int .i64 0]) ?_ 0 _ rfl;(with_reducible repeat first|apply kn_|apply kd_|apply ka_);exact BK190.out) Tryd.underlying25 rfl (by kernel_rfl)) rfl ?_
  exact ⟨by first|rfl|(simp [errW_none,errW_some] <;> rfl)|(simp [*,errW_none,errW_some] <;> rfl),by repeat (first|(with_reducible first|exact HB.out|apply ba_|apply pd_|apply d1_|refine bs_ ?_ GE188.out|refine bs_ ?_ GE189.out|refine bs_ ?_ GE190.out)|exact HB.out)⟩
 ·replace c4 := bf_ c4
  subst c4
  have H1 : ((rat_zero.f).bind fun bt197 => (some (bt197.1,bt197.2,2))) = some (r1,r2,r3) := by rw [if_neg (show ¬ (false = true) by decide)] at H;exact H
  clear H;have H := H1;clear H1
  replace H := ob_ H
  obtain ⟨⟨t197,t198⟩,A210,H⟩ := H
  replace H : (some (t197,t198,2)) = some (r1,r2,r3) := H
  have A21 := sd_ A210
  clear A210
  simp only [Option.some.injEq,Prod.mk.injEq] at H
  obtain ⟨rfl,rfl,rfl⟩ := H
  go_enter Tryd.func36,Tryd.ntmps36
  go_wp2_with (first|((with_reducible refine gate_dst (N := 2) rfl ?_);refine box_event ?hg (N := 2) ?hd (cs := #[.int .i64 a0_0,.int .i64 a0_1]) (t := 25) ?hr ?_;(case hd => rfl);(case hg => rfl);(case hr => first|(go_simp;done)|(go_simp;rfl));intro gb188 hg w22 hbox hb;have BK188 := sd_ hbox;have GW188 := gw_ HB e0_ hg;have GE188 := GW188;replace HB := hb_ HB e0_ hb;clear hb hbox hg)|((with_reducible refine gate_dst (N := 3) rfl ?_);refine box_event ?hg (N := 3) ?hd (cs := #[.int .i64 a1_0,.int .i64 a1_1]) (t := 25) ?hr ?_;(case hd => rfl);(case hg => rfl);(case hr => first|(go_simp;done)|(go_simp;rfl));intro gb189 hg w23 hbox hb;have BK189 := sd_ hbox;have GW189 := gw_ HB (e_ GE188 e0_) hg;have GE189 := GW189;have NB188_189 := nb_ BK188 hg;have NB189_188 := sy_ NB188_189;replace BK188 := kb_ BK188 hb;replace HB := hb_ HB (e_ GE188 e0_) hb;clear hb hbox hg)|((with_reducible refine gate_dst (N := 4) rfl ?_);refine box_event ?hg (N := 4) ?hd (cs := #[.int .i64 0,.int .i64 0]) (t := 25) ?hr ?_;(case hd => rfl);(case hg => rfl);(case hr => first|(go_simp;done)|(go_simp;rfl));intro gb190 hg w24 hbox hb;have BK190 := sd_ hbox;have GW190 := gw_ HB (e_ GE188 (e_ GE189 e0_)) hg;have GE190 := GW190;have NB188_190 := nb_ BK188 hg;have NB190_188 := sy_ NB188_190;have NB189_190 := nb_ BK189 hg;have NB190_189 := sy_ NB189_190;replace BK188 := kb_ BK188 hb;replace BK189 := kb_ BK189 hb;replace HB := hb_ HB (e_ GE188 (e_ GE189 e0_)) hb;clear hb hbox hg;have hnb25 := NB188_189.out;have hnc25 := NB189_188.out;have hnb26 := NB188_190.out;have hnc26 := NB190_188.out;have hcz27_0 : w24.cell? ⟨gb188,0,none⟩ = some (.int .i64 a0_0) := (kc_ BK188.out 0).trans rfl;have hcz27_1 : w24.cell? ⟨gb188,1,none⟩ = some (.int .i64 a0_1) := (kc_ BK188.out 1).trans rfl;have hfz27_0 := kf_ BK188.out 0;have hfz27_1 := kf_ BK188.out 1;have hnb28 := NB189_190.out;have hnc28 := NB190_189.out;have hcz29_0 : w24.cell? ⟨gb189,0,none⟩ = some (.int .i64 a1_0) := (kc_ BK189.out 0).trans rfl;have hcz29_1 : w24.cell? ⟨gb189,1,none⟩ = some (.int .i64 a1_1) := (kc_ BK189.out 1).trans rfl;have hfz29_0 := kf_ BK189.out 0;have hfz29_1 := kf_ BK189.out 1)|((with_reducible refine gate_callee (f := 61) rfl ?_);refine goesL_ (some 8) rfl rfl Tryd.func61 (by kernel_rfl) rfl #[.agg #[.int .i64 a0_0,.int .i64 a0_1],.agg #[.int .i64 a1_0,.int .i64 a1_1]] rfl (by (try simp only [lm_,lq_,lx_]);first|done|rfl|(simp only [ld_,lt_];rfl)) ?_;(with_reducible refine (rat_both.calls k a0_0 a0_1 a1_0 a1_1 false _ A3.out).mono ?_);rintro e w30 ⟨rfl,hb⟩;refine ⟨_,rfl,?_⟩;replace BK188 := kb_ BK188 hb;replace BK189 := kb_ BK189 hb;replace BK190 := kb_ BK190 hb;replace HB := hb_ HB (e_ GE188 (e_ GE189 (e_ GE190 e0_))) hb;(try clear hb);(try clear hb2);(try clear hk);(try clear hi))|((with_reducible refine gate_callee (f := 47) rfl ?_);refine goesL_ (some 10) rfl rfl Tryd.func47 (by kernel_rfl) rfl #[] rfl (by (try simp only [lm_,lq_,lx_]);first|done|rfl|(simp only [ld_,lt_];rfl)) ?_;(with_reducible refine (rat_zero.calls  t197 t198 _ A21.out).mono ?_);rintro e w31 ⟨rfl,hb⟩;refine ⟨_,rfl,?_⟩;replace BK188 := kb_ BK188 hb;replace BK189 := kb_ BK189 hb;replace BK190 := kb_ BK190 hb;replace HB := hb_ HB (e_ GE188 (e_ GE189 (e_ GE190 e0_))) hb;(try clear hb);(try clear hb2);(try clear hk);(try clear hi);have hcz32_0 : w31.cell? ⟨gb190,0,none⟩ = some (.int .i64 0) := (kc_ BK190.out 0).trans rfl;have hcz32_1 : w31.cell? ⟨gb190,1,none⟩ = some (.int .i64 0) := (kc_ BK190.out 1).trans rfl;have hfz32_0 := kf_ BK190.out 0;have hfz32_1 := kf_ BK190.out 1))
  refine bodyPost_ret (results_ct rfl _ _ gb190 25 #[.int .i64 t197,.int .i64 t198] (0,0) _ rfl (by (with_reducible repeat first|apply kn_|apply kd_|apply ka_);refine blk_put (cs := #[.int .i64 t197,.int .i64 0]) ?_ 1 _ rfl;(with_reducible repeat first|apply kn_|apply kd_|apply ka_);refine blk_put (cs := #[.int .i64 0,.int .i64 0]) ?_ 0 _ rfl;(with_reducible repeat first|apply kn_|apply kd_|apply ka_);exact BK190.out) Tryd.underlying25 rfl (by kernel_rfl)) rfl ?_
  exact ⟨by first|rfl|(simp [errW_none,errW_some] <;> rfl)|(simp [*,errW_none,errW_some] <;> rfl),by repeat (first|(with_reducible first|exact HB.out|apply ba_|apply pd_|apply d1_|refine bs_ ?_ GE188.out|refine bs_ ?_ GE189.out|refine bs_ ?_ GE190.out)|exact HB.out)⟩

/-! ### dur_Split: function 12 -/
mutual
def dur_Split.j0 : Nat → Bool → Int → Int → Option ((List (S23)) × Bool)
 | 0, _, _, _ => none
 | k + 1, x17, x200000, x200001 => if x17 = true then (some (([] : List (S23)), false)) else (dur_Split.l0 k ([] : List (S23)) x200000 x200001)
def dur_Split.l0 : Nat → List (S23) → Int → Int → Option ((List (S23)) × Bool)
 | 0, _, _, _ => none
 | k + 1, x4, x200000, x200001 => if x200000 > 0 then ((dur_longestIn.f k x200000 x200001).bind fun bt201 => ((rat_Sub.f k x200000 x200001 bt201.2.2.1 bt201.2.2.2.1).bind fun bt208 => (if bt201.2.2.2.2 = true then (if bt208.2.2 = 0 then (if (x4.length : Int) = 64 then (some (([] : List (S23)), false)) else (if x4.length < 8796093022208 then (dur_Split.l0 k (x4 ++ [(⟨bt201.1, bt201.2.1⟩ : S23)]) bt208.1 bt208.2.1) else (none))) else (some (([] : List (S23)), false))) else (some (([] : List (S23)), false))))) else (some (x4, true))
end
def dur_Split.f (k : Nat) (a0_0 : Int) (a0_1 : Int) : Option ((List (S23)) × Bool) := (rat_Check.f k a0_0 a0_1).bind fun t200 => (if t200 = true then (dur_Split.j0 k (decide (a0_0 ≤ 0)) a0_0 a0_1) else (dur_Split.j0 k true a0_0 a0_1))
theorem dur_Split.mono_l : ∀ k, (∀ y0 y1 y2, LeO (dur_Split.j0 k y0 y1 y2) (dur_Split.j0 (k + 1) y0 y1 y2)) ∧ (∀ y0 y1 y2, LeO (dur_Split.l0 k y0 y1 y2) (dur_Split.l0 (k + 1) y0 y1 y2))
 | 0 => ⟨fun _ _ _ r h => by simp [dur_Split.j0] at h, fun _ _ _ r h => by simp [dur_Split.l0] at h⟩
 | k + 1 => by
  obtain ⟨ih0,ih1⟩ := dur_Split.mono_l k
  refine ⟨?_,?_⟩
  ·intro y0 y1 y2
   unfold dur_Split.j0
   repeat' first
   | (with_reducible exact ih0 _ _ _)
   | (with_reducible exact ih1 _ _ _)
   | (with_reducible exact dur_longestIn.mono _ _ _)
   | (with_reducible exact rat_Check.mono _ _ _)
   | (with_reducible exact rat_Sub.mono _ _ _ _ _)
   | (with_reducible exact LeO.refl _)
   | (with_reducible exact LeO.none _)
   | (with_reducible refine LeO.ite ?_ ?_)
   | (with_reducible refine LeO.bind ?_ (fun _ => ?_))
   | exact ih0 _ _ _
   | exact ih1 _ _ _
   | exact dur_longestIn.mono _ _ _
   | exact rat_Check.mono _ _ _
   | exact rat_Sub.mono _ _ _ _ _
   | exact LeO.none _
   | refine LeO.ite ?_ ?_
   | refine LeO.bind ?_ (fun _ => ?_)
  ·intro y0 y1 y2
   unfold dur_Split.l0
   repeat' first
   | (with_reducible exact ih0 _ _ _)
   | (with_reducible exact ih1 _ _ _)
   | (with_reducible exact dur_longestIn.mono _ _ _)
   | (with_reducible exact rat_Check.mono _ _ _)
   | (with_reducible exact rat_Sub.mono _ _ _ _ _)
   | (with_reducible exact LeO.refl _)
   | (with_reducible exact LeO.none _)
   | (with_reducible refine LeO.ite ?_ ?_)
   | (with_reducible refine LeO.bind ?_ (fun _ => ?_))
   | exact ih0 _ _ _
   | exact ih1 _ _ _
   | exact dur_longestIn.mono _ _ _
   | exact rat_Check.mono _ _ _
   | exact rat_Sub.mono _ _ _ _ _
   | exact LeO.none _
   | refine LeO.ite ?_ ?_
   | refine LeO.bind ?_ (fun _ => ?_)
theorem dur_Split.mono : ∀ a0 a1 k, LeO (dur_Split.f k a0 a1) (dur_Split.f (k + 1) a0 a1) := by
 intro a0 a1 k
 obtain ⟨ih0,ih1⟩ := dur_Split.mono_l k
 unfold dur_Split.f
 repeat' first
   | (with_reducible exact ih0 _ _ _)
   | (with_reducible exact ih1 _ _ _)
   | (with_reducible exact dur_longestIn.mono _ _ _)
   | (with_reducible exact rat_Check.mono _ _ _)
   | (with_reducible exact rat_Sub.mono _ _ _ _ _)
   | (with_reducible exact LeO.refl _)
   | (with_reducible exact LeO.none _)
   | (with_reducible refine LeO.ite ?_ ?_)
   | (with_reducible refine LeO.bind ?_ (fun _ => ?_))
   | exact ih0 _ _ _
   | exact ih1 _ _ _
   | exact dur_longestIn.mono _ _ _
   | exact rat_Check.mono _ _ _
   | exact rat_Sub.mono _ _ _ _ _
   | exact LeO.none _
   | refine LeO.ite ?_ ?_
   | refine LeO.bind ?_ (fun _ => ?_)
set_option maxHeartbeats 8000000 in
set_option maxRecDepth 100000 in
theorem dur_Split.calls (k : Nat) (a0_0 : Int) (a0_1 : Int) (r1 : List (S23)) (r2 : Bool) (w : World) (h : dur_Split.f k a0_0 a0_1 = some (r1, r2)) :
  Calls Tryd.prog 12 #[.agg #[.int .i64 a0_0,.int .i64 a0_1]] w fun e w' => ∃ v0_ : Value,e = .returned (.tuple #[v0_,.bool r2]) ∧ Kd.R k23 23 w' w.heap.size (fun _ => True) v0_ r1 ∧ Below w.heap.size w w' := by
 have hu25 := Tryd.underlying25
 have hu23 := Tryd.underlying23
 have HB := sd_ (Below.refl w.heap.size w)
 have H : ((rat_Check.f k a0_0 a0_1).bind fun t200 => (if t200 = true then (dur_Split.j0 k (decide (a0_0 ≤ 0)) a0_0 a0_1) else (dur_Split.j0 k true a0_0 a0_1))) = some (r1,r2) := h
 clear h
 have HC2 := sd_ H
 clear H
 go_enter Tryd.func12,Tryd.ntmps12
 go_upto_region 1 with (first|((with_reducible refine gate_dst (N := 1) rfl ?_);(try (refine gate_guard (by rfl) ?_;dsimp only));refine box_event ?hg (N := 1) ?hd (cs := #[.int .i64 a0_0,.int .i64 a0_1]) (t := 25) ?hr ?_;(case hd => rfl);(case hg => rfl);(case hr => first|(go_simp;done)|(go_simp;rfl));intro gb199 hg w3 hbox hb;have BK199 := sd_ hbox;have GW199 := gw_ HB e0_ hg;have GE199 := GW199;replace HB := hb_ HB e0_ hb;clear hb hbox hg))
 (try simp only [Act.put,ls_,lz_,lc_])
 go_cut [17] (fun v17 wc => ∃ (kq : Nat) (x17_1 : Bool),v17 = .bool x17_1 ∧ Aside0 (dur_Split.j0 kq x17_1 a0_0 a0_1 = some (r1,r2)) ∧ Aside0 (kq ≤ k) ∧ Aside0 (wc.heap[gb199]? = some (.cells #[.int .i64 a0_0,.int .i64 a0_1] 25 (0,0))) ∧ Aside0 (Below w.heap.size w wc))
 case first =>
  have H := HC2.out
  clear HC2
  replace H := ob_ H
  obtain ⟨t200,A40,H⟩ := H
  replace H : (if t200 = true then (dur_Split.j0 k (decide (a0_0 ≤ 0)) a0_0 a0_1) else (dur_Split.j0 k true a0_0 a0_1)) = some (r1,r2) := H
  have A4 := sd_ A40
  clear A40
  by_cases c5 : t200 = true
  ·subst c5
   have H1 : (dur_Split.j0 k (decide (a0_0 ≤ 0)) a0_0 a0_1) = some (r1,r2) := by rw [if_pos rfl] at H;exact H
   clear H;have H := H1;clear H1
   have H' := sd_ H
   clear H
   have hcz6_0 : w3.cell? ⟨gb199,0,none⟩ = some (.int .i64 a0_0) := (kc_ BK199.out 0).trans rfl
   have hcz6_1 : w3.cell? ⟨gb199,1,none⟩ = some (.int .i64 a0_1) := (kc_ BK199.out 1).trans rfl
   have hfz6_0 := kf_ BK199.out 0
   have hfz6_1 := kf_ BK199.out 1
   go_wp2_with (first|((with_reducible refine gate_callee (f := 34) rfl ?_);refine goesL_ (some 11) rfl rfl Tryd.func34 (by kernel_rfl) rfl #[.agg #[.int .i64 a0_0,.int .i64 a0_1]] rfl (by (try simp only [lm_,lq_,lx_]);first|done|rfl|(simp only [ld_,lt_];rfl)) ?_;(with_reducible refine (rat_Check.calls k a0_0 a0_1 true _ A4.out).mono ?_);rintro e w7 ⟨rfl,hb⟩;refine ⟨_,rfl,?_⟩;replace BK199 := kb_ BK199 hb;replace HB := hb_ HB (e_ GE199 e0_) hb;(try clear hb);(try clear hb2);(try clear hk);(try clear hi);have hcz8_0 : w7.cell? ⟨gb199,0,none⟩ = some (.int .i64 a0_0) := (kc_ BK199.out 0).trans rfl;have hcz8_1 : w7.cell? ⟨gb199,1,none⟩ = some (.int .i64 a0_1) := (kc_ BK199.out 1).trans rfl;have hfz8_0 := kf_ BK199.out 0;have hfz8_1 := kf_ BK199.out 1))
   go_meet
   case rel => exact ⟨_,(decide (a0_0 ≤ 0)),(by first|rfl|(simp;done)|(simp [*];done)|(simp [bne];done)),H',⟨by first|omega|exact Nat.le_refl _⟩,⟨by (with_reducible repeat first|apply kn_|apply kd_|apply ka_);exact BK199.out⟩,⟨by repeat (first|(with_reducible first|exact HB.out|apply ba_|apply pd_|apply d1_|refine bs_ ?_ GE199.out)|exact HB.out)⟩⟩
  ·replace c5 := bf_ c5
   subst c5
   have H1 : (dur_Split.j0 k true a0_0 a0_1) = some (r1,r2) := by rw [if_neg (show ¬ (false = true) by decide)] at H;exact H
   clear H;have H := H1;clear H1
   have H' := sd_ H
   clear H
   have hcz9_0 : w3.cell? ⟨gb199,0,none⟩ = some (.int .i64 a0_0) := (kc_ BK199.out 0).trans rfl
   have hcz9_1 : w3.cell? ⟨gb199,1,none⟩ = some (.int .i64 a0_1) := (kc_ BK199.out 1).trans rfl
   have hfz9_0 := kf_ BK199.out 0
   have hfz9_1 := kf_ BK199.out 1
   go_wp2_with (first|((with_reducible refine gate_callee (f := 34) rfl ?_);refine goesL_ (some 11) rfl rfl Tryd.func34 (by kernel_rfl) rfl #[.agg #[.int .i64 a0_0,.int .i64 a0_1]] rfl (by (try simp only [lm_,lq_,lx_]);first|done|rfl|(simp only [ld_,lt_];rfl)) ?_;(with_reducible refine (rat_Check.calls k a0_0 a0_1 false _ A4.out).mono ?_);rintro e w10 ⟨rfl,hb⟩;refine ⟨_,rfl,?_⟩;replace BK199 := kb_ BK199 hb;replace HB := hb_ HB (e_ GE199 e0_) hb;(try clear hb);(try clear hb2);(try clear hk);(try clear hi)))
   go_meet
   case rel => exact ⟨_,(true),(by first|rfl|(simp;done)|(simp [*];done)|(simp [bne];done)),H',⟨by first|omega|exact Nat.le_refl _⟩,⟨by (with_reducible repeat first|apply kn_|apply kd_|apply ka_);exact BK199.out⟩,⟨by repeat (first|(with_reducible first|exact HB.out|apply ba_|apply pd_|apply d1_|refine bs_ ?_ GE199.out)|exact HB.out)⟩⟩
 case rest =>
  clear HC2
  try clear c1;try clear p2;try clear c3;try clear c5;try clear hcz6_0;try clear hcz6_1;try clear hcz8_0;try clear hcz8_1;try clear hcz9_0;try clear hcz9_1;try clear hfz6_0;try clear hfz6_1;try clear hfz8_0;try clear hfz8_1;try clear hfz9_0;try clear hfz9_1
  obtain ⟨kq,x17_1,rfl,HA,HJ1,BK199,HB⟩ := hcut
  cases kq with
  | zero => exact absurd HA.out (by simp [dur_Split.j0])
  | succ kj1 =>
   have H := HA.out
   clear HA
   simp only [dur_Split.j0] at H
   by_cases c11 : x17_1 = true
   ·subst c11
    have H1 : (some (([] : List (S23)),false)) = some (r1,r2) := by rw [if_pos rfl] at H;exact H
    clear H;have H := H1;clear H1
    simp only [Option.some.injEq,Prod.mk.injEq] at H
    obtain ⟨rfl,rfl⟩ := H
    go_wp2
    go_ret2
    exact ⟨_,by first|rfl|(simp [errW_none,errW_some] <;> rfl)|(simp [*,errW_none,errW_some] <;> rfl),by first|exact Kd.R_nil _ _ _ _ _|exact Kd.N_nil _ _ _ _ _|exact Kd.V_nil _ _ _ _ _|exact Kd.Q_nil _ _ _ _ _|exact Kd.S_nil _ _ _ _ _,by repeat (first|(with_reducible first|exact HB.out|apply ba_|apply pd_|apply d1_|refine bs_ ?_ GE199.out)|exact HB.out)⟩
   ·replace c11 := bf_ c11
    subst c11
    have H1 : (dur_Split.l0 kj1 ([] : List (S23)) a0_0 a0_1) = some (r1,r2) := by rw [if_neg (show ¬ (false = true) by decide)] at H;exact H
    clear H;have H := H1;clear H1
    have H' := sd_ H
    clear H
    go_wp2
    go_loopg [4] kj1 (fun kq v4 w' => ∃ (x4_2 : List (S23)) (x200000_2 : Int) (x200001_2 : Int),Aside0 (dur_Split.l0 kq x4_2 x200000_2 x200001_2 = some (r1,r2)) ∧ Aside0 (kq ≤ kj1) ∧ Aside0 (Kd.R k23 23 w' w.heap.size (fun _ => True) v4 x4_2) ∧ Aside0 (w'.heap[gb199]? = some (.cells #[.int .i64 x200000_2,.int .i64 x200001_2] 25 (0,0))) ∧ Aside0 (Below w.heap.size w w'))
    case atStart => exact ⟨(([] : List (S23))),(a0_0),(a0_1),H',⟨Nat.le_refl _⟩,⟨by first|exact Kd.R_nil _ _ _ _ _|exact Kd.N_nil _ _ _ _ _|exact Kd.V_nil _ _ _ _ _|exact Kd.Q_nil _ _ _ _ _|exact Kd.S_nil _ _ _ _ _⟩,⟨by (with_reducible repeat first|apply kn_|apply kd_|apply ka_);exact BK199.out⟩,⟨by repeat (first|(with_reducible first|exact HB.out|apply ba_|apply pd_|apply d1_|refine bs_ ?_ GE199.out)|exact HB.out)⟩⟩
    case round =>
     clear H'
     try clear c1;try clear p2;try clear c3;try clear c5;try clear c11;try clear hcz6_0;try clear hcz6_1;try clear hcz8_0;try clear hcz8_1;try clear hcz9_0;try clear hcz9_1;try clear hfz6_0;try clear hfz6_1;try clear hfz8_0;try clear hfz8_1;try clear hfz9_0;try clear hfz9_1;try clear p2
     obtain ⟨x4_2,x200000_2,x200001_2,HA,HK2,HO_4,BK199,HB⟩ := hrel
     cases gk with
     | zero => exact absurd HA.out (by simp [dur_Split.l0])
     | succ k2 =>
      have H := HA.out
      clear HA
      simp only [dur_Split.l0] at H
      by_cases c12 : x200000_2 > 0
      ·rw [if_pos c12] at H
       have c12b0 : decide (0 < x200000_2) = true := dt_ c12
       clear c12
       replace H := ob_ H
       obtain ⟨⟨t201,t202,t203,t204,t205⟩,A130,H⟩ := H
       try dsimp only at H
       have A13 := sd_ A130
       clear A130
       replace H := ob_ H
       obtain ⟨⟨t208,t209,t210⟩,A140,H⟩ := H
       try dsimp only at H
       have A14 := sd_ A140
       clear A140
       by_cases c15 : t205 = true
       ·subst c15
        have H1 : (if t210 = 0 then (if (x4_2.length : Int) = 64 then (some (([] : List (S23)),false)) else (if x4_2.length < 8796093022208 then (dur_Split.l0 k2 (x4_2 ++ [(⟨t201,t202⟩ : S23)]) t208 t209) else (none))) else (some (([] : List (S23)),false))) = some (r1,r2) := by rw [if_pos rfl] at H;exact H
        clear H;have H := H1;clear H1
        by_cases c16 : t210 = 0
        ·rw [if_pos c16] at H
         have c16b0 : (t210 == 0) = true := beq_iff_eq.mpr c16
         have c16b1 : (t210 != 0) = false := bne_eq_false_iff_eq.mpr c16
         clear c16
         by_cases c17 : (x4_2.length : Int) = 64
         ·rw [if_pos c17] at H
          have c17b0 : ((x4_2.length : Int) == 64) = true := beq_iff_eq.mpr c17
          have c17b1 : ((x4_2.length : Int) != 64) = false := bne_eq_false_iff_eq.mpr c17
          clear c17
          simp only [Option.some.injEq,Prod.mk.injEq] at H
          obtain ⟨rfl,rfl⟩ := H
          have hcz18_0 : wr.cell? ⟨gb199,0,none⟩ = some (.int .i64 x200000_2) := (kc_ BK199.out 0).trans rfl
          have hcz18_1 : wr.cell? ⟨gb199,1,none⟩ = some (.int .i64 x200001_2) := (kc_ BK199.out 1).trans rfl
          have hfz18_0 := kf_ BK199.out 0
          have hfz18_1 := kf_ BK199.out 1
          go_wp2_with (first|((with_reducible refine gate_callee (f := 35) rfl ?_);refine goesL_ (some 23) rfl rfl Tryd.func35 (by kernel_rfl) rfl #[.agg #[.int .i64 x200000_2,.int .i64 x200001_2]] rfl (by (try simp only [lm_,lq_,lx_]);first|done|rfl|(simp only [ld_,lt_];rfl)) ?_;(with_reducible refine (dur_longestIn.calls k2 x200000_2 x200001_2 t201 t202 t203 t204 true _ A13.out).mono ?_);rintro e w19 ⟨rfl,hb⟩;refine ⟨_,rfl,?_⟩;replace HO_4 := sd_ (Kd.R_below (by (with_reducible repeat (first|apply Kd.R_alloc|apply Kd.R_drewN|apply Kd.R_drew));exact HO_4.out) hb);replace BK199 := kb_ BK199 hb;replace HB := hb_ HB (e_ GE199 e0_) hb;(try clear hb);(try clear hb2);(try clear hk);(try clear hi))|((with_reducible refine gate_dst (N := 5) rfl ?_);(try (refine gate_guard (by rfl) ?_;dsimp only));refine box_event ?hg (N := 5) ?hd (cs := #[.int .i64 0,.int .i64 0]) (t := 23) ?hr ?_;(case hd => rfl);(case hg => rfl);(case hr => first|(go_simp;done)|(go_simp;rfl));intro gb206 hg w20 hbox hb;have BK206 := sd_ hbox;have GW206 := gw_ HB (e_ GE199 e0_) hg;have GE206 := GW206;have NB199_206 := nb_ BK199 hg;have NB206_199 := sy_ NB199_206;replace HO_4 := sd_ (Kd.R_below (Kd.R_elderB (by (with_reducible repeat (first|apply Kd.R_alloc|apply Kd.R_drewN|apply Kd.R_drew));exact HO_4.out) gb206 (Nat.le_of_eq hg.symm)) hb);replace BK199 := kb_ BK199 hb;replace HB := hb_ HB (e_ GE199 e0_) hb;clear hb hbox hg)|((with_reducible refine gate_dst (N := 6) rfl ?_);(try (refine gate_guard (by rfl) ?_;dsimp only));refine box_event ?hg (N := 6) ?hd (cs := #[.int .i64 0,.int .i64 0]) (t := 25) ?hr ?_;(case hd => rfl);(case hg => rfl);(case hr => first|(go_simp;done)|(go_simp;rfl));intro gb207 hg w21 hbox hb;have BK207 := sd_ hbox;have GW207 := gw_ HB (e_ GE199 (e_ GE206 e0_)) hg;have GE207 := GW207;have NB199_207 := nb_ BK199 hg;have NB207_199 := sy_ NB199_207;have NB206_207 := nb_ BK206 hg;have NB207_206 := sy_ NB206_207;replace HO_4 := sd_ (Kd.R_below (by (with_reducible repeat (first|apply Kd.R_alloc|apply Kd.R_drewN|apply Kd.R_drew));exact HO_4.out) hb);replace BK199 := kb_ BK199 hb;replace BK206 := kb_ BK206 hb;replace HB := hb_ HB (e_ GE199 (e_ GE206 e0_)) hb;clear hb hbox hg;have hnb22 := NB206_199.out;have hnc22 := NB199_206.out;have hnb23 := NB206_207.out;have hnc23 := NB207_206.out;have hcz24_0 : w21.cell? ⟨gb206,0,none⟩ = some (.int .i64 0) := (kc_ BK206.out 0).trans rfl;have hcz24_1 : w21.cell? ⟨gb206,1,none⟩ = some (.int .i64 0) := (kc_ BK206.out 1).trans rfl;have hfz24_0 := kf_ BK206.out 0;have hfz24_1 := kf_ BK206.out 1;have hnb25 := NB207_199.out;have hnc25 := NB199_207.out;have hcz26_0 : w21.cell? ⟨gb207,0,none⟩ = some (.int .i64 0) := (kc_ BK207.out 0).trans rfl;have hcz26_1 : w21.cell? ⟨gb207,1,none⟩ = some (.int .i64 0) := (kc_ BK207.out 1).trans rfl;have hfz26_0 := kf_ BK207.out 0;have hfz26_1 := kf_ BK207.out 1;have hcz27_0 : w21.cell? ⟨gb199,0,none⟩ = some (.int .i64 x200000_2) := (kc_ BK199.out 0).trans rfl;have hcz27_1 : w21.cell? ⟨gb199,1,none⟩ = some (.int .i64 x200001_2) := (kc_ BK199.out 1).trans rfl;have hfz27_0 := kf_ BK199.out 0;have hfz27_1 := kf_ BK199.out 1)|((with_reducible refine gate_callee (f := 36) rfl ?_);refine goesL_ (some 30) rfl rfl Tryd.func36 (by kernel_rfl) rfl #[.agg #[.int .i64 x200000_2,.int .i64 x200001_2],.agg #[.int .i64 t203,.int .i64 t204]] rfl (by (try simp only [lm_,lq_,lx_]);first|done|rfl|(simp only [ld_,lt_];rfl)) ?_;(with_reducible refine (rat_Sub.calls k2 x200000_2 x200001_2 t203 t204 t208 t209 t210 _ A14.out).mono ?_);rintro e w28 ⟨rfl,hb⟩;refine ⟨_,rfl,?_⟩;have n0_ := sd_ (Kd.R_below (by (with_reducible repeat (first|apply Kd.R_alloc|apply Kd.R_drewN|apply Kd.R_drew));exact (Kd.R_mono (Kd.R_mono (Kd.R_far (p := ⟨gb207,1,none⟩) (Kd.R_far (p := ⟨gb207,0,none⟩) (Kd.R_far (p := ⟨gb206,1,none⟩) (Kd.R_far (p := ⟨gb206,0,none⟩) (Kd.R_types (Kd.R_mono HO_4.out (fun k_ hk => (⟨hk,hk.2⟩ : _ ∧ k_ ≠ gb206))) BK207.out (by decide)) (fun _ hk => hk.1.2) (.int .i64 t201)) (fun _ hk => hk.1.2) (.int .i64 t202)) (fun _ hk => hk.2) (.int .i64 t203)) (fun _ hk => hk.2) (.int .i64 t204)) (fun _ h_ => h_.1)) (fun _ h_ => h_.1))) hb);have n1_ := sd_ (blk_below (g := gb199) (o := .cells #[.int .i64 x200000_2,.int .i64 x200001_2] 25 (0,0)) (by (with_reducible repeat first|apply kn_|apply kd_|apply ka_);refine blk_far ?_ NB199_207.out _;(with_reducible repeat first|apply kn_|apply kd_|apply ka_);refine blk_far ?_ NB199_207.out _;(with_reducible repeat first|apply kn_|apply kd_|apply ka_);refine blk_far ?_ NB199_206.out _;(with_reducible repeat first|apply kn_|apply kd_|apply ka_);refine blk_far ?_ NB199_206.out _;(with_reducible repeat first|apply kn_|apply kd_|apply ka_);exact BK199.out) hb);have n2_ := sd_ (blk_below (g := gb206) (o := .cells #[.int .i64 t201,.int .i64 t202] 23 (0,0)) (by (with_reducible repeat first|apply kn_|apply kd_|apply ka_);refine blk_far ?_ NB206_207.out _;(with_reducible repeat first|apply kn_|apply kd_|apply ka_);refine blk_far ?_ NB206_207.out _;(with_reducible repeat first|apply kn_|apply kd_|apply ka_);refine blk_put (cs := #[.int .i64 t201,.int .i64 0]) ?_ 1 _ rfl;(with_reducible repeat first|apply kn_|apply kd_|apply ka_);refine blk_put (cs := #[.int .i64 0,.int .i64 0]) ?_ 0 _ rfl;(with_reducible repeat first|apply kn_|apply kd_|apply ka_);exact BK206.out) hb);have n3_ := sd_ (blk_below (g := gb207) (o := .cells #[.int .i64 t203,.int .i64 t204] 25 (0,0)) (by (with_reducible repeat first|apply kn_|apply kd_|apply ka_);refine blk_put (cs := #[.int .i64 t203,.int .i64 0]) ?_ 1 _ rfl;(with_reducible repeat first|apply kn_|apply kd_|apply ka_);refine blk_put (cs := #[.int .i64 0,.int .i64 0]) ?_ 0 _ rfl;(with_reducible repeat first|apply kn_|apply kd_|apply ka_);refine blk_far ?_ NB207_206.out _;(with_reducible repeat first|apply kn_|apply kd_|apply ka_);refine blk_far ?_ NB207_206.out _;(with_reducible repeat first|apply kn_|apply kd_|apply ka_);exact BK207.out) hb);have n4_ := hb_ HB (e_ GE199 (e_ GE206 (e_ GE207 e0_))) hb;clear HO_4;clear BK199;clear BK206;clear BK207;clear HB;have HO_4 := n0_;have BK199 := n1_;have BK206 := n2_;have BK207 := n3_;have HB := n4_;clear n0_ n1_ n2_ n3_ n4_;(try clear hb);(try clear hb2);(try clear hk);(try clear hi))|((with_reducible refine gate_dst (N := 8) rfl ?_);(try (refine gate_guard (by rfl) ?_;dsimp only));refine box_event ?hg (N := 8) ?hd (cs := #[.int .i64 0,.int .i64 0]) (t := 25) ?hr ?_;(case hd => rfl);(case hg => rfl);(case hr => first|(go_simp;done)|(go_simp;rfl));intro gb211 hg w29 hbox hb;have BK211 := sd_ hbox;have GW211 := gw_ HB (e_ GE199 (e_ GE206 (e_ GE207 e0_))) hg;have GE211 := GW211;have NB199_211 := nb_ BK199 hg;have NB211_199 := sy_ NB199_211;have NB206_211 := nb_ BK206 hg;have NB211_206 := sy_ NB206_211;have NB207_211 := nb_ BK207 hg;have NB211_207 := sy_ NB207_211;replace HO_4 := sd_ (Kd.R_below (by (with_reducible repeat (first|apply Kd.R_alloc|apply Kd.R_drewN|apply Kd.R_drew));exact HO_4.out) hb);replace BK199 := kb_ BK199 hb;replace BK206 := kb_ BK206 hb;replace BK207 := kb_ BK207 hb;replace HB := hb_ HB (e_ GE199 (e_ GE206 (e_ GE207 e0_))) hb;clear hb hbox hg;have hnb30 := NB211_199.out;have hnc30 := NB199_211.out;have hnb31 := NB211_206.out;have hnc31 := NB206_211.out;have hnb32 := NB211_207.out;have hnc32 := NB207_211.out;have hcz33_0 : w29.cell? ⟨gb211,0,none⟩ = some (.int .i64 0) := (kc_ BK211.out 0).trans rfl;have hcz33_1 : w29.cell? ⟨gb211,1,none⟩ = some (.int .i64 0) := (kc_ BK211.out 1).trans rfl;have hfz33_0 := kf_ BK211.out 0;have hfz33_1 := kf_ BK211.out 1;obtain ⟨Ao34,co34,eo34⟩ := Kd.R_slice HO_4.out;subst eo34))
          go_ret2
          exact ⟨_,by first|rfl|(simp [errW_none,errW_some] <;> rfl)|(simp [*,errW_none,errW_some] <;> rfl),by first|exact Kd.R_nil _ _ _ _ _|exact Kd.N_nil _ _ _ _ _|exact Kd.V_nil _ _ _ _ _|exact Kd.Q_nil _ _ _ _ _|exact Kd.S_nil _ _ _ _ _,by repeat (first|(with_reducible first|exact HB.out|apply ba_|apply pd_|apply d1_|refine bs_ ?_ GE199.out|refine bs_ ?_ GE206.out|refine bs_ ?_ GE207.out|refine bs_ ?_ GE211.out)|exact HB.out)⟩
         ·rw [if_neg c17] at H
          have c17b0 : ((x4_2.length : Int) == 64) = false := beq_eq_false_iff_ne.mpr c17
          have c17b1 : ((x4_2.length : Int) != 64) = true := bne_iff_ne.mpr c17
          by_cases c35 : x4_2.length < 8796093022208
          ·rw [if_pos c35] at H
           have LMc35 := sd_ c35
           clear c35
           obtain ⟨y212,hy212⟩ : ∃ y_ : List (S23),y_ = (x4_2 ++ [(⟨t201,t202⟩ : S23)]) := ⟨_,rfl⟩
           replace H : (dur_Split.l0 k2 y212 t208 t209) = some (r1,r2) := by first|(rw [hy212];with_reducible exact H)|(have H2_ := (Option.bind_some _ _).symm.trans H;rw [hy212];with_reducible exact H2_)|(have H2_ := (Option.bind_some _ _).symm.trans H;with_reducible exact H2_)|with_reducible exact H|(rw [hy212];exact H)|exact H
           have Ny212 := sd_ hy212
           clear hy212
           have H' := sd_ H
           clear H
           have hcz36_0 : wr.cell? ⟨gb199,0,none⟩ = some (.int .i64 x200000_2) := (kc_ BK199.out 0).trans rfl
           have hcz36_1 : wr.cell? ⟨gb199,1,none⟩ = some (.int .i64 x200001_2) := (kc_ BK199.out 1).trans rfl
           have hfz36_0 := kf_ BK199.out 0
           have hfz36_1 := kf_ BK199.out 1
           go_wp2_with (first|((with_reducible refine gate_callee (f := 35) rfl ?_);refine goesL_ (some 23) rfl rfl Tryd.func35 (by kernel_rfl) rfl #[.agg #[.int .i64 x200000_2,.int .i64 x200001_2]] rfl (by (try simp only [lm_,lq_,lx_]);first|done|rfl|(simp only [ld_,lt_];rfl)) ?_;(with_reducible refine (dur_longestIn.calls k2 x200000_2 x200001_2 t201 t202 t203 t204 true _ A13.out).mono ?_);rintro e w37 ⟨rfl,hb⟩;refine ⟨_,rfl,?_⟩;replace HO_4 := sd_ (Kd.R_below (by (with_reducible repeat (first|apply Kd.R_alloc|apply Kd.R_drewN|apply Kd.R_drew));exact HO_4.out) hb);replace BK199 := kb_ BK199 hb;replace HB := hb_ HB (e_ GE199 e0_) hb;(try clear hb);(try clear hb2);(try clear hk);(try clear hi))|((with_reducible refine gate_dst (N := 5) rfl ?_);(try (refine gate_guard (by rfl) ?_;dsimp only));refine box_event ?hg (N := 5) ?hd (cs := #[.int .i64 0,.int .i64 0]) (t := 23) ?hr ?_;(case hd => rfl);(case hg => rfl);(case hr => first|(go_simp;done)|(go_simp;rfl));intro gb206 hg w38 hbox hb;have BK206 := sd_ hbox;have GW206 := gw_ HB (e_ GE199 e0_) hg;have GE206 := GW206;have NB199_206 := nb_ BK199 hg;have NB206_199 := sy_ NB199_206;replace HO_4 := sd_ (Kd.R_below (Kd.R_elderB (by (with_reducible repeat (first|apply Kd.R_alloc|apply Kd.R_drewN|apply Kd.R_drew));exact HO_4.out) gb206 (Nat.le_of_eq hg.symm)) hb);replace BK199 := kb_ BK199 hb;replace HB := hb_ HB (e_ GE199 e0_) hb;clear hb hbox hg)|((with_reducible refine gate_dst (N := 6) rfl ?_);(try (refine gate_guard (by rfl) ?_;dsimp only));refine box_event ?hg (N := 6) ?hd (cs := #[.int .i64 0,.int .i64 0]) (t := 25) ?hr ?_;(case hd => rfl);(case hg => rfl);(case hr => first|(go_simp;done)|(go_simp;rfl));intro gb207 hg w39 hbox hb;have BK207 := sd_ hbox;have GW207 := gw_ HB (e_ GE199 (e_ GE206 e0_)) hg;have GE207 := GW207;have NB199_207 := nb_ BK199 hg;have NB207_199 := sy_ NB199_207;have NB206_207 := nb_ BK206 hg;have NB207_206 := sy_ NB206_207;replace HO_4 := sd_ (Kd.R_below (by (with_reducible repeat (first|apply Kd.R_alloc|apply Kd.R_drewN|apply Kd.R_drew));exact HO_4.out) hb);replace BK199 := kb_ BK199 hb;replace BK206 := kb_ BK206 hb;replace HB := hb_ HB (e_ GE199 (e_ GE206 e0_)) hb;clear hb hbox hg;have hnb40 := NB206_199.out;have hnc40 := NB199_206.out;have hnb41 := NB206_207.out;have hnc41 := NB207_206.out;have hcz42_0 : w39.cell? ⟨gb206,0,none⟩ = some (.int .i64 0) := (kc_ BK206.out 0).trans rfl;have hcz42_1 : w39.cell? ⟨gb206,1,none⟩ = some (.int .i64 0) := (kc_ BK206.out 1).trans rfl;have hfz42_0 := kf_ BK206.out 0;have hfz42_1 := kf_ BK206.out 1;have hnb43 := NB207_199.out;have hnc43 := NB199_207.out;have hcz44_0 : w39.cell? ⟨gb207,0,none⟩ = some (.int .i64 0) := (kc_ BK207.out 0).trans rfl;have hcz44_1 : w39.cell? ⟨gb207,1,none⟩ = some (.int .i64 0) := (kc_ BK207.out 1).trans rfl;have hfz44_0 := kf_ BK207.out 0;have hfz44_1 := kf_ BK207.out 1;have hcz45_0 : w39.cell? ⟨gb199,0,none⟩ = some (.int .i64 x200000_2) := (kc_ BK199.out 0).trans rfl;have hcz45_1 : w39.cell? ⟨gb199,1,none⟩ = some (.int .i64 x200001_2) := (kc_ BK199.out 1).trans rfl;have hfz45_0 := kf_ BK199.out 0;have hfz45_1 := kf_ BK199.out 1)|((with_reducible refine gate_callee (f := 36) rfl ?_);refine goesL_ (some 30) rfl rfl Tryd.func36 (by kernel_rfl) rfl #[.agg #[.int .i64 x200000_2,.int .i64 x200001_2],.agg #[.int .i64 t203,.int .i64 t204]] rfl (by (try simp only [lm_,lq_,lx_]);first|done|rfl|(simp only [ld_,lt_];rfl)) ?_;(with_reducible refine (rat_Sub.calls k2 x200000_2 x200001_2 t203 t204 t208 t209 t210 _ A14.out).mono ?_);rintro e w46 ⟨rfl,hb⟩;refine ⟨_,rfl,?_⟩;have n0_ := sd_ (Kd.R_below (by (with_reducible repeat (first|apply Kd.R_alloc|apply Kd.R_drewN|apply Kd.R_drew));exact (Kd.R_mono (Kd.R_mono (Kd.R_far (p := ⟨gb207,1,none⟩) (Kd.R_far (p := ⟨gb207,0,none⟩) (Kd.R_far (p := ⟨gb206,1,none⟩) (Kd.R_far (p := ⟨gb206,0,none⟩) (Kd.R_types (Kd.R_mono HO_4.out (fun k_ hk => (⟨hk,hk.2⟩ : _ ∧ k_ ≠ gb206))) BK207.out (by decide)) (fun _ hk => hk.1.2) (.int .i64 t201)) (fun _ hk => hk.1.2) (.int .i64 t202)) (fun _ hk => hk.2) (.int .i64 t203)) (fun _ hk => hk.2) (.int .i64 t204)) (fun _ h_ => h_.1)) (fun _ h_ => h_.1))) hb);have n1_ := sd_ (blk_below (g := gb199) (o := .cells #[.int .i64 x200000_2,.int .i64 x200001_2] 25 (0,0)) (by (with_reducible repeat first|apply kn_|apply kd_|apply ka_);refine blk_far ?_ NB199_207.out _;(with_reducible repeat first|apply kn_|apply kd_|apply ka_);refine blk_far ?_ NB199_207.out _;(with_reducible repeat first|apply kn_|apply kd_|apply ka_);refine blk_far ?_ NB199_206.out _;(with_reducible repeat first|apply kn_|apply kd_|apply ka_);refine blk_far ?_ NB199_206.out _;(with_reducible repeat first|apply kn_|apply kd_|apply ka_);exact BK199.out) hb);have n2_ := sd_ (blk_below (g := gb206) (o := .cells #[.int .i64 t201,.int .i64 t202] 23 (0,0)) (by (with_reducible repeat first|apply kn_|apply kd_|apply ka_);refine blk_far ?_ NB206_207.out _;(with_reducible repeat first|apply kn_|apply kd_|apply ka_);refine blk_far ?_ NB206_207.out _;(with_reducible repeat first|apply kn_|apply kd_|apply ka_);refine blk_put (cs := #[.int .i64 t201,.int .i64 0]) ?_ 1 _ rfl;(with_reducible repeat first|apply kn_|apply kd_|apply ka_);refine blk_put (cs := #[.int .i64 0,.int .i64 0]) ?_ 0 _ rfl;(with_reducible repeat first|apply kn_|apply kd_|apply ka_);exact BK206.out) hb);have n3_ := sd_ (blk_below (g := gb207) (o := .cells #[.int .i64 t203,.int .i64 t204] 25 (0,0)) (by (with_reducible repeat first|apply kn_|apply kd_|apply ka_);refine blk_put (cs := #[.int .i64 t203,.int .i64 0]) ?_ 1 _ rfl;(with_reducible repeat first|apply kn_|apply kd_|apply ka_);refine blk_put (cs := #[.int .i64 0,.int .i64 0]) ?_ 0 _ rfl;(with_reducible repeat first|apply kn_|apply kd_|apply ka_);refine blk_far ?_ NB207_206.out _;(with_reducible repeat first|apply kn_|apply kd_|apply ka_);refine blk_far ?_ NB207_206.out _;(with_reducible repeat first|apply kn_|apply kd_|apply ka_);exact BK207.out) hb);have n4_ := hb_ HB (e_ GE199 (e_ GE206 (e_ GE207 e0_))) hb;clear HO_4;clear BK199;clear BK206;clear BK207;clear HB;have HO_4 := n0_;have BK199 := n1_;have BK206 := n2_;have BK207 := n3_;have HB := n4_;clear n0_ n1_ n2_ n3_ n4_;(try clear hb);(try clear hb2);(try clear hk);(try clear hi))|((with_reducible refine gate_dst (N := 8) rfl ?_);(try (refine gate_guard (by rfl) ?_;dsimp only));refine box_event ?hg (N := 8) ?hd (cs := #[.int .i64 0,.int .i64 0]) (t := 25) ?hr ?_;(case hd => rfl);(case hg => rfl);(case hr => first|(go_simp;done)|(go_simp;rfl));intro gb211 hg w47 hbox hb;have BK211 := sd_ hbox;have GW211 := gw_ HB (e_ GE199 (e_ GE206 (e_ GE207 e0_))) hg;have GE211 := GW211;have NB199_211 := nb_ BK199 hg;have NB211_199 := sy_ NB199_211;have NB206_211 := nb_ BK206 hg;have NB211_206 := sy_ NB206_211;have NB207_211 := nb_ BK207 hg;have NB211_207 := sy_ NB207_211;replace HO_4 := sd_ (Kd.R_below (by (with_reducible repeat (first|apply Kd.R_alloc|apply Kd.R_drewN|apply Kd.R_drew));exact HO_4.out) hb);replace BK199 := kb_ BK199 hb;replace BK206 := kb_ BK206 hb;replace BK207 := kb_ BK207 hb;replace HB := hb_ HB (e_ GE199 (e_ GE206 (e_ GE207 e0_))) hb;clear hb hbox hg;have hnb48 := NB211_199.out;have hnc48 := NB199_211.out;have hnb49 := NB211_206.out;have hnc49 := NB206_211.out;have hnb50 := NB211_207.out;have hnc50 := NB207_211.out;have hcz51_0 : w47.cell? ⟨gb211,0,none⟩ = some (.int .i64 0) := (kc_ BK211.out 0).trans rfl;have hcz51_1 : w47.cell? ⟨gb211,1,none⟩ = some (.int .i64 0) := (kc_ BK211.out 1).trans rfl;have hfz51_0 := kf_ BK211.out 0;have hfz51_1 := kf_ BK211.out 1;obtain ⟨Ao52,co52,eo52⟩ := Kd.R_slice HO_4.out;subst eo52;have hcz53_0 : w47.cell? ⟨gb206,0,none⟩ = some (.int .i64 t201) := (kc_ BK206.out 0).trans rfl;have hcz53_1 : w47.cell? ⟨gb206,1,none⟩ = some (.int .i64 t202) := (kc_ BK206.out 1).trans rfl;have hfz53_0 := kf_ BK206.out 0;have hfz53_1 := kf_ BK206.out 1)|((with_reducible refine gate_builtin (b := .append) (xs := #[.tmp 44,.tmp 46]) rfl ?_);(try (refine gate_guard (by rfl) ?_;dsimp only));at_builtin;refine Kd.R_append k23 (w0 := w) w.heap.size rfl (.tmp 44) (.tmp 46) 36 23 (.agg #[(.int .i64 0),(.int .i64 0)]) 16 rfl Tryd.underlying36 info23 rfl (by decide) (by omega) (.slice Ao52 x4_2.length co52) x4_2 (⟨t201,t202⟩ : S23) [.int .i64 t201,.int .i64 t202] (fun k_ => k_ ≠ gb206) (fun _ => False) rfl (by first|(go_simp;done)|(go_simp;rfl)) ?aP (fun _ hk => hk.elim) ?aF ?aO ?aB ?aS ?aL ?_;(case aP => exact k23_mkM _ _ _ (⟨t201,t202⟩ : S23));(case aB => exact (bb_ HB.out (e_ GE199 (e_ GE206 (e_ GE207 (e_ GE211 e0_))))));(case aF => exact (fun k_ hk => Kd.freshB (g := gb206) (o := .cells #[.int .i64 t201,.int .i64 t202] 23 (0,0)) (by (with_reducible repeat first|apply kn_|apply kd_|apply ka_);refine blk_far ?_ NB206_211.out _;(with_reducible repeat first|apply kn_|apply kd_|apply ka_);refine blk_far ?_ NB206_211.out _;(with_reducible repeat first|apply kn_|apply kd_|apply ka_);exact BK206.out) k_ hk));(case aO => exact (by (with_reducible repeat (first|apply Kd.R_alloc|apply Kd.R_drewN|apply Kd.R_drew));exact Kd.R_mono (Kd.R_far (p := ⟨gb211,1,none⟩) (Kd.R_far (p := ⟨gb211,0,none⟩) (Kd.R_types HO_4.out BK211.out (by decide)) (fun _ hk => hk.2) (.int .i64 t208)) (fun _ hk => hk.2) (.int .i64 t209)) (fun _ hk => hk.1.2)));(case aS => exact (bz_ (bb_ HB.out (e_ GE199 (e_ GE206 (e_ GE207 (e_ GE211 e0_)))))));(case aL => have := LMc35.out;omega);intro v213 w54 ho hb hg hat;rw [← Ny212.out] at ho;have n0_ := sd_ (blk_grown (g := gb199) (o := .cells #[.int .i64 x200000_2,.int .i64 x200001_2] 25 (0,0)) (by (with_reducible repeat first|apply kn_|apply kd_|apply ka_);refine blk_far ?_ NB199_211.out _;(with_reducible repeat first|apply kn_|apply kd_|apply ka_);refine blk_far ?_ NB199_211.out _;(with_reducible repeat first|apply kn_|apply kd_|apply ka_);exact BK199.out) hg (Kd.R_ne HO_4.out BK199.out (by decide)));have n1_ := sd_ (blk_grown (g := gb206) (o := .cells #[.int .i64 t201,.int .i64 t202] 23 (0,0)) (by (with_reducible repeat first|apply kn_|apply kd_|apply ka_);refine blk_far ?_ NB206_211.out _;(with_reducible repeat first|apply kn_|apply kd_|apply ka_);refine blk_far ?_ NB206_211.out _;(with_reducible repeat first|apply kn_|apply kd_|apply ka_);exact BK206.out) hg (Kd.R_away HO_4.out (fun _ hk => hk.2)));have n2_ := sd_ (blk_grown (g := gb207) (o := .cells #[.int .i64 t203,.int .i64 t204] 25 (0,0)) (by (with_reducible repeat first|apply kn_|apply kd_|apply ka_);refine blk_far ?_ NB207_211.out _;(with_reducible repeat first|apply kn_|apply kd_|apply ka_);refine blk_far ?_ NB207_211.out _;(with_reducible repeat first|apply kn_|apply kd_|apply ka_);exact BK207.out) hg (Kd.R_ne HO_4.out BK207.out (by decide)));have n3_ := sd_ (blk_grown (g := gb211) (o := .cells #[.int .i64 t208,.int .i64 t209] 25 (0,0)) (by (with_reducible repeat first|apply kn_|apply kd_|apply ka_);refine blk_put (cs := #[.int .i64 t208,.int .i64 0]) ?_ 1 _ rfl;(with_reducible repeat first|apply kn_|apply kd_|apply ka_);refine blk_put (cs := #[.int .i64 0,.int .i64 0]) ?_ 0 _ rfl;(with_reducible repeat first|apply kn_|apply kd_|apply ka_);exact BK211.out) hg (Kd.R_ne HO_4.out BK211.out (by decide)));have n4_ := sd_ (hb);have n5_ := sd_ (ho);clear BK199;clear BK206;clear BK207;clear BK211;clear HB;clear HO_4;have BK199 := n0_;have BK206 := n1_;have BK207 := n2_;have BK211 := n3_;have HB := n4_;have HO214 := n5_;clear n0_ n1_ n2_ n3_ n4_ n5_;clear ho hb hg hat;have hcz55_0 : w54.cell? ⟨gb211,0,none⟩ = some (.int .i64 t208) := (kc_ BK211.out 0).trans rfl;have hcz55_1 : w54.cell? ⟨gb211,1,none⟩ = some (.int .i64 t209) := (kc_ BK211.out 1).trans rfl;have hfz55_0 := kf_ BK211.out 0;have hfz55_1 := kf_ BK211.out 1;have hcz56_0 : w54.cell? ⟨gb199,0,none⟩ = some (.int .i64 x200000_2) := (kc_ BK199.out 0).trans rfl;have hcz56_1 : w54.cell? ⟨gb199,1,none⟩ = some (.int .i64 x200001_2) := (kc_ BK199.out 1).trans rfl;have hfz56_0 := kf_ BK199.out 0;have hfz56_1 := kf_ BK199.out 1))
           go_roundg k2
           case measure => have := HJ1.out;have := HK2.out;omega
           case rel => exact ⟨(y212),(t208),(t209),H',⟨by have := HJ1.out;have := HK2.out;omega⟩,⟨by (with_reducible repeat (first|apply Kd.R_alloc|apply Kd.R_drewN|apply Kd.R_drew));exact Kd.R_mono (Kd.R_far (p := ⟨gb199,1,none⟩) (Kd.R_far (p := ⟨gb199,0,none⟩) (Kd.R_types HO214.out BK199.out (by decide)) (fun _ hk => hk.2) (.int .i64 t208)) (fun _ hk => hk.2) (.int .i64 t209)) (fun _ hk => trivial)⟩,⟨by (with_reducible repeat first|apply kn_|apply kd_|apply ka_);refine blk_put (cs := #[.int .i64 t208,.int .i64 x200001_2]) ?_ 1 _ rfl;(with_reducible repeat first|apply kn_|apply kd_|apply ka_);refine blk_put (cs := #[.int .i64 x200000_2,.int .i64 x200001_2]) ?_ 0 _ rfl;(with_reducible repeat first|apply kn_|apply kd_|apply ka_);exact BK199.out⟩,⟨by repeat (first|(with_reducible first|exact HB.out|apply ba_|apply pd_|apply d1_|refine bs_ ?_ GE199.out|refine bs_ ?_ GE206.out|refine bs_ ?_ GE207.out|refine bs_ ?_ GE211.out)|exact HB.out)⟩⟩
          ·rw [if_neg c35] at H
           exact absurd H (by simp)
        ·rw [if_neg c16] at H
         have c16b0 : (t210 == 0) = false := beq_eq_false_iff_ne.mpr c16
         have c16b1 : (t210 != 0) = true := bne_iff_ne.mpr c16
         simp only [Option.some.injEq,Prod.mk.injEq] at H
         obtain ⟨rfl,rfl⟩ := H
         have hcz57_0 : wr.cell? ⟨gb199,0,none⟩ = some (.int .i64 x200000_2) := (kc_ BK199.out 0).trans rfl
         have hcz57_1 : wr.cell? ⟨gb199,1,none⟩ = some (.int .i64 x200001_2) := (kc_ BK199.out 1).trans rfl
         have hfz57_0 := kf_ BK199.out 0
         have hfz57_1 := kf_ BK199.out 1
         go_wp2_with (first|((with_reducible refine gate_callee (f := 35) rfl ?_);refine goesL_ (some 23) rfl rfl Tryd.func35 (by kernel_rfl) rfl #[.agg #[.int .i64 x200000_2,.int .i64 x200001_2]] rfl (by (try simp only [lm_,lq_,lx_]);first|done|rfl|(simp only [ld_,lt_];rfl)) ?_;(with_reducible refine (dur_longestIn.calls k2 x200000_2 x200001_2 t201 t202 t203 t204 true _ A13.out).mono ?_);rintro e w58 ⟨rfl,hb⟩;refine ⟨_,rfl,?_⟩;replace HO_4 := sd_ (Kd.R_below (by (with_reducible repeat (first|apply Kd.R_alloc|apply Kd.R_drewN|apply Kd.R_drew));exact HO_4.out) hb);replace BK199 := kb_ BK199 hb;replace HB := hb_ HB (e_ GE199 e0_) hb;(try clear hb);(try clear hb2);(try clear hk);(try clear hi))|((with_reducible refine gate_dst (N := 5) rfl ?_);(try (refine gate_guard (by rfl) ?_;dsimp only));refine box_event ?hg (N := 5) ?hd (cs := #[.int .i64 0,.int .i64 0]) (t := 23) ?hr ?_;(case hd => rfl);(case hg => rfl);(case hr => first|(go_simp;done)|(go_simp;rfl));intro gb206 hg w59 hbox hb;have BK206 := sd_ hbox;have GW206 := gw_ HB (e_ GE199 e0_) hg;have GE206 := GW206;have NB199_206 := nb_ BK199 hg;have NB206_199 := sy_ NB199_206;replace HO_4 := sd_ (Kd.R_below (Kd.R_elderB (by (with_reducible repeat (first|apply Kd.R_alloc|apply Kd.R_drewN|apply Kd.R_drew));exact HO_4.out) gb206 (Nat.le_of_eq hg.symm)) hb);replace BK199 := kb_ BK199 hb;replace HB := hb_ HB (e_ GE199 e0_) hb;clear hb hbox hg)|((with_reducible refine gate_dst (N := 6) rfl ?_);(try (refine gate_guard (by rfl) ?_;dsimp only));refine box_event ?hg (N := 6) ?hd (cs := #[.int .i64 0,.int .i64 0]) (t := 25) ?hr ?_;(case hd => rfl);(case hg => rfl);(case hr => first|(go_simp;done)|(go_simp;rfl));intro gb207 hg w60 hbox hb;have BK207 := sd_ hbox;have GW207 := gw_ HB (e_ GE199 (e_ GE206 e0_)) hg;have GE207 := GW207;have NB199_207 := nb_ BK199 hg;have NB207_199 := sy_ NB199_207;have NB206_207 := nb_ BK206 hg;have NB207_206 := sy_ NB206_207;replace HO_4 := sd_ (Kd.R_below (by (with_reducible repeat (first|apply Kd.R_alloc|apply Kd.R_drewN|apply Kd.R_drew));exact HO_4.out) hb);replace BK199 := kb_ BK199 hb;replace BK206 := kb_ BK206 hb;replace HB := hb_ HB (e_ GE199 (e_ GE206 e0_)) hb;clear hb hbox hg;have hnb61 := NB206_199.out;have hnc61 := NB199_206.out;have hnb62 := NB206_207.out;have hnc62 := NB207_206.out;have hcz63_0 : w60.cell? ⟨gb206,0,none⟩ = some (.int .i64 0) := (kc_ BK206.out 0).trans rfl;have hcz63_1 : w60.cell? ⟨gb206,1,none⟩ = some (.int .i64 0) := (kc_ BK206.out 1).trans rfl;have hfz63_0 := kf_ BK206.out 0;have hfz63_1 := kf_ BK206.out 1;have hnb64 := NB207_199.out;have hnc64 := NB199_207.out;have hcz65_0 : w60.cell? ⟨gb207,0,none⟩ = some (.int .i64 0) := (kc_ BK207.out 0).trans rfl;have hcz65_1 : w60.cell? ⟨gb207,1,none⟩ = some (.int .i64 0) := (kc_ BK207.out 1).trans rfl;have hfz65_0 := kf_ BK207.out 0;have hfz65_1 := kf_ BK207.out 1;have hcz66_0 : w60.cell? ⟨gb199,0,none⟩ = some (.int .i64 x200000_2) := (kc_ BK199.out 0).trans rfl;have hcz66_1 : w60.cell? ⟨gb199,1,none⟩ = some (.int .i64 x200001_2) := (kc_ BK199.out 1).trans rfl;have hfz66_0 := kf_ BK199.out 0;have hfz66_1 := kf_ BK199.out 1)|((with_reducible refine gate_callee (f := 36) rfl ?_);refine goesL_ (some 30) rfl rfl Tryd.func36 (by kernel_rfl) rfl #[.agg #[.int .i64 x200000_2,.int .i64 x200001_2],.agg #[.int .i64 t203,.int .i64 t204]] rfl (by (try simp only [lm_,lq_,lx_]);first|done|rfl|(simp only [ld_,lt_];rfl)) ?_;(with_reducible refine (rat_Sub.calls k2 x200000_2 x200001_2 t203 t204 t208 t209 t210 _ A14.out).mono ?_);rintro e w67 ⟨rfl,hb⟩;refine ⟨_,rfl,?_⟩;have n0_ := sd_ (Kd.R_below (by (with_reducible repeat (first|apply Kd.R_alloc|apply Kd.R_drewN|apply Kd.R_drew));exact (Kd.R_mono (Kd.R_mono (Kd.R_far (p := ⟨gb207,1,none⟩) (Kd.R_far (p := ⟨gb207,0,none⟩) (Kd.R_far (p := ⟨gb206,1,none⟩) (Kd.R_far (p := ⟨gb206,0,none⟩) (Kd.R_types (Kd.R_mono HO_4.out (fun k_ hk => (⟨hk,hk.2⟩ : _ ∧ k_ ≠ gb206))) BK207.out (by decide)) (fun _ hk => hk.1.2) (.int .i64 t201)) (fun _ hk => hk.1.2) (.int .i64 t202)) (fun _ hk => hk.2) (.int .i64 t203)) (fun _ hk => hk.2) (.int .i64 t204)) (fun _ h_ => h_.1)) (fun _ h_ => h_.1))) hb);have n1_ := sd_ (blk_below (g := gb199) (o := .cells #[.int .i64 x200000_2,.int .i64 x200001_2] 25 (0,0)) (by (with_reducible repeat first|apply kn_|apply kd_|apply ka_);refine blk_far ?_ NB199_207.out _;(with_reducible repeat first|apply kn_|apply kd_|apply ka_);refine blk_far ?_ NB199_207.out _;(with_reducible repeat first|apply kn_|apply kd_|apply ka_);refine blk_far ?_ NB199_206.out _;(with_reducible repeat first|apply kn_|apply kd_|apply ka_);refine blk_far ?_ NB199_206.out _;(with_reducible repeat first|apply kn_|apply kd_|apply ka_);exact BK199.out) hb);have n2_ := sd_ (blk_below (g := gb206) (o := .cells #[.int .i64 t201,.int .i64 t202] 23 (0,0)) (by (with_reducible repeat first|apply kn_|apply kd_|apply ka_);refine blk_far ?_ NB206_207.out _;(with_reducible repeat first|apply kn_|apply kd_|apply ka_);refine blk_far ?_ NB206_207.out _;(with_reducible repeat first|apply kn_|apply kd_|apply ka_);refine blk_put (cs := #[.int .i64 t201,.int .i64 0]) ?_ 1 _ rfl;(with_reducible repeat first|apply kn_|apply kd_|apply ka_);refine blk_put (cs := #[.int .i64 0,.int .i64 0]) ?_ 0 _ rfl;(with_reducible repeat first|apply kn_|apply kd_|apply ka_);exact BK206.out) hb);have n3_ := sd_ (blk_below (g := gb207) (o := .cells #[.int .i64 t203,.int .i64 t204] 25 (0,0)) (by (with_reducible repeat first|apply kn_|apply kd_|apply ka_);refine blk_put (cs := #[.int .i64 t203,.int .i64 0]) ?_ 1 _ rfl;(with_reducible repeat first|apply kn_|apply kd_|apply ka_);refine blk_put (cs := #[.int .i64 0,.int .i64 0]) ?_ 0 _ rfl;(with_reducible repeat first|apply kn_|apply kd_|apply ka_);refine blk_far ?_ NB207_206.out _;(with_reducible repeat first|apply kn_|apply kd_|apply ka_);refine blk_far ?_ NB207_206.out _;(with_reducible repeat first|apply kn_|apply kd_|apply ka_);exact BK207.out) hb);have n4_ := hb_ HB (e_ GE199 (e_ GE206 (e_ GE207 e0_))) hb;clear HO_4;clear BK199;clear BK206;clear BK207;clear HB;have HO_4 := n0_;have BK199 := n1_;have BK206 := n2_;have BK207 := n3_;have HB := n4_;clear n0_ n1_ n2_ n3_ n4_;(try clear hb);(try clear hb2);(try clear hk);(try clear hi))|((with_reducible refine gate_dst (N := 8) rfl ?_);(try (refine gate_guard (by rfl) ?_;dsimp only));refine box_event ?hg (N := 8) ?hd (cs := #[.int .i64 0,.int .i64 0]) (t := 25) ?hr ?_;(case hd => rfl);(case hg => rfl);(case hr => first|(go_simp;done)|(go_simp;rfl));intro gb211 hg w68 hbox hb;have BK211 := sd_ hbox;have GW211 := gw_ HB (e_ GE199 (e_ GE206 (e_ GE207 e0_))) hg;have GE211 := GW211;have NB199_211 := nb_ BK199 hg;have NB211_199 := sy_ NB199_211;have NB206_211 := nb_ BK206 hg;have NB211_206 := sy_ NB206_211;have NB207_211 := nb_ BK207 hg;have NB211_207 := sy_ NB207_211;replace HO_4 := sd_ (Kd.R_below (by (with_reducible repeat (first|apply Kd.R_alloc|apply Kd.R_drewN|apply Kd.R_drew));exact HO_4.out) hb);replace BK199 := kb_ BK199 hb;replace BK206 := kb_ BK206 hb;replace BK207 := kb_ BK207 hb;replace HB := hb_ HB (e_ GE199 (e_ GE206 (e_ GE207 e0_))) hb;clear hb hbox hg;have hnb69 := NB211_199.out;have hnc69 := NB199_211.out;have hnb70 := NB211_206.out;have hnc70 := NB206_211.out;have hnb71 := NB211_207.out;have hnc71 := NB207_211.out;have hcz72_0 : w68.cell? ⟨gb211,0,none⟩ = some (.int .i64 0) := (kc_ BK211.out 0).trans rfl;have hcz72_1 : w68.cell? ⟨gb211,1,none⟩ = some (.int .i64 0) := (kc_ BK211.out 1).trans rfl;have hfz72_0 := kf_ BK211.out 0;have hfz72_1 := kf_ BK211.out 1))
         go_ret2
         exact ⟨_,by first|rfl|(simp [errW_none,errW_some] <;> rfl)|(simp [*,errW_none,errW_some] <;> rfl),by first|exact Kd.R_nil _ _ _ _ _|exact Kd.N_nil _ _ _ _ _|exact Kd.V_nil _ _ _ _ _|exact Kd.Q_nil _ _ _ _ _|exact Kd.S_nil _ _ _ _ _,by repeat (first|(with_reducible first|exact HB.out|apply ba_|apply pd_|apply d1_|refine bs_ ?_ GE199.out|refine bs_ ?_ GE206.out|refine bs_ ?_ GE207.out|refine bs_ ?_ GE211.out)|exact HB.out)⟩
       ·replace c15 := bf_ c15
        subst c15
        have H1 : (some (([] : List (S23)),false)) = some (r1,r2) := by rw [if_neg (show ¬ (false = true) by decide)] at H;exact H
        clear H;have H := H1;clear H1
        simp only [Option.some.injEq,Prod.mk.injEq] at H
        obtain ⟨rfl,rfl⟩ := H
        have hcz73_0 : wr.cell? ⟨gb199,0,none⟩ = some (.int .i64 x200000_2) := (kc_ BK199.out 0).trans rfl
        have hcz73_1 : wr.cell? ⟨gb199,1,none⟩ = some (.int .i64 x200001_2) := (kc_ BK199.out 1).trans rfl
        have hfz73_0 := kf_ BK199.out 0
        have hfz73_1 := kf_ BK199.out 1
        go_wp2_with (first|((with_reducible refine gate_callee (f := 35) rfl ?_);refine goesL_ (some 23) rfl rfl Tryd.func35 (by kernel_rfl) rfl #[.agg #[.int .i64 x200000_2,.int .i64 x200001_2]] rfl (by (try simp only [lm_,lq_,lx_]);first|done|rfl|(simp only [ld_,lt_];rfl)) ?_;(with_reducible refine (dur_longestIn.calls k2 x200000_2 x200001_2 t201 t202 t203 t204 false _ A13.out).mono ?_);rintro e w74 ⟨rfl,hb⟩;refine ⟨_,rfl,?_⟩;replace HO_4 := sd_ (Kd.R_below (by (with_reducible repeat (first|apply Kd.R_alloc|apply Kd.R_drewN|apply Kd.R_drew));exact HO_4.out) hb);replace BK199 := kb_ BK199 hb;replace HB := hb_ HB (e_ GE199 e0_) hb;(try clear hb);(try clear hb2);(try clear hk);(try clear hi))|((with_reducible refine gate_dst (N := 5) rfl ?_);(try (refine gate_guard (by rfl) ?_;dsimp only));refine box_event ?hg (N := 5) ?hd (cs := #[.int .i64 0,.int .i64 0]) (t := 23) ?hr ?_;(case hd => rfl);(case hg => rfl);(case hr => first|(go_simp;done)|(go_simp;rfl));intro gb206 hg w75 hbox hb;have BK206 := sd_ hbox;have GW206 := gw_ HB (e_ GE199 e0_) hg;have GE206 := GW206;have NB199_206 := nb_ BK199 hg;have NB206_199 := sy_ NB199_206;replace HO_4 := sd_ (Kd.R_below (Kd.R_elderB (by (with_reducible repeat (first|apply Kd.R_alloc|apply Kd.R_drewN|apply Kd.R_drew));exact HO_4.out) gb206 (Nat.le_of_eq hg.symm)) hb);replace BK199 := kb_ BK199 hb;replace HB := hb_ HB (e_ GE199 e0_) hb;clear hb hbox hg)|((with_reducible refine gate_dst (N := 6) rfl ?_);(try (refine gate_guard (by rfl) ?_;dsimp only));refine box_event ?hg (N := 6) ?hd (cs := #[.int .i64 0,.int .i64 0]) (t := 25) ?hr ?_;(case hd => rfl);(case hg => rfl);(case hr => first|(go_simp;done)|(go_simp;rfl));intro gb207 hg w76 hbox hb;have BK207 := sd_ hbox;have GW207 := gw_ HB (e_ GE199 (e_ GE206 e0_)) hg;have GE207 := GW207;have NB199_207 := nb_ BK199 hg;have NB207_199 := sy_ NB199_207;have NB206_207 := nb_ BK206 hg;have NB207_206 := sy_ NB206_207;replace HO_4 := sd_ (Kd.R_below (by (with_reducible repeat (first|apply Kd.R_alloc|apply Kd.R_drewN|apply Kd.R_drew));exact HO_4.out) hb);replace BK199 := kb_ BK199 hb;replace BK206 := kb_ BK206 hb;replace HB := hb_ HB (e_ GE199 (e_ GE206 e0_)) hb;clear hb hbox hg;have hnb77 := NB206_199.out;have hnc77 := NB199_206.out;have hnb78 := NB206_207.out;have hnc78 := NB207_206.out;have hcz79_0 : w76.cell? ⟨gb206,0,none⟩ = some (.int .i64 0) := (kc_ BK206.out 0).trans rfl;have hcz79_1 : w76.cell? ⟨gb206,1,none⟩ = some (.int .i64 0) := (kc_ BK206.out 1).trans rfl;have hfz79_0 := kf_ BK206.out 0;have hfz79_1 := kf_ BK206.out 1;have hnb80 := NB207_199.out;have hnc80 := NB199_207.out;have hcz81_0 : w76.cell? ⟨gb207,0,none⟩ = some (.int .i64 0) := (kc_ BK207.out 0).trans rfl;have hcz81_1 : w76.cell? ⟨gb207,1,none⟩ = some (.int .i64 0) := (kc_ BK207.out 1).trans rfl;have hfz81_0 := kf_ BK207.out 0;have hfz81_1 := kf_ BK207.out 1;have hcz82_0 : w76.cell? ⟨gb199,0,none⟩ = some (.int .i64 x200000_2) := (kc_ BK199.out 0).trans rfl;have hcz82_1 : w76.cell? ⟨gb199,1,none⟩ = some (.int .i64 x200001_2) := (kc_ BK199.out 1).trans rfl;have hfz82_0 := kf_ BK199.out 0;have hfz82_1 := kf_ BK199.out 1)|((with_reducible refine gate_callee (f := 36) rfl ?_);refine goesL_ (some 30) rfl rfl Tryd.func36 (by kernel_rfl) rfl #[.agg #[.int .i64 x200000_2,.int .i64 x200001_2],.agg #[.int .i64 t203,.int .i64 t204]] rfl (by (try simp only [lm_,lq_,lx_]);first|done|rfl|(simp only [ld_,lt_];rfl)) ?_;(with_reducible refine (rat_Sub.calls k2 x200000_2 x200001_2 t203 t204 t208 t209 t210 _ A14.out).mono ?_);rintro e w83 ⟨rfl,hb⟩;refine ⟨_,rfl,?_⟩;have n0_ := sd_ (Kd.R_below (by (with_reducible repeat (first|apply Kd.R_alloc|apply Kd.R_drewN|apply Kd.R_drew));exact (Kd.R_mono (Kd.R_mono (Kd.R_far (p := ⟨gb207,1,none⟩) (Kd.R_far (p := ⟨gb207,0,none⟩) (Kd.R_far (p := ⟨gb206,1,none⟩) (Kd.R_far (p := ⟨gb206,0,none⟩) (Kd.R_types (Kd.R_mono HO_4.out (fun k_ hk => (⟨hk,hk.2⟩ : _ ∧ k_ ≠ gb206))) BK207.out (by decide)) (fun _ hk => hk.1.2) (.int .i64 t201)) (fun _ hk => hk.1.2) (.int .i64 t202)) (fun _ hk => hk.2) (.int .i64 t203)) (fun _ hk => hk.2) (.int .i64 t204)) (fun _ h_ => h_.1)) (fun _ h_ => h_.1))) hb);have n1_ := sd_ (blk_below (g := gb199) (o := .cells #[.int .i64 x200000_2,.int .i64 x200001_2] 25 (0,0)) (by (with_reducible repeat first|apply kn_|apply kd_|apply ka_);refine blk_far ?_ NB199_207.out _;(with_reducible repeat first|apply kn_|apply kd_|apply ka_);refine blk_far ?_ NB199_207.out _;(with_reducible repeat first|apply kn_|apply kd_|apply ka_);refine blk_far ?_ NB199_206.out _;(with_reducible repeat first|apply kn_|apply kd_|apply ka_);refine blk_far ?_ NB199_206.out _;(with_reducible repeat first|apply kn_|apply kd_|apply ka_);exact BK199.out) hb);have n2_ := sd_ (blk_below (g := gb206) (o := .cells #[.int .i64 t201,.int .i64 t202] 23 (0,0)) (by (with_reducible repeat first|apply kn_|apply kd_|apply ka_);refine blk_far ?_ NB206_207.out _;(with_reducible repeat first|apply kn_|apply kd_|apply ka_);refine blk_far ?_ NB206_207.out _;(with_reducible repeat first|apply kn_|apply kd_|apply ka_);refine blk_put (cs := #[.int .i64 t201,.int .i64 0]) ?_ 1 _ rfl;(with_reducible repeat first|apply kn_|apply kd_|apply ka_);refine blk_put (cs := #[.int .i64 0,.int .i64 0]) ?_ 0 _ rfl;(with_reducible repeat first|apply kn_|apply kd_|apply ka_);exact BK206.out) hb);have n3_ := sd_ (blk_below (g := gb207) (o := .cells #[.int .i64 t203,.int .i64 t204] 25 (0,0)) (by (with_reducible repeat first|apply kn_|apply kd_|apply ka_);refine blk_put (cs := #[.int .i64 t203,.int .i64 0]) ?_ 1 _ rfl;(with_reducible repeat first|apply kn_|apply kd_|apply ka_);refine blk_put (cs := #[.int .i64 0,.int .i64 0]) ?_ 0 _ rfl;(with_reducible repeat first|apply kn_|apply kd_|apply ka_);refine blk_far ?_ NB207_206.out _;(with_reducible repeat first|apply kn_|apply kd_|apply ka_);refine blk_far ?_ NB207_206.out _;(with_reducible repeat first|apply kn_|apply kd_|apply ka_);exact BK207.out) hb);have n4_ := hb_ HB (e_ GE199 (e_ GE206 (e_ GE207 e0_))) hb;clear HO_4;clear BK199;clear BK206;clear BK207;clear HB;have HO_4 := n0_;have BK199 := n1_;have BK206 := n2_;have BK207 := n3_;have HB := n4_;clear n0_ n1_ n2_ n3_ n4_;(try clear hb);(try clear hb2);(try clear hk);(try clear hi))|((with_reducible refine gate_dst (N := 8) rfl ?_);(try (refine gate_guard (by rfl) ?_;dsimp only));refine box_event ?hg (N := 8) ?hd (cs := #[.int .i64 0,.int .i64 0]) (t := 25) ?hr ?_;(case hd => rfl);(case hg => rfl);(case hr => first|(go_simp;done)|(go_simp;rfl));intro gb211 hg w84 hbox hb;have BK211 := sd_ hbox;have GW211 := gw_ HB (e_ GE199 (e_ GE206 (e_ GE207 e0_))) hg;have GE211 := GW211;have NB199_211 := nb_ BK199 hg;have NB211_199 := sy_ NB199_211;have NB206_211 := nb_ BK206 hg;have NB211_206 := sy_ NB206_211;have NB207_211 := nb_ BK207 hg;have NB211_207 := sy_ NB207_211;replace HO_4 := sd_ (Kd.R_below (by (with_reducible repeat (first|apply Kd.R_alloc|apply Kd.R_drewN|apply Kd.R_drew));exact HO_4.out) hb);replace BK199 := kb_ BK199 hb;replace BK206 := kb_ BK206 hb;replace BK207 := kb_ BK207 hb;replace HB := hb_ HB (e_ GE199 (e_ GE206 (e_ GE207 e0_))) hb;clear hb hbox hg;have hnb85 := NB211_199.out;have hnc85 := NB199_211.out;have hnb86 := NB211_206.out;have hnc86 := NB206_211.out;have hnb87 := NB211_207.out;have hnc87 := NB207_211.out;have hcz88_0 : w84.cell? ⟨gb211,0,none⟩ = some (.int .i64 0) := (kc_ BK211.out 0).trans rfl;have hcz88_1 : w84.cell? ⟨gb211,1,none⟩ = some (.int .i64 0) := (kc_ BK211.out 1).trans rfl;have hfz88_0 := kf_ BK211.out 0;have hfz88_1 := kf_ BK211.out 1))
        go_ret2
        exact ⟨_,by first|rfl|(simp [errW_none,errW_some] <;> rfl)|(simp [*,errW_none,errW_some] <;> rfl),by first|exact Kd.R_nil _ _ _ _ _|exact Kd.N_nil _ _ _ _ _|exact Kd.V_nil _ _ _ _ _|exact Kd.Q_nil _ _ _ _ _|exact Kd.S_nil _ _ _ _ _,by repeat (first|(with_reducible first|exact HB.out|apply ba_|apply pd_|apply d1_|refine bs_ ?_ GE199.out|refine bs_ ?_ GE206.out|refine bs_ ?_ GE207.out|refine bs_ ?_ GE211.out)|exact HB.out)⟩
      ·rw [if_neg c12] at H
       have c12b0 : decide (0 < x200000_2) = false := df_ c12
       clear c12
       simp only [Option.some.injEq,Prod.mk.injEq] at H
       obtain ⟨rfl,rfl⟩ := H
       have hcz89_0 : wr.cell? ⟨gb199,0,none⟩ = some (.int .i64 x200000_2) := (kc_ BK199.out 0).trans rfl
       have hcz89_1 : wr.cell? ⟨gb199,1,none⟩ = some (.int .i64 x200001_2) := (kc_ BK199.out 1).trans rfl
       have hfz89_0 := kf_ BK199.out 0
       have hfz89_1 := kf_ BK199.out 1
       go_wp2
       go_ret2
       exact ⟨_,by first|rfl|(simp [errW_none,errW_some] <;> rfl)|(simp [*,errW_none,errW_some] <;> rfl),by (with_reducible repeat (first|apply Kd.R_alloc|apply Kd.R_drewN|apply Kd.R_drew));exact HO_4.out,by repeat (first|(with_reducible first|exact HB.out|apply ba_|apply pd_|apply d1_|refine bs_ ?_ GE199.out)|exact HB.out)⟩

/-! ### dur_Meter: function 16 -/
def dur_Meter.f (a0_0 : Int) (a0_1 : Int) : Option (Bool) := if a0_1 ≥ 1 then (if a0_1 ≤ 32 then (if (Go.bits .and .i64 a0_1 (wrap64 (a0_1 - 1))) = 0 then (if a0_0 ≥ 1 then (some (decide (a0_0 ≤ 32))) else (some false)) else (some false)) else (some false)) else (some false)
set_option maxHeartbeats 8000000 in
set_option maxRecDepth 100000 in
theorem dur_Meter.calls (a0_0 : Int) (a0_1 : Int) (r : Bool) (w : World) (h : dur_Meter.f a0_0 a0_1 = some r) :
  Calls Tryd.prog 16 #[.agg #[.int .i64 a0_0,.int .i64 a0_1]] w fun e w' => e = .returned (.bool r) ∧ Below w.heap.size w w' := by
 have hu42 := Tryd.underlying42
 have HB := sd_ (Below.refl w.heap.size w)
 have H : (if a0_1 ≥ 1 then (if a0_1 ≤ 32 then (if (Go.bits .and .i64 a0_1 (wrap64 (a0_1 - 1))) = 0 then (if a0_0 ≥ 1 then (some (decide (a0_0 ≤ 32))) else (some false)) else (some false)) else (some false)) else (some false)) = some r := h
 clear h
 by_cases c2 : a0_1 ≥ 1
 ·rw [if_pos c2] at H
  have c2b0 : decide (1 ≤ a0_1) = true := dt_ c2
  clear c2
  by_cases c3 : a0_1 ≤ 32
  ·rw [if_pos c3] at H
   have c3b0 : decide (a0_1 ≤ 32) = true := dt_ c3
   clear c3
   by_cases c4 : (Go.bits .and .i64 a0_1 (wrap64 (a0_1 - 1))) = 0
   ·rw [if_pos c4] at H
    have c4b0 : ((Go.bits .and .i64 a0_1 (wrap64 (a0_1 - 1))) == 0) = true := beq_iff_eq.mpr c4
    have c4b1 : ((Go.bits .and .i64 a0_1 (wrap64 (a0_1 - 1))) != 0) = false := bne_eq_false_iff_eq.mpr c4
    clear c4
    by_cases c5 : a0_0 ≥ 1
    ·rw [if_pos c5] at H
     have c5b0 : decide (1 ≤ a0_0) = true := dt_ c5
     clear c5
     obtain rfl := Option.some.inj H
     go_enter Tryd.func16,Tryd.ntmps16
     go_wp2_with (first|((with_reducible refine gate_dst (N := 1) rfl ?_);refine box_event ?hg (N := 1) ?hd (cs := #[.int .i64 a0_0,.int .i64 a0_1]) (t := 42) ?hr ?_;(case hd => rfl);(case hg => rfl);(case hr => first|(go_simp;done)|(go_simp;rfl));intro gb215 hg w6 hbox hb;have BK215 := sd_ hbox;have GW215 := gw_ HB e0_ hg;have GE215 := GW215;replace HB := hb_ HB e0_ hb;clear hb hbox hg;have hcz7_0 : w6.cell? ⟨gb215,0,none⟩ = some (.int .i64 a0_0) := (kc_ BK215.out 0).trans rfl;have hcz7_1 : w6.cell? ⟨gb215,1,none⟩ = some (.int .i64 a0_1) := (kc_ BK215.out 1).trans rfl;have hfz7_0 := kf_ BK215.out 0;have hfz7_1 := kf_ BK215.out 1))
     go_ret
     exact ⟨by first|rfl|(simp [errW_none,errW_some] <;> rfl)|(simp [*,errW_none,errW_some] <;> rfl),by repeat (first|(with_reducible first|exact HB.out|apply ba_|apply pd_|apply d1_|refine bs_ ?_ GE215.out)|exact HB.out)⟩
    ·rw [if_neg c5] at H
     have c5b0 : decide (1 ≤ a0_0) = false := df_ c5
     clear c5
     obtain rfl := Option.some.inj H
     go_enter Tryd.func16,Tryd.ntmps16
     go_wp2_with (first|((with_reducible refine gate_dst (N := 1) rfl ?_);refine box_event ?hg (N := 1) ?hd (cs := #[.int .i64 a0_0,.int .i64 a0_1]) (t := 42) ?hr ?_;(case hd => rfl);(case hg => rfl);(case hr => first|(go_simp;done)|(go_simp;rfl));intro gb215 hg w8 hbox hb;have BK215 := sd_ hbox;have GW215 := gw_ HB e0_ hg;have GE215 := GW215;replace HB := hb_ HB e0_ hb;clear hb hbox hg;have hcz9_0 : w8.cell? ⟨gb215,0,none⟩ = some (.int .i64 a0_0) := (kc_ BK215.out 0).trans rfl;have hcz9_1 : w8.cell? ⟨gb215,1,none⟩ = some (.int .i64 a0_1) := (kc_ BK215.out 1).trans rfl;have hfz9_0 := kf_ BK215.out 0;have hfz9_1 := kf_ BK215.out 1))
     go_ret
     exact ⟨by first|rfl|(simp [errW_none,errW_some] <;> rfl)|(simp [*,errW_none,errW_some] <;> rfl),by repeat (first|(with_reducible first|exact HB.out|apply ba_|apply pd_|apply d1_|refine bs_ ?_ GE215.out)|exact HB.out)⟩
   ·rw [if_neg c4] at H
    have c4b0 : ((Go.bits .and .i64 a0_1 (wrap64 (a0_1 - 1))) == 0) = false := beq_eq_false_iff_ne.mpr c4
    have c4b1 : ((Go.bits .and .i64 a0_1 (wrap64 (a0_1 - 1))) != 0) = true := bne_iff_ne.mpr c4
    obtain rfl := Option.some.inj H
    go_enter Tryd.func16,Tryd.ntmps16
    go_wp2_with (first|((with_reducible refine gate_dst (N := 1) rfl ?_);refine box_event ?hg (N := 1) ?hd (cs := #[.int .i64 a0_0,.int .i64 a0_1]) (t := 42) ?hr ?_;(case hd => rfl);(case hg => rfl);(case hr => first|(go_simp;done)|(go_simp;rfl));intro gb215 hg w10 hbox hb;have BK215 := sd_ hbox;have GW215 := gw_ HB e0_ hg;have GE215 := GW215;replace HB := hb_ HB e0_ hb;clear hb hbox hg;have hcz11_0 : w10.cell? ⟨gb215,0,none⟩ = some (.int .i64 a0_0) := (kc_ BK215.out 0).trans rfl;have hcz11_1 : w10.cell? ⟨gb215,1,none⟩ = some (.int .i64 a0_1) := (kc_ BK215.out 1).trans rfl;have hfz11_0 := kf_ BK215.out 0;have hfz11_1 := kf_ BK215.out 1))
    go_ret
    exact ⟨by first|rfl|(simp [errW_none,errW_some] <;> rfl)|(simp [*,errW_none,errW_some] <;> rfl),by repeat (first|(with_reducible first|exact HB.out|apply ba_|apply pd_|apply d1_|refine bs_ ?_ GE215.out)|exact HB.out)⟩
  ·rw [if_neg c3] at H
   have c3b0 : decide (a0_1 ≤ 32) = false := df_ c3
   clear c3
   obtain rfl := Option.some.inj H
   go_enter Tryd.func16,Tryd.ntmps16
   go_wp2_with (first|((with_reducible refine gate_dst (N := 1) rfl ?_);refine box_event ?hg (N := 1) ?hd (cs := #[.int .i64 a0_0,.int .i64 a0_1]) (t := 42) ?hr ?_;(case hd => rfl);(case hg => rfl);(case hr => first|(go_simp;done)|(go_simp;rfl));intro gb215 hg w12 hbox hb;have BK215 := sd_ hbox;have GW215 := gw_ HB e0_ hg;have GE215 := GW215;replace HB := hb_ HB e0_ hb;clear hb hbox hg;have hcz13_0 : w12.cell? ⟨gb215,0,none⟩ = some (.int .i64 a0_0) := (kc_ BK215.out 0).trans rfl;have hcz13_1 : w12.cell? ⟨gb215,1,none⟩ = some (.int .i64 a0_1) := (kc_ BK215.out 1).trans rfl;have hfz13_0 := kf_ BK215.out 0;have hfz13_1 := kf_ BK215.out 1))
   go_ret
   exact ⟨by first|rfl|(simp [errW_none,errW_some] <;> rfl)|(simp [*,errW_none,errW_some] <;> rfl),by repeat (first|(with_reducible first|exact HB.out|apply ba_|apply pd_|apply d1_|refine bs_ ?_ GE215.out)|exact HB.out)⟩
 ·rw [if_neg c2] at H
  have c2b0 : decide (1 ≤ a0_1) = false := df_ c2
  clear c2
  obtain rfl := Option.some.inj H
  go_enter Tryd.func16,Tryd.ntmps16
  go_wp2_with (first|((with_reducible refine gate_dst (N := 1) rfl ?_);refine box_event ?hg (N := 1) ?hd (cs := #[.int .i64 a0_0,.int .i64 a0_1]) (t := 42) ?hr ?_;(case hd => rfl);(case hg => rfl);(case hr => first|(go_simp;done)|(go_simp;rfl));intro gb215 hg w14 hbox hb;have BK215 := sd_ hbox;have GW215 := gw_ HB e0_ hg;have GE215 := GW215;replace HB := hb_ HB e0_ hb;clear hb hbox hg;have hcz15_0 : w14.cell? ⟨gb215,0,none⟩ = some (.int .i64 a0_0) := (kc_ BK215.out 0).trans rfl;have hcz15_1 : w14.cell? ⟨gb215,1,none⟩ = some (.int .i64 a0_1) := (kc_ BK215.out 1).trans rfl;have hfz15_0 := kf_ BK215.out 0;have hfz15_1 := kf_ BK215.out 1))
  go_ret
  exact ⟨by first|rfl|(simp [errW_none,errW_some] <;> rfl)|(simp [*,errW_none,errW_some] <;> rfl),by repeat (first|(with_reducible first|exact HB.out|apply ba_|apply pd_|apply d1_|refine bs_ ?_ GE215.out)|exact HB.out)⟩

/-! ### dur_step: function 40 -/
def dur_step.f (a0_0 : Int) (a0_1 : Int) : Option (Int) := if a0_1 ≥ 8 then (if a0_0 > 3 then (if (Int.tmod a0_0 3) = 0 then (some 3) else (some 1)) else (some 1)) else (some 1)
set_option maxHeartbeats 8000000 in
set_option maxRecDepth 100000 in
theorem dur_step.calls (a0_0 : Int) (a0_1 : Int) (r : Int) (w : World) (h : dur_step.f a0_0 a0_1 = some r) :
  Calls Tryd.prog 40 #[.agg #[.int .i64 a0_0,.int .i64 a0_1]] w fun e w' => e = .returned (.int .i64 r) ∧ Below w.heap.size w w' := by
 have hu42 := Tryd.underlying42
 have HB := sd_ (Below.refl w.heap.size w)
 have H : (if a0_1 ≥ 8 then (if a0_0 > 3 then (if (Int.tmod a0_0 3) = 0 then (some 3) else (some 1)) else (some 1)) else (some 1)) = some r := h
 clear h
 by_cases c2 : a0_1 ≥ 8
 ·rw [if_pos c2] at H
  have c2b0 : decide (8 ≤ a0_1) = true := dt_ c2
  clear c2
  by_cases c3 : a0_0 > 3
  ·rw [if_pos c3] at H
   have c3b0 : decide (3 < a0_0) = true := dt_ c3
   clear c3
   by_cases c4 : (Int.tmod a0_0 3) = 0
   ·rw [if_pos c4] at H
    have c4b0 : ((Int.tmod a0_0 3) == 0) = true := beq_iff_eq.mpr c4
    have c4b1 : ((Int.tmod a0_0 3) != 0) = false := bne_eq_false_iff_eq.mpr c4
    clear c4
    obtain rfl := Option.some.inj H
    go_enter Tryd.func40,Tryd.ntmps40
    go_wp2_with (first|((with_reducible refine gate_dst (N := 1) rfl ?_);refine box_event ?hg (N := 1) ?hd (cs := #[.int .i64 a0_0,.int .i64 a0_1]) (t := 42) ?hr ?_;(case hd => rfl);(case hg => rfl);(case hr => first|(go_simp;done)|(go_simp;rfl));intro gb216 hg w5 hbox hb;have BK216 := sd_ hbox;have GW216 := gw_ HB e0_ hg;have GE216 := GW216;replace HB := hb_ HB e0_ hb;clear hb hbox hg;have hcz6_0 : w5.cell? ⟨gb216,0,none⟩ = some (.int .i64 a0_0) := (kc_ BK216.out 0).trans rfl;have hcz6_1 : w5.cell? ⟨gb216,1,none⟩ = some (.int .i64 a0_1) := (kc_ BK216.out 1).trans rfl;have hfz6_0 := kf_ BK216.out 0;have hfz6_1 := kf_ BK216.out 1))
    go_ret
    exact ⟨by first|rfl|(simp [errW_none,errW_some] <;> rfl)|(simp [*,errW_none,errW_some] <;> rfl),by repeat (first|(with_reducible first|exact HB.out|apply ba_|apply pd_|apply d1_|refine bs_ ?_ GE216.out)|exact HB.out)⟩
   ·rw [if_neg c4] at H
    have c4b0 : ((Int.tmod a0_0 3) == 0) = false := beq_eq_false_iff_ne.mpr c4
    have c4b1 : ((Int.tmod a0_0 3) != 0) = true := bne_iff_ne.mpr c4
    obtain rfl := Option.some.inj H
    go_enter Tryd.func40,Tryd.ntmps40
    go_wp2_with (first|((with_reducible refine gate_dst (N := 1) rfl ?_);refine box_event ?hg (N := 1) ?hd (cs := #[.int .i64 a0_0,.int .i64 a0_1]) (t := 42) ?hr ?_;(case hd => rfl);(case hg => rfl);(case hr => first|(go_simp;done)|(go_simp;rfl));intro gb216 hg w7 hbox hb;have BK216 := sd_ hbox;have GW216 := gw_ HB e0_ hg;have GE216 := GW216;replace HB := hb_ HB e0_ hb;clear hb hbox hg;have hcz8_0 : w7.cell? ⟨gb216,0,none⟩ = some (.int .i64 a0_0) := (kc_ BK216.out 0).trans rfl;have hcz8_1 : w7.cell? ⟨gb216,1,none⟩ = some (.int .i64 a0_1) := (kc_ BK216.out 1).trans rfl;have hfz8_0 := kf_ BK216.out 0;have hfz8_1 := kf_ BK216.out 1))
    go_ret
    exact ⟨by first|rfl|(simp [errW_none,errW_some] <;> rfl)|(simp [*,errW_none,errW_some] <;> rfl),by repeat (first|(with_reducible first|exact HB.out|apply ba_|apply pd_|apply d1_|refine bs_ ?_ GE216.out)|exact HB.out)⟩
  ·rw [if_neg c3] at H
   have c3b0 : decide (3 < a0_0) = false := df_ c3
   clear c3
   obtain rfl := Option.some.inj H
   go_enter Tryd.func40,Tryd.ntmps40
   go_wp2_with (first|((with_reducible refine gate_dst (N := 1) rfl ?_);refine box_event ?hg (N := 1) ?hd (cs := #[.int .i64 a0_0,.int .i64 a0_1]) (t := 42) ?hr ?_;(case hd => rfl);(case hg => rfl);(case hr => first|(go_simp;done)|(go_simp;rfl));intro gb216 hg w9 hbox hb;have BK216 := sd_ hbox;have GW216 := gw_ HB e0_ hg;have GE216 := GW216;replace HB := hb_ HB e0_ hb;clear hb hbox hg;have hcz10_0 : w9.cell? ⟨gb216,0,none⟩ = some (.int .i64 a0_0) := (kc_ BK216.out 0).trans rfl;have hcz10_1 : w9.cell? ⟨gb216,1,none⟩ = some (.int .i64 a0_1) := (kc_ BK216.out 1).trans rfl;have hfz10_0 := kf_ BK216.out 0;have hfz10_1 := kf_ BK216.out 1))
   go_ret
   exact ⟨by first|rfl|(simp [errW_none,errW_some] <;> rfl)|(simp [*,errW_none,errW_some] <;> rfl),by repeat (first|(with_reducible first|exact HB.out|apply ba_|apply pd_|apply d1_|refine bs_ ?_ GE216.out)|exact HB.out)⟩
 ·rw [if_neg c2] at H
  have c2b0 : decide (8 ≤ a0_1) = false := df_ c2
  clear c2
  obtain rfl := Option.some.inj H
  go_enter Tryd.func40,Tryd.ntmps40
  go_wp2_with (first|((with_reducible refine gate_dst (N := 1) rfl ?_);refine box_event ?hg (N := 1) ?hd (cs := #[.int .i64 a0_0,.int .i64 a0_1]) (t := 42) ?hr ?_;(case hd => rfl);(case hg => rfl);(case hr => first|(go_simp;done)|(go_simp;rfl));intro gb216 hg w11 hbox hb;have BK216 := sd_ hbox;have GW216 := gw_ HB e0_ hg;have GE216 := GW216;replace HB := hb_ HB e0_ hb;clear hb hbox hg;have hcz12_0 : w11.cell? ⟨gb216,0,none⟩ = some (.int .i64 a0_0) := (kc_ BK216.out 0).trans rfl;have hcz12_1 : w11.cell? ⟨gb216,1,none⟩ = some (.int .i64 a0_1) := (kc_ BK216.out 1).trans rfl;have hfz12_0 := kf_ BK216.out 0;have hfz12_1 := kf_ BK216.out 1))
  go_ret
  exact ⟨by first|rfl|(simp [errW_none,errW_some] <;> rfl)|(simp [*,errW_none,errW_some] <;> rfl),by repeat (first|(with_reducible first|exact HB.out|apply ba_|apply pd_|apply d1_|refine bs_ ?_ GE216.out)|exact HB.out)⟩

/-! ### dur_Beats: function 14 -/
def dur_Beats.l0 : Nat → List (S25) → Int → Int → Int → Option ((List (S25)) × Int)
 | 0, _, _, _, _ => none
 | k + 1, x5, x6, x218000, x218001 => if x6 < x218000 then ((rat_Of.f k x6 x218001).bind fun bt221 => (if x5.length < 8796093022208 then ((dur_step.f x218000 x218001).bind fun t228 => (dur_Beats.l0 k (x5 ++ [(⟨bt221.1, bt221.2.1⟩ : S25)]) (wrap64 (x6 + t228)) x218000 x218001)) else (none))) else (some (x5, 0))
def dur_Beats.f (k : Nat) (a0_0 : Int) (a0_1 : Int) : Option ((List (S25)) × Int) := (dur_Meter.f a0_0 a0_1).bind fun t218 => ((dur_may.f t218).bind fun t219 => (if t219.isNone = true then (dur_Beats.l0 k ([] : List (S25)) 0 a0_0 a0_1) else ((dur_errno.f (some (t219.getD 0))).bind fun t229 => (some (([] : List (S25)), t229)))))
theorem dur_Beats.mono_l : ∀ k, (∀ y0 y1 y2 y3, LeO (dur_Beats.l0 k y0 y1 y2 y3) (dur_Beats.l0 (k + 1) y0 y1 y2 y3))
 | 0 => fun _ _ _ _ r h => by simp [dur_Beats.l0] at h
 | k + 1 => by
  have ih0 := dur_Beats.mono_l k
  ·intro y0 y1 y2 y3
   unfold dur_Beats.l0
   repeat' first
   | (with_reducible exact ih0 _ _ _ _)
   | (with_reducible exact rat_Of.mono _ _ _)
   | (with_reducible exact LeO.refl _)
   | (with_reducible exact LeO.none _)
   | (with_reducible refine LeO.ite ?_ ?_)
   | (with_reducible refine LeO.bind ?_ (fun _ => ?_))
   | exact ih0 _ _ _ _
   | exact rat_Of.mono _ _ _
   | exact LeO.none _
   | refine LeO.ite ?_ ?_
   | refine LeO.bind ?_ (fun _ => ?_)
theorem dur_Beats.mono : ∀ a0 a1 k, LeO (dur_Beats.f k a0 a1) (dur_Beats.f (k + 1) a0 a1) := by
 intro a0 a1 k
 have ih0 := dur_Beats.mono_l k
 unfold dur_Beats.f
 repeat' first
   | (with_reducible exact ih0 _ _ _ _)
   | (with_reducible exact rat_Of.mono _ _ _)
   | (with_reducible exact LeO.refl _)
   | (with_reducible exact LeO.none _)
   | (with_reducible refine LeO.ite ?_ ?_)
   | (with_reducible refine LeO.bind ?_ (fun _ => ?_))
   | exact ih0 _ _ _ _
   | exact rat_Of.mono _ _ _
   | exact LeO.none _
   | refine LeO.ite ?_ ?_
   | refine LeO.bind ?_ (fun _ => ?_)
set_option maxHeartbeats 8000000 in
set_option maxRecDepth 100000 in
theorem dur_Beats.calls (k : Nat) (a0_0 : Int) (a0_1 : Int) (r1 : List (S25)) (r2 : Int) (w : World) (h : dur_Beats.f k a0_0 a0_1 = some (r1, r2)) :
  Calls Tryd.prog 14 #[.agg #[.int .i64 a0_0,.int .i64 a0_1]] w fun e w' => ∃ v0_ : Value,e = .returned (.tuple #[v0_,.int .i64 r2]) ∧ Kd.R k25 25 w' w.heap.size (fun _ => True) v0_ r1 ∧ Below w.heap.size w w' := by
 have hu42 := Tryd.underlying42
 have hu25 := Tryd.underlying25
 have hu53 := Tryd.underlying53
 have HB := sd_ (Below.refl w.heap.size w)
 have H : ((dur_Meter.f a0_0 a0_1).bind fun t218 => ((dur_may.f t218).bind fun t219 => (if t219.isNone = true then (dur_Beats.l0 k ([] : List (S25)) 0 a0_0 a0_1) else ((dur_errno.f (some (t219.getD 0))).bind fun t229 => (some (([] : List (S25)),t229)))))) = some (r1,r2) := h
 clear h
 replace H := ob_ H
 obtain ⟨t218,A20,H⟩ := H
 try dsimp only at H
 have A2 := sd_ A20
 clear A20
 replace H := ob_ H
 obtain ⟨t219,A30,H⟩ := H
 try dsimp only at H
 have A3 := sd_ A30
 clear A30
 rcases t219 with _|q220
 ·have H1 : (dur_Beats.l0 k ([] : List (S25)) 0 a0_0 a0_1) = some (r1,r2) := by rw [if_pos (show (none : Option Int).isNone = true by rfl)] at H;exact H
  clear H;have H := H1;clear H1
  try simp only [errW_none,errW_some]
  have H' := sd_ H
  clear H
  go_enter Tryd.func14,Tryd.ntmps14
  go_wp2_with (first|((with_reducible refine gate_dst (N := 1) rfl ?_);refine box_event ?hg (N := 1) ?hd (cs := #[.int .i64 a0_0,.int .i64 a0_1]) (t := 42) ?hr ?_;(case hd => rfl);(case hg => rfl);(case hr => first|(go_simp;done)|(go_simp;rfl));intro gb217 hg w4 hbox hb;have BK217 := sd_ hbox;have GW217 := gw_ HB e0_ hg;have GE217 := GW217;replace HB := hb_ HB e0_ hb;clear hb hbox hg;have hcz5_0 : w4.cell? ⟨gb217,0,none⟩ = some (.int .i64 a0_0) := (kc_ BK217.out 0).trans rfl;have hcz5_1 : w4.cell? ⟨gb217,1,none⟩ = some (.int .i64 a0_1) := (kc_ BK217.out 1).trans rfl;have hfz5_0 := kf_ BK217.out 0;have hfz5_1 := kf_ BK217.out 1)|((with_reducible refine gate_callee (f := 16) rfl ?_);refine goesL_ (some 10) rfl rfl Tryd.func16 (by kernel_rfl) rfl #[.agg #[.int .i64 a0_0,.int .i64 a0_1]] rfl (by (try simp only [lm_,lq_,lx_]);first|done|rfl|(simp only [ld_,lt_];rfl)) ?_;(with_reducible refine (dur_Meter.calls a0_0 a0_1 t218 _ A2.out).mono ?_);rintro e w6 ⟨rfl,hb⟩;refine ⟨_,rfl,?_⟩;replace BK217 := kb_ BK217 hb;replace HB := hb_ HB (e_ GE217 e0_) hb;(try clear hb);(try clear hb2);(try clear hk);(try clear hi))|((with_reducible refine gate_callee (f := 21) rfl ?_);refine goesL_ (some 11) rfl rfl Tryd.func21 (by kernel_rfl) rfl #[.bool t218] rfl (by (try simp only [lm_,lq_,lx_]);first|done|rfl|(simp only [ld_,lt_];rfl)) ?_;(with_reducible refine (dur_may.calls t218 none _ A3.out).mono ?_);rintro e w' ⟨rfl,⟨nd,rfl⟩⟩;refine ⟨_,rfl,?_⟩;(try simp only [errW_none,errW_some])))
  go_loopg [5,6] k (fun kq v5 v6 w' => ∃ (x5_1 : List (S25)) (x6_1 : Int),v6 = .int .i64 x6_1 ∧ Aside0 (dur_Beats.l0 kq x5_1 x6_1 a0_0 a0_1 = some (r1,r2)) ∧ Aside0 (kq ≤ k) ∧ Aside0 (Kd.R k25 25 w' w.heap.size (fun _ => True) v5 x5_1) ∧ Aside0 (w'.heap[gb217]? = some (.cells #[.int .i64 a0_0,.int .i64 a0_1] 42 (0,0))) ∧ Aside0 (Below w.heap.size w w'))
  case atStart => exact ⟨(([] : List (S25))),(0),(by first|rfl|(simp;done)|(simp [*];done)|(simp [bne];done)),H',⟨Nat.le_refl _⟩,⟨by first|exact Kd.R_nil _ _ _ _ _|exact Kd.N_nil _ _ _ _ _|exact Kd.V_nil _ _ _ _ _|exact Kd.Q_nil _ _ _ _ _|exact Kd.S_nil _ _ _ _ _⟩,⟨by (with_reducible repeat first|apply kn_|apply kd_|apply ka_);exact BK217.out⟩,⟨by repeat (first|(with_reducible first|exact HB.out|apply ba_|apply pd_|apply d1_|refine bs_ ?_ GE217.out)|exact HB.out)⟩⟩
  case round =>
   clear H'
   try clear c1;try clear c2;try clear p2;try clear q2;try clear hcz5_0;try clear hcz5_1;try clear hfz5_0;try clear hfz5_1;try clear q220
   obtain ⟨x5_1,x6_1,rfl,HA,HK1,HO_5,BK217,HB⟩ := hrel
   cases gk with
   | zero => exact absurd HA.out (by simp [dur_Beats.l0])
   | succ k1 =>
    have H := HA.out
    clear HA
    simp only [dur_Beats.l0] at H
    by_cases c7 : x6_1 < a0_0
    ·rw [if_pos c7] at H
     have c7b0 : decide (x6_1 < a0_0) = true := dt_ c7
     clear c7
     replace H := ob_ H
     obtain ⟨⟨t221,t222,t223⟩,A80,H⟩ := H
     try dsimp only at H
     have A8 := sd_ A80
     clear A80
     by_cases c9 : x5_1.length < 8796093022208
     ·rw [if_pos c9] at H
      have LMc9 := sd_ c9
      clear c9
      obtain ⟨y225,hy225⟩ : ∃ y_ : List (S25),y_ = (x5_1 ++ [(⟨t221,t222⟩ : S25)]) := ⟨_,rfl⟩
      replace H : ((dur_step.f a0_0 a0_1).bind fun t228 => (dur_Beats.l0 k1 y225 (wrap64 (x6_1 + t228)) a0_0 a0_1)) = some (r1,r2) := by first|(rw [hy225];with_reducible exact H)|(have H2_ := (Option.bind_some _ _).symm.trans H;rw [hy225];with_reducible exact H2_)|(have H2_ := (Option.bind_some _ _).symm.trans H;with_reducible exact H2_)|with_reducible exact H|(rw [hy225];exact H)|exact H
      have Ny225 := sd_ hy225
      clear hy225
      replace H := ob_ H
      obtain ⟨t228,A100,H⟩ := H
      replace H : (dur_Beats.l0 k1 y225 (wrap64 (x6_1 + t228)) a0_0 a0_1) = some (r1,r2) := H
      have A10 := sd_ A100
      clear A100
      have H' := sd_ H
      clear H
      have hcz11_0 : wr.cell? ⟨gb217,0,none⟩ = some (.int .i64 a0_0) := (kc_ BK217.out 0).trans rfl
      have hcz11_1 : wr.cell? ⟨gb217,1,none⟩ = some (.int .i64 a0_1) := (kc_ BK217.out 1).trans rfl
      have hfz11_0 := kf_ BK217.out 0
      have hfz11_1 := kf_ BK217.out 1
      go_wp2_with (first|((with_reducible refine gate_callee (f := 23) rfl ?_);refine goesL_ (some 28) rfl rfl Tryd.func23 (by kernel_rfl) rfl #[.int .i64 x6_1,.int .i64 a0_1] rfl (by (try simp only [lm_,lq_,lx_]);first|done|rfl|(simp only [ld_,lt_];rfl)) ?_;(with_reducible refine (rat_Of.calls k1 x6_1 a0_1 t221 t222 t223 _ A8.out).mono ?_);rintro e w12 ⟨rfl,hb⟩;refine ⟨_,rfl,?_⟩;replace HO_5 := sd_ (Kd.R_below (by (with_reducible repeat (first|apply Kd.R_alloc|apply Kd.R_drewN|apply Kd.R_drew));exact HO_5.out) hb);replace BK217 := kb_ BK217 hb;replace HB := hb_ HB (e_ GE217 e0_) hb;(try clear hb);(try clear hb2);(try clear hk);(try clear hi))|((with_reducible refine gate_dst (N := 7) rfl ?_);refine box_event ?hg (N := 7) ?hd (cs := #[.int .i64 0,.int .i64 0]) (t := 25) ?hr ?_;(case hd => rfl);(case hg => rfl);(case hr => first|(go_simp;done)|(go_simp;rfl));intro gb224 hg w13 hbox hb;have BK224 := sd_ hbox;have GW224 := gw_ HB (e_ GE217 e0_) hg;have GE224 := GW224;have NB217_224 := nb_ BK217 hg;have NB224_217 := sy_ NB217_224;replace HO_5 := sd_ (Kd.R_below (Kd.R_elderB (by (with_reducible repeat (first|apply Kd.R_alloc|apply Kd.R_drewN|apply Kd.R_drew));exact HO_5.out) gb224 (Nat.le_of_eq hg.symm)) hb);replace BK217 := kb_ BK217 hb;replace HB := hb_ HB (e_ GE217 e0_) hb;clear hb hbox hg;have hnb14 := NB224_217.out;have hnc14 := NB217_224.out;have hcz15_0 : w13.cell? ⟨gb224,0,none⟩ = some (.int .i64 0) := (kc_ BK224.out 0).trans rfl;have hcz15_1 : w13.cell? ⟨gb224,1,none⟩ = some (.int .i64 0) := (kc_ BK224.out 1).trans rfl;have hfz15_0 := kf_ BK224.out 0;have hfz15_1 := kf_ BK224.out 1)|((with_reducible refine gate_builtin (b := .append) (xs := #[.tmp 31,.tmp 33]) rfl ?_);at_builtin;refine Kd.R_append k25 (w0 := w) w.heap.size rfl (.tmp 31) (.tmp 33) 43 25 (.agg #[(.int .i64 0),(.int .i64 0)]) 16 rfl Tryd.underlying43 info25 rfl (by decide) (by omega) u5 x5_1 (⟨t221,t222⟩ : S25) [.int .i64 t221,.int .i64 t222] (fun k_ => k_ ≠ gb224) (fun _ => False) rfl (by first|(go_simp;done)|(go_simp;rfl)) ?aP (fun _ hk => hk.elim) ?aF ?aO ?aB ?aS ?aL ?_;(case aP => exact k25_mkM _ _ _ (⟨t221,t222⟩ : S25));(case aB => exact (bb_ HB.out (e_ GE217 (e_ GE224 e0_))));(case aF => exact (fun k_ hk => Kd.freshB (g := gb224) (o := .cells #[.int .i64 t221,.int .i64 t222] 25 (0,0)) (by (with_reducible repeat first|apply kn_|apply kd_|apply ka_);refine blk_put (cs := #[.int .i64 t221,.int .i64 0]) ?_ 1 _ rfl;(with_reducible repeat first|apply kn_|apply kd_|apply ka_);refine blk_put (cs := #[.int .i64 0,.int .i64 0]) ?_ 0 _ rfl;(with_reducible repeat first|apply kn_|apply kd_|apply ka_);exact BK224.out) k_ hk));(case aO => exact (by (with_reducible repeat (first|apply Kd.R_alloc|apply Kd.R_drewN|apply Kd.R_drew));exact Kd.R_mono (Kd.R_far (p := ⟨gb224,1,none⟩) (Kd.R_far (p := ⟨gb224,0,none⟩) (Kd.R_mono HO_5.out (fun k_ hk => (⟨hk,hk.2⟩ : _ ∧ k_ ≠ gb224))) (fun _ hk => hk.2) (.int .i64 t221)) (fun _ hk => hk.2) (.int .i64 t222)) (fun _ hk => hk.1.2)));(case aS => exact (bz_ (bb_ HB.out (e_ GE217 (e_ GE224 e0_)))));(case aL => have := LMc9.out;omega);intro v226 w16 ho hb hg hat;rw [← Ny225.out] at ho;have n0_ := sd_ (blk_grown (g := gb217) (o := .cells #[.int .i64 a0_0,.int .i64 a0_1] 42 (0,0)) (by (with_reducible repeat first|apply kn_|apply kd_|apply ka_);refine blk_far ?_ NB217_224.out _;(with_reducible repeat first|apply kn_|apply kd_|apply ka_);refine blk_far ?_ NB217_224.out _;(with_reducible repeat first|apply kn_|apply kd_|apply ka_);exact BK217.out) hg (Kd.R_ne HO_5.out BK217.out (by decide)));have n1_ := sd_ (blk_grown (g := gb224) (o := .cells #[.int .i64 t221,.int .i64 t222] 25 (0,0)) (by (with_reducible repeat first|apply kn_|apply kd_|apply ka_);refine blk_put (cs := #[.int .i64 t221,.int .i64 0]) ?_ 1 _ rfl;(with_reducible repeat first|apply kn_|apply kd_|apply ka_);refine blk_put (cs := #[.int .i64 0,.int .i64 0]) ?_ 0 _ rfl;(with_reducible repeat first|apply kn_|apply kd_|apply ka_);exact BK224.out) hg (Kd.R_away HO_5.out (fun _ hk => hk.2)));have n2_ := sd_ (hb);have n3_ := sd_ (ho);clear BK217;clear BK224;clear HB;clear HO_5;have BK217 := n0_;have BK224 := n1_;have HB := n2_;have HO227 := n3_;clear n0_ n1_ n2_ n3_;clear ho hb hg hat;have hcz17_0 : w16.cell? ⟨gb217,0,none⟩ = some (.int .i64 a0_0) := (kc_ BK217.out 0).trans rfl;have hcz17_1 : w16.cell? ⟨gb217,1,none⟩ = some (.int .i64 a0_1) := (kc_ BK217.out 1).trans rfl;have hfz17_0 := kf_ BK217.out 0;have hfz17_1 := kf_ BK217.out 1)|((with_reducible refine gate_callee (f := 40) rfl ?_);refine goesL_ (some 22) rfl rfl Tryd.func40 (by kernel_rfl) rfl #[.agg #[.int .i64 a0_0,.int .i64 a0_1]] rfl (by (try simp only [lm_,lq_,lx_]);first|done|rfl|(simp only [ld_,lt_];rfl)) ?_;(with_reducible refine (dur_step.calls a0_0 a0_1 t228 _ A10.out).mono ?_);rintro e w18 ⟨rfl,hb⟩;refine ⟨_,rfl,?_⟩;replace HO227 := sd_ (Kd.R_below (by (with_reducible repeat (first|apply Kd.R_alloc|apply Kd.R_drewN|apply Kd.R_drew));exact HO227.out) hb);replace BK217 := kb_ BK217 hb;replace BK224 := kb_ BK224 hb;replace HB := hb_ HB (e_ GE217 (e_ GE224 e0_)) hb;(try clear hb);(try clear hb2);(try clear hk);(try clear hi)))
      go_roundg k1
      case measure => have := HK1.out;omega
      case rel => exact ⟨(y225),(wrap64 (x6_1 + t228)),(by first|rfl|(simp;done)|(simp [*];done)|(simp [bne];done)),H',⟨by have := HK1.out;omega⟩,⟨by (with_reducible repeat (first|apply Kd.R_alloc|apply Kd.R_drewN|apply Kd.R_drew));exact Kd.R_mono HO227.out (fun _ hk => trivial)⟩,⟨by (with_reducible repeat first|apply kn_|apply kd_|apply ka_);exact BK217.out⟩,⟨by repeat (first|(with_reducible first|exact HB.out|apply ba_|apply pd_|apply d1_|refine bs_ ?_ GE217.out|refine bs_ ?_ GE224.out)|exact HB.out)⟩⟩
     ·rw [if_neg c9] at H
      exact absurd H (by simp)
    ·rw [if_neg c7] at H
     have c7b0 : decide (x6_1 < a0_0) = false := df_ c7
     clear c7
     simp only [Option.some.injEq,Prod.mk.injEq] at H
     obtain ⟨rfl,rfl⟩ := H
     have hcz19_0 : wr.cell? ⟨gb217,0,none⟩ = some (.int .i64 a0_0) := (kc_ BK217.out 0).trans rfl
     have hcz19_1 : wr.cell? ⟨gb217,1,none⟩ = some (.int .i64 a0_1) := (kc_ BK217.out 1).trans rfl
     have hfz19_0 := kf_ BK217.out 0
     have hfz19_1 := kf_ BK217.out 1
     go_wp2
     go_ret2
     exact ⟨_,by first|rfl|(simp [errW_none,errW_some] <;> rfl)|(simp [*,errW_none,errW_some] <;> rfl),by (with_reducible repeat (first|apply Kd.R_alloc|apply Kd.R_drewN|apply Kd.R_drew));exact HO_5.out,by repeat (first|(with_reducible first|exact HB.out|apply ba_|apply pd_|apply d1_|refine bs_ ?_ GE217.out)|exact HB.out)⟩
 ·have H1 : ((dur_errno.f (some q220)).bind fun t229 => (some (([] : List (S25)),t229))) = some (r1,r2) := by rw [if_neg (show ¬ (some q220).isNone = true by simp)] at H;exact H
  clear H;have H := H1;clear H1
  try simp only [errW_none,errW_some]
  replace H := ob_ H
  obtain ⟨t229,A200,H⟩ := H
  replace H : (some (([] : List (S25)),t229)) = some (r1,r2) := H
  have A20 := sd_ A200
  clear A200
  simp only [Option.some.injEq,Prod.mk.injEq] at H
  obtain ⟨rfl,rfl⟩ := H
  go_enter Tryd.func14,Tryd.ntmps14
  go_wp2_with (first|((with_reducible refine gate_dst (N := 1) rfl ?_);refine box_event ?hg (N := 1) ?hd (cs := #[.int .i64 a0_0,.int .i64 a0_1]) (t := 42) ?hr ?_;(case hd => rfl);(case hg => rfl);(case hr => first|(go_simp;done)|(go_simp;rfl));intro gb217 hg w21 hbox hb;have BK217 := sd_ hbox;have GW217 := gw_ HB e0_ hg;have GE217 := GW217;replace HB := hb_ HB e0_ hb;clear hb hbox hg;have hcz22_0 : w21.cell? ⟨gb217,0,none⟩ = some (.int .i64 a0_0) := (kc_ BK217.out 0).trans rfl;have hcz22_1 : w21.cell? ⟨gb217,1,none⟩ = some (.int .i64 a0_1) := (kc_ BK217.out 1).trans rfl;have hfz22_0 := kf_ BK217.out 0;have hfz22_1 := kf_ BK217.out 1)|((with_reducible refine gate_callee (f := 16) rfl ?_);refine goesL_ (some 10) rfl rfl Tryd.func16 (by kernel_rfl) rfl #[.agg #[.int .i64 a0_0,.int .i64 a0_1]] rfl (by (try simp only [lm_,lq_,lx_]);first|done|rfl|(simp only [ld_,lt_];rfl)) ?_;(with_reducible refine (dur_Meter.calls a0_0 a0_1 t218 _ A2.out).mono ?_);rintro e w23 ⟨rfl,hb⟩;refine ⟨_,rfl,?_⟩;replace BK217 := kb_ BK217 hb;replace HB := hb_ HB (e_ GE217 e0_) hb;(try clear hb);(try clear hb2);(try clear hk);(try clear hi))|((with_reducible refine gate_callee (f := 21) rfl ?_);refine goesL_ (some 11) rfl rfl Tryd.func21 (by kernel_rfl) rfl #[.bool t218] rfl (by (try simp only [lm_,lq_,lx_]);first|done|rfl|(simp only [ld_,lt_];rfl)) ?_;(with_reducible refine (dur_may.calls t218 (some q220) _ A3.out).mono ?_);rintro e w' ⟨rfl,⟨nd,rfl⟩⟩;refine ⟨_,rfl,?_⟩;(try simp only [errW_none,errW_some]);have CA20 := fun W => dur_errno.calls (some q220) t229 W A20.out;try simp only [errW_none,errW_some] at CA20)|(go_at_call 22;(with_reducible refine (CA20 _).mono ?_);rintro e w24 ⟨rfl,hb⟩;replace BK217 := kb_ BK217 hb;replace HB := hb_ HB (e_ GE217 e0_) hb;(try clear hb);(try clear hb2);(try clear hk);(try clear hi)))
  go_ret2
  exact ⟨_,by first|rfl|(simp [errW_none,errW_some] <;> rfl)|(simp [*,errW_none,errW_some] <;> rfl),by first|exact Kd.R_nil _ _ _ _ _|exact Kd.N_nil _ _ _ _ _|exact Kd.V_nil _ _ _ _ _|exact Kd.Q_nil _ _ _ _ _|exact Kd.S_nil _ _ _ _ _,by repeat (first|(with_reducible first|exact HB.out|apply ba_|apply pd_|apply d1_|refine bs_ ?_ GE217.out)|exact HB.out)⟩

/-! ### dur_Bar: function 15 -/
def dur_Bar.f (k : Nat) (a0_0 : Int) (a0_1 : Int) : Option (Int × Int × Int) := (dur_Meter.f a0_0 a0_1).bind fun t232 => ((dur_may.f t232).bind fun t233 => (if t233.isNone = true then ((rat_Of.f k a0_0 a0_1).bind fun bt235 => (some (bt235.1, bt235.2.1, bt235.2.2))) else ((dur_errno.f (some (t233.getD 0))).bind fun t238 => (some (0, 0, t238)))))
theorem dur_Bar.mono : ∀ a0 a1 k, LeO (dur_Bar.f k a0 a1) (dur_Bar.f (k + 1) a0 a1) := by
 intro a0 a1 k
 unfold dur_Bar.f
 repeat' first
   | (with_reducible exact rat_Of.mono _ _ _)
   | (with_reducible exact LeO.refl _)
   | (with_reducible exact LeO.none _)
   | (with_reducible refine LeO.ite ?_ ?_)
   | (with_reducible refine LeO.bind ?_ (fun _ => ?_))
   | exact rat_Of.mono _ _ _
   | exact LeO.none _
   | refine LeO.ite ?_ ?_
   | refine LeO.bind ?_ (fun _ => ?_)
set_option maxHeartbeats 8000000 in
set_option maxRecDepth 100000 in
theorem dur_Bar.calls (k : Nat) (a0_0 : Int) (a0_1 : Int) (r1 : Int) (r2 : Int) (r3 : Int) (w : World) (h : dur_Bar.f k a0_0 a0_1 = some (r1, r2, r3)) :
  Calls Tryd.prog 15 #[.agg #[.int .i64 a0_0,.int .i64 a0_1]] w fun e w' => e = .returned (.tuple #[.agg #[.int .i64 r1,.int .i64 r2],.int .i64 r3]) ∧ Below w.heap.size w w' := by
 have hu42 := Tryd.underlying42
 have hu25 := Tryd.underlying25
 have hu53 := Tryd.underlying53
 have HB := sd_ (Below.refl w.heap.size w)
 have H : ((dur_Meter.f a0_0 a0_1).bind fun t232 => ((dur_may.f t232).bind fun t233 => (if t233.isNone = true then ((rat_Of.f k a0_0 a0_1).bind fun bt235 => (some (bt235.1,bt235.2.1,bt235.2.2))) else ((dur_errno.f (some (t233.getD 0))).bind fun t238 => (some (0,0,t238)))))) = some (r1,r2,r3) := h
 clear h
 replace H := ob_ H
 obtain ⟨t232,A20,H⟩ := H
 try dsimp only at H
 have A2 := sd_ A20
 clear A20
 replace H := ob_ H
 obtain ⟨t233,A30,H⟩ := H
 try dsimp only at H
 have A3 := sd_ A30
 clear A30
 rcases t233 with _|q234
 ·have H1 : ((rat_Of.f k a0_0 a0_1).bind fun bt235 => (some (bt235.1,bt235.2.1,bt235.2.2))) = some (r1,r2,r3) := by rw [if_pos (show (none : Option Int).isNone = true by rfl)] at H;exact H
  clear H;have H := H1;clear H1
  try simp only [errW_none,errW_some]
  replace H := ob_ H
  obtain ⟨⟨t235,t236,t237⟩,A40,H⟩ := H
  replace H : (some (t235,t236,t237)) = some (r1,r2,r3) := H
  have A4 := sd_ A40
  clear A40
  simp only [Option.some.injEq,Prod.mk.injEq] at H
  obtain ⟨rfl,rfl,rfl⟩ := H
  go_enter Tryd.func15,Tryd.ntmps15
  go_wp2_with (first|((with_reducible refine gate_dst (N := 1) rfl ?_);refine box_event ?hg (N := 1) ?hd (cs := #[.int .i64 a0_0,.int .i64 a0_1]) (t := 42) ?hr ?_;(case hd => rfl);(case hg => rfl);(case hr => first|(go_simp;done)|(go_simp;rfl));intro gb230 hg w5 hbox hb;have BK230 := sd_ hbox;have GW230 := gw_ HB e0_ hg;have GE230 := GW230;replace HB := hb_ HB e0_ hb;clear hb hbox hg)|((with_reducible refine gate_dst (N := 2) rfl ?_);refine box_event ?hg (N := 2) ?hd (cs := #[.int .i64 0,.int .i64 0]) (t := 25) ?hr ?_;(case hd => rfl);(case hg => rfl);(case hr => first|(go_simp;done)|(go_simp;rfl));intro gb231 hg w6 hbox hb;have BK231 := sd_ hbox;have GW231 := gw_ HB (e_ GE230 e0_) hg;have GE231 := GW231;have NB230_231 := nb_ BK230 hg;have NB231_230 := sy_ NB230_231;replace BK230 := kb_ BK230 hb;replace HB := hb_ HB (e_ GE230 e0_) hb;clear hb hbox hg;have hnb7 := NB230_231.out;have hnc7 := NB231_230.out;have hcz8_0 : w6.cell? ⟨gb230,0,none⟩ = some (.int .i64 a0_0) := (kc_ BK230.out 0).trans rfl;have hcz8_1 : w6.cell? ⟨gb230,1,none⟩ = some (.int .i64 a0_1) := (kc_ BK230.out 1).trans rfl;have hfz8_0 := kf_ BK230.out 0;have hfz8_1 := kf_ BK230.out 1)|((with_reducible refine gate_callee (f := 16) rfl ?_);refine goesL_ (some 6) rfl rfl Tryd.func16 (by kernel_rfl) rfl #[.agg #[.int .i64 a0_0,.int .i64 a0_1]] rfl (by (try simp only [lm_,lq_,lx_]);first|done|rfl|(simp only [ld_,lt_];rfl)) ?_;(with_reducible refine (dur_Meter.calls a0_0 a0_1 t232 _ A2.out).mono ?_);rintro e w9 ⟨rfl,hb⟩;refine ⟨_,rfl,?_⟩;replace BK230 := kb_ BK230 hb;replace BK231 := kb_ BK231 hb;replace HB := hb_ HB (e_ GE230 (e_ GE231 e0_)) hb;(try clear hb);(try clear hb2);(try clear hk);(try clear hi))|((with_reducible refine gate_callee (f := 21) rfl ?_);refine goesL_ (some 7) rfl rfl Tryd.func21 (by kernel_rfl) rfl #[.bool t232] rfl (by (try simp only [lm_,lq_,lx_]);first|done|rfl|(simp only [ld_,lt_];rfl)) ?_;(with_reducible refine (dur_may.calls t232 none _ A3.out).mono ?_);rintro e w' ⟨rfl,⟨nd,rfl⟩⟩;refine ⟨_,rfl,?_⟩;(try simp only [errW_none,errW_some]);(repeat (rw [drewN_self w9];generalize hq_ : World.drewN w9 _ = w9;have n0_ : Aside0 (w9.heap[gb230]? = some (.cells #[.int .i64 a0_0,.int .i64 a0_1] 42 (0,0))) := ⟨by rw [← hq_];exact (kk_ BK230.out)⟩;have n1_ : Aside0 (w9.heap[gb231]? = some (.cells #[.int .i64 0,.int .i64 0] 25 (0,0))) := ⟨by rw [← hq_];exact (kk_ BK231.out)⟩;have n2_ : Aside0 (Below w.heap.size w w9) := ⟨by rw [← hq_];exact (bb_ HB.out (e_ GE230 (e_ GE231 e0_)))⟩;clear BK230 BK231 HB hq_;have BK230 := n0_;have BK231 := n1_;have HB := n2_;clear n0_ n1_ n2_));have hcz10_0 : w9.cell? ⟨gb230,0,none⟩ = some (.int .i64 a0_0) := (kc_ BK230.out 0).trans rfl;have hcz10_1 : w9.cell? ⟨gb230,1,none⟩ = some (.int .i64 a0_1) := (kc_ BK230.out 1).trans rfl;have hfz10_0 := kf_ BK230.out 0;have hfz10_1 := kf_ BK230.out 1)|((with_reducible refine gate_callee (f := 23) rfl ?_);refine goesL_ (some 17) rfl rfl Tryd.func23 (by kernel_rfl) rfl #[.int .i64 a0_0,.int .i64 a0_1] rfl (by (try simp only [lm_,lq_,lx_]);first|done|rfl|(simp only [ld_,lt_];rfl)) ?_;(with_reducible refine (rat_Of.calls k a0_0 a0_1 t235 t236 t237 _ A4.out).mono ?_);rintro e w11 ⟨rfl,hb⟩;refine ⟨_,rfl,?_⟩;replace BK230 := kb_ BK230 hb;replace BK231 := kb_ BK231 hb;replace HB := hb_ HB (e_ GE230 (e_ GE231 e0_)) hb;(try clear hb);(try clear hb2);(try clear hk);(try clear hi);have hcz12_0 : w11.cell? ⟨gb231,0,none⟩ = some (.int .i64 0) := (kc_ BK231.out 0).trans rfl;have hcz12_1 : w11.cell? ⟨gb231,1,none⟩ = some (.int .i64 0) := (kc_ BK231.out 1).trans rfl;have hfz12_0 := kf_ BK231.out 0;have hfz12_1 := kf_ BK231.out 1))
  refine bodyPost_ret (results_ct rfl _ _ gb231 25 #[.int .i64 t235,.int .i64 t236] (0,0) _ rfl (by (with_reducible repeat first|apply kn_|apply kd_|apply ka_);refine blk_put (cs := #[.int .i64 t235,.int .i64 0]) ?_ 1 _ rfl;(with_reducible repeat first|apply kn_|apply kd_|apply ka_);refine blk_put (cs := #[.int .i64 0,.int .i64 0]) ?_ 0 _ rfl;(with_reducible repeat first|apply kn_|apply kd_|apply ka_);exact BK231.out) Tryd.underlying25 rfl (by kernel_rfl)) rfl ?_
  exact ⟨by first|rfl|(simp [errW_none,errW_some] <;> rfl)|(simp [*,errW_none,errW_some] <;> rfl),by repeat (first|(with_reducible first|exact HB.out|apply ba_|apply pd_|apply d1_|refine bs_ ?_ GE230.out|refine bs_ ?_ GE231.out)|exact HB.out)⟩
 ·have H1 : ((dur_errno.f (some q234)).bind fun t238 => (some (0,0,t238))) = some (r1,r2,r3) := by rw [if_neg (show ¬ (some q234).isNone = true by simp)] at H;exact H
  clear H;have H := H1;clear H1
  try simp only [errW_none,errW_some]
  replace H := ob_ H
  obtain ⟨t238,A130,H⟩ := H
  replace H : (some (0,0,t238)) = some (r1,r2,r3) := H
  have A13 := sd_ A130
  clear A130
  simp only [Option.some.injEq,Prod.mk.injEq] at H
  obtain ⟨rfl,rfl,rfl⟩ := H
  go_enter Tryd.func15,Tryd.ntmps15
  go_wp2_with (first|((with_reducible refine gate_dst (N := 1) rfl ?_);refine box_event ?hg (N := 1) ?hd (cs := #[.int .i64 a0_0,.int .i64 a0_1]) (t := 42) ?hr ?_;(case hd => rfl);(case hg => rfl);(case hr => first|(go_simp;done)|(go_simp;rfl));intro gb230 hg w14 hbox hb;have BK230 := sd_ hbox;have GW230 := gw_ HB e0_ hg;have GE230 := GW230;replace HB := hb_ HB e0_ hb;clear hb hbox hg)|((with_reducible refine gate_dst (N := 2) rfl ?_);refine box_event ?hg (N := 2) ?hd (cs := #[.int .i64 0,.int .i64 0]) (t := 25) ?hr ?_;(case hd => rfl);(case hg => rfl);(case hr => first|(go_simp;done)|(go_simp;rfl));intro gb231 hg w15 hbox hb;have BK231 := sd_ hbox;have GW231 := gw_ HB (e_ GE230 e0_) hg;have GE231 := GW231;have NB230_231 := nb_ BK230 hg;have NB231_230 := sy_ NB230_231;replace BK230 := kb_ BK230 hb;replace HB := hb_ HB (e_ GE230 e0_) hb;clear hb hbox hg;have hnb16 := NB230_231.out;have hnc16 := NB231_230.out;have hcz17_0 : w15.cell? ⟨gb230,0,none⟩ = some (.int .i64 a0_0) := (kc_ BK230.out 0).trans rfl;have hcz17_1 : w15.cell? ⟨gb230,1,none⟩ = some (.int .i64 a0_1) := (kc_ BK230.out 1).trans rfl;have hfz17_0 := kf_ BK230.out 0;have hfz17_1 := kf_ BK230.out 1)|((with_reducible refine gate_callee (f := 16) rfl ?_);refine goesL_ (some 6) rfl rfl Tryd.func16 (by kernel_rfl) rfl #[.agg #[.int .i64 a0_0,.int .i64 a0_1]] rfl (by (try simp only [lm_,lq_,lx_]);first|done|rfl|(simp only [ld_,lt_];rfl)) ?_;(with_reducible refine (dur_Meter.calls a0_0 a0_1 t232 _ A2.out).mono ?_);rintro e w18 ⟨rfl,hb⟩;refine ⟨_,rfl,?_⟩;replace BK230 := kb_ BK230 hb;replace BK231 := kb_ BK231 hb;replace HB := hb_ HB (e_ GE230 (e_ GE231 e0_)) hb;(try clear hb);(try clear hb2);(try clear hk);(try clear hi))|((with_reducible refine gate_callee (f := 21) rfl ?_);refine goesL_ (some 7) rfl rfl Tryd.func21 (by kernel_rfl) rfl #[.bool t232] rfl (by (try simp only [lm_,lq_,lx_]);first|done|rfl|(simp only [ld_,lt_];rfl)) ?_;(with_reducible refine (dur_may.calls t232 (some q234) _ A3.out).mono ?_);rintro e w' ⟨rfl,⟨nd,rfl⟩⟩;refine ⟨_,rfl,?_⟩;(try simp only [errW_none,errW_some]);(repeat (rw [drewN_self w18];generalize hq_ : World.drewN w18 _ = w18;have n0_ : Aside0 (w18.heap[gb230]? = some (.cells #[.int .i64 a0_0,.int .i64 a0_1] 42 (0,0))) := ⟨by rw [← hq_];exact (kk_ BK230.out)⟩;have n1_ : Aside0 (w18.heap[gb231]? = some (.cells #[.int .i64 0,.int .i64 0] 25 (0,0))) := ⟨by rw [← hq_];exact (kk_ BK231.out)⟩;have n2_ : Aside0 (Below w.heap.size w w18) := ⟨by rw [← hq_];exact (bb_ HB.out (e_ GE230 (e_ GE231 e0_)))⟩;clear BK230 BK231 HB hq_;have BK230 := n0_;have BK231 := n1_;have HB := n2_;clear n0_ n1_ n2_));have CA13 := fun W => dur_errno.calls (some q234) t238 W A13.out;try simp only [errW_none,errW_some] at CA13)|(go_at_call 22;(with_reducible refine (CA13 _).mono ?_);rintro e w19 ⟨rfl,hb⟩;replace BK230 := kb_ BK230 hb;replace BK231 := kb_ BK231 hb;replace HB := hb_ HB (e_ GE230 (e_ GE231 e0_)) hb;(try clear hb);(try clear hb2);(try clear hk);(try clear hi);have hcz20_0 : w19.cell? ⟨gb231,0,none⟩ = some (.int .i64 0) := (kc_ BK231.out 0).trans rfl;have hcz20_1 : w19.cell? ⟨gb231,1,none⟩ = some (.int .i64 0) := (kc_ BK231.out 1).trans rfl;have hfz20_0 := kf_ BK231.out 0;have hfz20_1 := kf_ BK231.out 1))
  refine bodyPost_ret (results_ct rfl _ _ gb231 25 #[.int .i64 0,.int .i64 0] (0,0) _ rfl (by (with_reducible repeat first|apply kn_|apply kd_|apply ka_);refine blk_put (cs := #[.int .i64 0,.int .i64 0]) ?_ 1 _ rfl;(with_reducible repeat first|apply kn_|apply kd_|apply ka_);refine blk_put (cs := #[.int .i64 0,.int .i64 0]) ?_ 0 _ rfl;(with_reducible repeat first|apply kn_|apply kd_|apply ka_);exact BK231.out) Tryd.underlying25 rfl (by kernel_rfl)) rfl ?_
  exact ⟨by first|rfl|(simp [errW_none,errW_some] <;> rfl)|(simp [*,errW_none,errW_some] <;> rfl),by repeat (first|(with_reducible first|exact HB.out|apply ba_|apply pd_|apply d1_|refine bs_ ?_ GE230.out|refine bs_ ?_ GE231.out)|exact HB.out)⟩

/-! ### rat_whole: function 64 -/
def rat_whole.f (a0 : Int) : Option (Int × Int) := some (a0, 1)
set_option maxHeartbeats 8000000 in
set_option maxRecDepth 100000 in
theorem rat_whole.calls (a0 : Int) (r1 : Int) (r2 : Int) (w : World) (h : rat_whole.f a0 = some (r1, r2)) :
  Calls Tryd.prog 64 #[.int .i64 a0] w fun e w' => e = .returned (.agg #[.int .i64 r1,.int .i64 r2]) ∧ Below w.heap.size w w' := by
 have hu25 := Tryd.underlying25
 have HB := sd_ (Below.refl w.heap.size w)
 have H : (some (a0,1)) = some (r1,r2) := h
 clear h
 simp only [Option.some.injEq,Prod.mk.injEq] at H
 obtain ⟨rfl,rfl⟩ := H
 go_enter Tryd.func64,Tryd.ntmps64
 go_wp2_with (first|((with_reducible refine gate_dst (N := 2) rfl ?_);refine box_event ?hg (N := 2) ?hd (cs := #[.int .i64 0,.int .i64 0]) (t := 25) ?hr ?_;(case hd => rfl);(case hg => rfl);(case hr => first|(go_simp;done)|(go_simp;rfl));intro gb239 hg w2 hbox hb;have BK239 := sd_ hbox;have GW239 := gw_ HB e0_ hg;have GE239 := GW239;replace HB := hb_ HB e0_ hb;clear hb hbox hg;have hcz3_0 : w2.cell? ⟨gb239,0,none⟩ = some (.int .i64 0) := (kc_ BK239.out 0).trans rfl;have hcz3_1 : w2.cell? ⟨gb239,1,none⟩ = some (.int .i64 0) := (kc_ BK239.out 1).trans rfl;have hfz3_0 := kf_ BK239.out 0;have hfz3_1 := kf_ BK239.out 1))
 refine bodyPost_ret (results_cell_row rfl _ _ gb239 25 #[.int .i64 a0,.int .i64 1] (0,0) _ rfl (by (with_reducible repeat first|apply kn_|apply kd_|apply ka_);refine blk_put (cs := #[.int .i64 a0,.int .i64 0]) ?_ 1 _ rfl;(with_reducible repeat first|apply kn_|apply kd_|apply ka_);refine blk_put (cs := #[.int .i64 0,.int .i64 0]) ?_ 0 _ rfl;(with_reducible repeat first|apply kn_|apply kd_|apply ka_);exact BK239.out) Tryd.underlying25 rfl (by kernel_rfl)) rfl ?_
 exact ⟨by first|rfl|(simp [errW_none,errW_some] <;> rfl)|(simp [*,errW_none,errW_some] <;> rfl),by repeat (first|(with_reducible first|exact HB.out|apply ba_|apply pd_|apply d1_|refine bs_ ?_ GE239.out)|exact HB.out)⟩

end Go.Proofs.YtdiccfonlojlfaaDoor.P
