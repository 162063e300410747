-- Written by a program of this session (wip/tools/xprint.py, over the kit's print): Lean checks it.
import Derived.Test.YtmbdbinbdiiapaaDoorPx0
import Derived.Test.YtmbdbinbdiiapaaDoorPx1
import Derived.Test.YtmbdbinbdiiapaaDoorPx2
import Derived.Test.YtmbdbinbdiiapaaDoorPx5
import Derived.Test.YtmbdbinbdiiapaaDoorPx6
import Derived.Test.YtmbdbinbdiiapaaDoorPx8
import Derived.Test.YtmbdbinbdiiapaaDoorPx14
import Derived.Test.YtmbdbinbdiiapaaDoorPx15
import Derived.Test.YtmbdbinbdiiapaaDoorPx16
import Derived.Test.YtmbdbinbdiiapaaDoorPx17
namespace Go.Proofs.YtmbdbinbdiiapaaDoor.P
open Go.RowKit Go.Proofs.YtmbdbinbdiiapaaDoorW.PrintWords Go.Proofs.YtmbdbinbdiiapaaDoorW.PrintLast Go.Proofs.YtmbdbinbdiiapaaDoorW.PrintMore
attribute [local go_sem] max2_int min2_int max_two min_two max_three min_three max_four min_four   -- for this text's walks alone
set_option linter.unusedVariables false
set_option linter.unusedSimpArgs false

attribute [local go_sem high] eqA23
/-! ### neumelaw02_RatTells: function 4 -/
def neumelaw02_RatTells.f (k : Nat) (a0_0 : Int) (a0_1 : Int) (a1_0 : Int) (a1_1 : Int) (a2 : ByteArray) : Option (Bool) := if (a2.size : Int) > 100 then ((neumelaw02_heads.f k).bind fun t406 => (some t406)) else ((rat_Mod.f k a0_0 a0_1 a1_0 a1_1).bind fun bt407 => ((neumeref02_Mod.f k a0_0 a0_1 a1_0 a1_1).bind fun bt411 => ((rat_Parse.f k a2).bind fun bt415 => ((neumeref02_Parse.f k a2).bind fun bt419 => (if (bt407.1 == bt411.1 && (bt407.2.1 == bt411.2.1)) = true then (if bt407.2.2 = bt411.2.2 then (if (bt415.1 == bt419.1 && (bt415.2.1 == bt419.2.1)) = true then (if (bt415.2.2 == bt419.2.2) = true then ((rat_Cmp.f k a0_0 a0_1 a1_0 a1_1).bind fun t423 => ((neumeref02_Cmp.f k a0_0 a0_1 a1_0 a1_1).bind fun t424 => (if t423 = t424 then ((rat_Floor.f k a0_0 a0_1).bind fun t425 => ((neumeref02_Floor.f k a0_0 a0_1).bind fun t426 => (if t425 = t426 then ((rat_Text.f k a0_0 a0_1).bind fun t427 => ((neumeref02_Text.f k a0_0 a0_1).bind fun t428 => (if t427.toList = t428.toList then ((rat_Check.f k a0_0 a0_1).bind fun t429 => ((neumeref02_Check.f k a0_0 a0_1).bind fun t430 => (if (t429 == t430) = true then ((neumelaw02_heads.f k).bind fun t431 => (some t431)) else (some false)))) else (some false)))) else (some false)))) else (some false)))) else (some false)) else (some false)) else (some false)) else (some false))))))
theorem neumelaw02_RatTells.mono : ∀ a0 a1 a2 a3 a4 k, LeO (neumelaw02_RatTells.f k a0 a1 a2 a3 a4) (neumelaw02_RatTells.f (k + 1) a0 a1 a2 a3 a4) := by
 intro a0 a1 a2 a3 a4 k
 unfold neumelaw02_RatTells.f
 repeat' first
   | (with_reducible exact neumelaw02_heads.mono _)
   | (with_reducible exact neumeref02_Check.mono _ _ _)
   | (with_reducible exact neumeref02_Cmp.mono _ _ _ _ _)
   | (with_reducible exact neumeref02_Floor.mono _ _ _)
   | (with_reducible exact neumeref02_Mod.mono _ _ _ _ _)
   | (with_reducible exact neumeref02_Parse.mono _ _)
   | (with_reducible exact neumeref02_Text.mono _ _ _)
   | (with_reducible exact rat_Check.mono _ _ _)
   | (with_reducible exact rat_Cmp.mono _ _ _ _ _)
   | (with_reducible exact rat_Floor.mono _ _ _)
   | (with_reducible exact rat_Mod.mono _ _ _ _ _)
   | (with_reducible exact rat_Parse.mono _ _)
   | (with_reducible exact rat_Text.mono _ _ _)
   | (with_reducible exact LeO.refl _)
   | (with_reducible exact LeO.none _)
   | (with_reducible refine LeO.ite ?_ ?_)
   | (with_reducible refine LeO.bind ?_ (fun _ => ?_))
   | exact neumelaw02_heads.mono _
   | exact neumeref02_Check.mono _ _ _
   | exact neumeref02_Cmp.mono _ _ _ _ _
   | exact neumeref02_Floor.mono _ _ _
   | exact neumeref02_Mod.mono _ _ _ _ _
   | exact neumeref02_Parse.mono _ _
   | exact neumeref02_Text.mono _ _ _
   | exact rat_Check.mono _ _ _
   | exact rat_Cmp.mono _ _ _ _ _
   | exact rat_Floor.mono _ _ _
   | exact rat_Mod.mono _ _ _ _ _
   | exact rat_Parse.mono _ _
   | exact rat_Text.mono _ _ _
   | exact LeO.none _
   | refine LeO.ite ?_ ?_
   | refine LeO.bind ?_ (fun _ => ?_)
def neumelaw02_RatTells.T7 : Bool × List (List Nat × List Nat) := (true, [([], []), ([], []), ([0, 1], [0, 1]), ([2], [2]), ([3], [3]), ([3], [3]), ([4, 5, 3], [3, 4, 5]), ([3, 6], [3, 6]), ([7, 3], [7]), ([8], [8]), ([8], [8]), ([9, 10, 8], [8, 9, 10]), ([8, 11], [8, 11]), ([12, 8], [12]), ([13], [13]), ([13], [13]), ([14, 15, 13], [13, 14, 15]), ([13, 16], [13, 16]), ([17, 13], [17]), ([18], [18]), ([18], [18]), ([19, 20, 18, 18], [18, 19, 20]), ([18], [18]), ([18], [18]), ([22, 23, 21, 18], [18, 22, 23]), ([21, 24, 18], [18, 21, 24]), ([18, 25], [18, 25]), ([26, 24], [26]), ([27], [27]), ([28, 27, 27], [27, 28]), ([27], [27]), ([30, 29, 27], [27, 30]), ([29, 31, 27], [27, 29, 31]), ([27, 32], [27, 32]), ([33, 31], [33]), ([34], [34]), ([35, 34, 34], [34, 35]), ([34], [34]), ([37, 36, 34], [34, 37]), ([36, 38, 34], [34, 36, 38]), ([34, 39], [34, 39]), ([40, 38], [40]), ([41], [41]), ([42, 41, 41], [41, 42]), ([41], [41]), ([44, 43, 41], [41, 44]), ([43, 45, 41], [41, 43, 45]), ([41, 46], [41, 46]), ([47, 45], [47]), ([48, 48], [48]), ([48, 49], [48, 49]), ([50, 49, 0, 1, 2, 3, 4, 5, 6, 7, 8, 9, 10, 11, 12, 13, 14, 15, 16, 17, 18, 19, 20, 21, 22, 23, 24, 25, 26, 27, 28, 29, 30, 31, 32, 33, 34, 35, 36, 37, 38, 39, 40, 41, 42, 43, 44, 45, 46, 47, 48, 49, 50], [50])])
def neumelaw02_RatTells.B7 : List Nat := [0, 0, 3, 7, 15, 15, 63, 127, 255, 511, 511, 2047, 4095, 8191, 16383, 16383, 65535, 131071, 262143, 524287, 524287, 2097151, 524287, 524287, 16777215, 33554431, 67108863, 134217727, 268435455, 536870911, 268435455, 2147483647, 4294967295, 8589934591, 17179869183, 34359738367, 68719476735, 34359738367, 274877906943, 549755813887, 1099511627775, 2199023255551, 4398046511103, 8796093022207, 4398046511103, 35184372088831, 70368744177663, 140737488355327, 281474976710655, 562949953421311, 1125899906842623, 2251799813685247]
theorem neumelaw02_RatTells.tab7 : rtab .any (opsOf Tryd.f4 7) = neumelaw02_RatTells.T7 := by kernel_rfl
theorem neumelaw02_RatTells.bits7 : waitsOk neumelaw02_RatTells.T7.2 neumelaw02_RatTells.B7 = true := by kernel_rfl
set_option maxHeartbeats 8000000 in
set_option maxRecDepth 100000 in
theorem neumelaw02_RatTells.calls (k : Nat) (a0_0 : Int) (a0_1 : Int) (a1_0 : Int) (a1_1 : Int) (a2 : ByteArray) (r : Bool) (w : World) (hE : Aside0 (LaidE w)) (hxt : Aside0 (r = true)) (h : neumelaw02_RatTells.f k a0_0 a0_1 a1_0 a1_1 a2 = some r) :
  Calls Tryd.prog 4 #[.agg #[.int .i64 a0_0,.int .i64 a0_1],.agg #[.int .i64 a1_0,.int .i64 a1_1],.string a2] w fun e w' => e = .returned (.bool r) ∧ Below w.heap.size w w' := by
 have hu23 := Tryd.underlying23
 have HB := sd_ (Below.refl w.heap.size w)
 have H : (if (a2.size : Int) > 100 then ((neumelaw02_heads.f k).bind fun t406 => (some t406)) else ((rat_Mod.f k a0_0 a0_1 a1_0 a1_1).bind fun bt407 => ((neumeref02_Mod.f k a0_0 a0_1 a1_0 a1_1).bind fun bt411 => ((rat_Parse.f k a2).bind fun bt415 => ((neumeref02_Parse.f k a2).bind fun bt419 => (if (bt407.1 == bt411.1 && (bt407.2.1 == bt411.2.1)) = true then (if bt407.2.2 = bt411.2.2 then (if (bt415.1 == bt419.1 && (bt415.2.1 == bt419.2.1)) = true then (if (bt415.2.2 == bt419.2.2) = true then ((rat_Cmp.f k a0_0 a0_1 a1_0 a1_1).bind fun t423 => ((neumeref02_Cmp.f k a0_0 a0_1 a1_0 a1_1).bind fun t424 => (if t423 = t424 then ((rat_Floor.f k a0_0 a0_1).bind fun t425 => ((neumeref02_Floor.f k a0_0 a0_1).bind fun t426 => (if t425 = t426 then ((rat_Text.f k a0_0 a0_1).bind fun t427 => ((neumeref02_Text.f k a0_0 a0_1).bind fun t428 => (if t427.toList = t428.toList then ((rat_Check.f k a0_0 a0_1).bind fun t429 => ((neumeref02_Check.f k a0_0 a0_1).bind fun t430 => (if (t429 == t430) = true then ((neumelaw02_heads.f k).bind fun t431 => (some t431)) else (some false)))) else (some false)))) else (some false)))) else (some false)))) else (some false)) else (some false)) else (some false)) else (some false))))))) = some r := h
 clear h
 by_cases c4 : (a2.size : Int) > 100
 ·rw [if_pos c4] at H
  have c4b0 : decide (100 < (a2.size : Int)) = true := dt_ c4
  have c4b1 : decide (100 < a2.size) = true := dt_ (by omega)
  clear c4
  replace H := ob_ H
  obtain ⟨t406,A50,H⟩ := H
  replace H : (some t406) = some r := H
  have A5 := sd_ A50
  clear A50
  obtain rfl := Option.some.inj H
  go_enter Tryd.func4,Tryd.ntmps4
  go_wp2_with (first|((with_reducible refine gate_dst (N := 3) rfl ?_);refine box_event ?hg (N := 3) ?hd (cs := #[.int .i64 a0_0,.int .i64 a0_1]) (t := 23) ?hr ?_;(case hd => rfl);(case hg => rfl);(case hr => first|(go_simp;done)|(go_simp;rfl));intro gb404 hg w6 hbox hb;have BK404 := sd_ hbox;have GW404 := gw_ HB e0_ hg;have GE404 := GW404;replace HB := hb_ HB e0_ hb;clear hb hbox hg)|((with_reducible refine gate_dst (N := 4) rfl ?_);refine box_event ?hg (N := 4) ?hd (cs := #[.int .i64 a1_0,.int .i64 a1_1]) (t := 23) ?hr ?_;(case hd => rfl);(case hg => rfl);(case hr => first|(go_simp;done)|(go_simp;rfl));intro gb405 hg w7 hbox hb;have BK405 := sd_ hbox;have GW405 := gw_ HB (e_ GE404 e0_) hg;have GE405 := GW405;have NB404_405 := nb_ BK404 hg;have NB405_404 := sy_ NB404_405;replace BK404 := kb_ BK404 hb;replace HB := hb_ HB (e_ GE404 e0_) hb;clear hb hbox hg)|((with_reducible refine gate_callee (f := 18) rfl ?_);refine goesL_ (some 18) rfl rfl Tryd.func18 (by kernel_rfl) rfl #[] rfl (by (try simp only [lm_,lq_,lx_]);first|done|rfl|(simp only [ld_,lt_];rfl)) ?_;(with_reducible refine (neumelaw02_heads.calls k  t406 _ ?side1 A5.out).mono ?_);(case side1 => first|(with_reducible exact hE)|exact sd_ (LaidE.below hE.out (bb_ HB.out (e_ GE404 (e_ GE405 e0_)))));rintro e w8 ⟨rfl,hb⟩;refine ⟨_,rfl,?_⟩;replace BK404 := kb_ BK404 hb;replace BK405 := kb_ BK405 hb;replace HB := hb_ HB (e_ GE404 (e_ GE405 e0_)) hb;(try clear hb);(try clear hb2);(try clear hk);(try clear hi)))
  go_ret
  exact ⟨by first|rfl|(simp [errW_none,errW_some] <;> rfl)|(simp [*,errW_none,errW_some] <;> rfl),by repeat (first|(with_reducible first|exact HB.out|apply ba_|apply pd_|apply d1_|refine bs_ ?_ GE404.out|refine bs_ ?_ GE405.out)|exact HB.out)⟩
 ·rw [if_neg c4] at H
  have c4b0 : decide (100 < (a2.size : Int)) = false := df_ c4
  have c4b1 : decide (100 < a2.size) = false := df_ (by omega)
  clear c4
  replace H := ob_ H
  obtain ⟨⟨t407,t408,t409⟩,A90,H⟩ := H
  replace H : ((neumeref02_Mod.f k a0_0 a0_1 a1_0 a1_1).bind fun bt411 => ((rat_Parse.f k a2).bind fun bt415 => ((neumeref02_Parse.f k a2).bind fun bt419 => (if (t407 == bt411.1 && (t408 == bt411.2.1)) = true then (if t409 = bt411.2.2 then (if (bt415.1 == bt419.1 && (bt415.2.1 == bt419.2.1)) = true then (if (bt415.2.2 == bt419.2.2) = true then ((rat_Cmp.f k a0_0 a0_1 a1_0 a1_1).bind fun t423 => ((neumeref02_Cmp.f k a0_0 a0_1 a1_0 a1_1).bind fun t424 => (if t423 = t424 then ((rat_Floor.f k a0_0 a0_1).bind fun t425 => ((neumeref02_Floor.f k a0_0 a0_1).bind fun t426 => (if t425 = t426 then ((rat_Text.f k a0_0 a0_1).bind fun t427 => ((neumeref02_Text.f k a0_0 a0_1).bind fun t428 => (if t427.toList = t428.toList then ((rat_Check.f k a0_0 a0_1).bind fun t429 => ((neumeref02_Check.f k a0_0 a0_1).bind fun t430 => (if (t429 == t430) = true then ((neumelaw02_heads.f k).bind fun t431 => (some t431)) else (some false)))) else (some false)))) else (some false)))) else (some false)))) else (some false)) else (some false)) else (some false)) else (some false))))) = some r := H
  have A9 := sd_ A90
  clear A90
  replace H := ob_ H
  obtain ⟨⟨t411,t412,t413⟩,A100,H⟩ := H
  replace H : ((rat_Parse.f k a2).bind fun bt415 => ((neumeref02_Parse.f k a2).bind fun bt419 => (if (t407 == t411 && (t408 == t412)) = true then (if t409 = t413 then (if (bt415.1 == bt419.1 && (bt415.2.1 == bt419.2.1)) = true then (if (bt415.2.2 == bt419.2.2) = true then ((rat_Cmp.f k a0_0 a0_1 a1_0 a1_1).bind fun t423 => ((neumeref02_Cmp.f k a0_0 a0_1 a1_0 a1_1).bind fun t424 => (if t423 = t424 then ((rat_Floor.f k a0_0 a0_1).bind fun t425 => ((neumeref02_Floor.f k a0_0 a0_1).bind fun t426 => (if t425 = t426 then ((rat_Text.f k a0_0 a0_1).bind fun t427 => ((neumeref02_Text.f k a0_0 a0_1).bind fun t428 => (if t427.toList = t428.toList then ((rat_Check.f k a0_0 a0_1).bind fun t429 => ((neumeref02_Check.f k a0_0 a0_1).bind fun t430 => (if (t429 == t430) = true then ((neumelaw02_heads.f k).bind fun t431 => (some t431)) else (some false)))) else (some false)))) else (some false)))) else (some false)))) else (some false)) else (some false)) else (some false)) else (some false)))) = some r := H
  have A10 := sd_ A100
  clear A100
  replace H := ob_ H
  obtain ⟨⟨t415,t416,t417⟩,A110,H⟩ := H
  replace H : ((neumeref02_Parse.f k a2).bind fun bt419 => (if (t407 == t411 && (t408 == t412)) = true then (if t409 = t413 then (if (t415 == bt419.1 && (t416 == bt419.2.1)) = true then (if (t417 == bt419.2.2) = true then ((rat_Cmp.f k a0_0 a0_1 a1_0 a1_1).bind fun t423 => ((neumeref02_Cmp.f k a0_0 a0_1 a1_0 a1_1).bind fun t424 => (if t423 = t424 then ((rat_Floor.f k a0_0 a0_1).bind fun t425 => ((neumeref02_Floor.f k a0_0 a0_1).bind fun t426 => (if t425 = t426 then ((rat_Text.f k a0_0 a0_1).bind fun t427 => ((neumeref02_Text.f k a0_0 a0_1).bind fun t428 => (if t427.toList = t428.toList then ((rat_Check.f k a0_0 a0_1).bind fun t429 => ((neumeref02_Check.f k a0_0 a0_1).bind fun t430 => (if (t429 == t430) = true then ((neumelaw02_heads.f k).bind fun t431 => (some t431)) else (some false)))) else (some false)))) else (some false)))) else (some false)))) else (some false)) else (some false)) else (some false)) else (some false))) = some r := H
  have A11 := sd_ A110
  clear A110
  replace H := ob_ H
  obtain ⟨⟨t419,t420,t421⟩,A120,H⟩ := H
  replace H : (if (t407 == t411 && (t408 == t412)) = true then (if t409 = t413 then (if (t415 == t419 && (t416 == t420)) = true then (if (t417 == t421) = true then ((rat_Cmp.f k a0_0 a0_1 a1_0 a1_1).bind fun t423 => ((neumeref02_Cmp.f k a0_0 a0_1 a1_0 a1_1).bind fun t424 => (if t423 = t424 then ((rat_Floor.f k a0_0 a0_1).bind fun t425 => ((neumeref02_Floor.f k a0_0 a0_1).bind fun t426 => (if t425 = t426 then ((rat_Text.f k a0_0 a0_1).bind fun t427 => ((neumeref02_Text.f k a0_0 a0_1).bind fun t428 => (if t427.toList = t428.toList then ((rat_Check.f k a0_0 a0_1).bind fun t429 => ((neumeref02_Check.f k a0_0 a0_1).bind fun t430 => (if (t429 == t430) = true then ((neumelaw02_heads.f k).bind fun t431 => (some t431)) else (some false)))) else (some false)))) else (some false)))) else (some false)))) else (some false)) else (some false)) else (some false)) else (some false)) = some r := H
  have A12 := sd_ A120
  clear A120
  by_cases c13 : (t407 == t411 && (t408 == t412)) = true
  ·rw [if_pos c13] at H
   have c13b0 : (t407 == t411 && (t408 == t412)) = true := c13
   (try (have c13b1 : decide (t407 = t411 && (t408 == t412)) = true := by simpa using c13))
   (try (have c13b2 : (t407 == t411 && (t408 == t412)) = true := by simpa using c13))
   clear c13
   by_cases c14 : t409 = t413
   ·rw [if_pos c14] at H
    have c14b0 : (t409 == t413) = true := beq_iff_eq.mpr c14
    have c14b1 : (t409 != t413) = false := bne_eq_false_iff_eq.mpr c14
    clear c14
    by_cases c15 : (t415 == t419 && (t416 == t420)) = true
    ·rw [if_pos c15] at H
     have c15b0 : (t415 == t419 && (t416 == t420)) = true := c15
     (try (have c15b1 : decide (t415 = t419 && (t416 == t420)) = true := by simpa using c15))
     (try (have c15b2 : (t415 == t419 && (t416 == t420)) = true := by simpa using c15))
     clear c15
     by_cases c16 : (t417 == t421) = true
     ·rw [if_pos c16] at H
      have c16b0 : (t417 == t421) = true := c16
      (try (have c16b1 : decide (t417 = t421) = true := by simpa using c16))
      (try (have c16b2 : (t417 == t421) = true := by simpa using c16))
      clear c16
      replace H := ob_ H
      obtain ⟨t423,A170,H⟩ := H
      replace H : ((neumeref02_Cmp.f k a0_0 a0_1 a1_0 a1_1).bind fun t424 => (if t423 = t424 then ((rat_Floor.f k a0_0 a0_1).bind fun t425 => ((neumeref02_Floor.f k a0_0 a0_1).bind fun t426 => (if t425 = t426 then ((rat_Text.f k a0_0 a0_1).bind fun t427 => ((neumeref02_Text.f k a0_0 a0_1).bind fun t428 => (if t427.toList = t428.toList then ((rat_Check.f k a0_0 a0_1).bind fun t429 => ((neumeref02_Check.f k a0_0 a0_1).bind fun t430 => (if (t429 == t430) = true then ((neumelaw02_heads.f k).bind fun t431 => (some t431)) else (some false)))) else (some false)))) else (some false)))) else (some false))) = some r := H
      have A17 := sd_ A170
      clear A170
      replace H := ob_ H
      obtain ⟨t424,A180,H⟩ := H
      replace H : (if t423 = t424 then ((rat_Floor.f k a0_0 a0_1).bind fun t425 => ((neumeref02_Floor.f k a0_0 a0_1).bind fun t426 => (if t425 = t426 then ((rat_Text.f k a0_0 a0_1).bind fun t427 => ((neumeref02_Text.f k a0_0 a0_1).bind fun t428 => (if t427.toList = t428.toList then ((rat_Check.f k a0_0 a0_1).bind fun t429 => ((neumeref02_Check.f k a0_0 a0_1).bind fun t430 => (if (t429 == t430) = true then ((neumelaw02_heads.f k).bind fun t431 => (some t431)) else (some false)))) else (some false)))) else (some false)))) else (some false)) = some r := H
      have A18 := sd_ A180
      clear A180
      by_cases c19 : t423 = t424
      ·rw [if_pos c19] at H
       have c19b0 : (t423 == t424) = true := beq_iff_eq.mpr c19
       have c19b1 : (t423 != t424) = false := bne_eq_false_iff_eq.mpr c19
       clear c19
       replace H := ob_ H
       obtain ⟨t425,A200,H⟩ := H
       replace H : ((neumeref02_Floor.f k a0_0 a0_1).bind fun t426 => (if t425 = t426 then ((rat_Text.f k a0_0 a0_1).bind fun t427 => ((neumeref02_Text.f k a0_0 a0_1).bind fun t428 => (if t427.toList = t428.toList then ((rat_Check.f k a0_0 a0_1).bind fun t429 => ((neumeref02_Check.f k a0_0 a0_1).bind fun t430 => (if (t429 == t430) = true then ((neumelaw02_heads.f k).bind fun t431 => (some t431)) else (some false)))) else (some false)))) else (some false))) = some r := H
       have A20 := sd_ A200
       clear A200
       replace H := ob_ H
       obtain ⟨t426,A210,H⟩ := H
       replace H : (if t425 = t426 then ((rat_Text.f k a0_0 a0_1).bind fun t427 => ((neumeref02_Text.f k a0_0 a0_1).bind fun t428 => (if t427.toList = t428.toList then ((rat_Check.f k a0_0 a0_1).bind fun t429 => ((neumeref02_Check.f k a0_0 a0_1).bind fun t430 => (if (t429 == t430) = true then ((neumelaw02_heads.f k).bind fun t431 => (some t431)) else (some false)))) else (some false)))) else (some false)) = some r := H
       have A21 := sd_ A210
       clear A210
       by_cases c22 : t425 = t426
       ·rw [if_pos c22] at H
        have c22b0 : (t425 == t426) = true := beq_iff_eq.mpr c22
        have c22b1 : (t425 != t426) = false := bne_eq_false_iff_eq.mpr c22
        clear c22
        replace H := ob_ H
        obtain ⟨t427,A230,H⟩ := H
        replace H : ((neumeref02_Text.f k a0_0 a0_1).bind fun t428 => (if t427.toList = t428.toList then ((rat_Check.f k a0_0 a0_1).bind fun t429 => ((neumeref02_Check.f k a0_0 a0_1).bind fun t430 => (if (t429 == t430) = true then ((neumelaw02_heads.f k).bind fun t431 => (some t431)) else (some false)))) else (some false))) = some r := H
        have A23 := sd_ A230
        clear A230
        replace H := ob_ H
        obtain ⟨t428,A240,H⟩ := H
        replace H : (if t427.toList = t428.toList then ((rat_Check.f k a0_0 a0_1).bind fun t429 => ((neumeref02_Check.f k a0_0 a0_1).bind fun t430 => (if (t429 == t430) = true then ((neumelaw02_heads.f k).bind fun t431 => (some t431)) else (some false)))) else (some false)) = some r := H
        have A24 := sd_ A240
        clear A240
        by_cases c25 : t427.toList = t428.toList
        ·rw [if_pos c25] at H
         have c25b0 : (t427.toList == t428.toList) = true := beq_iff_eq.mpr c25
         have c25b1 : (t427.toList != t428.toList) = false := bne_eq_false_iff_eq.mpr c25
         clear c25
         replace H := ob_ H
         obtain ⟨t429,A260,H⟩ := H
         replace H : ((neumeref02_Check.f k a0_0 a0_1).bind fun t430 => (if (t429 == t430) = true then ((neumelaw02_heads.f k).bind fun t431 => (some t431)) else (some false))) = some r := H
         have A26 := sd_ A260
         clear A260
         replace H := ob_ H
         obtain ⟨t430,A270,H⟩ := H
         replace H : (if (t429 == t430) = true then ((neumelaw02_heads.f k).bind fun t431 => (some t431)) else (some false)) = some r := H
         have A27 := sd_ A270
         clear A270
         by_cases c28 : (t429 == t430) = true
         ·rw [if_pos c28] at H
          have c28b0 : (t429 == t430) = true := c28
          (try (have c28b1 : decide (t429 = t430) = true := by simpa using c28))
          (try (have c28b2 : (t429 == t430) = true := by simpa using c28))
          clear c28
          replace H := ob_ H
          obtain ⟨t431,A290,H⟩ := H
          replace H : (some t431) = some r := H
          have A29 := sd_ A290
          clear A290
          obtain rfl := Option.some.inj H
          go_enter Tryd.func4,Tryd.ntmps4
          try go_wp2_with (first|((with_reducible refine gate_dst (N := 3) rfl ?_);refine box_event ?hg (N := 3) ?hd (cs := #[.int .i64 a0_0,.int .i64 a0_1]) (t := 23) ?hr ?_;(case hd => rfl);(case hg => rfl);(case hr => first|(go_simp;done)|(go_simp;rfl));intro gb404 hg w30 hbox hb;have BK404 := sd_ hbox;have GW404 := gw_ HB e0_ hg;have GE404 := GW404;replace HB := hb_ HB e0_ hb;clear hb hbox hg)|((with_reducible refine gate_dst (N := 4) rfl ?_);refine box_event ?hg (N := 4) ?hd (cs := #[.int .i64 a1_0,.int .i64 a1_1]) (t := 23) ?hr ?_;(case hd => rfl);(case hg => rfl);(case hr => first|(go_simp;done)|(go_simp;rfl));intro gb405 hg w31 hbox hb;have BK405 := sd_ hbox;have GW405 := gw_ HB (e_ GE404 e0_) hg;have GE405 := GW405;have NB404_405 := nb_ BK404 hg;have NB405_404 := sy_ NB404_405;replace BK404 := kb_ BK404 hb;replace HB := hb_ HB (e_ GE404 e0_) hb;clear hb hbox hg;have hnb32 := NB404_405.out;have hnc32 := NB405_404.out;have hcz33_0 : w31.cell? ⟨gb404,0,none⟩ = some (.int .i64 a0_0) := (kc_ BK404.out 0).trans rfl;have hcz33_1 : w31.cell? ⟨gb404,1,none⟩ = some (.int .i64 a0_1) := (kc_ BK404.out 1).trans rfl;have hfz33_0 := kf_ BK404.out 0;have hfz33_1 := kf_ BK404.out 1;have hcz34_0 : w31.cell? ⟨gb405,0,none⟩ = some (.int .i64 a1_0) := (kc_ BK405.out 0).trans rfl;have hcz34_1 : w31.cell? ⟨gb405,1,none⟩ = some (.int .i64 a1_1) := (kc_ BK405.out 1).trans rfl;have hfz34_0 := kf_ BK405.out 0;have hfz34_1 := kf_ BK405.out 1)|((with_reducible refine gate_callee (f := 19) rfl ?_);refine goesL_ (some 22) rfl rfl Tryd.func19 (by kernel_rfl) rfl #[.agg #[.int .i64 a0_0,.int .i64 a0_1],.agg #[.int .i64 a1_0,.int .i64 a1_1]] rfl (by (try simp only [lm_,lq_,lx_]);first|done|rfl|(simp only [ld_,lt_];rfl)) ?_;(with_reducible refine (rat_Mod.calls k a0_0 a0_1 a1_0 a1_1 t407 t408 t409 _ A9.out).mono ?_);rintro e w35 ⟨rfl,hb⟩;refine ⟨_,rfl,?_⟩;replace BK404 := kb_ BK404 hb;replace BK405 := kb_ BK405 hb;replace HB := hb_ HB (e_ GE404 (e_ GE405 e0_)) hb;(try clear hb);(try clear hb2);(try clear hk);(try clear hi))|((with_reducible refine gate_dst (N := 7) rfl ?_);refine box_event ?hg (N := 7) ?hd (cs := #[.int .i64 0,.int .i64 0]) (t := 23) ?hr ?_;(case hd => rfl);(case hg => rfl);(case hr => first|(go_simp;done)|(go_simp;rfl));intro gb410 hg w36 hbox hb;have BK410 := sd_ hbox;have GW410 := gw_ HB (e_ GE404 (e_ GE405 e0_)) hg;have GE410 := GW410;have NB404_410 := nb_ BK404 hg;have NB410_404 := sy_ NB404_410;have NB405_410 := nb_ BK405 hg;have NB410_405 := sy_ NB405_410;replace BK404 := kb_ BK404 hb;replace BK405 := kb_ BK405 hb;replace HB := hb_ HB (e_ GE404 (e_ GE405 e0_)) hb;clear hb hbox hg;have hnb37 := NB410_404.out;have hnc37 := NB404_410.out;have hnb38 := NB410_405.out;have hnc38 := NB405_410.out;have hcz39_0 : w36.cell? ⟨gb410,0,none⟩ = some (.int .i64 0) := (kc_ BK410.out 0).trans rfl;have hcz39_1 : w36.cell? ⟨gb410,1,none⟩ = some (.int .i64 0) := (kc_ BK410.out 1).trans rfl;have hfz39_0 := kf_ BK410.out 0;have hfz39_1 := kf_ BK410.out 1;have hcz40_0 : w36.cell? ⟨gb404,0,none⟩ = some (.int .i64 a0_0) := (kc_ BK404.out 0).trans rfl;have hcz40_1 : w36.cell? ⟨gb404,1,none⟩ = some (.int .i64 a0_1) := (kc_ BK404.out 1).trans rfl;have hfz40_0 := kf_ BK404.out 0;have hfz40_1 := kf_ BK404.out 1;have hcz41_0 : w36.cell? ⟨gb405,0,none⟩ = some (.int .i64 a1_0) := (kc_ BK405.out 0).trans rfl;have hcz41_1 : w36.cell? ⟨gb405,1,none⟩ = some (.int .i64 a1_1) := (kc_ BK405.out 1).trans rfl;have hfz41_0 := kf_ BK405.out 0;have hfz41_1 := kf_ BK405.out 1)|((with_reducible refine gate_callee (f := 20) rfl ?_);refine goesL_ (some 28) rfl rfl Tryd.func20 (by kernel_rfl) rfl #[.agg #[.int .i64 a0_0,.int .i64 a0_1],.agg #[.int .i64 a1_0,.int .i64 a1_1]] rfl (by (try simp only [lm_,lq_,lx_]);first|done|rfl|(simp only [ld_,lt_];rfl)) ?_;(with_reducible refine (neumeref02_Mod.calls k a0_0 a0_1 a1_0 a1_1 t411 t412 t413 _ A10.out).mono ?_);rintro e w42 ⟨rfl,hb⟩;refine ⟨_,rfl,?_⟩;replace BK404 := sd_ (blk_below (g := gb404) (o := .cells #[.int .i64 a0_0,.int .i64 a0_1] 23 (0,0)) (by (with_reducible repeat first|apply kn_|apply kd_|apply ka_);refine blk_far ?_ NB404_410.out _;(with_reducible repeat first|apply kn_|apply kd_|apply ka_);refine blk_far ?_ NB404_410.out _;(with_reducible repeat first|apply kn_|apply kd_|apply ka_);exact BK404.out) hb);replace BK405 := sd_ (blk_below (g := gb405) (o := .cells #[.int .i64 a1_0,.int .i64 a1_1] 23 (0,0)) (by (with_reducible repeat first|apply kn_|apply kd_|apply ka_);refine blk_far ?_ NB405_410.out _;(with_reducible repeat first|apply kn_|apply kd_|apply ka_);refine blk_far ?_ NB405_410.out _;(with_reducible repeat first|apply kn_|apply kd_|apply ka_);exact BK405.out) hb);replace BK410 := sd_ (blk_below (g := gb410) (o := .cells #[.int .i64 t407,.int .i64 t408] 23 (0,0)) (by (with_reducible repeat first|apply kn_|apply kd_|apply ka_);refine blk_put (cs := #[.int .i64 t407,.int .i64 0]) ?_ 1 _ rfl;(with_reducible repeat first|apply kn_|apply kd_|apply ka_);refine blk_put (cs := #[.int .i64 0,.int .i64 0]) ?_ 0 _ rfl;(with_reducible repeat first|apply kn_|apply kd_|apply ka_);exact BK410.out) hb);replace HB := hb_ HB (e_ GE404 (e_ GE405 (e_ GE410 e0_))) hb;(try clear hb);(try clear hb2);(try clear hk);(try clear hi))|((with_reducible refine gate_dst (N := 9) rfl ?_);refine box_event ?hg (N := 9) ?hd (cs := #[.int .i64 0,.int .i64 0]) (t := 23) ?hr ?_;(case hd => rfl);(case hg => rfl);(case hr => first|(go_simp;done)|(go_simp;rfl));intro gb414 hg w43 hbox hb;have BK414 := sd_ hbox;have GW414 := gw_ HB (e_ GE404 (e_ GE405 (e_ GE410 e0_))) hg;have GE414 := GW414;have NB404_414 := nb_ BK404 hg;have NB414_404 := sy_ NB404_414;have NB405_414 := nb_ BK405 hg;have NB414_405 := sy_ NB405_414;have NB410_414 := nb_ BK410 hg;have NB414_410 := sy_ NB410_414;replace BK404 := kb_ BK404 hb;replace BK405 := kb_ BK405 hb;replace BK410 := kb_ BK410 hb;replace HB := hb_ HB (e_ GE404 (e_ GE405 (e_ GE410 e0_))) hb;clear hb hbox hg;have hnb44 := NB414_404.out;have hnc44 := NB404_414.out;have hnb45 := NB414_405.out;have hnc45 := NB405_414.out;have hnb46 := NB414_410.out;have hnc46 := NB410_414.out;have hcz47_0 : w43.cell? ⟨gb414,0,none⟩ = some (.int .i64 0) := (kc_ BK414.out 0).trans rfl;have hcz47_1 : w43.cell? ⟨gb414,1,none⟩ = some (.int .i64 0) := (kc_ BK414.out 1).trans rfl;have hfz47_0 := kf_ BK414.out 0;have hfz47_1 := kf_ BK414.out 1)|((with_reducible refine gate_callee (f := 21) rfl ?_);refine goesL_ (some 33) rfl rfl Tryd.func21 (by kernel_rfl) rfl #[.string a2] rfl (by (try simp only [lm_,lq_,lx_]);first|done|rfl|(simp only [ld_,lt_];rfl)) ?_;(with_reducible refine (rat_Parse.calls k a2 t415 t416 t417 _ ?side1 A11.out).mono ?_);(case side1 => first|(with_reducible exact hE)|exact sd_ (LaidE.below hE.out (bb_ HB.out (e_ GE404 (e_ GE405 (e_ GE410 (e_ GE414 e0_)))))));rintro e w48 ⟨rfl,hb⟩;refine ⟨_,rfl,?_⟩;replace BK404 := sd_ (blk_below (g := gb404) (o := .cells #[.int .i64 a0_0,.int .i64 a0_1] 23 (0,0)) (by (with_reducible repeat first|apply kn_|apply kd_|apply ka_);refine blk_far ?_ NB404_414.out _;(with_reducible repeat first|apply kn_|apply kd_|apply ka_);refine blk_far ?_ NB404_414.out _;(with_reducible repeat first|apply kn_|apply kd_|apply ka_);exact BK404.out) hb);replace BK405 := sd_ (blk_below (g := gb405) (o := .cells #[.int .i64 a1_0,.int .i64 a1_1] 23 (0,0)) (by (with_reducible repeat first|apply kn_|apply kd_|apply ka_);refine blk_far ?_ NB405_414.out _;(with_reducible repeat first|apply kn_|apply kd_|apply ka_);refine blk_far ?_ NB405_414.out _;(with_reducible repeat first|apply kn_|apply kd_|apply ka_);exact BK405.out) hb);replace BK410 := sd_ (blk_below (g := gb410) (o := .cells #[.int .i64 t407,.int .i64 t408] 23 (0,0)) (by (with_reducible repeat first|apply kn_|apply kd_|apply ka_);refine blk_far ?_ NB410_414.out _;(with_reducible repeat first|apply kn_|apply kd_|apply ka_);refine blk_far ?_ NB410_414.out _;(with_reducible repeat first|apply kn_|apply kd_|apply ka_);exact BK410.out) hb);replace BK414 := sd_ (blk_below (g := gb414) (o := .cells #[.int .i64 t411,.int .i64 t412] 23 (0,0)) (by (with_reducible repeat first|apply kn_|apply kd_|apply ka_);refine blk_put (cs := #[.int .i64 t411,.int .i64 0]) ?_ 1 _ rfl;(with_reducible repeat first|apply kn_|apply kd_|apply ka_);refine blk_put (cs := #[.int .i64 0,.int .i64 0]) ?_ 0 _ rfl;(with_reducible repeat first|apply kn_|apply kd_|apply ka_);exact BK414.out) hb);replace HB := hb_ HB (e_ GE404 (e_ GE405 (e_ GE410 (e_ GE414 e0_)))) hb;(try clear hb);(try clear hb2);(try clear hk);(try clear hi))|((with_reducible refine gate_dst (N := 11) rfl ?_);refine box_event ?hg (N := 11) ?hd (cs := #[.int .i64 0,.int .i64 0]) (t := 23) ?hr ?_;(case hd => rfl);(case hg => rfl);(case hr => first|(go_simp;done)|(go_simp;rfl));intro gb418 hg w49 hbox hb;have BK418 := sd_ hbox;have GW418 := gw_ HB (e_ GE404 (e_ GE405 (e_ GE410 (e_ GE414 e0_)))) hg;have GE418 := GW418;have NB404_418 := nb_ BK404 hg;have NB418_404 := sy_ NB404_418;have NB405_418 := nb_ BK405 hg;have NB418_405 := sy_ NB405_418;have NB410_418 := nb_ BK410 hg;have NB418_410 := sy_ NB410_418;have NB414_418 := nb_ BK414 hg;have NB418_414 := sy_ NB414_418;replace BK404 := kb_ BK404 hb;replace BK405 := kb_ BK405 hb;replace BK410 := kb_ BK410 hb;replace BK414 := kb_ BK414 hb;replace HB := hb_ HB (e_ GE404 (e_ GE405 (e_ GE410 (e_ GE414 e0_)))) hb;clear hb hbox hg;have hnb50 := NB418_404.out;have hnc50 := NB404_418.out;have hnb51 := NB418_405.out;have hnc51 := NB405_418.out;have hnb52 := NB418_410.out;have hnc52 := NB410_418.out;have hnb53 := NB418_414.out;have hnc53 := NB414_418.out;have hcz54_0 : w49.cell? ⟨gb418,0,none⟩ = some (.int .i64 0) := (kc_ BK418.out 0).trans rfl;have hcz54_1 : w49.cell? ⟨gb418,1,none⟩ = some (.int .i64 0) := (kc_ BK418.out 1).trans rfl;have hfz54_0 := kf_ BK418.out 0;have hfz54_1 := kf_ BK418.out 1)|((with_reducible refine gate_callee (f := 22) rfl ?_);refine goesL_ (some 38) rfl rfl Tryd.func22 (by kernel_rfl) rfl #[.string a2] rfl (by (try simp only [lm_,lq_,lx_]);first|done|rfl|(simp only [ld_,lt_];rfl)) ?_;(with_reducible refine (neumeref02_Parse.calls k a2 t419 t420 t421 _ A12.out).mono ?_);rintro e w55 ⟨rfl,hb⟩;refine ⟨_,rfl,?_⟩;replace BK404 := sd_ (blk_below (g := gb404) (o := .cells #[.int .i64 a0_0,.int .i64 a0_1] 23 (0,0)) (by (with_reducible repeat first|apply kn_|apply kd_|apply ka_);refine blk_far ?_ NB404_418.out _;(with_reducible repeat first|apply kn_|apply kd_|apply ka_);refine blk_far ?_ NB404_418.out _;(with_reducible repeat first|apply kn_|apply kd_|apply ka_);exact BK404.out) hb);replace BK405 := sd_ (blk_below (g := gb405) (o := .cells #[.int .i64 a1_0,.int .i64 a1_1] 23 (0,0)) (by (with_reducible repeat first|apply kn_|apply kd_|apply ka_);refine blk_far ?_ NB405_418.out _;(with_reducible repeat first|apply kn_|apply kd_|apply ka_);refine blk_far ?_ NB405_418.out _;(with_reducible repeat first|apply kn_|apply kd_|apply ka_);exact BK405.out) hb);replace BK410 := sd_ (blk_below (g := gb410) (o := .cells #[.int .i64 t407,.int .i64 t408] 23 (0,0)) (by (with_reducible repeat first|apply kn_|apply kd_|apply ka_);refine blk_far ?_ NB410_418.out _;(with_reducible repeat first|apply kn_|apply kd_|apply ka_);refine blk_far ?_ NB410_418.out _;(with_reducible repeat first|apply kn_|apply kd_|apply ka_);exact BK410.out) hb);replace BK414 := sd_ (blk_below (g := gb414) (o := .cells #[.int .i64 t411,.int .i64 t412] 23 (0,0)) (by (with_reducible repeat first|apply kn_|apply kd_|apply ka_);refine blk_far ?_ NB414_418.out _;(with_reducible repeat first|apply kn_|apply kd_|apply ka_);refine blk_far ?_ NB414_418.out _;(with_reducible repeat first|apply kn_|apply kd_|apply ka_);exact BK414.out) hb);replace BK418 := sd_ (blk_below (g := gb418) (o := .cells #[.int .i64 t415,.int .i64 t416] 23 (0,0)) (by (with_reducible repeat first|apply kn_|apply kd_|apply ka_);refine blk_put (cs := #[.int .i64 t415,.int .i64 0]) ?_ 1 _ rfl;(with_reducible repeat first|apply kn_|apply kd_|apply ka_);refine blk_put (cs := #[.int .i64 0,.int .i64 0]) ?_ 0 _ rfl;(with_reducible repeat first|apply kn_|apply kd_|apply ka_);exact BK418.out) hb);replace HB := hb_ HB (e_ GE404 (e_ GE405 (e_ GE410 (e_ GE414 (e_ GE418 e0_))))) hb;(try clear hb);(try clear hb2);(try clear hk);(try clear hi))|((with_reducible refine gate_dst (N := 13) rfl ?_);refine box_event ?hg (N := 13) ?hd (cs := #[.int .i64 0,.int .i64 0]) (t := 23) ?hr ?_;(case hd => rfl);(case hg => rfl);(case hr => first|(go_simp;done)|(go_simp;rfl));intro gb422 hg w56 hbox hb;have BK422 := sd_ hbox;have GW422 := gw_ HB (e_ GE404 (e_ GE405 (e_ GE410 (e_ GE414 (e_ GE418 e0_))))) hg;have GE422 := GW422;have NB404_422 := nb_ BK404 hg;have NB422_404 := sy_ NB404_422;have NB405_422 := nb_ BK405 hg;have NB422_405 := sy_ NB405_422;have NB410_422 := nb_ BK410 hg;have NB422_410 := sy_ NB410_422;have NB414_422 := nb_ BK414 hg;have NB422_414 := sy_ NB414_422;have NB418_422 := nb_ BK418 hg;have NB422_418 := sy_ NB418_422;replace BK404 := kb_ BK404 hb;replace BK405 := kb_ BK405 hb;replace BK410 := kb_ BK410 hb;replace BK414 := kb_ BK414 hb;replace BK418 := kb_ BK418 hb;replace HB := hb_ HB (e_ GE404 (e_ GE405 (e_ GE410 (e_ GE414 (e_ GE418 e0_))))) hb;clear hb hbox hg;have hnb57 := NB422_404.out;have hnc57 := NB404_422.out;have hnb58 := NB422_405.out;have hnc58 := NB405_422.out;have hnb59 := NB422_410.out;have hnc59 := NB410_422.out;have hnb60 := NB422_414.out;have hnc60 := NB414_422.out;have hnb61 := NB422_418.out;have hnc61 := NB418_422.out;have hcz62_0 : w56.cell? ⟨gb422,0,none⟩ = some (.int .i64 0) := (kc_ BK422.out 0).trans rfl;have hcz62_1 : w56.cell? ⟨gb422,1,none⟩ = some (.int .i64 0) := (kc_ BK422.out 1).trans rfl;have hfz62_0 := kf_ BK422.out 0;have hfz62_1 := kf_ BK422.out 1))
          have n0_ : Aside0 (((w56.setCell ⟨gb422,0,none⟩ (.int .i64 t419)).setCell ⟨gb422,1,none⟩ (.int .i64 t420)).heap[gb404]? = some (.cells #[.int .i64 a0_0,.int .i64 a0_1] 23 (0,0))) := ⟨by (with_reducible repeat first|apply kn_|apply kd_|apply ka_);refine blk_far ?_ NB404_422.out _;(with_reducible repeat first|apply kn_|apply kd_|apply ka_);refine blk_far ?_ NB404_422.out _;(with_reducible repeat first|apply kn_|apply kd_|apply ka_);exact BK404.out⟩
          have n1_ : Aside0 (((w56.setCell ⟨gb422,0,none⟩ (.int .i64 t419)).setCell ⟨gb422,1,none⟩ (.int .i64 t420)).heap[gb405]? = some (.cells #[.int .i64 a1_0,.int .i64 a1_1] 23 (0,0))) := ⟨by (with_reducible repeat first|apply kn_|apply kd_|apply ka_);refine blk_far ?_ NB405_422.out _;(with_reducible repeat first|apply kn_|apply kd_|apply ka_);refine blk_far ?_ NB405_422.out _;(with_reducible repeat first|apply kn_|apply kd_|apply ka_);exact BK405.out⟩
          have n2_ : Aside0 (((w56.setCell ⟨gb422,0,none⟩ (.int .i64 t419)).setCell ⟨gb422,1,none⟩ (.int .i64 t420)).heap[gb410]? = some (.cells #[.int .i64 t407,.int .i64 t408] 23 (0,0))) := ⟨by (with_reducible repeat first|apply kn_|apply kd_|apply ka_);refine blk_far ?_ NB410_422.out _;(with_reducible repeat first|apply kn_|apply kd_|apply ka_);refine blk_far ?_ NB410_422.out _;(with_reducible repeat first|apply kn_|apply kd_|apply ka_);exact BK410.out⟩
          have n3_ : Aside0 (((w56.setCell ⟨gb422,0,none⟩ (.int .i64 t419)).setCell ⟨gb422,1,none⟩ (.int .i64 t420)).heap[gb414]? = some (.cells #[.int .i64 t411,.int .i64 t412] 23 (0,0))) := ⟨by (with_reducible repeat first|apply kn_|apply kd_|apply ka_);refine blk_far ?_ NB414_422.out _;(with_reducible repeat first|apply kn_|apply kd_|apply ka_);refine blk_far ?_ NB414_422.out _;(with_reducible repeat first|apply kn_|apply kd_|apply ka_);exact BK414.out⟩
          have n4_ : Aside0 (((w56.setCell ⟨gb422,0,none⟩ (.int .i64 t419)).setCell ⟨gb422,1,none⟩ (.int .i64 t420)).heap[gb418]? = some (.cells #[.int .i64 t415,.int .i64 t416] 23 (0,0))) := ⟨by (with_reducible repeat first|apply kn_|apply kd_|apply ka_);refine blk_far ?_ NB418_422.out _;(with_reducible repeat first|apply kn_|apply kd_|apply ka_);refine blk_far ?_ NB418_422.out _;(with_reducible repeat first|apply kn_|apply kd_|apply ka_);exact BK418.out⟩
          have n5_ : Aside0 (((w56.setCell ⟨gb422,0,none⟩ (.int .i64 t419)).setCell ⟨gb422,1,none⟩ (.int .i64 t420)).heap[gb422]? = some (.cells #[.int .i64 t419,.int .i64 t420] 23 (0,0))) := ⟨by (with_reducible repeat first|apply kn_|apply kd_|apply ka_);refine blk_put (cs := #[.int .i64 t419,.int .i64 0]) ?_ 1 _ rfl;(with_reducible repeat first|apply kn_|apply kd_|apply ka_);refine blk_put (cs := #[.int .i64 0,.int .i64 0]) ?_ 0 _ rfl;(with_reducible repeat first|apply kn_|apply kd_|apply ka_);exact BK422.out⟩
          have n6_ : Aside0 (Below w.heap.size w ((w56.setCell ⟨gb422,0,none⟩ (.int .i64 t419)).setCell ⟨gb422,1,none⟩ (.int .i64 t420))) := ⟨by repeat (first|(with_reducible first|exact HB.out|apply ba_|apply pd_|apply d1_|refine bs_ ?_ GE404.out|refine bs_ ?_ GE405.out|refine bs_ ?_ GE410.out|refine bs_ ?_ GE414.out|refine bs_ ?_ GE418.out|refine bs_ ?_ GE422.out)|exact HB.out)⟩
          (try clear BK404)
          (try clear BK405)
          (try clear BK410)
          (try clear BK414)
          (try clear BK418)
          (try clear BK422)
          (try clear HB)
          generalize ((w56.setCell ⟨gb422,0,none⟩ (.int .i64 t419)).setCell ⟨gb422,1,none⟩ (.int .i64 t420)) = w63 at n0_ n1_ n2_ n3_ n4_ n5_ n6_ ⊢
          have BK404 := n0_
          have BK405 := n1_
          have BK410 := n2_
          have BK414 := n3_
          have BK418 := n4_
          have BK422 := n5_
          have HB := n6_
          clear n0_ n1_ n2_ n3_ n4_ n5_ n6_
          replace BK404 := sd_ (kd_ BK404.out)
          replace BK405 := sd_ (kd_ BK405.out)
          replace BK410 := sd_ (kd_ BK410.out)
          replace BK414 := sd_ (kd_ BK414.out)
          replace BK418 := sd_ (kd_ BK418.out)
          replace BK422 := sd_ (kd_ BK422.out)
          replace HB := sd_ (d1_ HB.out)
          refine start_ (n := 52) (S := fun w' => w'.cell? ⟨gb410,0,none⟩ = some (.int .i64 t407) ∧ w'.cell? ⟨gb410,1,none⟩ = some (.int .i64 t408) ∧ w'.cell? ⟨gb414,0,none⟩ = some (.int .i64 t411) ∧ w'.cell? ⟨gb414,1,none⟩ = some (.int .i64 t412) ∧ w'.cell? ⟨gb418,0,none⟩ = some (.int .i64 t415) ∧ w'.cell? ⟨gb418,1,none⟩ = some (.int .i64 t416) ∧ w'.cell? ⟨gb422,0,none⟩ = some (.int .i64 t419) ∧ w'.cell? ⟨gb422,1,none⟩ = some (.int .i64 t420) ∧ w'.cell? ⟨gb404,0,none⟩ = some (.int .i64 a0_0) ∧ w'.cell? ⟨gb404,1,none⟩ = some (.int .i64 a0_1) ∧ w'.cell? ⟨gb405,0,none⟩ = some (.int .i64 a1_0) ∧ w'.cell? ⟨gb405,1,none⟩ = some (.int .i64 a1_1)) (ds := []) (Array.replicate 52 false) (by kernel_rfl) rfl rfl ⟨(kc_ BK410.out 0).trans rfl,(kc_ BK410.out 1).trans rfl,(kc_ BK414.out 0).trans rfl,(kc_ BK414.out 1).trans rfl,(kc_ BK418.out 0).trans rfl,(kc_ BK418.out 1).trans rfl,(kc_ BK422.out 0).trans rfl,(kc_ BK422.out 1).trans rfl,(kc_ BK404.out 0).trans rfl,(kc_ BK404.out 1).trans rfl,(kc_ BK405.out 0).trans rfl,(kc_ BK405.out 1).trans rfl⟩ (fun hHeld => ?_);refine with_tabW neumelaw02_RatTells.tab7 neumelaw02_RatTells.bits7 (fun HT_ HW_ => ?_)
          generalize w63.drew = w64 at BK404 BK405 BK410 BK414 BK418 BK422 HB hHeld ⊢
          refine ta_ (v := ?_) (a' := ?_) 0 41 (bz 52 1) rfl rfl HT_ HW_ (by kernel_rfl) (fun _ _ _ h => h) (by rfl) ?_ hHeld ?_ ?_
          rotate_left
          ·rintro w' ⟨s0,s1,s2,s3,s4,s5,s6,s7,s8,s9,s10,s11⟩
           go_simp
           with_reducible rfl
          rotate_left
          ·simp only [Act.put,ls_,lz_,lc_,i64_w,i32_w]
           rfl
          refine ta_ (v := ?_) (a' := ?_) 1 42 (bz 52 3) rfl rfl HT_ HW_ (by kernel_rfl) (fun _ _ _ h => h) (by rfl) ?_ hHeld ?_ ?_
          rotate_left
          ·rintro w' ⟨s0,s1,s2,s3,s4,s5,s6,s7,s8,s9,s10,s11⟩
           go_simp
           with_reducible rfl
          rotate_left
          ·simp only [Act.put,ls_,lz_,lc_,i64_w,i32_w]
           rfl
          refine pu_ (v := ?_) (a' := ?_) 2 43 (bz 52 7) rfl rfl HT_ (by kernel_rfl) (fun _ _ _ h => h) (by rfl) ?_ ?_ ?_
          rotate_left;(intro w';go_simp;with_reducible rfl);rotate_left;(simp only [Act.put,ls_,lz_,lc_,i64_w,i32_w];rfl)
          refine pu_ (v := ?_) (a' := ?_) 3 44 (bz 52 15) rfl rfl HT_ (by kernel_rfl) (fun _ _ _ h => h) (by rfl) ?_ ?_ ?_
          rotate_left;(intro w';go_simp;with_reducible rfl);rotate_left;(simp only [Act.put,ls_,lz_,lc_,i64_w,i32_w];rfl)
          refine pu_ (v := ?_) (a' := ?_) 4 45 (bz 52 31) rfl rfl HT_ (by kernel_rfl) (fun _ _ _ h => h) (by rfl) ?_ ?_ ?_
          rotate_left;(intro w';go_simp;with_reducible rfl);rotate_left;(simp only [Act.put,ls_,lz_,lc_,i64_w,i32_w];rfl)
          refine pu_ (v := ?_) (a' := ?_) 5 46 (bz 52 63) rfl rfl HT_ (by kernel_rfl) (fun _ _ _ h => h) (by rfl) ?_ ?_ ?_
          rotate_left;(intro w';go_simp;with_reducible rfl);rotate_left;(simp only [Act.put,ls_,lz_,lc_,i64_w,i32_w];rfl)
          refine pu_ (v := ?_) (a' := ?_) 6 47 (bz 52 127) rfl rfl HT_ (by kernel_rfl) (fun _ _ _ h => h) (by rfl) ?_ ?_ ?_
          rotate_left;(intro w';go_simp;with_reducible rfl);rotate_left;(simp only [Act.put,ls_,lz_,lc_,i64_w,i32_w];rfl)
          refine pu_ (v := ?_) (a' := ?_) 7 48 (bz 52 255) rfl rfl HT_ (by kernel_rfl) (fun _ _ _ h => h) (by rfl) ?_ ?_ ?_
          rotate_left;(intro w';go_simp;with_reducible rfl);rotate_left;(simp only [Act.put,ls_,lz_,lc_,i64_w,i32_w];rfl)
          refine pu_ (v := ?_) (a' := ?_) 8 49 (bz 52 511) rfl rfl HT_ (by kernel_rfl) (fun _ _ _ h => h) (by rfl) ?_ ?_ ?_
          rotate_left;(intro w';go_simp;with_reducible rfl);rotate_left;(simp only [Act.put,ls_,lz_,lc_,i64_w,i32_w];rfl)
          refine ta_ (v := ?_) (a' := ?_) 9 50 (bz 52 1023) rfl rfl HT_ HW_ (by kernel_rfl) (fun _ _ _ h => h) (by rfl) ?_ hHeld ?_ ?_
          rotate_left
          ·rintro w' ⟨s0,s1,s2,s3,s4,s5,s6,s7,s8,s9,s10,s11⟩
           go_simp
           with_reducible rfl
          rotate_left
          ·simp only [Act.put,ls_,lz_,lc_,i64_w,i32_w]
           rfl
          refine ta_ (v := ?_) (a' := ?_) 10 51 (bz 52 2047) rfl rfl HT_ HW_ (by kernel_rfl) (fun _ _ _ h => h) (by rfl) ?_ hHeld ?_ ?_
          rotate_left
          ·rintro w' ⟨s0,s1,s2,s3,s4,s5,s6,s7,s8,s9,s10,s11⟩
           go_simp
           with_reducible rfl
          rotate_left
          ·simp only [Act.put,ls_,lz_,lc_,i64_w,i32_w]
           rfl
          refine pu_ (v := ?_) (a' := ?_) 11 52 (bz 52 4095) rfl rfl HT_ (by kernel_rfl) (fun _ _ _ h => h) (by rfl) ?_ ?_ ?_
          rotate_left;(intro w';go_simp;with_reducible rfl);rotate_left;(simp only [Act.put,ls_,lz_,lc_,i64_w,i32_w];rfl)
          refine pu_ (v := ?_) (a' := ?_) 12 53 (bz 52 8191) rfl rfl HT_ (by kernel_rfl) (fun _ _ _ h => h) (by rfl) ?_ ?_ ?_
          rotate_left;(intro w';go_simp;with_reducible rfl);rotate_left;(simp only [Act.put,ls_,lz_,lc_,i64_w,i32_w];rfl)
          refine pu_ (v := ?_) (a' := ?_) 13 54 (bz 52 16383) rfl rfl HT_ (by kernel_rfl) (fun _ _ _ h => h) (by rfl) ?_ ?_ ?_
          rotate_left;(intro w';go_simp;with_reducible rfl);rotate_left;(simp only [Act.put,ls_,lz_,lc_,i64_w,i32_w];rfl)
          refine pu_ (v := ?_) (a' := ?_) 14 55 (bz 52 32767) rfl rfl HT_ (by kernel_rfl) (fun _ _ _ h => h) (by rfl) ?_ ?_ ?_
          rotate_left;(intro w';go_simp;with_reducible rfl);rotate_left;(simp only [Act.put,ls_,lz_,lc_,i64_w,i32_w];rfl)
          refine pu_ (v := ?_) (a' := ?_) 15 56 (bz 52 65535) rfl rfl HT_ (by kernel_rfl) (fun _ _ _ h => h) (by rfl) ?_ ?_ ?_
          rotate_left;(intro w';go_simp;with_reducible rfl);rotate_left;(simp only [Act.put,ls_,lz_,lc_,i64_w,i32_w];rfl)
          refine pu_ (v := ?_) (a' := ?_) 16 57 (bz 52 131071) rfl rfl HT_ (by kernel_rfl) (fun _ _ _ h => h) (by rfl) ?_ ?_ ?_
          rotate_left;(intro w';go_simp;with_reducible rfl);rotate_left;(simp only [Act.put,ls_,lz_,lc_,i64_w,i32_w];rfl)
          refine pu_ (v := ?_) (a' := ?_) 17 58 (bz 52 262143) rfl rfl HT_ (by kernel_rfl) (fun _ _ _ h => h) (by rfl) ?_ ?_ ?_
          rotate_left;(intro w';go_simp;with_reducible rfl);rotate_left;(simp only [Act.put,ls_,lz_,lc_,i64_w,i32_w];rfl)
          refine pu_ (v := ?_) (a' := ?_) 18 59 (bz 52 524287) rfl rfl HT_ (by kernel_rfl) (fun _ _ _ h => h) (by rfl) ?_ ?_ ?_
          rotate_left;(intro w';go_simp;with_reducible rfl);rotate_left;(simp only [Act.put,ls_,lz_,lc_,i64_w,i32_w];rfl)
          refine ta_ (v := ?_) (a' := ?_) 19 60 (bz 52 1048575) rfl rfl HT_ HW_ (by kernel_rfl) (fun _ _ _ h => h) (by rfl) ?_ hHeld ?_ ?_
          rotate_left
          ·rintro w' ⟨s0,s1,s2,s3,s4,s5,s6,s7,s8,s9,s10,s11⟩
           go_simp
           with_reducible rfl
          rotate_left
          ·simp only [Act.put,ls_,lz_,lc_,i64_w,i32_w]
           rfl
          refine ta_ (v := ?_) (a' := ?_) 20 61 (bz 52 2097151) rfl rfl HT_ HW_ (by kernel_rfl) (fun _ _ _ h => h) (by rfl) ?_ hHeld ?_ ?_
          rotate_left
          ·rintro w' ⟨s0,s1,s2,s3,s4,s5,s6,s7,s8,s9,s10,s11⟩
           go_simp
           with_reducible rfl
          rotate_left
          ·simp only [Act.put,ls_,lz_,lc_,i64_w,i32_w]
           rfl
          refine ta_ (v := ?_) (a' := ?_) 22 63 (bz 52 6291455) rfl rfl HT_ HW_ (by kernel_rfl) (fun _ _ _ h => h) (by rfl) ?_ hHeld ?_ ?_
          rotate_left
          ·rintro w' ⟨s0,s1,s2,s3,s4,s5,s6,s7,s8,s9,s10,s11⟩
           go_simp
           with_reducible rfl
          rotate_left
          ·simp only [Act.put,ls_,lz_,lc_,i64_w,i32_w]
           rfl
          refine ta_ (v := ?_) (a' := ?_) 23 64 (bz 52 14680063) rfl rfl HT_ HW_ (by kernel_rfl) (fun _ _ _ h => h) (by rfl) ?_ hHeld ?_ ?_
          rotate_left
          ·rintro w' ⟨s0,s1,s2,s3,s4,s5,s6,s7,s8,s9,s10,s11⟩
           go_simp
           with_reducible rfl
          rotate_left
          ·simp only [Act.put,ls_,lz_,lc_,i64_w,i32_w]
           rfl
          refine on_ (N := some 62) 21 (bz 52 16777215) rfl rfl HT_ (by kernel_rfl) (by decide) (fun K hK => ?_)
          refine goes_ Tryd.func23 (by kernel_rfl) rfl #[.agg #[.int .i64 a0_0,.int .i64 a0_1],.agg #[.int .i64 a1_0,.int .i64 a1_1]] (by rfl) rfl rfl (by (try simp only [lm_,lq_,lx_]);first|done|rfl|(simp only [ld_,lt_];rfl)) ?_
          with_reducible refine (rat_Cmp.calls k a0_0 a0_1 a1_0 a1_1 t423 _ A17.out).mono ?_
          rintro e w65 ⟨rfl,hb⟩
          refine ⟨_,rfl,?_⟩
          replace BK404 := kb_ BK404 hb
          replace BK405 := kb_ BK405 hb
          replace BK410 := kb_ BK410 hb
          replace BK414 := kb_ BK414 hb
          replace BK418 := kb_ BK418 hb
          replace BK422 := kb_ BK422 hb
          replace HB := hb_ HB (e_ GE404 (e_ GE405 (e_ GE410 (e_ GE414 (e_ GE418 (e_ GE422 e0_)))))) hb
          (try clear hb)
          (try clear hb2)
          (try clear hk)
          (try clear hi)
          refine hK.out _ _ ⟨(kc_ BK410.out 0).trans rfl,(kc_ BK410.out 1).trans rfl,(kc_ BK414.out 0).trans rfl,(kc_ BK414.out 1).trans rfl,(kc_ BK418.out 0).trans rfl,(kc_ BK418.out 1).trans rfl,(kc_ BK422.out 0).trans rfl,(kc_ BK422.out 1).trans rfl,(kc_ BK404.out 0).trans rfl,(kc_ BK404.out 1).trans rfl,(kc_ BK405.out 0).trans rfl,(kc_ BK405.out 1).trans rfl⟩ (fun hHeld => ?_)
          clear hK K
          refine norm_ (a' := ?_) ?_ ?_
          rotate_left
          ·show Act.put _ (some 62) _ = _
           simp only [Act.put,ls_,lz_,lc_,i64_w,i32_w]
           rfl
          refine on_ (N := some 65) 24 (bz 52 33554431) rfl rfl HT_ (by kernel_rfl) (by decide) (fun K hK => ?_)
          refine goes_ Tryd.func24 (by kernel_rfl) rfl #[.agg #[.int .i64 a0_0,.int .i64 a0_1],.agg #[.int .i64 a1_0,.int .i64 a1_1]] (by rfl) rfl rfl (by (try simp only [lm_,lq_,lx_]);first|done|rfl|(simp only [ld_,lt_];rfl)) ?_
          with_reducible refine (neumeref02_Cmp.calls k a0_0 a0_1 a1_0 a1_1 t424 _ A18.out).mono ?_
          rintro e w66 ⟨rfl,hb⟩
          refine ⟨_,rfl,?_⟩
          replace BK404 := kb_ BK404 hb
          replace BK405 := kb_ BK405 hb
          replace BK410 := kb_ BK410 hb
          replace BK414 := kb_ BK414 hb
          replace BK418 := kb_ BK418 hb
          replace BK422 := kb_ BK422 hb
          replace HB := hb_ HB (e_ GE404 (e_ GE405 (e_ GE410 (e_ GE414 (e_ GE418 (e_ GE422 e0_)))))) hb
          (try clear hb)
          (try clear hb2)
          (try clear hk)
          (try clear hi)
          refine hK.out _ _ ⟨(kc_ BK410.out 0).trans rfl,(kc_ BK410.out 1).trans rfl,(kc_ BK414.out 0).trans rfl,(kc_ BK414.out 1).trans rfl,(kc_ BK418.out 0).trans rfl,(kc_ BK418.out 1).trans rfl,(kc_ BK422.out 0).trans rfl,(kc_ BK422.out 1).trans rfl,(kc_ BK404.out 0).trans rfl,(kc_ BK404.out 1).trans rfl,(kc_ BK405.out 0).trans rfl,(kc_ BK405.out 1).trans rfl⟩ (fun hHeld => ?_)
          clear hK K
          refine norm_ (a' := ?_) ?_ ?_
          rotate_left
          ·show Act.put _ (some 65) _ = _
           simp only [Act.put,ls_,lz_,lc_,i64_w,i32_w]
           rfl
          refine pu_ (v := ?_) (a' := ?_) 25 66 (bz 52 67108863) rfl rfl HT_ (by kernel_rfl) (fun _ _ _ h => h) (by rfl) ?_ ?_ ?_
          rotate_left;(intro w';go_simp;with_reducible rfl);rotate_left;(simp only [Act.put,ls_,lz_,lc_,i64_w,i32_w];rfl)
          refine pu_ (v := ?_) (a' := ?_) 26 67 (bz 52 134217727) rfl rfl HT_ (by kernel_rfl) (fun _ _ _ h => h) (by rfl) ?_ ?_ ?_
          rotate_left;(intro w';go_simp;with_reducible rfl);rotate_left;(simp only [Act.put,ls_,lz_,lc_,i64_w,i32_w];rfl)
          refine pu_ (v := ?_) (a' := ?_) 27 68 (bz 52 268435455) rfl rfl HT_ (by kernel_rfl) (fun _ _ _ h => h) (by rfl) ?_ ?_ ?_
          rotate_left;(intro w';go_simp;with_reducible rfl);rotate_left;(simp only [Act.put,ls_,lz_,lc_,i64_w,i32_w];rfl)
          refine ta_ (v := ?_) (a' := ?_) 28 69 (bz 52 536870911) rfl rfl HT_ HW_ (by kernel_rfl) (fun _ _ _ h => h) (by rfl) ?_ hHeld ?_ ?_
          rotate_left
          ·rintro w' ⟨s0,s1,s2,s3,s4,s5,s6,s7,s8,s9,s10,s11⟩
           go_simp
           with_reducible rfl
          rotate_left
          ·simp only [Act.put,ls_,lz_,lc_,i64_w,i32_w]
           rfl
          refine ta_ (v := ?_) (a' := ?_) 30 71 (bz 52 1610612735) rfl rfl HT_ HW_ (by kernel_rfl) (fun _ _ _ h => h) (by rfl) ?_ hHeld ?_ ?_
          rotate_left
          ·rintro w' ⟨s0,s1,s2,s3,s4,s5,s6,s7,s8,s9,s10,s11⟩
           go_simp
           with_reducible rfl
          rotate_left
          ·simp only [Act.put,ls_,lz_,lc_,i64_w,i32_w]
           rfl
          refine on_ (N := some 70) 29 (bz 52 2147483647) rfl rfl HT_ (by kernel_rfl) (by decide) (fun K hK => ?_)
          refine goes_ Tryd.func25 (by kernel_rfl) rfl #[.agg #[.int .i64 a0_0,.int .i64 a0_1]] (by rfl) rfl rfl (by (try simp only [lm_,lq_,lx_]);first|done|rfl|(simp only [ld_,lt_];rfl)) ?_
          with_reducible refine (rat_Floor.calls k a0_0 a0_1 t425 _ A20.out).mono ?_
          rintro e w67 ⟨rfl,hb⟩
          refine ⟨_,rfl,?_⟩
          replace BK404 := kb_ BK404 hb
          replace BK405 := kb_ BK405 hb
          replace BK410 := kb_ BK410 hb
          replace BK414 := kb_ BK414 hb
          replace BK418 := kb_ BK418 hb
          replace BK422 := kb_ BK422 hb
          replace HB := hb_ HB (e_ GE404 (e_ GE405 (e_ GE410 (e_ GE414 (e_ GE418 (e_ GE422 e0_)))))) hb
          (try clear hb)
          (try clear hb2)
          (try clear hk)
          (try clear hi)
          refine hK.out _ _ ⟨(kc_ BK410.out 0).trans rfl,(kc_ BK410.out 1).trans rfl,(kc_ BK414.out 0).trans rfl,(kc_ BK414.out 1).trans rfl,(kc_ BK418.out 0).trans rfl,(kc_ BK418.out 1).trans rfl,(kc_ BK422.out 0).trans rfl,(kc_ BK422.out 1).trans rfl,(kc_ BK404.out 0).trans rfl,(kc_ BK404.out 1).trans rfl,(kc_ BK405.out 0).trans rfl,(kc_ BK405.out 1).trans rfl⟩ (fun hHeld => ?_)
          clear hK K
          refine norm_ (a' := ?_) ?_ ?_
          rotate_left
          ·show Act.put _ (some 70) _ = _
           simp only [Act.put,ls_,lz_,lc_,i64_w,i32_w]
           rfl
          refine on_ (N := some 72) 31 (bz 52 4294967295) rfl rfl HT_ (by kernel_rfl) (by decide) (fun K hK => ?_)
          refine goes_ Tryd.func26 (by kernel_rfl) rfl #[.agg #[.int .i64 a0_0,.int .i64 a0_1]] (by rfl) rfl rfl (by (try simp only [lm_,lq_,lx_]);first|done|rfl|(simp only [ld_,lt_];rfl)) ?_
          with_reducible refine (neumeref02_Floor.calls k a0_0 a0_1 t426 _ A21.out).mono ?_
          rintro e w68 ⟨rfl,hb⟩
          refine ⟨_,rfl,?_⟩
          replace BK404 := kb_ BK404 hb
          replace BK405 := kb_ BK405 hb
          replace BK410 := kb_ BK410 hb
          replace BK414 := kb_ BK414 hb
          replace BK418 := kb_ BK418 hb
          replace BK422 := kb_ BK422 hb
          replace HB := hb_ HB (e_ GE404 (e_ GE405 (e_ GE410 (e_ GE414 (e_ GE418 (e_ GE422 e0_)))))) hb
          (try clear hb)
          (try clear hb2)
          (try clear hk)
          (try clear hi)
          refine hK.out _ _ ⟨(kc_ BK410.out 0).trans rfl,(kc_ BK410.out 1).trans rfl,(kc_ BK414.out 0).trans rfl,(kc_ BK414.out 1).trans rfl,(kc_ BK418.out 0).trans rfl,(kc_ BK418.out 1).trans rfl,(kc_ BK422.out 0).trans rfl,(kc_ BK422.out 1).trans rfl,(kc_ BK404.out 0).trans rfl,(kc_ BK404.out 1).trans rfl,(kc_ BK405.out 0).trans rfl,(kc_ BK405.out 1).trans rfl⟩ (fun hHeld => ?_)
          clear hK K
          refine norm_ (a' := ?_) ?_ ?_
          rotate_left
          ·show Act.put _ (some 72) _ = _
           simp only [Act.put,ls_,lz_,lc_,i64_w,i32_w]
           rfl
          refine pu_ (v := ?_) (a' := ?_) 32 73 (bz 52 8589934591) rfl rfl HT_ (by kernel_rfl) (fun _ _ _ h => h) (by rfl) ?_ ?_ ?_
          rotate_left;(intro w';go_simp;with_reducible rfl);rotate_left;(simp only [Act.put,ls_,lz_,lc_,i64_w,i32_w];rfl)
          refine pu_ (v := ?_) (a' := ?_) 33 74 (bz 52 17179869183) rfl rfl HT_ (by kernel_rfl) (fun _ _ _ h => h) (by rfl) ?_ ?_ ?_
          rotate_left;(intro w';go_simp;with_reducible rfl);rotate_left;(simp only [Act.put,ls_,lz_,lc_,i64_w,i32_w];rfl)
          refine pu_ (v := ?_) (a' := ?_) 34 75 (bz 52 34359738367) rfl rfl HT_ (by kernel_rfl) (fun _ _ _ h => h) (by rfl) ?_ ?_ ?_
          rotate_left;(intro w';go_simp;with_reducible rfl);rotate_left;(simp only [Act.put,ls_,lz_,lc_,i64_w,i32_w];rfl)
          refine ta_ (v := ?_) (a' := ?_) 35 76 (bz 52 68719476735) rfl rfl HT_ HW_ (by kernel_rfl) (fun _ _ _ h => h) (by rfl) ?_ hHeld ?_ ?_
          rotate_left
          ·rintro w' ⟨s0,s1,s2,s3,s4,s5,s6,s7,s8,s9,s10,s11⟩
           go_simp
           with_reducible rfl
          rotate_left
          ·simp only [Act.put,ls_,lz_,lc_,i64_w,i32_w]
           rfl
          refine ta_ (v := ?_) (a' := ?_) 37 78 (bz 52 206158430207) rfl rfl HT_ HW_ (by kernel_rfl) (fun _ _ _ h => h) (by rfl) ?_ hHeld ?_ ?_
          rotate_left
          ·rintro w' ⟨s0,s1,s2,s3,s4,s5,s6,s7,s8,s9,s10,s11⟩
           go_simp
           with_reducible rfl
          rotate_left
          ·simp only [Act.put,ls_,lz_,lc_,i64_w,i32_w]
           rfl
          refine on_ (N := some 77) 36 (bz 52 274877906943) rfl rfl HT_ (by kernel_rfl) (by decide) (fun K hK => ?_)
          refine goes_ Tryd.func27 (by kernel_rfl) rfl #[.agg #[.int .i64 a0_0,.int .i64 a0_1]] (by rfl) rfl rfl (by (try simp only [lm_,lq_,lx_]);first|done|rfl|(simp only [ld_,lt_];rfl)) ?_
          with_reducible refine (rat_Text.calls k a0_0 a0_1 t427 _ ?side1 A23.out).mono ?_
          (case side1 => first|(with_reducible exact hE)|exact sd_ (LaidE.below hE.out (bb_ HB.out (e_ GE404 (e_ GE405 (e_ GE410 (e_ GE414 (e_ GE418 (e_ GE422 e0_)))))))))
          rintro e w69 ⟨rfl,hb⟩
          refine ⟨_,rfl,?_⟩
          replace BK404 := kb_ BK404 hb
          replace BK405 := kb_ BK405 hb
          replace BK410 := kb_ BK410 hb
          replace BK414 := kb_ BK414 hb
          replace BK418 := kb_ BK418 hb
          replace BK422 := kb_ BK422 hb
          replace HB := hb_ HB (e_ GE404 (e_ GE405 (e_ GE410 (e_ GE414 (e_ GE418 (e_ GE422 e0_)))))) hb
          (try clear hb)
          (try clear hb2)
          (try clear hk)
          (try clear hi)
          refine hK.out _ _ ⟨(kc_ BK410.out 0).trans rfl,(kc_ BK410.out 1).trans rfl,(kc_ BK414.out 0).trans rfl,(kc_ BK414.out 1).trans rfl,(kc_ BK418.out 0).trans rfl,(kc_ BK418.out 1).trans rfl,(kc_ BK422.out 0).trans rfl,(kc_ BK422.out 1).trans rfl,(kc_ BK404.out 0).trans rfl,(kc_ BK404.out 1).trans rfl,(kc_ BK405.out 0).trans rfl,(kc_ BK405.out 1).trans rfl⟩ (fun hHeld => ?_)
          clear hK K
          refine norm_ (a' := ?_) ?_ ?_
          rotate_left
          ·show Act.put _ (some 77) _ = _
           simp only [Act.put,ls_,lz_,lc_,i64_w,i32_w]
           rfl
          refine on_ (N := some 79) 38 (bz 52 549755813887) rfl rfl HT_ (by kernel_rfl) (by decide) (fun K hK => ?_)
          refine goes_ Tryd.func28 (by kernel_rfl) rfl #[.agg #[.int .i64 a0_0,.int .i64 a0_1]] (by rfl) rfl rfl (by (try simp only [lm_,lq_,lx_]);first|done|rfl|(simp only [ld_,lt_];rfl)) ?_
          with_reducible refine (neumeref02_Text.calls k a0_0 a0_1 t428 _ A24.out).mono ?_
          rintro e w70 ⟨rfl,hb⟩
          refine ⟨_,rfl,?_⟩
          replace BK404 := kb_ BK404 hb
          replace BK405 := kb_ BK405 hb
          replace BK410 := kb_ BK410 hb
          replace BK414 := kb_ BK414 hb
          replace BK418 := kb_ BK418 hb
          replace BK422 := kb_ BK422 hb
          replace HB := hb_ HB (e_ GE404 (e_ GE405 (e_ GE410 (e_ GE414 (e_ GE418 (e_ GE422 e0_)))))) hb
          (try clear hb)
          (try clear hb2)
          (try clear hk)
          (try clear hi)
          refine hK.out _ _ ⟨(kc_ BK410.out 0).trans rfl,(kc_ BK410.out 1).trans rfl,(kc_ BK414.out 0).trans rfl,(kc_ BK414.out 1).trans rfl,(kc_ BK418.out 0).trans rfl,(kc_ BK418.out 1).trans rfl,(kc_ BK422.out 0).trans rfl,(kc_ BK422.out 1).trans rfl,(kc_ BK404.out 0).trans rfl,(kc_ BK404.out 1).trans rfl,(kc_ BK405.out 0).trans rfl,(kc_ BK405.out 1).trans rfl⟩ (fun hHeld => ?_)
          clear hK K
          refine norm_ (a' := ?_) ?_ ?_
          rotate_left
          ·show Act.put _ (some 79) _ = _
           simp only [Act.put,ls_,lz_,lc_,i64_w,i32_w]
           rfl
          refine pu_ (v := ?_) (a' := ?_) 39 80 (bz 52 1099511627775) rfl rfl HT_ (by kernel_rfl) (fun _ _ _ h => h) (by rfl) ?_ ?_ ?_
          rotate_left;(intro w';go_simp;with_reducible rfl);rotate_left;(simp only [Act.put,ls_,lz_,lc_,i64_w,i32_w];rfl)
          refine pu_ (v := ?_) (a' := ?_) 40 81 (bz 52 2199023255551) rfl rfl HT_ (by kernel_rfl) (fun _ _ _ h => h) (by rfl) ?_ ?_ ?_
          rotate_left;(intro w';go_simp;with_reducible rfl);rotate_left;(simp only [Act.put,ls_,lz_,lc_,i64_w,i32_w];rfl)
          refine pu_ (v := ?_) (a' := ?_) 41 82 (bz 52 4398046511103) rfl rfl HT_ (by kernel_rfl) (fun _ _ _ h => h) (by rfl) ?_ ?_ ?_
          rotate_left;(intro w';go_simp;with_reducible rfl);rotate_left;(simp only [Act.put,ls_,lz_,lc_,i64_w,i32_w];rfl)
          refine ta_ (v := ?_) (a' := ?_) 42 83 (bz 52 8796093022207) rfl rfl HT_ HW_ (by kernel_rfl) (fun _ _ _ h => h) (by rfl) ?_ hHeld ?_ ?_
          rotate_left
          ·rintro w' ⟨s0,s1,s2,s3,s4,s5,s6,s7,s8,s9,s10,s11⟩
           go_simp
           with_reducible rfl
          rotate_left
          ·simp only [Act.put,ls_,lz_,lc_,i64_w,i32_w]
           rfl
          refine ta_ (v := ?_) (a' := ?_) 44 85 (bz 52 26388279066623) rfl rfl HT_ HW_ (by kernel_rfl) (fun _ _ _ h => h) (by rfl) ?_ hHeld ?_ ?_
          rotate_left
          ·rintro w' ⟨s0,s1,s2,s3,s4,s5,s6,s7,s8,s9,s10,s11⟩
           go_simp
           with_reducible rfl
          rotate_left
          ·simp only [Act.put,ls_,lz_,lc_,i64_w,i32_w]
           rfl
          refine on_ (N := some 84) 43 (bz 52 35184372088831) rfl rfl HT_ (by kernel_rfl) (by decide) (fun K hK => ?_)
          refine goes_ Tryd.func29 (by kernel_rfl) rfl #[.agg #[.int .i64 a0_0,.int .i64 a0_1]] (by rfl) rfl rfl (by (try simp only [lm_,lq_,lx_]);first|done|rfl|(simp only [ld_,lt_];rfl)) ?_
          with_reducible refine (rat_Check.calls k a0_0 a0_1 t429 _ A26.out).mono ?_
          rintro e w71 ⟨rfl,hb⟩
          refine ⟨_,rfl,?_⟩
          replace BK404 := kb_ BK404 hb
          replace BK405 := kb_ BK405 hb
          replace BK410 := kb_ BK410 hb
          replace BK414 := kb_ BK414 hb
          replace BK418 := kb_ BK418 hb
          replace BK422 := kb_ BK422 hb
          replace HB := hb_ HB (e_ GE404 (e_ GE405 (e_ GE410 (e_ GE414 (e_ GE418 (e_ GE422 e0_)))))) hb
          (try clear hb)
          (try clear hb2)
          (try clear hk)
          (try clear hi)
          refine hK.out _ _ ⟨(kc_ BK410.out 0).trans rfl,(kc_ BK410.out 1).trans rfl,(kc_ BK414.out 0).trans rfl,(kc_ BK414.out 1).trans rfl,(kc_ BK418.out 0).trans rfl,(kc_ BK418.out 1).trans rfl,(kc_ BK422.out 0).trans rfl,(kc_ BK422.out 1).trans rfl,(kc_ BK404.out 0).trans rfl,(kc_ BK404.out 1).trans rfl,(kc_ BK405.out 0).trans rfl,(kc_ BK405.out 1).trans rfl⟩ (fun hHeld => ?_)
          clear hK K
          refine norm_ (a' := ?_) ?_ ?_
          rotate_left
          ·show Act.put _ (some 84) _ = _
           simp only [Act.put,ls_,lz_,lc_,i64_w,i32_w]
           rfl
          refine on_ (N := some 86) 45 (bz 52 70368744177663) rfl rfl HT_ (by kernel_rfl) (by decide) (fun K hK => ?_)
          refine goes_ Tryd.func30 (by kernel_rfl) rfl #[.agg #[.int .i64 a0_0,.int .i64 a0_1]] (by rfl) rfl rfl (by (try simp only [lm_,lq_,lx_]);first|done|rfl|(simp only [ld_,lt_];rfl)) ?_
          with_reducible refine (neumeref02_Check.calls k a0_0 a0_1 t430 _ A27.out).mono ?_
          rintro e w72 ⟨rfl,hb⟩
          refine ⟨_,rfl,?_⟩
          replace BK404 := kb_ BK404 hb
          replace BK405 := kb_ BK405 hb
          replace BK410 := kb_ BK410 hb
          replace BK414 := kb_ BK414 hb
          replace BK418 := kb_ BK418 hb
          replace BK422 := kb_ BK422 hb
          replace HB := hb_ HB (e_ GE404 (e_ GE405 (e_ GE410 (e_ GE414 (e_ GE418 (e_ GE422 e0_)))))) hb
          (try clear hb)
          (try clear hb2)
          (try clear hk)
          (try clear hi)
          refine hK.out _ _ ⟨(kc_ BK410.out 0).trans rfl,(kc_ BK410.out 1).trans rfl,(kc_ BK414.out 0).trans rfl,(kc_ BK414.out 1).trans rfl,(kc_ BK418.out 0).trans rfl,(kc_ BK418.out 1).trans rfl,(kc_ BK422.out 0).trans rfl,(kc_ BK422.out 1).trans rfl,(kc_ BK404.out 0).trans rfl,(kc_ BK404.out 1).trans rfl,(kc_ BK405.out 0).trans rfl,(kc_ BK405.out 1).trans rfl⟩ (fun hHeld => ?_)
          clear hK K
          refine norm_ (a' := ?_) ?_ ?_
          rotate_left
          ·show Act.put _ (some 86) _ = _
           simp only [Act.put,ls_,lz_,lc_,i64_w,i32_w]
           rfl
          refine pu_ (v := ?_) (a' := ?_) 46 87 (bz 52 140737488355327) rfl rfl HT_ (by kernel_rfl) (fun _ _ _ h => h) (by rfl) ?_ ?_ ?_
          rotate_left;(intro w';go_simp;with_reducible rfl);rotate_left;(simp only [Act.put,ls_,lz_,lc_,i64_w,i32_w];rfl)
          refine pu_ (v := ?_) (a' := ?_) 47 88 (bz 52 281474976710655) rfl rfl HT_ (by kernel_rfl) (fun _ _ _ h => h) (by rfl) ?_ ?_ ?_
          rotate_left;(intro w';go_simp;with_reducible rfl);rotate_left;(simp only [Act.put,ls_,lz_,lc_,i64_w,i32_w];rfl)
          refine pu_ (v := ?_) (a' := ?_) 48 89 (bz 52 562949953421311) rfl rfl HT_ (by kernel_rfl) (fun _ _ _ h => h) (by rfl) ?_ ?_ ?_
          rotate_left;(intro w';go_simp;with_reducible rfl);rotate_left;(simp only [Act.put,ls_,lz_,lc_,i64_w,i32_w];rfl)
          refine on_ (N := some 90) 49 (bz 52 1125899906842623) rfl rfl HT_ (by kernel_rfl) (by decide) (fun K hK => ?_)
          refine goes_ Tryd.func18 (by kernel_rfl) rfl #[] (by rfl) rfl rfl (by (try simp only [lm_,lq_,lx_]);first|done|rfl|(simp only [ld_,lt_];rfl)) ?_
          with_reducible refine (neumelaw02_heads.calls k  t431 _ ?side1 A29.out).mono ?_
          (case side1 => first|(with_reducible exact hE)|exact sd_ (LaidE.below hE.out (bb_ HB.out (e_ GE404 (e_ GE405 (e_ GE410 (e_ GE414 (e_ GE418 (e_ GE422 e0_)))))))))
          rintro e w73 ⟨rfl,hb⟩
          refine ⟨_,rfl,?_⟩
          replace BK404 := kb_ BK404 hb
          replace BK405 := kb_ BK405 hb
          replace BK410 := kb_ BK410 hb
          replace BK414 := kb_ BK414 hb
          replace BK418 := kb_ BK418 hb
          replace BK422 := kb_ BK422 hb
          replace HB := hb_ HB (e_ GE404 (e_ GE405 (e_ GE410 (e_ GE414 (e_ GE418 (e_ GE422 e0_)))))) hb
          (try clear hb)
          (try clear hb2)
          (try clear hk)
          (try clear hi)
          refine hK.out _ _ ⟨(kc_ BK410.out 0).trans rfl,(kc_ BK410.out 1).trans rfl,(kc_ BK414.out 0).trans rfl,(kc_ BK414.out 1).trans rfl,(kc_ BK418.out 0).trans rfl,(kc_ BK418.out 1).trans rfl,(kc_ BK422.out 0).trans rfl,(kc_ BK422.out 1).trans rfl,(kc_ BK404.out 0).trans rfl,(kc_ BK404.out 1).trans rfl,(kc_ BK405.out 0).trans rfl,(kc_ BK405.out 1).trans rfl⟩ (fun hHeld => ?_)
          clear hK K
          refine norm_ (a' := ?_) ?_ ?_
          rotate_left
          ·show Act.put _ (some 90) _ = _
           simp only [Act.put,ls_,lz_,lc_,i64_w,i32_w]
           rfl
          refine pu_ (v := ?_) (a' := ?_) 50 91 (bz 52 2251799813685247) rfl rfl HT_ (by kernel_rfl) (fun _ _ _ h => h) (by rfl) ?_ ?_ ?_
          rotate_left;(intro w';go_simp;with_reducible rfl);rotate_left;(simp only [Act.put,ls_,lz_,lc_,i64_w,i32_w];rfl)
          refine pu_ (v := ?_) (a' := ?_) 51 6 (bz 52 4503599627370495) rfl rfl HT_ (by kernel_rfl) (fun _ _ _ h => h) (by rfl) ?_ ?_ ?_
          rotate_left;(intro w';go_simp;with_reducible rfl);rotate_left;(simp only [Act.put,ls_,lz_,lc_,i64_w,i32_w];rfl)
          refine done_ (done_of HT_.out (by kernel_rfl)) ?_
          try go_wp2
          go_ret
          exact ⟨by first|rfl|(simp [errW_none,errW_some] <;> rfl)|(simp [*,errW_none,errW_some] <;> rfl),by repeat (first|(with_reducible first|exact HB.out|apply ba_|apply pd_|apply d1_|refine bs_ ?_ GE404.out|refine bs_ ?_ GE405.out|refine bs_ ?_ GE410.out|refine bs_ ?_ GE414.out|refine bs_ ?_ GE418.out|refine bs_ ?_ GE422.out)|exact HB.out)⟩
         ·rw [if_neg c28] at H
          have c28b0 : (t429 == t430) = false := by simpa using c28
          (try (have c28b1 : decide (t429 = t430) = false := by simpa using c28))
          (try (have c28b2 : (t429 == t430) = false := by simpa using c28))
          (try (have c28b3 : ¬ (t429 = t430) := by simpa using c28))
          clear c28
          exact absurd ((Option.some.inj H).trans hxt.out) (by decide)
        ·rw [if_neg c25] at H
         have c25b0 : (t427.toList == t428.toList) = false := beq_eq_false_iff_ne.mpr c25
         have c25b1 : (t427.toList != t428.toList) = true := bne_iff_ne.mpr c25
         exact absurd ((Option.some.inj H).trans hxt.out) (by decide)
       ·rw [if_neg c22] at H
        have c22b0 : (t425 == t426) = false := beq_eq_false_iff_ne.mpr c22
        have c22b1 : (t425 != t426) = true := bne_iff_ne.mpr c22
        exact absurd ((Option.some.inj H).trans hxt.out) (by decide)
      ·rw [if_neg c19] at H
       have c19b0 : (t423 == t424) = false := beq_eq_false_iff_ne.mpr c19
       have c19b1 : (t423 != t424) = true := bne_iff_ne.mpr c19
       exact absurd ((Option.some.inj H).trans hxt.out) (by decide)
     ·rw [if_neg c16] at H
      have c16b0 : (t417 == t421) = false := by simpa using c16
      (try (have c16b1 : decide (t417 = t421) = false := by simpa using c16))
      (try (have c16b2 : (t417 == t421) = false := by simpa using c16))
      (try (have c16b3 : ¬ (t417 = t421) := by simpa using c16))
      clear c16
      exact absurd ((Option.some.inj H).trans hxt.out) (by decide)
    ·rw [if_neg c15] at H
     have c15b0 : (t415 == t419 && (t416 == t420)) = false := by simpa using c15
     (try (have c15b1 : decide (t415 = t419 && (t416 == t420)) = false := by simpa using c15))
     (try (have c15b2 : (t415 == t419 && (t416 == t420)) = false := by simpa using c15))
     (try (have c15b3 : ¬ (t415 = t419 && (t416 == t420)) := by simpa using c15))
     clear c15
     exact absurd ((Option.some.inj H).trans hxt.out) (by decide)
   ·rw [if_neg c14] at H
    have c14b0 : (t409 == t413) = false := beq_eq_false_iff_ne.mpr c14
    have c14b1 : (t409 != t413) = true := bne_iff_ne.mpr c14
    exact absurd ((Option.some.inj H).trans hxt.out) (by decide)
  ·rw [if_neg c13] at H
   have c13b0 : (t407 == t411 && (t408 == t412)) = false := by simpa using c13
   (try (have c13b1 : decide (t407 = t411 && (t408 == t412)) = false := by simpa using c13))
   (try (have c13b2 : (t407 == t411 && (t408 == t412)) = false := by simpa using c13))
   (try (have c13b3 : ¬ (t407 = t411 && (t408 == t412)) := by simpa using c13))
   clear c13
   exact absurd ((Option.some.inj H).trans hxt.out) (by decide)

end Go.Proofs.YtmbdbinbdiiapaaDoor.P
