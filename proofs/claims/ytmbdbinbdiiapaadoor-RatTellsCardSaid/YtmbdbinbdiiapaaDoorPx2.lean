-- Written by a program of this session (wip/tools/xprint.py, over the kit's print): Lean checks it.
import Derived.Test.YtmbdbinbdiiapaaDoorPx0
namespace Go.Proofs.YtmbdbinbdiiapaaDoor.P
open Go.RowKit Go.Proofs.YtmbdbinbdiiapaaDoorW.PrintWords Go.Proofs.YtmbdbinbdiiapaaDoorW.PrintLast Go.Proofs.YtmbdbinbdiiapaaDoorW.PrintMore
attribute [local go_sem] max2_int min2_int max_two min_two max_three min_three max_four min_four   -- for this text's walks alone
set_option linter.unusedVariables false
set_option linter.unusedSimpArgs false

/-! ### rat_common: function 33 -/
def rat_common.f : Nat → Int → Int → Option (Int)
 | 0, _, _ => none
 | k + 1, a0, a1 => if a1 = 0 then (some a0) else ((rat_common.f k a1 (Int.tmod a0 a1)).bind fun t101 => (some t101))
theorem rat_common.mono_l : ∀ k, (∀ y0 y1, LeO (rat_common.f k y0 y1) (rat_common.f (k + 1) y0 y1))
 | 0 => fun _ _ r h => by simp [rat_common.f] at h
 | k + 1 => by
  have ih0 := rat_common.mono_l k
  ·intro y0 y1
   unfold rat_common.f
   repeat' first
   | (with_reducible exact ih0 _ _)
   | (with_reducible exact LeO.refl _)
   | (with_reducible exact LeO.none _)
   | (with_reducible refine LeO.ite ?_ ?_)
   | (with_reducible refine LeO.bind ?_ (fun _ => ?_))
   | exact ih0 _ _
   | exact LeO.none _
   | refine LeO.ite ?_ ?_
   | refine LeO.bind ?_ (fun _ => ?_)
theorem rat_common.mono : ∀ a0 a1 k, LeO (rat_common.f k a0 a1) (rat_common.f (k + 1) a0 a1) := by
 intro a0 a1 k
 have ih0 := rat_common.mono_l k
 exact ih0 a0 a1
set_option maxHeartbeats 8000000 in
set_option maxRecDepth 100000 in
theorem rat_common.calls (k : Nat) : ∀ (a0 : Int) (a1 : Int) (r : Int) (w : World) (h : rat_common.f k a0 a1 = some r),
  Calls Tryd.prog 33 #[.int .i64 a0,.int .i64 a1] w fun e w' => e = .returned (.int .i64 r) ∧ Drawn0 w w' := by
 induction k using Nat.strongRecOn with
 | _ k ih =>
 intro a0 a1 r w h
 cases k with
 | zero => exact absurd h (by simp [rat_common.f])
 | succ k =>
 simp only [rat_common.f] at h
 have H : (if a1 = 0 then (some a0) else ((rat_common.f k a1 (Int.tmod a0 a1)).bind fun t101 => (some t101))) = some r := h
 clear h
 by_cases c3 : a1 = 0
 ·rw [if_pos c3] at H
  have c3b0 : (a1 == 0) = true := beq_iff_eq.mpr c3
  have c3b1 : (a1 != 0) = false := bne_eq_false_iff_eq.mpr c3
  clear c3
  obtain rfl := Option.some.inj H
  go_enter Tryd.func33,Tryd.ntmps33
  go_wp2
  go_ret
  exact ⟨by first|rfl|(simp;done)|(simp [*];done),by repeat (first|exact Drawn0.refl _|apply Drawn0.step)⟩
 ·rw [if_neg c3] at H
  have c3b0 : (a1 == 0) = false := beq_eq_false_iff_ne.mpr c3
  have c3b1 : (a1 != 0) = true := bne_iff_ne.mpr c3
  replace H := ob_ H
  obtain ⟨t101,A40,H⟩ := H
  replace H : (some t101) = some r := H
  have A4 := sd_ A40
  clear A40
  obtain rfl := Option.some.inj H
  go_enter Tryd.func33,Tryd.ntmps33
  go_wp2_with (first|((with_reducible refine gate_callee (f := 33) rfl ?_);refine goesL_ (some 12) rfl rfl Tryd.func33 (by kernel_rfl) rfl #[.int .i64 a1,.int .i64 (Int.tmod a0 a1)] rfl (by (try simp only [lm_,lq_,lx_]);first|done|rfl|(simp only [ld_,lt_];rfl)) ?_;(with_reducible refine (ih k (by omega) a1 (Int.tmod a0 a1) t101 _ A4.out).mono ?_);rintro e w' ⟨rfl,⟨nd,rfl⟩⟩;refine ⟨_,rfl,?_⟩))
  go_ret
  exact ⟨by first|rfl|(simp;done)|(simp [*];done),by repeat (first|exact Drawn0.refl _|apply Drawn0.step)⟩

/-! ### rat_abs: function 48 -/
def rat_abs.f (a0 : Int) : Option (Int) := if a0 < 0 then (some (wrap64 (-a0))) else (some a0)
set_option maxHeartbeats 8000000 in
set_option maxRecDepth 100000 in
theorem rat_abs.calls (a0 : Int) (r : Int) (w : World) (h : rat_abs.f a0 = some r) :
  Calls Tryd.prog 48 #[.int .i64 a0] w fun e w' => e = .returned (.int .i64 r) ∧ Drawn0 w w' := by
 have H : (if a0 < 0 then (some (wrap64 (-a0))) else (some a0)) = some r := h
 clear h
 by_cases c2 : a0 < 0
 ·rw [if_pos c2] at H
  have c2b0 : decide (a0 < 0) = true := dt_ c2
  clear c2
  obtain rfl := Option.some.inj H
  go_enter Tryd.func48,Tryd.ntmps48
  go_wp2
  go_ret
  exact ⟨by first|rfl|(simp;done)|(simp [*];done),by repeat (first|exact Drawn0.refl _|apply Drawn0.step)⟩
 ·rw [if_neg c2] at H
  have c2b0 : decide (a0 < 0) = false := df_ c2
  clear c2
  obtain rfl := Option.some.inj H
  go_enter Tryd.func48,Tryd.ntmps48
  go_wp2
  go_ret
  exact ⟨by first|rfl|(simp;done)|(simp [*];done),by repeat (first|exact Drawn0.refl _|apply Drawn0.step)⟩

/-! ### rat_Check: function 29 -/
def rat_Check.j0 : Nat → Bool → Int → Int → Option (Bool)
 | 0, _, _, _ => none
 | k + 1, x20, x103000, x103001 => if x20 = true then (some false) else ((rat_abs.f x103000).bind fun t103 => ((rat_common.f k t103 x103001).bind fun t104 => (some (t104 == 1))))
def rat_Check.f (k : Nat) (a0_0 : Int) (a0_1 : Int) : Option (Bool) := if a0_1 < 1 then (rat_Check.j0 k true a0_0 a0_1) else (if a0_1 > 1048576 then (rat_Check.j0 k true a0_0 a0_1) else (if a0_0 < (-1099511627776) then (rat_Check.j0 k true a0_0 a0_1) else (rat_Check.j0 k (decide (a0_0 > 1099511627776)) a0_0 a0_1)))
theorem rat_Check.mono_l : ∀ k, (∀ y0 y1 y2, LeO (rat_Check.j0 k y0 y1 y2) (rat_Check.j0 (k + 1) y0 y1 y2))
 | 0 => fun _ _ _ r h => by simp [rat_Check.j0] at h
 | k + 1 => by
  have ih0 := rat_Check.mono_l k
  ·intro y0 y1 y2
   unfold rat_Check.j0
   repeat' first
   | (with_reducible exact ih0 _ _ _)
   | (with_reducible exact rat_common.mono _ _ _)
   | (with_reducible exact LeO.refl _)
   | (with_reducible exact LeO.none _)
   | (with_reducible refine LeO.ite ?_ ?_)
   | (with_reducible refine LeO.bind ?_ (fun _ => ?_))
   | exact ih0 _ _ _
   | exact rat_common.mono _ _ _
   | exact LeO.none _
   | refine LeO.ite ?_ ?_
   | refine LeO.bind ?_ (fun _ => ?_)
theorem rat_Check.mono : ∀ a0 a1 k, LeO (rat_Check.f k a0 a1) (rat_Check.f (k + 1) a0 a1) := by
 intro a0 a1 k
 have ih0 := rat_Check.mono_l k
 unfold rat_Check.f
 repeat' first
   | (with_reducible exact ih0 _ _ _)
   | (with_reducible exact rat_common.mono _ _ _)
   | (with_reducible exact LeO.refl _)
   | (with_reducible exact LeO.none _)
   | (with_reducible refine LeO.ite ?_ ?_)
   | (with_reducible refine LeO.bind ?_ (fun _ => ?_))
   | exact ih0 _ _ _
   | exact rat_common.mono _ _ _
   | exact LeO.none _
   | refine LeO.ite ?_ ?_
   | refine LeO.bind ?_ (fun _ => ?_)
set_option maxHeartbeats 8000000 in
set_option maxRecDepth 100000 in
theorem rat_Check.calls (k : Nat) (a0_0 : Int) (a0_1 : Int) (r : Bool) (w : World) (h : rat_Check.f k a0_0 a0_1 = some r) :
  Calls Tryd.prog 29 #[.agg #[.int .i64 a0_0,.int .i64 a0_1]] w fun e w' => e = .returned (.bool r) ∧ Below w.heap.size w w' := by
 have hu23 := Tryd.underlying23
 have HB := sd_ (Below.refl w.heap.size w)
 have H : (if a0_1 < 1 then (rat_Check.j0 k true a0_0 a0_1) else (if a0_1 > 1048576 then (rat_Check.j0 k true a0_0 a0_1) else (if a0_0 < (-1099511627776) then (rat_Check.j0 k true a0_0 a0_1) else (rat_Check.j0 k (decide (a0_0 > 1099511627776)) a0_0 a0_1)))) = some r := h
 clear h
 have HC2 := sd_ H
 clear H
 go_enter Tryd.func29,Tryd.ntmps29
 go_upto_region 1 with (first|((with_reducible refine gate_dst (N := 1) rfl ?_);refine box_event ?hg (N := 1) ?hd (cs := #[.int .i64 a0_0,.int .i64 a0_1]) (t := 23) ?hr ?_;(case hd => rfl);(case hg => rfl);(case hr => first|(go_simp;done)|(go_simp;rfl));intro gb102 hg w3 hbox hb;have BK102 := sd_ hbox;have GW102 := gw_ HB e0_ hg;have GE102 := GW102;replace HB := hb_ HB e0_ hb;clear hb hbox hg))
 repeat (go_quiet (first|((with_reducible refine gate_dst (N := 1) rfl ?_);refine box_event ?hg (N := 1) ?hd (cs := #[.int .i64 a0_0,.int .i64 a0_1]) (t := 23) ?hr ?_;(case hd => rfl);(case hg => rfl);(case hr => first|(go_simp;done)|(go_simp;rfl));intro gb102 hg w3 hbox hb;have BK102 := sd_ hbox;have GW102 := gw_ HB e0_ hg;have GE102 := GW102;replace HB := hb_ HB e0_ hb;clear hb hbox hg));go_upto_region 1 with (first|((with_reducible refine gate_dst (N := 1) rfl ?_);refine box_event ?hg (N := 1) ?hd (cs := #[.int .i64 a0_0,.int .i64 a0_1]) (t := 23) ?hr ?_;(case hd => rfl);(case hg => rfl);(case hr => first|(go_simp;done)|(go_simp;rfl));intro gb102 hg w3 hbox hb;have BK102 := sd_ hbox;have GW102 := gw_ HB e0_ hg;have GE102 := GW102;replace HB := hb_ HB e0_ hb;clear hb hbox hg)))
 (try simp only [Act.put,ls_,lz_,lc_])
 go_cut [20] (fun v20 wc => ∃ (kq : Nat) (x20_1 : Bool),v20 = .bool x20_1 ∧ Aside0 (rat_Check.j0 kq x20_1 a0_0 a0_1 = some r) ∧ Aside0 (kq ≤ k) ∧ Aside0 (wc.heap[gb102]? = some (.cells #[.int .i64 a0_0,.int .i64 a0_1] 23 (0,0))) ∧ Aside0 (Below w.heap.size w wc))
 case first =>
  have H := HC2.out
  clear HC2
  by_cases c4 : a0_1 < 1
  ·rw [if_pos c4] at H
   have c4b0 : decide (a0_1 < 1) = true := dt_ c4
   clear c4
   (first|rw [c4b0]|(simp only [i64_w,i32_w];rw [c4b0])|skip)
   have H' := sd_ H
   clear H
   have hcz5_0 : w3.cell? ⟨gb102,0,none⟩ = some (.int .i64 a0_0) := (kc_ BK102.out 0).trans rfl
   have hcz5_1 : w3.cell? ⟨gb102,1,none⟩ = some (.int .i64 a0_1) := (kc_ BK102.out 1).trans rfl
   have hfz5_0 := kf_ BK102.out 0
   have hfz5_1 := kf_ BK102.out 1
   go_wp2
   repeat (go_quiet (fail);try go_wp2)
   go_meet
   case rel => exact ⟨_,(true),(by first|rfl|(simp;done)|(simp [*];done)|(simp [bne];done)),H',⟨by first|omega|exact Nat.le_refl _⟩,⟨by (with_reducible repeat first|apply kn_|apply kd_|apply ka_);exact BK102.out⟩,⟨by repeat (first|(with_reducible first|exact HB.out|apply ba_|apply pd_|apply d1_|refine bs_ ?_ GE102.out)|exact HB.out)⟩⟩
  ·rw [if_neg c4] at H
   have c4b0 : decide (a0_1 < 1) = false := df_ c4
   clear c4
   (first|rw [c4b0]|(simp only [i64_w,i32_w];rw [c4b0])|skip)
   by_cases c6 : a0_1 > 1048576
   ·rw [if_pos c6] at H
    have c6b0 : decide (1048576 < a0_1) = true := dt_ c6
    clear c6
    have H' := sd_ H
    clear H
    have hcz7_0 : w3.cell? ⟨gb102,0,none⟩ = some (.int .i64 a0_0) := (kc_ BK102.out 0).trans rfl
    have hcz7_1 : w3.cell? ⟨gb102,1,none⟩ = some (.int .i64 a0_1) := (kc_ BK102.out 1).trans rfl
    have hfz7_0 := kf_ BK102.out 0
    have hfz7_1 := kf_ BK102.out 1
    go_wp2
    repeat (go_quiet (fail);try go_wp2)
    go_meet
    case rel => exact ⟨_,(true),(by first|rfl|(simp;done)|(simp [*];done)|(simp [bne];done)),H',⟨by first|omega|exact Nat.le_refl _⟩,⟨by (with_reducible repeat first|apply kn_|apply kd_|apply ka_);exact BK102.out⟩,⟨by repeat (first|(with_reducible first|exact HB.out|apply ba_|apply pd_|apply d1_|refine bs_ ?_ GE102.out)|exact HB.out)⟩⟩
   ·rw [if_neg c6] at H
    have c6b0 : decide (1048576 < a0_1) = false := df_ c6
    clear c6
    by_cases c8 : a0_0 < (-1099511627776)
    ·rw [if_pos c8] at H
     have c8b0 : decide (a0_0 < (-1099511627776)) = true := dt_ c8
     clear c8
     have H' := sd_ H
     clear H
     have hcz9_0 : w3.cell? ⟨gb102,0,none⟩ = some (.int .i64 a0_0) := (kc_ BK102.out 0).trans rfl
     have hcz9_1 : w3.cell? ⟨gb102,1,none⟩ = some (.int .i64 a0_1) := (kc_ BK102.out 1).trans rfl
     have hfz9_0 := kf_ BK102.out 0
     have hfz9_1 := kf_ BK102.out 1
     go_wp2
     repeat (go_quiet (fail);try go_wp2)
     go_meet
     case rel => exact ⟨_,(true),(by first|rfl|(simp;done)|(simp [*];done)|(simp [bne];done)),H',⟨by first|omega|exact Nat.le_refl _⟩,⟨by (with_reducible repeat first|apply kn_|apply kd_|apply ka_);exact BK102.out⟩,⟨by repeat (first|(with_reducible first|exact HB.out|apply ba_|apply pd_|apply d1_|refine bs_ ?_ GE102.out)|exact HB.out)⟩⟩
    ·rw [if_neg c8] at H
     have c8b0 : decide (a0_0 < (-1099511627776)) = false := df_ c8
     clear c8
     have H' := sd_ H
     clear H
     have hcz10_0 : w3.cell? ⟨gb102,0,none⟩ = some (.int .i64 a0_0) := (kc_ BK102.out 0).trans rfl
     have hcz10_1 : w3.cell? ⟨gb102,1,none⟩ = some (.int .i64 a0_1) := (kc_ BK102.out 1).trans rfl
     have hfz10_0 := kf_ BK102.out 0
     have hfz10_1 := kf_ BK102.out 1
     go_wp2
     repeat (go_quiet (fail);try go_wp2)
     go_meet
     case rel => exact ⟨_,(decide (a0_0 > 1099511627776)),(by first|rfl|(simp;done)|(simp [*];done)|(simp [bne];done)),H',⟨by first|omega|exact Nat.le_refl _⟩,⟨by (with_reducible repeat first|apply kn_|apply kd_|apply ka_);exact BK102.out⟩,⟨by repeat (first|(with_reducible first|exact HB.out|apply ba_|apply pd_|apply d1_|refine bs_ ?_ GE102.out)|exact HB.out)⟩⟩
 case rest =>
  clear HC2
  try clear c2;try clear p2;try clear c4;try clear c4b0;try clear c6;try clear c6b0;try clear c8;try clear c8b0;try clear hcz10_0;try clear hcz10_1;try clear hcz5_0;try clear hcz5_1;try clear hcz7_0;try clear hcz7_1;try clear hcz9_0;try clear hcz9_1;try clear hfz10_0;try clear hfz10_1;try clear hfz5_0;try clear hfz5_1;try clear hfz7_0;try clear hfz7_1;try clear hfz9_0;try clear hfz9_1
  obtain ⟨kq,x20_1,rfl,HA,HJ1,BK102,HB⟩ := hcut
  cases kq with
  | zero => exact absurd HA.out (by simp [rat_Check.j0])
  | succ kj1 =>
   have H := HA.out
   clear HA
   simp only [rat_Check.j0] at H
   by_cases c11 : x20_1 = true
   ·subst c11
    have H1 : (some false) = some r := by rw [if_pos rfl] at H;exact H
    clear H;have H := H1;clear H1
    obtain rfl := Option.some.inj H
    go_wp2
    repeat (go_quiet (fail);try go_wp2)
    go_ret
    exact ⟨by first|rfl|(simp [errW_none,errW_some] <;> rfl)|(simp [*,errW_none,errW_some] <;> rfl),by repeat (first|(with_reducible first|exact HB.out|apply ba_|apply pd_|apply d1_|refine bs_ ?_ GE102.out)|exact HB.out)⟩
   ·replace c11 := bf_ c11
    subst c11
    have H1 : ((rat_abs.f a0_0).bind fun t103 => ((rat_common.f kj1 t103 a0_1).bind fun t104 => (some (t104 == 1)))) = some r := by rw [if_neg (show ¬ (false = true) by decide)] at H;exact H
    clear H;have H := H1;clear H1
    replace H := ob_ H
    obtain ⟨t103,A120,H⟩ := H
    replace H : ((rat_common.f kj1 t103 a0_1).bind fun t104 => (some (t104 == 1))) = some r := H
    have A12 := sd_ A120
    clear A120
    replace H := ob_ H
    obtain ⟨t104,A130,H⟩ := H
    replace H : (some (t104 == 1)) = some r := H
    have A13 := sd_ A130
    clear A130
    obtain rfl := Option.some.inj H
    have hcz14_0 : wc.cell? ⟨gb102,0,none⟩ = some (.int .i64 a0_0) := (kc_ BK102.out 0).trans rfl
    have hcz14_1 : wc.cell? ⟨gb102,1,none⟩ = some (.int .i64 a0_1) := (kc_ BK102.out 1).trans rfl
    have hfz14_0 := kf_ BK102.out 0
    have hfz14_1 := kf_ BK102.out 1
    go_wp2_with (first|(go_at_call 48;(with_reducible refine (rat_abs.calls a0_0 t103 _ A12.out).mono ?_);rintro e w' ⟨rfl,⟨nd,rfl⟩⟩;(try first|exact ⟨rfl,_,World.drewN_drewN _ _ _⟩|exact ⟨rfl,_,Eq.trans (World.drewN_drewN _ _ _) (congrArg (World.drewN _) (Nat.add_assoc _ _ _))⟩))|(go_at_call 33;(with_reducible refine (rat_common.calls kj1 t103 a0_1 t104 _ A13.out).mono ?_);rintro e w' ⟨rfl,⟨nd,rfl⟩⟩;(try first|exact ⟨rfl,_,World.drewN_drewN _ _ _⟩|exact ⟨rfl,_,Eq.trans (World.drewN_drewN _ _ _) (congrArg (World.drewN _) (Nat.add_assoc _ _ _))⟩)))
    repeat (go_quiet (first|(go_at_call 48;(with_reducible refine (rat_abs.calls a0_0 t103 _ A12.out).mono ?_);rintro e w' ⟨rfl,⟨nd,rfl⟩⟩;(try first|exact ⟨rfl,_,World.drewN_drewN _ _ _⟩|exact ⟨rfl,_,Eq.trans (World.drewN_drewN _ _ _) (congrArg (World.drewN _) (Nat.add_assoc _ _ _))⟩))|(go_at_call 33;(with_reducible refine (rat_common.calls kj1 t103 a0_1 t104 _ A13.out).mono ?_);rintro e w' ⟨rfl,⟨nd,rfl⟩⟩;(try first|exact ⟨rfl,_,World.drewN_drewN _ _ _⟩|exact ⟨rfl,_,Eq.trans (World.drewN_drewN _ _ _) (congrArg (World.drewN _) (Nat.add_assoc _ _ _))⟩)));try go_wp2_with (first|(go_at_call 48;(with_reducible refine (rat_abs.calls a0_0 t103 _ A12.out).mono ?_);rintro e w' ⟨rfl,⟨nd,rfl⟩⟩;(try first|exact ⟨rfl,_,World.drewN_drewN _ _ _⟩|exact ⟨rfl,_,Eq.trans (World.drewN_drewN _ _ _) (congrArg (World.drewN _) (Nat.add_assoc _ _ _))⟩))|(go_at_call 33;(with_reducible refine (rat_common.calls kj1 t103 a0_1 t104 _ A13.out).mono ?_);rintro e w' ⟨rfl,⟨nd,rfl⟩⟩;(try first|exact ⟨rfl,_,World.drewN_drewN _ _ _⟩|exact ⟨rfl,_,Eq.trans (World.drewN_drewN _ _ _) (congrArg (World.drewN _) (Nat.add_assoc _ _ _))⟩))))
    go_ret
    exact ⟨by first|rfl|(simp [errW_none,errW_some] <;> rfl)|(simp [*,errW_none,errW_some] <;> rfl),by repeat (first|(with_reducible first|exact HB.out|apply ba_|apply pd_|apply d1_|refine bs_ ?_ GE102.out)|exact HB.out)⟩

/-! ### rat_both: function 31 -/
def rat_both.f (k : Nat) (a0_0 : Int) (a0_1 : Int) (a1_0 : Int) (a1_1 : Int) : Option (Bool) := (rat_Check.f k a0_0 a0_1).bind fun t107 => (if t107 = true then ((rat_Check.f k a1_0 a1_1).bind fun t108 => (some t108)) else (some false))
theorem rat_both.mono : ∀ a0 a1 a2 a3 k, LeO (rat_both.f k a0 a1 a2 a3) (rat_both.f (k + 1) a0 a1 a2 a3) := by
 intro a0 a1 a2 a3 k
 unfold rat_both.f
 repeat' first
   | (with_reducible exact rat_Check.mono _ _ _)
   | (with_reducible exact LeO.refl _)
   | (with_reducible exact LeO.none _)
   | (with_reducible refine LeO.ite ?_ ?_)
   | (with_reducible refine LeO.bind ?_ (fun _ => ?_))
   | exact rat_Check.mono _ _ _
   | exact LeO.none _
   | refine LeO.ite ?_ ?_
   | refine LeO.bind ?_ (fun _ => ?_)
set_option maxHeartbeats 8000000 in
set_option maxRecDepth 100000 in
theorem rat_both.calls (k : Nat) (a0_0 : Int) (a0_1 : Int) (a1_0 : Int) (a1_1 : Int) (r : Bool) (w : World) (h : rat_both.f k a0_0 a0_1 a1_0 a1_1 = some r) :
  Calls Tryd.prog 31 #[.agg #[.int .i64 a0_0,.int .i64 a0_1],.agg #[.int .i64 a1_0,.int .i64 a1_1]] w fun e w' => e = .returned (.bool r) ∧ Below w.heap.size w w' := by
 have hu23 := Tryd.underlying23
 have HB := sd_ (Below.refl w.heap.size w)
 have H : ((rat_Check.f k a0_0 a0_1).bind fun t107 => (if t107 = true then ((rat_Check.f k a1_0 a1_1).bind fun t108 => (some t108)) else (some false))) = some r := h
 clear h
 replace H := ob_ H
 obtain ⟨t107,A30,H⟩ := H
 replace H : (if t107 = true then ((rat_Check.f k a1_0 a1_1).bind fun t108 => (some t108)) else (some false)) = some r := H
 have A3 := sd_ A30
 clear A30
 by_cases c4 : t107 = true
 ·subst c4
  have H1 : ((rat_Check.f k a1_0 a1_1).bind fun t108 => (some t108)) = some r := by rw [if_pos rfl] at H;exact H
  clear H;have H := H1;clear H1
  replace H := ob_ H
  obtain ⟨t108,A50,H⟩ := H
  replace H : (some t108) = some r := H
  have A5 := sd_ A50
  clear A50
  obtain rfl := Option.some.inj H
  go_enter Tryd.func31,Tryd.ntmps31
  go_wp2_with (first|((with_reducible refine gate_dst (N := 2) rfl ?_);refine box_event ?hg (N := 2) ?hd (cs := #[.int .i64 a0_0,.int .i64 a0_1]) (t := 23) ?hr ?_;(case hd => rfl);(case hg => rfl);(case hr => first|(go_simp;done)|(go_simp;rfl));intro gb105 hg w6 hbox hb;have BK105 := sd_ hbox;have GW105 := gw_ HB e0_ hg;have GE105 := GW105;replace HB := hb_ HB e0_ hb;clear hb hbox hg)|((with_reducible refine gate_dst (N := 3) rfl ?_);refine box_event ?hg (N := 3) ?hd (cs := #[.int .i64 a1_0,.int .i64 a1_1]) (t := 23) ?hr ?_;(case hd => rfl);(case hg => rfl);(case hr => first|(go_simp;done)|(go_simp;rfl));intro gb106 hg w7 hbox hb;have BK106 := sd_ hbox;have GW106 := gw_ HB (e_ GE105 e0_) hg;have GE106 := GW106;have NB105_106 := nb_ BK105 hg;have NB106_105 := sy_ NB105_106;replace BK105 := kb_ BK105 hb;replace HB := hb_ HB (e_ GE105 e0_) hb;clear hb hbox hg;have hnb8 := NB105_106.out;have hnc8 := NB106_105.out;have hcz9_0 : w7.cell? ⟨gb105,0,none⟩ = some (.int .i64 a0_0) := (kc_ BK105.out 0).trans rfl;have hcz9_1 : w7.cell? ⟨gb105,1,none⟩ = some (.int .i64 a0_1) := (kc_ BK105.out 1).trans rfl;have hfz9_0 := kf_ BK105.out 0;have hfz9_1 := kf_ BK105.out 1)|((with_reducible refine gate_callee (f := 29) rfl ?_);refine goesL_ (some 6) rfl rfl Tryd.func29 (by kernel_rfl) rfl #[.agg #[.int .i64 a0_0,.int .i64 a0_1]] rfl (by (try simp only [lm_,lq_,lx_]);first|done|rfl|(simp only [ld_,lt_];rfl)) ?_;(with_reducible refine (rat_Check.calls k a0_0 a0_1 true _ A3.out).mono ?_);rintro e w10 ⟨rfl,hb⟩;refine ⟨_,rfl,?_⟩;replace BK105 := kb_ BK105 hb;replace BK106 := kb_ BK106 hb;replace HB := hb_ HB (e_ GE105 (e_ GE106 e0_)) hb;(try clear hb);(try clear hb2);(try clear hk);(try clear hi);have hcz11_0 : w10.cell? ⟨gb106,0,none⟩ = some (.int .i64 a1_0) := (kc_ BK106.out 0).trans rfl;have hcz11_1 : w10.cell? ⟨gb106,1,none⟩ = some (.int .i64 a1_1) := (kc_ BK106.out 1).trans rfl;have hfz11_0 := kf_ BK106.out 0;have hfz11_1 := kf_ BK106.out 1)|(go_at_call 29;(with_reducible refine (rat_Check.calls k a1_0 a1_1 t108 _ A5.out).mono ?_);rintro e w12 ⟨rfl,hb⟩;replace BK105 := kb_ BK105 hb;replace BK106 := kb_ BK106 hb;replace HB := hb_ HB (e_ GE105 (e_ GE106 e0_)) hb;(try clear hb);(try clear hb2);(try clear hk);(try clear hi)))
  go_ret
  exact ⟨by first|rfl|(simp [errW_none,errW_some] <;> rfl)|(simp [*,errW_none,errW_some] <;> rfl),by repeat (first|(with_reducible first|exact HB.out|apply ba_|apply pd_|apply d1_|refine bs_ ?_ GE105.out|refine bs_ ?_ GE106.out)|exact HB.out)⟩
 ·replace c4 := bf_ c4
  subst c4
  have H1 : (some false) = some r := by rw [if_neg (show ¬ (false = true) by decide)] at H;exact H
  clear H;have H := H1;clear H1
  obtain rfl := Option.some.inj H
  go_enter Tryd.func31,Tryd.ntmps31
  go_wp2_with (first|((with_reducible refine gate_dst (N := 2) rfl ?_);refine box_event ?hg (N := 2) ?hd (cs := #[.int .i64 a0_0,.int .i64 a0_1]) (t := 23) ?hr ?_;(case hd => rfl);(case hg => rfl);(case hr => first|(go_simp;done)|(go_simp;rfl));intro gb105 hg w13 hbox hb;have BK105 := sd_ hbox;have GW105 := gw_ HB e0_ hg;have GE105 := GW105;replace HB := hb_ HB e0_ hb;clear hb hbox hg)|((with_reducible refine gate_dst (N := 3) rfl ?_);refine box_event ?hg (N := 3) ?hd (cs := #[.int .i64 a1_0,.int .i64 a1_1]) (t := 23) ?hr ?_;(case hd => rfl);(case hg => rfl);(case hr => first|(go_simp;done)|(go_simp;rfl));intro gb106 hg w14 hbox hb;have BK106 := sd_ hbox;have GW106 := gw_ HB (e_ GE105 e0_) hg;have GE106 := GW106;have NB105_106 := nb_ BK105 hg;have NB106_105 := sy_ NB105_106;replace BK105 := kb_ BK105 hb;replace HB := hb_ HB (e_ GE105 e0_) hb;clear hb hbox hg;have hnb15 := NB105_106.out;have hnc15 := NB106_105.out;have hcz16_0 : w14.cell? ⟨gb105,0,none⟩ = some (.int .i64 a0_0) := (kc_ BK105.out 0).trans rfl;have hcz16_1 : w14.cell? ⟨gb105,1,none⟩ = some (.int .i64 a0_1) := (kc_ BK105.out 1).trans rfl;have hfz16_0 := kf_ BK105.out 0;have hfz16_1 := kf_ BK105.out 1)|((with_reducible refine gate_callee (f := 29) rfl ?_);refine goesL_ (some 6) rfl rfl Tryd.func29 (by kernel_rfl) rfl #[.agg #[.int .i64 a0_0,.int .i64 a0_1]] rfl (by (try simp only [lm_,lq_,lx_]);first|done|rfl|(simp only [ld_,lt_];rfl)) ?_;(with_reducible refine (rat_Check.calls k a0_0 a0_1 false _ A3.out).mono ?_);rintro e w17 ⟨rfl,hb⟩;refine ⟨_,rfl,?_⟩;replace BK105 := kb_ BK105 hb;replace BK106 := kb_ BK106 hb;replace HB := hb_ HB (e_ GE105 (e_ GE106 e0_)) hb;(try clear hb);(try clear hb2);(try clear hk);(try clear hi)))
  go_ret
  exact ⟨by first|rfl|(simp [errW_none,errW_some] <;> rfl)|(simp [*,errW_none,errW_some] <;> rfl),by repeat (first|(with_reducible first|exact HB.out|apply ba_|apply pd_|apply d1_|refine bs_ ?_ GE105.out|refine bs_ ?_ GE106.out)|exact HB.out)⟩

/-! ### rat_zero: function 32 -/
def rat_zero.f  : Option (Int × Int) := some (0, 0)
set_option maxHeartbeats 8000000 in
set_option maxRecDepth 100000 in
theorem rat_zero.calls  (r1 : Int) (r2 : Int) (w : World) (h : rat_zero.f  = some (r1, r2)) :
  Calls Tryd.prog 32 #[] w fun e w' => e = .returned (.agg #[.int .i64 r1,.int .i64 r2]) ∧ Below w.heap.size w w' := by
 have hu23 := Tryd.underlying23
 have HB := sd_ (Below.refl w.heap.size w)
 have H : (some (0,0)) = some (r1,r2) := h
 clear h
 simp only [Option.some.injEq,Prod.mk.injEq] at H
 obtain ⟨rfl,rfl⟩ := H
 go_enter Tryd.func32,Tryd.ntmps32
 go_wp2_with (first|((with_reducible refine gate_dst (N := 0) rfl ?_);refine box_event ?hg (N := 0) ?hd (cs := #[.int .i64 0,.int .i64 0]) (t := 23) ?hr ?_;(case hd => rfl);(case hg => rfl);(case hr => first|(go_simp;done)|(go_simp;rfl));intro gb109 hg w1 hbox hb;have BK109 := sd_ hbox;have GW109 := gw_ HB e0_ hg;have GE109 := GW109;replace HB := hb_ HB e0_ hb;clear hb hbox hg;have hcz2_0 : w1.cell? ⟨gb109,0,none⟩ = some (.int .i64 0) := (kc_ BK109.out 0).trans rfl;have hcz2_1 : w1.cell? ⟨gb109,1,none⟩ = some (.int .i64 0) := (kc_ BK109.out 1).trans rfl;have hfz2_0 := kf_ BK109.out 0;have hfz2_1 := kf_ BK109.out 1))
 refine bodyPost_ret (results_cell_row rfl _ _ gb109 23 #[.int .i64 0,.int .i64 0] (0,0) _ rfl (by (with_reducible repeat first|apply kn_|apply kd_|apply ka_);refine blk_put (cs := #[.int .i64 0,.int .i64 0]) ?_ 1 _ rfl;(with_reducible repeat first|apply kn_|apply kd_|apply ka_);refine blk_put (cs := #[.int .i64 0,.int .i64 0]) ?_ 0 _ rfl;(with_reducible repeat first|apply kn_|apply kd_|apply ka_);exact BK109.out) Tryd.underlying23 rfl (by kernel_rfl)) rfl ?_
 exact ⟨by first|rfl|(simp [errW_none,errW_some] <;> rfl)|(simp [*,errW_none,errW_some] <;> rfl),by repeat (first|(with_reducible first|exact HB.out|apply ba_|apply pd_|apply d1_|refine bs_ ?_ GE109.out)|exact HB.out)⟩

/-! ### rat_sized: function 49 -/
def rat_sized.f (a0 : Int) (a1 : Int) : Option (Int × Int × Int) := (rat_abs.f a0).bind fun t112 => (if t112 > 1099511627776 then ((rat_zero.f).bind fun bt113 => (some (bt113.1, bt113.2, 3))) else (if a1 > 1048576 then ((rat_zero.f).bind fun bt115 => (some (bt115.1, bt115.2, 3))) else (some (a0, a1, 0))))
set_option maxHeartbeats 8000000 in
set_option maxRecDepth 100000 in
theorem rat_sized.calls (a0 : Int) (a1 : Int) (r1 : Int) (r2 : Int) (r3 : Int) (w : World) (h : rat_sized.f a0 a1 = some (r1, r2, r3)) :
  Calls Tryd.prog 49 #[.int .i64 a0,.int .i64 a1] w fun e w' => e = .returned (.tuple #[.agg #[.int .i64 r1,.int .i64 r2],.int .i64 r3]) ∧ Below w.heap.size w w' := by
 have hu23 := Tryd.underlying23
 have HB := sd_ (Below.refl w.heap.size w)
 have H : ((rat_abs.f a0).bind fun t112 => (if t112 > 1099511627776 then ((rat_zero.f).bind fun bt113 => (some (bt113.1,bt113.2,3))) else (if a1 > 1048576 then ((rat_zero.f).bind fun bt115 => (some (bt115.1,bt115.2,3))) else (some (a0,a1,0))))) = some (r1,r2,r3) := h
 clear h
 replace H := ob_ H
 obtain ⟨t112,A30,H⟩ := H
 replace H : (if t112 > 1099511627776 then ((rat_zero.f).bind fun bt113 => (some (bt113.1,bt113.2,3))) else (if a1 > 1048576 then ((rat_zero.f).bind fun bt115 => (some (bt115.1,bt115.2,3))) else (some (a0,a1,0)))) = some (r1,r2,r3) := H
 have A3 := sd_ A30
 clear A30
 by_cases c4 : t112 > 1099511627776
 ·rw [if_pos c4] at H
  have c4b0 : decide (1099511627776 < t112) = true := dt_ c4
  clear c4
  replace H := ob_ H
  obtain ⟨⟨t113,t114⟩,A50,H⟩ := H
  replace H : (some (t113,t114,3)) = some (r1,r2,r3) := H
  have A5 := sd_ A50
  clear A50
  simp only [Option.some.injEq,Prod.mk.injEq] at H
  obtain ⟨rfl,rfl,rfl⟩ := H
  go_enter Tryd.func49,Tryd.ntmps49
  go_wp2_with (first|((with_reducible refine gate_dst (N := 4) rfl ?_);refine box_event ?hg (N := 4) ?hd (cs := #[.int .i64 0,.int .i64 0]) (t := 23) ?hr ?_;(case hd => rfl);(case hg => rfl);(case hr => first|(go_simp;done)|(go_simp;rfl));intro gb110 hg w6 hbox hb;have BK110 := sd_ hbox;have GW110 := gw_ HB e0_ hg;have GE110 := GW110;replace HB := hb_ HB e0_ hb;clear hb hbox hg)|((with_reducible refine gate_dst (N := 6) rfl ?_);refine box_event ?hg (N := 6) ?hd (cs := #[.int .i64 0,.int .i64 0]) (t := 23) ?hr ?_;(case hd => rfl);(case hg => rfl);(case hr => first|(go_simp;done)|(go_simp;rfl));intro gb111 hg w7 hbox hb;have BK111 := sd_ hbox;have GW111 := gw_ HB (e_ GE110 e0_) hg;have GE111 := GW111;have NB110_111 := nb_ BK110 hg;have NB111_110 := sy_ NB110_111;replace BK110 := kb_ BK110 hb;replace HB := hb_ HB (e_ GE110 e0_) hb;clear hb hbox hg;have hnb8 := NB111_110.out;have hnc8 := NB110_111.out;have hcz9_0 : w7.cell? ⟨gb111,0,none⟩ = some (.int .i64 0) := (kc_ BK111.out 0).trans rfl;have hcz9_1 : w7.cell? ⟨gb111,1,none⟩ = some (.int .i64 0) := (kc_ BK111.out 1).trans rfl;have hfz9_0 := kf_ BK111.out 0;have hfz9_1 := kf_ BK111.out 1)|((with_reducible refine gate_callee (f := 48) rfl ?_);refine goesL_ (some 11) rfl rfl Tryd.func48 (by kernel_rfl) rfl #[.int .i64 a0] rfl (by (try simp only [lm_,lq_,lx_]);first|done|rfl|(simp only [ld_,lt_];rfl)) ?_;(with_reducible refine (rat_abs.calls a0 t112 _ A3.out).mono ?_);rintro e w' ⟨rfl,⟨nd,rfl⟩⟩;refine ⟨_,rfl,?_⟩)|((with_reducible refine gate_callee (f := 32) rfl ?_);refine goesL_ (some 17) rfl rfl Tryd.func32 (by kernel_rfl) rfl #[] rfl (by (try simp only [lm_,lq_,lx_]);first|done|rfl|(simp only [ld_,lt_];rfl)) ?_;(with_reducible refine (rat_zero.calls  t113 t114 _ A5.out).mono ?_);rintro e w10 ⟨rfl,hb⟩;refine ⟨_,rfl,?_⟩;replace BK110 := sd_ (blk_below (g := gb110) (o := .cells #[.int .i64 0,.int .i64 0] 23 (0,0)) (by (with_reducible repeat first|apply kn_|apply kd_|apply ka_);refine blk_far ?_ NB110_111.out _;(with_reducible repeat first|apply kn_|apply kd_|apply ka_);refine blk_far ?_ NB110_111.out _;(with_reducible repeat first|apply kn_|apply kd_|apply ka_);exact BK110.out) hb);replace BK111 := sd_ (blk_below (g := gb111) (o := .cells #[.int .i64 a0,.int .i64 a1] 23 (0,0)) (by (with_reducible repeat first|apply kn_|apply kd_|apply ka_);refine blk_put (cs := #[.int .i64 a0,.int .i64 0]) ?_ 1 _ rfl;(with_reducible repeat first|apply kn_|apply kd_|apply ka_);refine blk_put (cs := #[.int .i64 0,.int .i64 0]) ?_ 0 _ rfl;(with_reducible repeat first|apply kn_|apply kd_|apply ka_);exact BK111.out) hb);replace HB := hb_ HB (e_ GE110 (e_ GE111 e0_)) hb;(try clear hb);(try clear hb2);(try clear hk);(try clear hi);have hcz11_0 : w10.cell? ⟨gb110,0,none⟩ = some (.int .i64 0) := (kc_ BK110.out 0).trans rfl;have hcz11_1 : w10.cell? ⟨gb110,1,none⟩ = some (.int .i64 0) := (kc_ BK110.out 1).trans rfl;have hfz11_0 := kf_ BK110.out 0;have hfz11_1 := kf_ BK110.out 1))
  refine bodyPost_ret (results_ct rfl _ _ gb110 23 #[.int .i64 t113,.int .i64 t114] (0,0) _ rfl (by (with_reducible repeat first|apply kn_|apply kd_|apply ka_);refine blk_put (cs := #[.int .i64 t113,.int .i64 0]) ?_ 1 _ rfl;(with_reducible repeat first|apply kn_|apply kd_|apply ka_);refine blk_put (cs := #[.int .i64 0,.int .i64 0]) ?_ 0 _ rfl;(with_reducible repeat first|apply kn_|apply kd_|apply ka_);exact BK110.out) Tryd.underlying23 rfl (by kernel_rfl)) rfl ?_
  exact ⟨by first|rfl|(simp [errW_none,errW_some] <;> rfl)|(simp [*,errW_none,errW_some] <;> rfl),by repeat (first|(with_reducible first|exact HB.out|apply ba_|apply pd_|apply d1_|refine bs_ ?_ GE110.out|refine bs_ ?_ GE111.out)|exact HB.out)⟩
 ·rw [if_neg c4] at H
  have c4b0 : decide (1099511627776 < t112) = false := df_ c4
  clear c4
  by_cases c12 : a1 > 1048576
  ·rw [if_pos c12] at H
   have c12b0 : decide (1048576 < a1) = true := dt_ c12
   clear c12
   replace H := ob_ H
   obtain ⟨⟨t115,t116⟩,A130,H⟩ := H
   replace H : (some (t115,t116,3)) = some (r1,r2,r3) := H
   have A13 := sd_ A130
   clear A130
   simp only [Option.some.injEq,Prod.mk.injEq] at H
   obtain ⟨rfl,rfl,rfl⟩ := H
   go_enter Tryd.func49,Tryd.ntmps49
   go_wp2_with (first|((with_reducible refine gate_dst (N := 4) rfl ?_);refine box_event ?hg (N := 4) ?hd (cs := #[.int .i64 0,.int .i64 0]) (t := 23) ?hr ?_;(case hd => rfl);(case hg => rfl);(case hr => first|(go_simp;done)|(go_simp;rfl));intro gb110 hg w14 hbox hb;have BK110 := sd_ hbox;have GW110 := gw_ HB e0_ hg;have GE110 := GW110;replace HB := hb_ HB e0_ hb;clear hb hbox hg)|((with_reducible refine gate_dst (N := 6) rfl ?_);refine box_event ?hg (N := 6) ?hd (cs := #[.int .i64 0,.int .i64 0]) (t := 23) ?hr ?_;(case hd => rfl);(case hg => rfl);(case hr => first|(go_simp;done)|(go_simp;rfl));intro gb111 hg w15 hbox hb;have BK111 := sd_ hbox;have GW111 := gw_ HB (e_ GE110 e0_) hg;have GE111 := GW111;have NB110_111 := nb_ BK110 hg;have NB111_110 := sy_ NB110_111;replace BK110 := kb_ BK110 hb;replace HB := hb_ HB (e_ GE110 e0_) hb;clear hb hbox hg;have hnb16 := NB111_110.out;have hnc16 := NB110_111.out;have hcz17_0 : w15.cell? ⟨gb111,0,none⟩ = some (.int .i64 0) := (kc_ BK111.out 0).trans rfl;have hcz17_1 : w15.cell? ⟨gb111,1,none⟩ = some (.int .i64 0) := (kc_ BK111.out 1).trans rfl;have hfz17_0 := kf_ BK111.out 0;have hfz17_1 := kf_ BK111.out 1)|((with_reducible refine gate_callee (f := 48) rfl ?_);refine goesL_ (some 11) rfl rfl Tryd.func48 (by kernel_rfl) rfl #[.int .i64 a0] rfl (by (try simp only [lm_,lq_,lx_]);first|done|rfl|(simp only [ld_,lt_];rfl)) ?_;(with_reducible refine (rat_abs.calls a0 t112 _ A3.out).mono ?_);rintro e w' ⟨rfl,⟨nd,rfl⟩⟩;refine ⟨_,rfl,?_⟩)|((with_reducible refine gate_callee (f := 32) rfl ?_);refine goesL_ (some 17) rfl rfl Tryd.func32 (by kernel_rfl) rfl #[] rfl (by (try simp only [lm_,lq_,lx_]);first|done|rfl|(simp only [ld_,lt_];rfl)) ?_;(with_reducible refine (rat_zero.calls  t115 t116 _ A13.out).mono ?_);rintro e w18 ⟨rfl,hb⟩;refine ⟨_,rfl,?_⟩;replace BK110 := sd_ (blk_below (g := gb110) (o := .cells #[.int .i64 0,.int .i64 0] 23 (0,0)) (by (with_reducible repeat first|apply kn_|apply kd_|apply ka_);refine blk_far ?_ NB110_111.out _;(with_reducible repeat first|apply kn_|apply kd_|apply ka_);refine blk_far ?_ NB110_111.out _;(with_reducible repeat first|apply kn_|apply kd_|apply ka_);exact BK110.out) hb);replace BK111 := sd_ (blk_below (g := gb111) (o := .cells #[.int .i64 a0,.int .i64 a1] 23 (0,0)) (by (with_reducible repeat first|apply kn_|apply kd_|apply ka_);refine blk_put (cs := #[.int .i64 a0,.int .i64 0]) ?_ 1 _ rfl;(with_reducible repeat first|apply kn_|apply kd_|apply ka_);refine blk_put (cs := #[.int .i64 0,.int .i64 0]) ?_ 0 _ rfl;(with_reducible repeat first|apply kn_|apply kd_|apply ka_);exact BK111.out) hb);replace HB := hb_ HB (e_ GE110 (e_ GE111 e0_)) hb;(try clear hb);(try clear hb2);(try clear hk);(try clear hi);have hcz19_0 : w18.cell? ⟨gb110,0,none⟩ = some (.int .i64 0) := (kc_ BK110.out 0).trans rfl;have hcz19_1 : w18.cell? ⟨gb110,1,none⟩ = some (.int .i64 0) := (kc_ BK110.out 1).trans rfl;have hfz19_0 := kf_ BK110.out 0;have hfz19_1 := kf_ BK110.out 1))
   refine bodyPost_ret (results_ct rfl _ _ gb110 23 #[.int .i64 t115,.int .i64 t116] (0,0) _ rfl (by (with_reducible repeat first|apply kn_|apply kd_|apply ka_);refine blk_put (cs := #[.int .i64 t115,.int .i64 0]) ?_ 1 _ rfl;(with_reducible repeat first|apply kn_|apply kd_|apply ka_);refine blk_put (cs := #[.int .i64 0,.int .i64 0]) ?_ 0 _ rfl;(with_reducible repeat first|apply kn_|apply kd_|apply ka_);exact BK110.out) Tryd.underlying23 rfl (by kernel_rfl)) rfl ?_
   exact ⟨by first|rfl|(simp [errW_none,errW_some] <;> rfl)|(simp [*,errW_none,errW_some] <;> rfl),by repeat (first|(with_reducible first|exact HB.out|apply ba_|apply pd_|apply d1_|refine bs_ ?_ GE110.out|refine bs_ ?_ GE111.out)|exact HB.out)⟩
  ·rw [if_neg c12] at H
   have c12b0 : decide (1048576 < a1) = false := df_ c12
   clear c12
   simp only [Option.some.injEq,Prod.mk.injEq] at H
   obtain ⟨rfl,rfl,rfl⟩ := H
   go_enter Tryd.func49,Tryd.ntmps49
   go_wp2_with (first|((with_reducible refine gate_dst (N := 4) rfl ?_);refine box_event ?hg (N := 4) ?hd (cs := #[.int .i64 0,.int .i64 0]) (t := 23) ?hr ?_;(case hd => rfl);(case hg => rfl);(case hr => first|(go_simp;done)|(go_simp;rfl));intro gb110 hg w20 hbox hb;have BK110 := sd_ hbox;have GW110 := gw_ HB e0_ hg;have GE110 := GW110;replace HB := hb_ HB e0_ hb;clear hb hbox hg)|((with_reducible refine gate_dst (N := 6) rfl ?_);refine box_event ?hg (N := 6) ?hd (cs := #[.int .i64 0,.int .i64 0]) (t := 23) ?hr ?_;(case hd => rfl);(case hg => rfl);(case hr => first|(go_simp;done)|(go_simp;rfl));intro gb111 hg w21 hbox hb;have BK111 := sd_ hbox;have GW111 := gw_ HB (e_ GE110 e0_) hg;have GE111 := GW111;have NB110_111 := nb_ BK110 hg;have NB111_110 := sy_ NB110_111;replace BK110 := kb_ BK110 hb;replace HB := hb_ HB (e_ GE110 e0_) hb;clear hb hbox hg;have hnb22 := NB111_110.out;have hnc22 := NB110_111.out;have hcz23_0 : w21.cell? ⟨gb111,0,none⟩ = some (.int .i64 0) := (kc_ BK111.out 0).trans rfl;have hcz23_1 : w21.cell? ⟨gb111,1,none⟩ = some (.int .i64 0) := (kc_ BK111.out 1).trans rfl;have hfz23_0 := kf_ BK111.out 0;have hfz23_1 := kf_ BK111.out 1)|((with_reducible refine gate_callee (f := 48) rfl ?_);refine goesL_ (some 11) rfl rfl Tryd.func48 (by kernel_rfl) rfl #[.int .i64 a0] rfl (by (try simp only [lm_,lq_,lx_]);first|done|rfl|(simp only [ld_,lt_];rfl)) ?_;(with_reducible refine (rat_abs.calls a0 t112 _ A3.out).mono ?_);rintro e w' ⟨rfl,⟨nd,rfl⟩⟩;refine ⟨_,rfl,?_⟩;have hcz24_0 : w21.cell? ⟨gb110,0,none⟩ = some (.int .i64 0) := (kc_ BK110.out 0).trans rfl;have hcz24_1 : w21.cell? ⟨gb110,1,none⟩ = some (.int .i64 0) := (kc_ BK110.out 1).trans rfl;have hfz24_0 := kf_ BK110.out 0;have hfz24_1 := kf_ BK110.out 1))
   refine bodyPost_ret (results_ct rfl _ _ gb110 23 #[.int .i64 a0,.int .i64 a1] (0,0) _ rfl (by (with_reducible repeat first|apply kn_|apply kd_|apply ka_);refine blk_put (cs := #[.int .i64 a0,.int .i64 0]) ?_ 1 _ rfl;(with_reducible repeat first|apply kn_|apply kd_|apply ka_);refine blk_put (cs := #[.int .i64 0,.int .i64 0]) ?_ 0 _ rfl;(with_reducible repeat first|apply kn_|apply kd_|apply ka_);refine blk_far ?_ NB110_111.out _;(with_reducible repeat first|apply kn_|apply kd_|apply ka_);refine blk_far ?_ NB110_111.out _;(with_reducible repeat first|apply kn_|apply kd_|apply ka_);exact BK110.out) Tryd.underlying23 rfl (by kernel_rfl)) rfl ?_
   exact ⟨by first|rfl|(simp [errW_none,errW_some] <;> rfl)|(simp [*,errW_none,errW_some] <;> rfl),by repeat (first|(with_reducible first|exact HB.out|apply ba_|apply pd_|apply d1_|refine bs_ ?_ GE110.out|refine bs_ ?_ GE111.out)|exact HB.out)⟩

/-! ### rat_lowest: function 34 -/
def rat_lowest.f (k : Nat) (a0 : Int) (a1 : Int) : Option (Int × Int × Int) := (rat_abs.f a0).bind fun t118 => ((rat_abs.f a1).bind fun t119 => ((rat_common.f k t118 t119).bind fun t120 => (if a1 < 0 then (if (wrap64 (-t120)) = 0 then (none) else ((rat_sized.f (wrap64 (Int.tdiv a0 (wrap64 (-t120)))) (wrap64 (Int.tdiv a1 (wrap64 (-t120))))).bind fun bt121 => (some (bt121.1, bt121.2.1, bt121.2.2)))) else (if t120 = 0 then (none) else ((rat_sized.f (wrap64 (Int.tdiv a0 t120)) (wrap64 (Int.tdiv a1 t120))).bind fun bt124 => (some (bt124.1, bt124.2.1, bt124.2.2)))))))
theorem rat_lowest.mono : ∀ a0 a1 k, LeO (rat_lowest.f k a0 a1) (rat_lowest.f (k + 1) a0 a1) := by
 intro a0 a1 k
 unfold rat_lowest.f
 repeat' first
   | (with_reducible exact rat_common.mono _ _ _)
   | (with_reducible exact LeO.refl _)
   | (with_reducible exact LeO.none _)
   | (with_reducible refine LeO.ite ?_ ?_)
   | (with_reducible refine LeO.bind ?_ (fun _ => ?_))
   | exact rat_common.mono _ _ _
   | exact LeO.none _
   | refine LeO.ite ?_ ?_
   | refine LeO.bind ?_ (fun _ => ?_)
def rat_lowest.T4 : Bool × List (List Nat × List Nat) := (true, [([], []), ([], []), ([0, 1], [0, 1]), ([], []), ([], []), ([3, 4], [3, 4]), ([2, 5], [2, 5]), ([6], [6]), ([6], [6]), ([7, 6, 0, 1, 2, 3, 4, 5, 6, 7, 8], [7]), ([8, 9, 0, 1, 2, 3, 4, 5, 6, 7, 8, 9], [8])])
def rat_lowest.B4 : List Nat := [0, 0, 3, 0, 0, 24, 63, 127, 127, 511, 1023]
theorem rat_lowest.tab4 : rtab .any (opsOf Tryd.f34 4) = rat_lowest.T4 := by kernel_rfl
theorem rat_lowest.bits4 : waitsOk rat_lowest.T4.2 rat_lowest.B4 = true := by kernel_rfl
set_option maxHeartbeats 8000000 in
set_option maxRecDepth 100000 in
theorem rat_lowest.calls (k : Nat) (a0 : Int) (a1 : Int) (r1 : Int) (r2 : Int) (r3 : Int) (w : World) (h : rat_lowest.f k a0 a1 = some (r1, r2, r3)) :
  Calls Tryd.prog 34 #[.int .i64 a0,.int .i64 a1] w fun e w' => e = .returned (.tuple #[.agg #[.int .i64 r1,.int .i64 r2],.int .i64 r3]) ∧ Below w.heap.size w w' := by
 have hu23 := Tryd.underlying23
 have HB := sd_ (Below.refl w.heap.size w)
 have H : ((rat_abs.f a0).bind fun t118 => ((rat_abs.f a1).bind fun t119 => ((rat_common.f k t118 t119).bind fun t120 => (if a1 < 0 then (if (wrap64 (-t120)) = 0 then (none) else ((rat_sized.f (wrap64 (Int.tdiv a0 (wrap64 (-t120)))) (wrap64 (Int.tdiv a1 (wrap64 (-t120))))).bind fun bt121 => (some (bt121.1,bt121.2.1,bt121.2.2)))) else (if t120 = 0 then (none) else ((rat_sized.f (wrap64 (Int.tdiv a0 t120)) (wrap64 (Int.tdiv a1 t120))).bind fun bt124 => (some (bt124.1,bt124.2.1,bt124.2.2)))))))) = some (r1,r2,r3) := h
 clear h
 replace H := ob_ H
 obtain ⟨t118,A30,H⟩ := H
 replace H : ((rat_abs.f a1).bind fun t119 => ((rat_common.f k t118 t119).bind fun t120 => (if a1 < 0 then (if (wrap64 (-t120)) = 0 then (none) else ((rat_sized.f (wrap64 (Int.tdiv a0 (wrap64 (-t120)))) (wrap64 (Int.tdiv a1 (wrap64 (-t120))))).bind fun bt121 => (some (bt121.1,bt121.2.1,bt121.2.2)))) else (if t120 = 0 then (none) else ((rat_sized.f (wrap64 (Int.tdiv a0 t120)) (wrap64 (Int.tdiv a1 t120))).bind fun bt124 => (some (bt124.1,bt124.2.1,bt124.2.2))))))) = some (r1,r2,r3) := H
 have A3 := sd_ A30
 clear A30
 replace H := ob_ H
 obtain ⟨t119,A40,H⟩ := H
 replace H : ((rat_common.f k t118 t119).bind fun t120 => (if a1 < 0 then (if (wrap64 (-t120)) = 0 then (none) else ((rat_sized.f (wrap64 (Int.tdiv a0 (wrap64 (-t120)))) (wrap64 (Int.tdiv a1 (wrap64 (-t120))))).bind fun bt121 => (some (bt121.1,bt121.2.1,bt121.2.2)))) else (if t120 = 0 then (none) else ((rat_sized.f (wrap64 (Int.tdiv a0 t120)) (wrap64 (Int.tdiv a1 t120))).bind fun bt124 => (some (bt124.1,bt124.2.1,bt124.2.2)))))) = some (r1,r2,r3) := H
 have A4 := sd_ A40
 clear A40
 replace H := ob_ H
 obtain ⟨t120,A50,H⟩ := H
 replace H : (if a1 < 0 then (if (wrap64 (-t120)) = 0 then (none) else ((rat_sized.f (wrap64 (Int.tdiv a0 (wrap64 (-t120)))) (wrap64 (Int.tdiv a1 (wrap64 (-t120))))).bind fun bt121 => (some (bt121.1,bt121.2.1,bt121.2.2)))) else (if t120 = 0 then (none) else ((rat_sized.f (wrap64 (Int.tdiv a0 t120)) (wrap64 (Int.tdiv a1 t120))).bind fun bt124 => (some (bt124.1,bt124.2.1,bt124.2.2))))) = some (r1,r2,r3) := H
 have A5 := sd_ A50
 clear A50
 by_cases c6 : a1 < 0
 ·rw [if_pos c6] at H
  have c6b0 : decide (a1 < 0) = true := dt_ c6
  clear c6
  by_cases c7 : (wrap64 (-t120)) = 0
  ·rw [if_pos c7] at H
   exact absurd H (by simp)
  ·rw [if_neg c7] at H
   have c7b0 : ((wrap64 (-t120)) == 0) = false := beq_eq_false_iff_ne.mpr c7
   have c7b1 : ((wrap64 (-t120)) != 0) = true := bne_iff_ne.mpr c7
   replace H := ob_ H
   obtain ⟨⟨t121,t122,t123⟩,A80,H⟩ := H
   replace H : (some (t121,t122,t123)) = some (r1,r2,r3) := H
   have A8 := sd_ A80
   clear A80
   simp only [Option.some.injEq,Prod.mk.injEq] at H
   obtain ⟨rfl,rfl,rfl⟩ := H
   go_enter Tryd.func34,Tryd.ntmps34
   try go_wp2_with (first|((with_reducible refine gate_dst (N := 4) rfl ?_);refine box_event ?hg (N := 4) ?hd (cs := #[.int .i64 0,.int .i64 0]) (t := 23) ?hr ?_;(case hd => rfl);(case hg => rfl);(case hr => first|(go_simp;done)|(go_simp;rfl));intro gb117 hg w9 hbox hb;have BK117 := sd_ hbox;have GW117 := gw_ HB e0_ hg;have GE117 := GW117;replace HB := hb_ HB e0_ hb;clear hb hbox hg)|((with_reducible refine gate_callee (f := 48) rfl ?_);refine goesL_ (some 8) rfl rfl Tryd.func48 (by kernel_rfl) rfl #[.int .i64 a0] rfl (by (try simp only [lm_,lq_,lx_]);first|done|rfl|(simp only [ld_,lt_];rfl)) ?_;(with_reducible refine (rat_abs.calls a0 t118 _ A3.out).mono ?_);rintro e w' ⟨rfl,⟨nd,rfl⟩⟩;refine ⟨_,rfl,?_⟩;(repeat (rw [drewN_self w9];generalize hq_ : World.drewN w9 _ = w9;have n0_ : Aside0 (w9.heap[gb117]? = some (.cells #[.int .i64 0,.int .i64 0] 23 (0,0))) := ⟨by rw [← hq_];exact (kk_ BK117.out)⟩;have n1_ : Aside0 (Below w.heap.size w w9) := ⟨by rw [← hq_];exact (bb_ HB.out (e_ GE117 e0_))⟩;clear BK117 HB hq_;have BK117 := n0_;have HB := n1_;clear n0_ n1_)))|((with_reducible refine gate_callee (f := 48) rfl ?_);refine goesL_ (some 10) rfl rfl Tryd.func48 (by kernel_rfl) rfl #[.int .i64 a1] rfl (by (try simp only [lm_,lq_,lx_]);first|done|rfl|(simp only [ld_,lt_];rfl)) ?_;(with_reducible refine (rat_abs.calls a1 t119 _ A4.out).mono ?_);rintro e w' ⟨rfl,⟨nd,rfl⟩⟩;refine ⟨_,rfl,?_⟩;(repeat (rw [drewN_self w9];generalize hq_ : World.drewN w9 _ = w9;have n0_ : Aside0 (w9.heap[gb117]? = some (.cells #[.int .i64 0,.int .i64 0] 23 (0,0))) := ⟨by rw [← hq_];exact (kk_ BK117.out)⟩;have n1_ : Aside0 (Below w.heap.size w w9) := ⟨by rw [← hq_];exact (bb_ HB.out (e_ GE117 e0_))⟩;clear BK117 HB hq_;have BK117 := n0_;have HB := n1_;clear n0_ n1_)))|((with_reducible refine gate_callee (f := 33) rfl ?_);refine goesL_ (some 11) rfl rfl Tryd.func33 (by kernel_rfl) rfl #[.int .i64 t118,.int .i64 t119] rfl (by (try simp only [lm_,lq_,lx_]);first|done|rfl|(simp only [ld_,lt_];rfl)) ?_;(with_reducible refine (rat_common.calls k t118 t119 t120 _ A5.out).mono ?_);rintro e w' ⟨rfl,⟨nd,rfl⟩⟩;refine ⟨_,rfl,?_⟩;(repeat (rw [drewN_self w9];generalize hq_ : World.drewN w9 _ = w9;have n0_ : Aside0 (w9.heap[gb117]? = some (.cells #[.int .i64 0,.int .i64 0] 23 (0,0))) := ⟨by rw [← hq_];exact (kk_ BK117.out)⟩;have n1_ : Aside0 (Below w.heap.size w w9) := ⟨by rw [← hq_];exact (bb_ HB.out (e_ GE117 e0_))⟩;clear BK117 HB hq_;have BK117 := n0_;have HB := n1_;clear n0_ n1_))))
   replace BK117 := sd_ (kd_ BK117.out)
   replace HB := sd_ (d1_ HB.out)
   refine start_ (n := 11) (S := fun w' => True) (ds := []) (Array.replicate 11 false) (by kernel_rfl) rfl rfl trivial (fun hHeld => ?_);refine with_tabW rat_lowest.tab4 rat_lowest.bits4 (fun HT_ HW_ => ?_)
   generalize w9.drew = w10 at BK117 HB hHeld ⊢
   refine pu_ (v := ?_) (a' := ?_) 0 16 (bz 11 1) rfl rfl HT_ (by kernel_rfl) (fun _ _ _ h => h) (by rfl) ?_ ?_ ?_
   rotate_left;(intro w';go_simp;with_reducible rfl);rotate_left;(simp only [Act.put,ls_,lz_,lc_,i64_w,i32_w];rfl)
   refine pu_ (v := ?_) (a' := ?_) 1 17 (bz 11 3) rfl rfl HT_ (by kernel_rfl) (fun _ _ _ h => h) (by rfl) ?_ ?_ ?_
   rotate_left;(intro w';go_simp;with_reducible rfl);rotate_left;(simp only [Act.put,ls_,lz_,lc_,i64_w,i32_w];rfl)
   refine pu_ (v := ?_) (a' := ?_) 2 18 (bz 11 7) rfl rfl HT_ (by kernel_rfl) (fun _ _ _ h => h) (by rfl) ?_ ?_ ?_
   rotate_left;(intro w';go_simp;with_reducible rfl);rotate_left;(simp only [Act.put,ls_,lz_,lc_,i64_w,i32_w];rfl)
   refine pu_ (v := ?_) (a' := ?_) 3 19 (bz 11 15) rfl rfl HT_ (by kernel_rfl) (fun _ _ _ h => h) (by rfl) ?_ ?_ ?_
   rotate_left;(intro w';go_simp;with_reducible rfl);rotate_left;(simp only [Act.put,ls_,lz_,lc_,i64_w,i32_w];rfl)
   refine pu_ (v := ?_) (a' := ?_) 4 20 (bz 11 31) rfl rfl HT_ (by kernel_rfl) (fun _ _ _ h => h) (by rfl) ?_ ?_ ?_
   rotate_left;(intro w';go_simp;with_reducible rfl);rotate_left;(simp only [Act.put,ls_,lz_,lc_,i64_w,i32_w];rfl)
   refine pu_ (v := ?_) (a' := ?_) 5 21 (bz 11 63) rfl rfl HT_ (by kernel_rfl) (fun _ _ _ h => h) (by rfl) ?_ ?_ ?_
   rotate_left;(intro w';go_simp;with_reducible rfl);rotate_left;(simp only [Act.put,ls_,lz_,lc_,i64_w,i32_w];rfl)
   refine on_ (N := some 22) 6 (bz 11 127) rfl rfl HT_ (by kernel_rfl) (by decide) (fun K hK => ?_)
   refine goes_ Tryd.func49 (by kernel_rfl) rfl #[.int .i64 (wrap64 (Int.tdiv a0 (wrap64 (-t120)))),.int .i64 (wrap64 (Int.tdiv a1 (wrap64 (-t120))))] (by rfl) rfl rfl (by (try simp only [lm_,lq_,lx_]);first|done|rfl|(simp only [ld_,lt_];rfl)) ?_
   with_reducible refine (rat_sized.calls (wrap64 (Int.tdiv a0 (wrap64 (-t120)))) (wrap64 (Int.tdiv a1 (wrap64 (-t120)))) t121 t122 t123 _ A8.out).mono ?_
   rintro e w11 ⟨rfl,hb⟩
   refine ⟨_,rfl,?_⟩
   replace BK117 := kb_ BK117 hb
   replace HB := hb_ HB (e_ GE117 e0_) hb
   (try clear hb)
   (try clear hb2)
   (try clear hk)
   (try clear hi)
   refine hK.out _ _ trivial (fun hHeld => ?_)
   clear hK K
   refine norm_ (a' := ?_) ?_ ?_
   rotate_left
   ·show Act.put _ (some 22) _ = _
    simp only [Act.put,ls_,lz_,lc_,i64_w,i32_w]
    rfl
   refine pu_ (v := ?_) (a' := ?_) 7 23 (bz 11 255) rfl rfl HT_ (by kernel_rfl) (fun _ _ _ h => h) (by rfl) ?_ ?_ ?_
   rotate_left;(intro w';go_simp;with_reducible rfl);rotate_left;(simp only [Act.put,ls_,lz_,lc_,i64_w,i32_w];rfl)
   refine pu_ (v := ?_) (a' := ?_) 8 24 (bz 11 511) rfl rfl HT_ (by kernel_rfl) (fun _ _ _ h => h) (by rfl) ?_ ?_ ?_
   rotate_left;(intro w';go_simp;with_reducible rfl);rotate_left;(simp only [Act.put,ls_,lz_,lc_,i64_w,i32_w];rfl)
   refine on_ (N := none) 9 (bz 11 1023) rfl rfl HT_ (by kernel_rfl) (by decide) (fun K hK => ?_)
   have hs12 : w11.cell? ⟨gb117,0,none⟩ = some (.int .i64 0) := (kc_ BK117.out 0).trans rfl
   have hfs12 := kf_ BK117.out 0
   have hs13 : w11.cell? ⟨gb117,1,none⟩ = some (.int .i64 0) := (kc_ BK117.out 1).trans rfl
   have hfs13 := kf_ BK117.out 1
   refine skip_ (w1 := ?_) (by rfl) rfl ?_ ?_
   rotate_left
   ·go_simp
    rfl
   refine hK.out _ _ trivial (fun hHeld => ?_)
   clear hK K
   refine pu_ (v := ?_) (a' := ?_) 10 5 (bz 11 2047) rfl rfl HT_ (by kernel_rfl) (fun _ _ _ h => h) (by rfl) ?_ ?_ ?_
   rotate_left;(intro w';go_simp;with_reducible rfl);rotate_left;(simp only [Act.put,ls_,lz_,lc_,i64_w,i32_w];rfl)
   refine done_ (done_of HT_.out (by kernel_rfl)) ?_
   try go_wp2
   refine bodyPost_ret (results_ct rfl _ _ gb117 23 #[.int .i64 t121,.int .i64 t122] (0,0) _ rfl (by (with_reducible repeat first|apply kn_|apply kd_|apply ka_);refine blk_put (cs := #[.int .i64 t121,.int .i64 0]) ?_ 1 _ rfl;(with_reducible repeat first|apply kn_|apply kd_|apply ka_);refine blk_put (cs := #[.int .i64 0,.int .i64 0]) ?_ 0 _ rfl;(with_reducible repeat first|apply kn_|apply kd_|apply ka_);exact BK117.out) Tryd.underlying23 rfl (by kernel_rfl)) rfl ?_
   exact ⟨by first|rfl|(simp [errW_none,errW_some] <;> rfl)|(simp [*,errW_none,errW_some] <;> rfl),by repeat (first|(with_reducible first|exact HB.out|apply ba_|apply pd_|apply d1_|refine bs_ ?_ GE117.out)|exact HB.out)⟩
 ·rw [if_neg c6] at H
  have c6b0 : decide (a1 < 0) = false := df_ c6
  clear c6
  by_cases c14 : t120 = 0
  ·rw [if_pos c14] at H
   exact absurd H (by simp)
  ·rw [if_neg c14] at H
   have c14b0 : (t120 == 0) = false := beq_eq_false_iff_ne.mpr c14
   have c14b1 : (t120 != 0) = true := bne_iff_ne.mpr c14
   replace H := ob_ H
   obtain ⟨⟨t124,t125,t126⟩,A150,H⟩ := H
   replace H : (some (t124,t125,t126)) = some (r1,r2,r3) := H
   have A15 := sd_ A150
   clear A150
   simp only [Option.some.injEq,Prod.mk.injEq] at H
   obtain ⟨rfl,rfl,rfl⟩ := H
   go_enter Tryd.func34,Tryd.ntmps34
   try go_wp2_with (first|((with_reducible refine gate_dst (N := 4) rfl ?_);refine box_event ?hg (N := 4) ?hd (cs := #[.int .i64 0,.int .i64 0]) (t := 23) ?hr ?_;(case hd => rfl);(case hg => rfl);(case hr => first|(go_simp;done)|(go_simp;rfl));intro gb117 hg w16 hbox hb;have BK117 := sd_ hbox;have GW117 := gw_ HB e0_ hg;have GE117 := GW117;replace HB := hb_ HB e0_ hb;clear hb hbox hg)|((with_reducible refine gate_callee (f := 48) rfl ?_);refine goesL_ (some 8) rfl rfl Tryd.func48 (by kernel_rfl) rfl #[.int .i64 a0] rfl (by (try simp only [lm_,lq_,lx_]);first|done|rfl|(simp only [ld_,lt_];rfl)) ?_;(with_reducible refine (rat_abs.calls a0 t118 _ A3.out).mono ?_);rintro e w' ⟨rfl,⟨nd,rfl⟩⟩;refine ⟨_,rfl,?_⟩;(repeat (rw [drewN_self w16];generalize hq_ : World.drewN w16 _ = w16;have n0_ : Aside0 (w16.heap[gb117]? = some (.cells #[.int .i64 0,.int .i64 0] 23 (0,0))) := ⟨by rw [← hq_];exact (kk_ BK117.out)⟩;have n1_ : Aside0 (Below w.heap.size w w16) := ⟨by rw [← hq_];exact (bb_ HB.out (e_ GE117 e0_))⟩;clear BK117 HB hq_;have BK117 := n0_;have HB := n1_;clear n0_ n1_)))|((with_reducible refine gate_callee (f := 48) rfl ?_);refine goesL_ (some 10) rfl rfl Tryd.func48 (by kernel_rfl) rfl #[.int .i64 a1] rfl (by (try simp only [lm_,lq_,lx_]);first|done|rfl|(simp only [ld_,lt_];rfl)) ?_;(with_reducible refine (rat_abs.calls a1 t119 _ A4.out).mono ?_);rintro e w' ⟨rfl,⟨nd,rfl⟩⟩;refine ⟨_,rfl,?_⟩;(repeat (rw [drewN_self w16];generalize hq_ : World.drewN w16 _ = w16;have n0_ : Aside0 (w16.heap[gb117]? = some (.cells #[.int .i64 0,.int .i64 0] 23 (0,0))) := ⟨by rw [← hq_];exact (kk_ BK117.out)⟩;have n1_ : Aside0 (Below w.heap.size w w16) := ⟨by rw [← hq_];exact (bb_ HB.out (e_ GE117 e0_))⟩;clear BK117 HB hq_;have BK117 := n0_;have HB := n1_;clear n0_ n1_)))|((with_reducible refine gate_callee (f := 33) rfl ?_);refine goesL_ (some 11) rfl rfl Tryd.func33 (by kernel_rfl) rfl #[.int .i64 t118,.int .i64 t119] rfl (by (try simp only [lm_,lq_,lx_]);first|done|rfl|(simp only [ld_,lt_];rfl)) ?_;(with_reducible refine (rat_common.calls k t118 t119 t120 _ A5.out).mono ?_);rintro e w' ⟨rfl,⟨nd,rfl⟩⟩;refine ⟨_,rfl,?_⟩;(repeat (rw [drewN_self w16];generalize hq_ : World.drewN w16 _ = w16;have n0_ : Aside0 (w16.heap[gb117]? = some (.cells #[.int .i64 0,.int .i64 0] 23 (0,0))) := ⟨by rw [← hq_];exact (kk_ BK117.out)⟩;have n1_ : Aside0 (Below w.heap.size w w16) := ⟨by rw [← hq_];exact (bb_ HB.out (e_ GE117 e0_))⟩;clear BK117 HB hq_;have BK117 := n0_;have HB := n1_;clear n0_ n1_))))
   replace BK117 := sd_ (kd_ BK117.out)
   replace HB := sd_ (d1_ HB.out)
   refine start_ (n := 11) (S := fun w' => True) (ds := []) (Array.replicate 11 false) (by kernel_rfl) rfl rfl trivial (fun hHeld => ?_);refine with_tabW rat_lowest.tab4 rat_lowest.bits4 (fun HT_ HW_ => ?_)
   generalize w16.drew = w17 at BK117 HB hHeld ⊢
   refine pu_ (v := ?_) (a' := ?_) 0 16 (bz 11 1) rfl rfl HT_ (by kernel_rfl) (fun _ _ _ h => h) (by rfl) ?_ ?_ ?_
   rotate_left;(intro w';go_simp;with_reducible rfl);rotate_left;(simp only [Act.put,ls_,lz_,lc_,i64_w,i32_w];rfl)
   refine pu_ (v := ?_) (a' := ?_) 1 17 (bz 11 3) rfl rfl HT_ (by kernel_rfl) (fun _ _ _ h => h) (by rfl) ?_ ?_ ?_
   rotate_left;(intro w';go_simp;with_reducible rfl);rotate_left;(simp only [Act.put,ls_,lz_,lc_,i64_w,i32_w];rfl)
   refine pu_ (v := ?_) (a' := ?_) 2 18 (bz 11 7) rfl rfl HT_ (by kernel_rfl) (fun _ _ _ h => h) (by rfl) ?_ ?_ ?_
   rotate_left;(intro w';go_simp;with_reducible rfl);rotate_left;(simp only [Act.put,ls_,lz_,lc_,i64_w,i32_w];rfl)
   refine pu_ (v := ?_) (a' := ?_) 3 19 (bz 11 15) rfl rfl HT_ (by kernel_rfl) (fun _ _ _ h => h) (by rfl) ?_ ?_ ?_
   rotate_left;(intro w';go_simp;with_reducible rfl);rotate_left;(simp only [Act.put,ls_,lz_,lc_,i64_w,i32_w];rfl)
   refine pu_ (v := ?_) (a' := ?_) 4 20 (bz 11 31) rfl rfl HT_ (by kernel_rfl) (fun _ _ _ h => h) (by rfl) ?_ ?_ ?_
   rotate_left;(intro w';go_simp;with_reducible rfl);rotate_left;(simp only [Act.put,ls_,lz_,lc_,i64_w,i32_w];rfl)
   refine pu_ (v := ?_) (a' := ?_) 5 21 (bz 11 63) rfl rfl HT_ (by kernel_rfl) (fun _ _ _ h => h) (by rfl) ?_ ?_ ?_
   rotate_left;(intro w';go_simp;with_reducible rfl);rotate_left;(simp only [Act.put,ls_,lz_,lc_,i64_w,i32_w];rfl)
   refine on_ (N := some 22) 6 (bz 11 127) rfl rfl HT_ (by kernel_rfl) (by decide) (fun K hK => ?_)
   refine goes_ Tryd.func49 (by kernel_rfl) rfl #[.int .i64 (wrap64 (Int.tdiv a0 t120)),.int .i64 (wrap64 (Int.tdiv a1 t120))] (by rfl) rfl rfl (by (try simp only [lm_,lq_,lx_]);first|done|rfl|(simp only [ld_,lt_];rfl)) ?_
   with_reducible refine (rat_sized.calls (wrap64 (Int.tdiv a0 t120)) (wrap64 (Int.tdiv a1 t120)) t124 t125 t126 _ A15.out).mono ?_
   rintro e w18 ⟨rfl,hb⟩
   refine ⟨_,rfl,?_⟩
   replace BK117 := kb_ BK117 hb
   replace HB := hb_ HB (e_ GE117 e0_) hb
   (try clear hb)
   (try clear hb2)
   (try clear hk)
   (try clear hi)
   refine hK.out _ _ trivial (fun hHeld => ?_)
   clear hK K
   refine norm_ (a' := ?_) ?_ ?_
   rotate_left
   ·show Act.put _ (some 22) _ = _
    simp only [Act.put,ls_,lz_,lc_,i64_w,i32_w]
    rfl
   refine pu_ (v := ?_) (a' := ?_) 7 23 (bz 11 255) rfl rfl HT_ (by kernel_rfl) (fun _ _ _ h => h) (by rfl) ?_ ?_ ?_
   rotate_left;(intro w';go_simp;with_reducible rfl);rotate_left;(simp only [Act.put,ls_,lz_,lc_,i64_w,i32_w];rfl)
   refine pu_ (v := ?_) (a' := ?_) 8 24 (bz 11 511) rfl rfl HT_ (by kernel_rfl) (fun _ _ _ h => h) (by rfl) ?_ ?_ ?_
   rotate_left;(intro w';go_simp;with_reducible rfl);rotate_left;(simp only [Act.put,ls_,lz_,lc_,i64_w,i32_w];rfl)
   refine on_ (N := none) 9 (bz 11 1023) rfl rfl HT_ (by kernel_rfl) (by decide) (fun K hK => ?_)
   have hs19 : w18.cell? ⟨gb117,0,none⟩ = some (.int .i64 0) := (kc_ BK117.out 0).trans rfl
   have hfs19 := kf_ BK117.out 0
   have hs20 : w18.cell? ⟨gb117,1,none⟩ = some (.int .i64 0) := (kc_ BK117.out 1).trans rfl
   have hfs20 := kf_ BK117.out 1
   refine skip_ (w1 := ?_) (by rfl) rfl ?_ ?_
   rotate_left
   ·go_simp
    rfl
   refine hK.out _ _ trivial (fun hHeld => ?_)
   clear hK K
   refine pu_ (v := ?_) (a' := ?_) 10 5 (bz 11 2047) rfl rfl HT_ (by kernel_rfl) (fun _ _ _ h => h) (by rfl) ?_ ?_ ?_
   rotate_left;(intro w';go_simp;with_reducible rfl);rotate_left;(simp only [Act.put,ls_,lz_,lc_,i64_w,i32_w];rfl)
   refine done_ (done_of HT_.out (by kernel_rfl)) ?_
   try go_wp2
   refine bodyPost_ret (results_ct rfl _ _ gb117 23 #[.int .i64 t124,.int .i64 t125] (0,0) _ rfl (by (with_reducible repeat first|apply kn_|apply kd_|apply ka_);refine blk_put (cs := #[.int .i64 t124,.int .i64 0]) ?_ 1 _ rfl;(with_reducible repeat first|apply kn_|apply kd_|apply ka_);refine blk_put (cs := #[.int .i64 0,.int .i64 0]) ?_ 0 _ rfl;(with_reducible repeat first|apply kn_|apply kd_|apply ka_);exact BK117.out) Tryd.underlying23 rfl (by kernel_rfl)) rfl ?_
   exact ⟨by first|rfl|(simp [errW_none,errW_some] <;> rfl)|(simp [*,errW_none,errW_some] <;> rfl),by repeat (first|(with_reducible first|exact HB.out|apply ba_|apply pd_|apply d1_|refine bs_ ?_ GE117.out)|exact HB.out)⟩

end Go.Proofs.YtmbdbinbdiiapaaDoor.P
