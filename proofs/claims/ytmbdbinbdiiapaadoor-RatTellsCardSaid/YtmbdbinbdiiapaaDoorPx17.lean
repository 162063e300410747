-- Written by a program of this session (wip/tools/xprint.py, over the kit's print): Lean checks it.
import Derived.Test.YtmbdbinbdiiapaaDoorPx0
import Derived.Test.YtmbdbinbdiiapaaDoorPx8
import Derived.Test.YtmbdbinbdiiapaaDoorPx16
namespace Go.Proofs.YtmbdbinbdiiapaaDoor.P
open Go.RowKit Go.Proofs.YtmbdbinbdiiapaaDoorW.PrintWords Go.Proofs.YtmbdbinbdiiapaaDoorW.PrintLast Go.Proofs.YtmbdbinbdiiapaaDoorW.PrintMore
attribute [local go_sem] max2_int min2_int max_two min_two max_three min_three max_four min_four   -- for this text's walks alone
set_option linter.unusedVariables false
set_option linter.unusedSimpArgs false

/-! ### neumeref02_Parse: function 22 -/
mutual
def neumeref02_Parse.j0 : Nat → ByteArray → Int → Bool → Int → Int → Option (Int × Int × Bool)
 | 0, _, _, _, _, _ => none
 | k + 1, x0, x5, x16, x394000, x394001 => if x16 = true then (neumeref02_Parse.j1 k x0 1 x394000 x394001) else (neumeref02_Parse.j1 k x0 x5 x394000 x394001)
def neumeref02_Parse.j1 : Nat → ByteArray → Int → Int → Int → Option (Int × Int × Bool)
 | 0, _, _, _, _ => none
 | k + 1, x0, x5, x394000, x394001 => (neumeref02_number.f k x0 x5).bind fun bt394 => (if x5 = 1 then (neumeref02_Parse.j2 k x0 bt394.2 (wrap64 (-bt394.1)) x394001) else (neumeref02_Parse.j2 k x0 bt394.2 bt394.1 x394001))
def neumeref02_Parse.j2 : Nat → ByteArray → Int → Int → Int → Option (Int × Int × Bool)
 | 0, _, _, _, _ => none
 | k + 1, x0, x7, x394000, x394001 => if x7 < (x0.size : Int) then (if 0 ≤ x7 then (neumeref02_Parse.j3 k x0 x7 ((bt x0 x7) == 47) x394000 x394001) else (none)) else (neumeref02_Parse.j3 k x0 x7 false x394000 x394001)
def neumeref02_Parse.j3 : Nat → ByteArray → Int → Bool → Int → Int → Option (Int × Int × Bool)
 | 0, _, _, _, _, _ => none
 | k + 1, x0, x7, x39, x394000, x394001 => if x39 = true then ((neumeref02_number.f k x0 (wrap64 (x7 + 1))).bind fun bt396 => (neumeref02_Parse.j4 k x0 x394000 bt396.1)) else (neumeref02_Parse.j4 k x0 x394000 x394001)
def neumeref02_Parse.j4 : Nat → ByteArray → Int → Int → Option (Int × Int × Bool)
 | 0, _, _, _ => none
 | k + 1, x0, x394000, x394001 => (neumeref02_Check.f k x394000 x394001).bind fun t398 => (if t398 = true then ((neumeref02_Text.f k x394000 x394001).bind fun t399 => (if t399.toList = x0.toList then (some (x394000, x394001, true)) else (some (0, 0, false)))) else (some (0, 0, false)))
end
def neumeref02_Parse.f (k : Nat) (a0 : ByteArray) : Option (Int × Int × Bool) := if (a0.size : Int) > 0 then (if 0 < (a0.size : Int) then (neumeref02_Parse.j0 k a0 0 ((bt a0 0) == 45) 0 1) else (none)) else (neumeref02_Parse.j0 k a0 0 false 0 1)
theorem neumeref02_Parse.mono_l : ∀ k, (∀ y0 y1 y2 y3 y4, LeO (neumeref02_Parse.j0 k y0 y1 y2 y3 y4) (neumeref02_Parse.j0 (k + 1) y0 y1 y2 y3 y4)) ∧ (∀ y0 y1 y2 y3, LeO (neumeref02_Parse.j1 k y0 y1 y2 y3) (neumeref02_Parse.j1 (k + 1) y0 y1 y2 y3)) ∧ (∀ y0 y1 y2 y3, LeO (neumeref02_Parse.j2 k y0 y1 y2 y3) (neumeref02_Parse.j2 (k + 1) y0 y1 y2 y3)) ∧ (∀ y0 y1 y2 y3 y4, LeO (neumeref02_Parse.j3 k y0 y1 y2 y3 y4) (neumeref02_Parse.j3 (k + 1) y0 y1 y2 y3 y4)) ∧ (∀ y0 y1 y2, LeO (neumeref02_Parse.j4 k y0 y1 y2) (neumeref02_Parse.j4 (k + 1) y0 y1 y2))
 | 0 => ⟨fun _ _ _ _ _ r h => by simp [neumeref02_Parse.j0] at h, fun _ _ _ _ r h => by simp [neumeref02_Parse.j1] at h, fun _ _ _ _ r h => by simp [neumeref02_Parse.j2] at h, fun _ _ _ _ _ r h => by simp [neumeref02_Parse.j3] at h, fun _ _ _ r h => by simp [neumeref02_Parse.j4] at h⟩
 | k + 1 => by
  obtain ⟨ih0,ih1,ih2,ih3,ih4⟩ := neumeref02_Parse.mono_l k
  refine ⟨?_,?_,?_,?_,?_⟩
  ·intro y0 y1 y2 y3 y4
   unfold neumeref02_Parse.j0
   repeat' first
   | (with_reducible exact ih0 _ _ _ _ _)
   | (with_reducible exact ih1 _ _ _ _)
   | (with_reducible exact ih2 _ _ _ _)
   | (with_reducible exact ih3 _ _ _ _ _)
   | (with_reducible exact ih4 _ _ _)
   | (with_reducible exact neumeref02_Check.mono _ _ _)
   | (with_reducible exact neumeref02_Text.mono _ _ _)
   | (with_reducible exact neumeref02_number.mono _ _ _)
   | (with_reducible exact LeO.refl _)
   | (with_reducible exact LeO.none _)
   | (with_reducible refine LeO.ite ?_ ?_)
   | (with_reducible refine LeO.bind ?_ (fun _ => ?_))
   | exact ih0 _ _ _ _ _
   | exact ih1 _ _ _ _
   | exact ih2 _ _ _ _
   | exact ih3 _ _ _ _ _
   | exact ih4 _ _ _
   | exact neumeref02_Check.mono _ _ _
   | exact neumeref02_Text.mono _ _ _
   | exact neumeref02_number.mono _ _ _
   | exact LeO.none _
   | refine LeO.ite ?_ ?_
   | refine LeO.bind ?_ (fun _ => ?_)
  ·intro y0 y1 y2 y3
   unfold neumeref02_Parse.j1
   repeat' first
   | (with_reducible exact ih0 _ _ _ _ _)
   | (with_reducible exact ih1 _ _ _ _)
   | (with_reducible exact ih2 _ _ _ _)
   | (with_reducible exact ih3 _ _ _ _ _)
   | (with_reducible exact ih4 _ _ _)
   | (with_reducible exact neumeref02_Check.mono _ _ _)
   | (with_reducible exact neumeref02_Text.mono _ _ _)
   | (with_reducible exact neumeref02_number.mono _ _ _)
   | (with_reducible exact LeO.refl _)
   | (with_reducible exact LeO.none _)
   | (with_reducible refine LeO.ite ?_ ?_)
   | (with_reducible refine LeO.bind ?_ (fun _ => ?_))
   | exact ih0 _ _ _ _ _
   | exact ih1 _ _ _ _
   | exact ih2 _ _ _ _
   | exact ih3 _ _ _ _ _
   | exact ih4 _ _ _
   | exact neumeref02_Check.mono _ _ _
   | exact neumeref02_Text.mono _ _ _
   | exact neumeref02_number.mono _ _ _
   | exact LeO.none _
   | refine LeO.ite ?_ ?_
   | refine LeO.bind ?_ (fun _ => ?_)
  ·intro y0 y1 y2 y3
   unfold neumeref02_Parse.j2
   repeat' first
   | (with_reducible exact ih0 _ _ _ _ _)
   | (with_reducible exact ih1 _ _ _ _)
   | (with_reducible exact ih2 _ _ _ _)
   | (with_reducible exact ih3 _ _ _ _ _)
   | (with_reducible exact ih4 _ _ _)
   | (with_reducible exact neumeref02_Check.mono _ _ _)
   | (with_reducible exact neumeref02_Text.mono _ _ _)
   | (with_reducible exact neumeref02_number.mono _ _ _)
   | (with_reducible exact LeO.refl _)
   | (with_reducible exact LeO.none _)
   | (with_reducible refine LeO.ite ?_ ?_)
   | (with_reducible refine LeO.bind ?_ (fun _ => ?_))
   | exact ih0 _ _ _ _ _
   | exact ih1 _ _ _ _
   | exact ih2 _ _ _ _
   | exact ih3 _ _ _ _ _
   | exact ih4 _ _ _
   | exact neumeref02_Check.mono _ _ _
   | exact neumeref02_Text.mono _ _ _
   | exact neumeref02_number.mono _ _ _
   | exact LeO.none _
   | refine LeO.ite ?_ ?_
   | refine LeO.bind ?_ (fun _ => ?_)
  ·intro y0 y1 y2 y3 y4
   unfold neumeref02_Parse.j3
   repeat' first
   | (with_reducible exact ih0 _ _ _ _ _)
   | (with_reducible exact ih1 _ _ _ _)
   | (with_reducible exact ih2 _ _ _ _)
   | (with_reducible exact ih3 _ _ _ _ _)
   | (with_reducible exact ih4 _ _ _)
   | (with_reducible exact neumeref02_Check.mono _ _ _)
   | (with_reducible exact neumeref02_Text.mono _ _ _)
   | (with_reducible exact neumeref02_number.mono _ _ _)
   | (with_reducible exact LeO.refl _)
   | (with_reducible exact LeO.none _)
   | (with_reducible refine LeO.ite ?_ ?_)
   | (with_reducible refine LeO.bind ?_ (fun _ => ?_))
   | exact ih0 _ _ _ _ _
   | exact ih1 _ _ _ _
   | exact ih2 _ _ _ _
   | exact ih3 _ _ _ _ _
   | exact ih4 _ _ _
   | exact neumeref02_Check.mono _ _ _
   | exact neumeref02_Text.mono _ _ _
   | exact neumeref02_number.mono _ _ _
   | exact LeO.none _
   | refine LeO.ite ?_ ?_
   | refine LeO.bind ?_ (fun _ => ?_)
  ·intro y0 y1 y2
   unfold neumeref02_Parse.j4
   repeat' first
   | (with_reducible exact ih0 _ _ _ _ _)
   | (with_reducible exact ih1 _ _ _ _)
   | (with_reducible exact ih2 _ _ _ _)
   | (with_reducible exact ih3 _ _ _ _ _)
   | (with_reducible exact ih4 _ _ _)
   | (with_reducible exact neumeref02_Check.mono _ _ _)
   | (with_reducible exact neumeref02_Text.mono _ _ _)
   | (with_reducible exact neumeref02_number.mono _ _ _)
   | (with_reducible exact LeO.refl _)
   | (with_reducible exact LeO.none _)
   | (with_reducible refine LeO.ite ?_ ?_)
   | (with_reducible refine LeO.bind ?_ (fun _ => ?_))
   | exact ih0 _ _ _ _ _
   | exact ih1 _ _ _ _
   | exact ih2 _ _ _ _
   | exact ih3 _ _ _ _ _
   | exact ih4 _ _ _
   | exact neumeref02_Check.mono _ _ _
   | exact neumeref02_Text.mono _ _ _
   | exact neumeref02_number.mono _ _ _
   | exact LeO.none _
   | refine LeO.ite ?_ ?_
   | refine LeO.bind ?_ (fun _ => ?_)
theorem neumeref02_Parse.mono : ∀ a0 k, LeO (neumeref02_Parse.f k a0) (neumeref02_Parse.f (k + 1) a0) := by
 intro a0 k
 obtain ⟨ih0,ih1,ih2,ih3,ih4⟩ := neumeref02_Parse.mono_l k
 unfold neumeref02_Parse.f
 repeat' first
   | (with_reducible exact ih0 _ _ _ _ _)
   | (with_reducible exact ih1 _ _ _ _)
   | (with_reducible exact ih2 _ _ _ _)
   | (with_reducible exact ih3 _ _ _ _ _)
   | (with_reducible exact ih4 _ _ _)
   | (with_reducible exact neumeref02_Check.mono _ _ _)
   | (with_reducible exact neumeref02_Text.mono _ _ _)
   | (with_reducible exact neumeref02_number.mono _ _ _)
   | (with_reducible exact LeO.refl _)
   | (with_reducible exact LeO.none _)
   | (with_reducible refine LeO.ite ?_ ?_)
   | (with_reducible refine LeO.bind ?_ (fun _ => ?_))
   | exact ih0 _ _ _ _ _
   | exact ih1 _ _ _ _
   | exact ih2 _ _ _ _
   | exact ih3 _ _ _ _ _
   | exact ih4 _ _ _
   | exact neumeref02_Check.mono _ _ _
   | exact neumeref02_Text.mono _ _ _
   | exact neumeref02_number.mono _ _ _
   | exact LeO.none _
   | refine LeO.ite ?_ ?_
   | refine LeO.bind ?_ (fun _ => ?_)
set_option maxHeartbeats 8000000 in
set_option maxRecDepth 100000 in
theorem neumeref02_Parse.calls (k : Nat) (a0 : ByteArray) (r1 : Int) (r2 : Int) (r3 : Bool) (w : World) (h : neumeref02_Parse.f k a0 = some (r1, r2, r3)) :
  Calls Tryd.prog 22 #[.string a0] w fun e w' => e = .returned (.tuple #[.agg #[.int .i64 r1,.int .i64 r2],.bool r3]) ∧ Below w.heap.size w w' := by
 have hu23 := Tryd.underlying23
 have HB := sd_ (Below.refl w.heap.size w)
 have H : (if (a0.size : Int) > 0 then (if 0 < (a0.size : Int) then (neumeref02_Parse.j0 k a0 0 ((bt a0 0) == 45) 0 1) else (none)) else (neumeref02_Parse.j0 k a0 0 false 0 1)) = some (r1,r2,r3) := h
 clear h
 have HC2 := sd_ H
 clear H
 go_enter Tryd.func22,Tryd.ntmps22
 go_upto_region 3 with (first|((with_reducible refine gate_dst (N := 2) rfl ?_);refine box_event ?hg (N := 2) ?hd (cs := #[.int .i64 0,.int .i64 0]) (t := 23) ?hr ?_;(case hd => rfl);(case hg => rfl);(case hr => first|(go_simp;done)|(go_simp;rfl));intro gb392 hg w3 hbox hb;have BK392 := sd_ hbox;have GW392 := gw_ HB e0_ hg;have GE392 := GW392;replace HB := hb_ HB e0_ hb;clear hb hbox hg)|((with_reducible refine gate_dst (N := 4) rfl ?_);refine box_event ?hg (N := 4) ?hd (cs := #[.int .i64 0,.int .i64 0]) (t := 23) ?hr ?_;(case hd => rfl);(case hg => rfl);(case hr => first|(go_simp;done)|(go_simp;rfl));intro gb393 hg w4 hbox hb;have BK393 := sd_ hbox;have GW393 := gw_ HB (e_ GE392 e0_) hg;have GE393 := GW393;have NB392_393 := nb_ BK392 hg;have NB393_392 := sy_ NB392_393;replace BK392 := kb_ BK392 hb;replace HB := hb_ HB (e_ GE392 e0_) hb;clear hb hbox hg;have hnb5 := NB393_392.out;have hnc5 := NB392_393.out;have hcz6_0 : w4.cell? ⟨gb393,0,none⟩ = some (.int .i64 0) := (kc_ BK393.out 0).trans rfl;have hcz6_1 : w4.cell? ⟨gb393,1,none⟩ = some (.int .i64 0) := (kc_ BK393.out 1).trans rfl;have hfz6_0 := kf_ BK393.out 0;have hfz6_1 := kf_ BK393.out 1))
 (try simp only [Act.put,ls_,lz_,lc_])
 go_cut [16] (fun v16 wc => ∃ (kq : Nat) (x16_1 : Bool),v16 = .bool x16_1 ∧ Aside0 (neumeref02_Parse.j0 kq a0 0 x16_1 0 1 = some (r1,r2,r3)) ∧ Aside0 (kq ≤ k) ∧ Aside0 (wc.heap[gb392]? = some (.cells #[.int .i64 0,.int .i64 0] 23 (0,0))) ∧ Aside0 (wc.heap[gb393]? = some (.cells #[.int .i64 0,.int .i64 1] 23 (0,0))) ∧ Aside0 (Below w.heap.size w wc))
 case first =>
  have H := HC2.out
  clear HC2
  by_cases c7 : (a0.size : Int) > 0
  ·rw [if_pos c7] at H
   have c7b0 : decide (0 < (a0.size : Int)) = true := dt_ c7
   have c7b1 : decide (0 < a0.size) = true := dt_ (by omega)
   clear c7
   (first|rw [c7b0]|(simp only [i64_w,i32_w];rw [c7b0])|skip)
   by_cases c8 : 0 < (a0.size : Int)
   ·rw [if_pos c8] at H
    have c8b0 : decide (0 < (a0.size : Int)) = true := dt_ c8
    have c8b1 : decide (0 < a0.size) = true := dt_ (by omega)
    clear c8
    have H' := sd_ H
    clear H
    have p9 : 0 ≤ (0 : Int) := (by omega)
    have q9 : 0 < a0.size := (by have : (0 : Int) < (a0.size : Int) := od_ (by first|(with_reducible assumption)|assumption);omega)
    have hx9 : ∀ h : 0 < a0.size,((a0[0]'h).toNat : Int) = bt a0 0 := bt_at a0 0
    clear p9
    have qi9 : (0 < (a0.size : Int)) = True := eq_true (od_ (by first|(with_reducible assumption)|assumption))
    replace q9 := eq_true q9
    go_wp2
    go_meet
    case rel => exact ⟨_,(((bt a0 0) == 45)),(by first|rfl|(simp;done)|(simp [*];done)|(simp [bne];done)),H',⟨by first|omega|exact Nat.le_refl _⟩,⟨by (with_reducible repeat first|apply kn_|apply kd_|apply ka_);refine blk_far ?_ NB392_393.out _;(with_reducible repeat first|apply kn_|apply kd_|apply ka_);refine blk_far ?_ NB392_393.out _;(with_reducible repeat first|apply kn_|apply kd_|apply ka_);exact BK392.out⟩,⟨by (with_reducible repeat first|apply kn_|apply kd_|apply ka_);refine blk_put (cs := #[.int .i64 0,.int .i64 0]) ?_ 1 _ rfl;(with_reducible repeat first|apply kn_|apply kd_|apply ka_);refine blk_put (cs := #[.int .i64 0,.int .i64 0]) ?_ 0 _ rfl;(with_reducible repeat first|apply kn_|apply kd_|apply ka_);exact BK393.out⟩,⟨by repeat (first|(with_reducible first|exact HB.out|apply ba_|apply pd_|apply d1_|refine bs_ ?_ GE392.out|refine bs_ ?_ GE393.out)|exact HB.out)⟩⟩
   ·rw [if_neg c8] at H
    exact absurd H (by simp)
  ·rw [if_neg c7] at H
   have c7b0 : decide (0 < (a0.size : Int)) = false := df_ c7
   have c7b1 : decide (0 < a0.size) = false := df_ (by omega)
   clear c7
   (first|rw [c7b0]|(simp only [i64_w,i32_w];rw [c7b0])|skip)
   have H' := sd_ H
   clear H
   go_wp2
   go_meet
   case rel => exact ⟨_,(false),(by first|rfl|(simp;done)|(simp [*];done)|(simp [bne];done)),H',⟨by first|omega|exact Nat.le_refl _⟩,⟨by (with_reducible repeat first|apply kn_|apply kd_|apply ka_);refine blk_far ?_ NB392_393.out _;(with_reducible repeat first|apply kn_|apply kd_|apply ka_);refine blk_far ?_ NB392_393.out _;(with_reducible repeat first|apply kn_|apply kd_|apply ka_);exact BK392.out⟩,⟨by (with_reducible repeat first|apply kn_|apply kd_|apply ka_);refine blk_put (cs := #[.int .i64 0,.int .i64 0]) ?_ 1 _ rfl;(with_reducible repeat first|apply kn_|apply kd_|apply ka_);refine blk_put (cs := #[.int .i64 0,.int .i64 0]) ?_ 0 _ rfl;(with_reducible repeat first|apply kn_|apply kd_|apply ka_);exact BK393.out⟩,⟨by repeat (first|(with_reducible first|exact HB.out|apply ba_|apply pd_|apply d1_|refine bs_ ?_ GE392.out|refine bs_ ?_ GE393.out)|exact HB.out)⟩⟩
 case rest =>
  clear HC2
  try clear c2;try clear p2;try clear c5;try clear c7;try clear c7b0;try clear c7b1;try clear c8;try clear c8b0;try clear c8b1;try clear p9;try clear q9;try clear hx9;try clear qi9;try clear hcz6_0;try clear hcz6_1;try clear hfz6_0;try clear hfz6_1;try clear p9;try clear q9
  obtain ⟨kq,x16_1,rfl,HA,HJ1,BK392,BK393,HB⟩ := hcut
  cases kq with
  | zero => exact absurd HA.out (by simp [neumeref02_Parse.j0])
  | succ kj1 =>
   have H := HA.out
   clear HA
   simp only [neumeref02_Parse.j0] at H
   have HC10 := sd_ H
   clear H
   go_upto_if 16 with (fail)
   go_cut [5] (fun v5 wc => ∃ (kq : Nat) (x5_9 : Int),v5 = .int .i64 x5_9 ∧ Aside0 (neumeref02_Parse.j1 kq a0 x5_9 0 1 = some (r1,r2,r3)) ∧ Aside0 (kq ≤ kj1) ∧ Aside0 (wc.heap[gb392]? = some (.cells #[.int .i64 0,.int .i64 0] 23 (0,0))) ∧ Aside0 (wc.heap[gb393]? = some (.cells #[.int .i64 0,.int .i64 1] 23 (0,0))) ∧ Aside0 (Below w.heap.size w wc))
   case first =>
    have H := HC10.out
    clear HC10
    by_cases c11 : x16_1 = true
    ·subst c11
     have H1 : (neumeref02_Parse.j1 kj1 a0 1 0 1) = some (r1,r2,r3) := by rw [if_pos rfl] at H;exact H
     clear H;have H := H1;clear H1
     have H' := sd_ H
     clear H
     go_wp2
     go_meet
     case rel => exact ⟨_,(1),(by first|rfl|(simp;done)|(simp [*];done)|(simp [bne];done)),H',⟨by have := HJ1.out;first|omega|exact Nat.le_refl _⟩,⟨by (with_reducible repeat first|apply kn_|apply kd_|apply ka_);exact BK392.out⟩,⟨by (with_reducible repeat first|apply kn_|apply kd_|apply ka_);exact BK393.out⟩,⟨by repeat (first|(with_reducible first|exact HB.out|apply ba_|apply pd_|apply d1_|refine bs_ ?_ GE392.out|refine bs_ ?_ GE393.out)|exact HB.out)⟩⟩
    ·replace c11 := bf_ c11
     subst c11
     have H1 : (neumeref02_Parse.j1 kj1 a0 0 0 1) = some (r1,r2,r3) := by rw [if_neg (show ¬ (false = true) by decide)] at H;exact H
     clear H;have H := H1;clear H1
     have H' := sd_ H
     clear H
     go_wp2
     go_meet
     case rel => exact ⟨_,(0),(by first|rfl|(simp;done)|(simp [*];done)|(simp [bne];done)),H',⟨by have := HJ1.out;first|omega|exact Nat.le_refl _⟩,⟨by (with_reducible repeat first|apply kn_|apply kd_|apply ka_);exact BK392.out⟩,⟨by (with_reducible repeat first|apply kn_|apply kd_|apply ka_);exact BK393.out⟩,⟨by repeat (first|(with_reducible first|exact HB.out|apply ba_|apply pd_|apply d1_|refine bs_ ?_ GE392.out|refine bs_ ?_ GE393.out)|exact HB.out)⟩⟩
   case rest =>
    clear HC10
    try clear c1;try clear c2;try clear p2;try clear c5;try clear c7;try clear c7b0;try clear c7b1;try clear c8;try clear c8b0;try clear c8b1;try clear p9;try clear q9;try clear hx9;try clear qi9;try clear c11;try clear hcz6_0;try clear hcz6_1;try clear hfz6_0;try clear hfz6_1;try clear p2;try clear p9;try clear q9
    obtain ⟨kq,x5_9,rfl,HA,HJ9,BK392,BK393,HB⟩ := hcut
    cases kq with
    | zero => exact absurd HA.out (by simp [neumeref02_Parse.j1])
    | succ kj9 =>
     have H := HA.out
     clear HA
     simp only [neumeref02_Parse.j1] at H
     replace H := ob_ H
     obtain ⟨⟨t394,t395⟩,A120,H⟩ := H
     replace H : (if x5_9 = 1 then (neumeref02_Parse.j2 kj9 a0 t395 (wrap64 (-t394)) 1) else (neumeref02_Parse.j2 kj9 a0 t395 t394 1)) = some (r1,r2,r3) := H
     have A12 := sd_ A120
     clear A120
     have HC13 := sd_ H
     clear H
     go_upto_if 26 with (first|((with_reducible refine gate_callee (f := 44) rfl ?_);refine goesL_ (some 20) rfl rfl Tryd.func44 (by kernel_rfl) rfl #[.string a0,.int .i64 x5_9] rfl (by (try simp only [lm_,lq_,lx_]);first|done|rfl|(simp only [ld_,lt_];rfl)) ?_;(with_reducible refine (neumeref02_number.calls kj9 a0 x5_9 t394 t395 _ A12.out).mono ?_);rintro e w' ⟨rfl,⟨nd,rfl⟩⟩;refine ⟨_,rfl,?_⟩;(repeat (rw [drewN_self wc];generalize hq_ : World.drewN wc _ = wc;have n0_ : Aside0 (wc.heap[gb392]? = some (.cells #[.int .i64 0,.int .i64 0] 23 (0,0))) := ⟨by rw [← hq_];exact (kk_ BK392.out)⟩;have n1_ : Aside0 (wc.heap[gb393]? = some (.cells #[.int .i64 0,.int .i64 1] 23 (0,0))) := ⟨by rw [← hq_];exact (kk_ BK393.out)⟩;have n2_ : Aside0 (Below w.heap.size w wc) := ⟨by rw [← hq_];exact (bb_ HB.out (e_ GE392 (e_ GE393 e0_)))⟩;clear BK392 BK393 HB hq_;have BK392 := n0_;have BK393 := n1_;have HB := n2_;clear n0_ n1_ n2_));have hnb14 := NB393_392.out;have hnc14 := NB392_393.out;have hcz15_0 : wc.cell? ⟨gb393,0,none⟩ = some (.int .i64 0) := (kc_ BK393.out 0).trans rfl;have hcz15_1 : wc.cell? ⟨gb393,1,none⟩ = some (.int .i64 1) := (kc_ BK393.out 1).trans rfl;have hfz15_0 := kf_ BK393.out 0;have hfz15_1 := kf_ BK393.out 1))
     (try simp only [Act.put,ls_,lz_,lc_])
     go_cut [] (fun wc => ∃ (kq : Nat) (x394000_12 : Int),Aside0 (neumeref02_Parse.j2 kq a0 t395 x394000_12 1 = some (r1,r2,r3)) ∧ Aside0 (kq ≤ kj9) ∧ Aside0 (wc.heap[gb392]? = some (.cells #[.int .i64 0,.int .i64 0] 23 (0,0))) ∧ Aside0 (wc.heap[gb393]? = some (.cells #[.int .i64 x394000_12,.int .i64 1] 23 (0,0))) ∧ Aside0 (Below w.heap.size w wc))
     case first =>
      have H := HC13.out
      clear HC13
      by_cases c16 : x5_9 = 1
      ·rw [if_pos c16] at H
       have c16b0 : (x5_9 == 1) = true := beq_iff_eq.mpr c16
       have c16b1 : (x5_9 != 1) = false := bne_eq_false_iff_eq.mpr c16
       clear c16
       (first|rw [c16b0]|(simp only [i64_w,i32_w];rw [c16b0])|skip)
       have H' := sd_ H
       clear H
       have hnb17 := NB393_392.out
       have hnc17 := NB392_393.out
       have hcz18_0 : wc.cell? ⟨gb393,0,none⟩ = some (.int .i64 0) := (kc_ BK393.out 0).trans rfl
       have hcz18_1 : wc.cell? ⟨gb393,1,none⟩ = some (.int .i64 1) := (kc_ BK393.out 1).trans rfl
       have hfz18_0 := kf_ BK393.out 0
       have hfz18_1 := kf_ BK393.out 1
       go_wp2
       go_meet
       case rel => exact ⟨_,(wrap64 (-t394)),H',⟨by have := HJ1.out;have := HJ9.out;first|omega|exact Nat.le_refl _⟩,⟨by (with_reducible repeat first|apply kn_|apply kd_|apply ka_);refine blk_far ?_ NB392_393.out _;(with_reducible repeat first|apply kn_|apply kd_|apply ka_);refine blk_far ?_ NB392_393.out _;(with_reducible repeat first|apply kn_|apply kd_|apply ka_);exact BK392.out⟩,⟨by (with_reducible repeat first|apply kn_|apply kd_|apply ka_);refine blk_put (cs := #[.int .i64 t394,.int .i64 1]) ?_ 0 _ rfl;(with_reducible repeat first|apply kn_|apply kd_|apply ka_);refine blk_put (cs := #[.int .i64 0,.int .i64 1]) ?_ 0 _ rfl;(with_reducible repeat first|apply kn_|apply kd_|apply ka_);exact BK393.out⟩,⟨by repeat (first|(with_reducible first|exact HB.out|apply ba_|apply pd_|apply d1_|refine bs_ ?_ GE392.out|refine bs_ ?_ GE393.out)|exact HB.out)⟩⟩
      ·rw [if_neg c16] at H
       have c16b0 : (x5_9 == 1) = false := beq_eq_false_iff_ne.mpr c16
       have c16b1 : (x5_9 != 1) = true := bne_iff_ne.mpr c16
       (first|rw [c16b0]|(simp only [i64_w,i32_w];rw [c16b0])|skip)
       have H' := sd_ H
       clear H
       go_wp2
       go_meet
       case rel => exact ⟨_,(t394),H',⟨by have := HJ1.out;have := HJ9.out;first|omega|exact Nat.le_refl _⟩,⟨by (with_reducible repeat first|apply kn_|apply kd_|apply ka_);refine blk_far ?_ NB392_393.out _;(with_reducible repeat first|apply kn_|apply kd_|apply ka_);exact BK392.out⟩,⟨by (with_reducible repeat first|apply kn_|apply kd_|apply ka_);refine blk_put (cs := #[.int .i64 0,.int .i64 1]) ?_ 0 _ rfl;(with_reducible repeat first|apply kn_|apply kd_|apply ka_);exact BK393.out⟩,⟨by repeat (first|(with_reducible first|exact HB.out|apply ba_|apply pd_|apply d1_|refine bs_ ?_ GE392.out|refine bs_ ?_ GE393.out)|exact HB.out)⟩⟩
     case rest =>
      clear HC13
      try clear c1;try clear c2;try clear p2;try clear c4;try clear c5;try clear p6;try clear c7;try clear c7b0;try clear c7b1;try clear c8;try clear c8b0;try clear c8b1;try clear p9;try clear q9;try clear hx9;try clear qi9;try clear c11;try clear c14;try clear c16;try clear c16b0;try clear c16b1;try clear c17;try clear hcz15_0;try clear hcz15_1;try clear hcz18_0;try clear hcz18_1;try clear hcz6_0;try clear hcz6_1;try clear hfz15_0;try clear hfz15_1;try clear hfz18_0;try clear hfz18_1;try clear hfz6_0;try clear hfz6_1;try clear p2;try clear p9;try clear q9
      obtain ⟨kq,x394000_12,HA,HJ12,BK392,BK393,HB⟩ := hcut
      cases kq with
      | zero => exact absurd HA.out (by simp [neumeref02_Parse.j2])
      | succ kj12 =>
       have H := HA.out
       clear HA
       simp only [neumeref02_Parse.j2] at H
       have HC19 := sd_ H
       clear H
       go_upto_region 9 with (fail)
       go_cut [39] (fun v39 wc => ∃ (kq : Nat) (x39_18 : Bool),v39 = .bool x39_18 ∧ Aside0 (neumeref02_Parse.j3 kq a0 t395 x39_18 x394000_12 1 = some (r1,r2,r3)) ∧ Aside0 (kq ≤ kj12) ∧ Aside0 (wc.heap[gb392]? = some (.cells #[.int .i64 0,.int .i64 0] 23 (0,0))) ∧ Aside0 (wc.heap[gb393]? = some (.cells #[.int .i64 x394000_12,.int .i64 1] 23 (0,0))) ∧ Aside0 (Below w.heap.size w wc))
       case first =>
        have H := HC19.out
        clear HC19
        by_cases c20 : t395 < (a0.size : Int)
        ·rw [if_pos c20] at H
         have c20b0 : decide (t395 < (a0.size : Int)) = true := dt_ c20
         clear c20
         (first|rw [c20b0]|(simp only [i64_w,i32_w];rw [c20b0])|skip)
         by_cases c21 : 0 ≤ t395
         ·rw [if_pos c21] at H
          have c21b0 : decide (0 ≤ t395) = true := dt_ c21
          clear c21
          have H' := sd_ H
          clear H
          have p22 : 0 ≤ (t395 : Int) := od_ (by first|(with_reducible assumption)|assumption)
          have q22 : t395 < (a0.size : Int) := od_ (by first|(with_reducible assumption)|assumption)
          have hx22 := bt_at a0 t395
          replace p22 := eq_true p22
          replace q22 := eq_true q22
          go_wp2
          go_meet
          case rel => exact ⟨_,(((bt a0 t395) == 47)),(by first|rfl|(simp;done)|(simp [*];done)|(simp [bne];done)),H',⟨by have := HJ1.out;have := HJ9.out;have := HJ12.out;first|omega|exact Nat.le_refl _⟩,⟨by (with_reducible repeat first|apply kn_|apply kd_|apply ka_);exact BK392.out⟩,⟨by (with_reducible repeat first|apply kn_|apply kd_|apply ka_);exact BK393.out⟩,⟨by repeat (first|(with_reducible first|exact HB.out|apply ba_|apply pd_|apply d1_|refine bs_ ?_ GE392.out|refine bs_ ?_ GE393.out)|exact HB.out)⟩⟩
         ·rw [if_neg c21] at H
          exact absurd H (by simp)
        ·rw [if_neg c20] at H
         have c20b0 : decide (t395 < (a0.size : Int)) = false := df_ c20
         clear c20
         (first|rw [c20b0]|(simp only [i64_w,i32_w];rw [c20b0])|skip)
         have H' := sd_ H
         clear H
         go_wp2
         go_meet
         case rel => exact ⟨_,(false),(by first|rfl|(simp;done)|(simp [*];done)|(simp [bne];done)),H',⟨by have := HJ1.out;have := HJ9.out;have := HJ12.out;first|omega|exact Nat.le_refl _⟩,⟨by (with_reducible repeat first|apply kn_|apply kd_|apply ka_);exact BK392.out⟩,⟨by (with_reducible repeat first|apply kn_|apply kd_|apply ka_);exact BK393.out⟩,⟨by repeat (first|(with_reducible first|exact HB.out|apply ba_|apply pd_|apply d1_|refine bs_ ?_ GE392.out|refine bs_ ?_ GE393.out)|exact HB.out)⟩⟩
       case rest =>
        clear HC19
        try clear c1;try clear c2;try clear p2;try clear q2;try clear hx2;try clear c4;try clear c5;try clear p6;try clear c7;try clear c7b0;try clear c7b1;try clear c8;try clear c8b0;try clear c8b1;try clear p9;try clear q9;try clear hx9;try clear qi9;try clear c11;try clear c14;try clear c16;try clear c16b0;try clear c16b1;try clear c17;try clear c20;try clear c20b0;try clear c21;try clear c21b0;try clear c22;try clear p22;try clear q22;try clear hx22;try clear hcz15_0;try clear hcz15_1;try clear hcz18_0;try clear hcz18_1;try clear hcz6_0;try clear hcz6_1;try clear hfz15_0;try clear hfz15_1;try clear hfz18_0;try clear hfz18_1;try clear hfz6_0;try clear hfz6_1;try clear p2;try clear p22;try clear p6;try clear p9;try clear q22;try clear q9
        obtain ⟨kq,x39_18,rfl,HA,HJ18,BK392,BK393,HB⟩ := hcut
        cases kq with
        | zero => exact absurd HA.out (by simp [neumeref02_Parse.j3])
        | succ kj18 =>
         have H := HA.out
         clear HA
         simp only [neumeref02_Parse.j3] at H
         have HC23 := sd_ H
         clear H
         go_upto_if 39 with (fail)
         go_cut [] (fun wc => ∃ (kq : Nat) (x394001_22 : Int),Aside0 (neumeref02_Parse.j4 kq a0 x394000_12 x394001_22 = some (r1,r2,r3)) ∧ Aside0 (kq ≤ kj18) ∧ Aside0 (wc.heap[gb392]? = some (.cells #[.int .i64 0,.int .i64 0] 23 (0,0))) ∧ Aside0 (wc.heap[gb393]? = some (.cells #[.int .i64 x394000_12,.int .i64 x394001_22] 23 (0,0))) ∧ Aside0 (Below w.heap.size w wc))
         case first =>
          have H := HC23.out
          clear HC23
          by_cases c24 : x39_18 = true
          ·subst c24
           have H1 : ((neumeref02_number.f kj18 a0 (wrap64 (t395 + 1))).bind fun bt396 => (neumeref02_Parse.j4 kj18 a0 x394000_12 bt396.1)) = some (r1,r2,r3) := by rw [if_pos rfl] at H;exact H
           clear H;have H := H1;clear H1
           replace H := ob_ H
           obtain ⟨⟨t396,t397⟩,A250,H⟩ := H
           replace H : (neumeref02_Parse.j4 kj18 a0 x394000_12 t396) = some (r1,r2,r3) := H
           have A25 := sd_ A250
           clear A250
           have H' := sd_ H
           clear H
           go_wp2_with (first|((with_reducible refine gate_callee (f := 44) rfl ?_);refine goesL_ (some 44) rfl rfl Tryd.func44 (by kernel_rfl) rfl #[.string a0,.int .i64 (wrap64 (t395 + 1))] rfl (by (try simp only [lm_,lq_,lx_]);first|done|rfl|(simp only [ld_,lt_];rfl)) ?_;(with_reducible refine (neumeref02_number.calls kj18 a0 (wrap64 (t395 + 1)) t396 t397 _ A25.out).mono ?_);rintro e w' ⟨rfl,⟨nd,rfl⟩⟩;refine ⟨_,rfl,?_⟩;(repeat (rw [drewN_self wc];generalize hq_ : World.drewN wc _ = wc;have n0_ : Aside0 (wc.heap[gb392]? = some (.cells #[.int .i64 0,.int .i64 0] 23 (0,0))) := ⟨by rw [← hq_];exact (kk_ BK392.out)⟩;have n1_ : Aside0 (wc.heap[gb393]? = some (.cells #[.int .i64 x394000_12,.int .i64 1] 23 (0,0))) := ⟨by rw [← hq_];exact (kk_ BK393.out)⟩;have n2_ : Aside0 (Below w.heap.size w wc) := ⟨by rw [← hq_];exact (bb_ HB.out (e_ GE392 (e_ GE393 e0_)))⟩;clear BK392 BK393 HB hq_;have BK392 := n0_;have BK393 := n1_;have HB := n2_;clear n0_ n1_ n2_));have hnb26 := NB393_392.out;have hnc26 := NB392_393.out;have hcz27_0 : wc.cell? ⟨gb393,0,none⟩ = some (.int .i64 x394000_12) := (kc_ BK393.out 0).trans rfl;have hcz27_1 : wc.cell? ⟨gb393,1,none⟩ = some (.int .i64 1) := (kc_ BK393.out 1).trans rfl;have hfz27_0 := kf_ BK393.out 0;have hfz27_1 := kf_ BK393.out 1))
           go_meet
           case rel => exact ⟨_,(t396),H',⟨by have := HJ1.out;have := HJ9.out;have := HJ12.out;have := HJ18.out;first|omega|exact Nat.le_refl _⟩,⟨by (with_reducible repeat first|apply kn_|apply kd_|apply ka_);refine blk_far ?_ NB392_393.out _;(with_reducible repeat first|apply kn_|apply kd_|apply ka_);exact BK392.out⟩,⟨by (with_reducible repeat first|apply kn_|apply kd_|apply ka_);refine blk_put (cs := #[.int .i64 x394000_12,.int .i64 1]) ?_ 1 _ rfl;(with_reducible repeat first|apply kn_|apply kd_|apply ka_);exact BK393.out⟩,⟨by repeat (first|(with_reducible first|exact HB.out|apply ba_|apply pd_|apply d1_|refine bs_ ?_ GE392.out|refine bs_ ?_ GE393.out)|exact HB.out)⟩⟩
          ·replace c24 := bf_ c24
           subst c24
           have H1 : (neumeref02_Parse.j4 kj18 a0 x394000_12 1) = some (r1,r2,r3) := by rw [if_neg (show ¬ (false = true) by decide)] at H;exact H
           clear H;have H := H1;clear H1
           have H' := sd_ H
           clear H
           go_wp2
           go_meet
           case rel => exact ⟨_,(1),H',⟨by have := HJ1.out;have := HJ9.out;have := HJ12.out;have := HJ18.out;first|omega|exact Nat.le_refl _⟩,⟨by (with_reducible repeat first|apply kn_|apply kd_|apply ka_);exact BK392.out⟩,⟨by (with_reducible repeat first|apply kn_|apply kd_|apply ka_);exact BK393.out⟩,⟨by repeat (first|(with_reducible first|exact HB.out|apply ba_|apply pd_|apply d1_|refine bs_ ?_ GE392.out|refine bs_ ?_ GE393.out)|exact HB.out)⟩⟩
         case rest =>
          clear HC23
          try clear c1;try clear c2;try clear p2;try clear q2;try clear hx2;try clear c4;try clear c5;try clear p6;try clear c7;try clear c7b0;try clear c7b1;try clear c8;try clear c8b0;try clear c8b1;try clear p9;try clear q9;try clear hx9;try clear qi9;try clear c11;try clear c14;try clear c16;try clear c16b0;try clear c16b1;try clear c17;try clear c20;try clear c20b0;try clear c21;try clear c21b0;try clear c22;try clear p22;try clear q22;try clear hx22;try clear c24;try clear c26;try clear hcz15_0;try clear hcz15_1;try clear hcz18_0;try clear hcz18_1;try clear hcz27_0;try clear hcz27_1;try clear hcz6_0;try clear hcz6_1;try clear hfz15_0;try clear hfz15_1;try clear hfz18_0;try clear hfz18_1;try clear hfz27_0;try clear hfz27_1;try clear hfz6_0;try clear hfz6_1;try clear p2;try clear p22;try clear p6;try clear p9;try clear q2;try clear q22;try clear q9
          obtain ⟨kq,x394001_22,HA,HJ22,BK392,BK393,HB⟩ := hcut
          cases kq with
          | zero => exact absurd HA.out (by simp [neumeref02_Parse.j4])
          | succ kj22 =>
           have H := HA.out
           clear HA
           simp only [neumeref02_Parse.j4] at H
           replace H := ob_ H
           obtain ⟨t398,A280,H⟩ := H
           replace H : (if t398 = true then ((neumeref02_Text.f kj22 x394000_12 x394001_22).bind fun t399 => (if t399.toList = a0.toList then (some (x394000_12,x394001_22,true)) else (some (0,0,false)))) else (some (0,0,false))) = some (r1,r2,r3) := H
           have A28 := sd_ A280
           clear A280
           by_cases c29 : t398 = true
           ·subst c29
            have H1 : ((neumeref02_Text.f kj22 x394000_12 x394001_22).bind fun t399 => (if t399.toList = a0.toList then (some (x394000_12,x394001_22,true)) else (some (0,0,false)))) = some (r1,r2,r3) := by rw [if_pos rfl] at H;exact H
            clear H;have H := H1;clear H1
            replace H := ob_ H
            obtain ⟨t399,A300,H⟩ := H
            replace H : (if t399.toList = a0.toList then (some (x394000_12,x394001_22,true)) else (some (0,0,false))) = some (r1,r2,r3) := H
            have A30 := sd_ A300
            clear A300
            by_cases c31 : t399.toList = a0.toList
            ·rw [if_pos c31] at H
             have c31b0 : (t399.toList == a0.toList) = true := beq_iff_eq.mpr c31
             have c31b1 : (t399.toList != a0.toList) = false := bne_eq_false_iff_eq.mpr c31
             clear c31
             simp only [Option.some.injEq,Prod.mk.injEq] at H
             obtain ⟨rfl,rfl,rfl⟩ := H
             have hnb32 := NB393_392.out
             have hnc32 := NB392_393.out
             have hcz33_0 : wc.cell? ⟨gb393,0,none⟩ = some (.int .i64 x394000_12) := (kc_ BK393.out 0).trans rfl
             have hcz33_1 : wc.cell? ⟨gb393,1,none⟩ = some (.int .i64 x394001_22) := (kc_ BK393.out 1).trans rfl
             have hfz33_0 := kf_ BK393.out 0
             have hfz33_1 := kf_ BK393.out 1
             go_wp2_with (first|((with_reducible refine gate_callee (f := 30) rfl ?_);refine goesL_ (some 49) rfl rfl Tryd.func30 (by kernel_rfl) rfl #[.agg #[.int .i64 x394000_12,.int .i64 x394001_22]] rfl (by (try simp only [lm_,lq_,lx_]);first|done|rfl|(simp only [ld_,lt_];rfl)) ?_;(with_reducible refine (neumeref02_Check.calls kj22 x394000_12 x394001_22 true _ A28.out).mono ?_);rintro e w34 ⟨rfl,hb⟩;refine ⟨_,rfl,?_⟩;replace BK392 := kb_ BK392 hb;replace BK393 := kb_ BK393 hb;replace HB := hb_ HB (e_ GE392 (e_ GE393 e0_)) hb;(try clear hb);(try clear hb2);(try clear hk);(try clear hi);have hcz35_0 : w34.cell? ⟨gb393,0,none⟩ = some (.int .i64 x394000_12) := (kc_ BK393.out 0).trans rfl;have hcz35_1 : w34.cell? ⟨gb393,1,none⟩ = some (.int .i64 x394001_22) := (kc_ BK393.out 1).trans rfl;have hfz35_0 := kf_ BK393.out 0;have hfz35_1 := kf_ BK393.out 1)|(go_at_call 28;(with_reducible refine (neumeref02_Text.calls kj22 x394000_12 x394001_22 t399 _ A30.out).mono ?_);rintro e w36 ⟨rfl,hb⟩;replace BK392 := kb_ BK392 hb;replace BK393 := kb_ BK393 hb;replace HB := hb_ HB (e_ GE392 (e_ GE393 e0_)) hb;(try clear hb);(try clear hb2);(try clear hk);(try clear hi);have hcz37_0 : w36.cell? ⟨gb393,0,none⟩ = some (.int .i64 x394000_12) := (kc_ BK393.out 0).trans rfl;have hcz37_1 : w36.cell? ⟨gb393,1,none⟩ = some (.int .i64 x394001_22) := (kc_ BK393.out 1).trans rfl;have hfz37_0 := kf_ BK393.out 0;have hfz37_1 := kf_ BK393.out 1;have hcz38_0 : w36.cell? ⟨gb392,0,none⟩ = some (.int .i64 0) := (kc_ BK392.out 0).trans rfl;have hcz38_1 : w36.cell? ⟨gb392,1,none⟩ = some (.int .i64 0) := (kc_ BK392.out 1).trans rfl;have hfz38_0 := kf_ BK392.out 0;have hfz38_1 := kf_ BK392.out 1))
             refine bodyPost_ret (results_ct rfl _ _ gb392 23 #[.int .i64 x394000_12,.int .i64 x394001_22] (0,0) _ rfl (by (with_reducible repeat first|apply kn_|apply kd_|apply ka_);refine blk_put (cs := #[.int .i64 x394000_12,.int .i64 0]) ?_ 1 _ rfl;(with_reducible repeat first|apply kn_|apply kd_|apply ka_);refine blk_put (cs := #[.int .i64 0,.int .i64 0]) ?_ 0 _ rfl;(with_reducible repeat first|apply kn_|apply kd_|apply ka_);exact BK392.out) Tryd.underlying23 rfl (by kernel_rfl)) rfl ?_
             exact ⟨by first|rfl|(simp [errW_none,errW_some] <;> rfl)|(simp [*,errW_none,errW_some] <;> rfl),by repeat (first|(with_reducible first|exact HB.out|apply ba_|apply pd_|apply d1_|refine bs_ ?_ GE392.out|refine bs_ ?_ GE393.out)|exact HB.out)⟩
            ·rw [if_neg c31] at H
             have c31b0 : (t399.toList == a0.toList) = false := beq_eq_false_iff_ne.mpr c31
             have c31b1 : (t399.toList != a0.toList) = true := bne_iff_ne.mpr c31
             simp only [Option.some.injEq,Prod.mk.injEq] at H
             obtain ⟨rfl,rfl,rfl⟩ := H
             have hnb39 := NB393_392.out
             have hnc39 := NB392_393.out
             have hcz40_0 : wc.cell? ⟨gb393,0,none⟩ = some (.int .i64 x394000_12) := (kc_ BK393.out 0).trans rfl
             have hcz40_1 : wc.cell? ⟨gb393,1,none⟩ = some (.int .i64 x394001_22) := (kc_ BK393.out 1).trans rfl
             have hfz40_0 := kf_ BK393.out 0
             have hfz40_1 := kf_ BK393.out 1
             go_wp2_with (first|((with_reducible refine gate_callee (f := 30) rfl ?_);refine goesL_ (some 49) rfl rfl Tryd.func30 (by kernel_rfl) rfl #[.agg #[.int .i64 x394000_12,.int .i64 x394001_22]] rfl (by (try simp only [lm_,lq_,lx_]);first|done|rfl|(simp only [ld_,lt_];rfl)) ?_;(with_reducible refine (neumeref02_Check.calls kj22 x394000_12 x394001_22 true _ A28.out).mono ?_);rintro e w41 ⟨rfl,hb⟩;refine ⟨_,rfl,?_⟩;replace BK392 := kb_ BK392 hb;replace BK393 := kb_ BK393 hb;replace HB := hb_ HB (e_ GE392 (e_ GE393 e0_)) hb;(try clear hb);(try clear hb2);(try clear hk);(try clear hi);have hcz42_0 : w41.cell? ⟨gb393,0,none⟩ = some (.int .i64 x394000_12) := (kc_ BK393.out 0).trans rfl;have hcz42_1 : w41.cell? ⟨gb393,1,none⟩ = some (.int .i64 x394001_22) := (kc_ BK393.out 1).trans rfl;have hfz42_0 := kf_ BK393.out 0;have hfz42_1 := kf_ BK393.out 1)|(go_at_call 28;(with_reducible refine (neumeref02_Text.calls kj22 x394000_12 x394001_22 t399 _ A30.out).mono ?_);rintro e w43 ⟨rfl,hb⟩;replace BK392 := kb_ BK392 hb;replace BK393 := kb_ BK393 hb;replace HB := hb_ HB (e_ GE392 (e_ GE393 e0_)) hb;(try clear hb);(try clear hb2);(try clear hk);(try clear hi);have hcz44_0 : w43.cell? ⟨gb392,0,none⟩ = some (.int .i64 0) := (kc_ BK392.out 0).trans rfl;have hcz44_1 : w43.cell? ⟨gb392,1,none⟩ = some (.int .i64 0) := (kc_ BK392.out 1).trans rfl;have hfz44_0 := kf_ BK392.out 0;have hfz44_1 := kf_ BK392.out 1))
             refine bodyPost_ret (results_ct rfl _ _ gb392 23 #[.int .i64 0,.int .i64 0] (0,0) _ rfl (by (with_reducible repeat first|apply kn_|apply kd_|apply ka_);refine blk_put (cs := #[.int .i64 0,.int .i64 0]) ?_ 1 _ rfl;(with_reducible repeat first|apply kn_|apply kd_|apply ka_);refine blk_put (cs := #[.int .i64 0,.int .i64 0]) ?_ 0 _ rfl;(with_reducible repeat first|apply kn_|apply kd_|apply ka_);exact BK392.out) Tryd.underlying23 rfl (by kernel_rfl)) rfl ?_
             exact ⟨by first|rfl|(simp [errW_none,errW_some] <;> rfl)|(simp [*,errW_none,errW_some] <;> rfl),by repeat (first|(with_reducible first|exact HB.out|apply ba_|apply pd_|apply d1_|refine bs_ ?_ GE392.out|refine bs_ ?_ GE393.out)|exact HB.out)⟩
           ·replace c29 := bf_ c29
            subst c29
            have H1 : (some (0,0,false)) = some (r1,r2,r3) := by rw [if_neg (show ¬ (false = true) by decide)] at H;exact H
            clear H;have H := H1;clear H1
            simp only [Option.some.injEq,Prod.mk.injEq] at H
            obtain ⟨rfl,rfl,rfl⟩ := H
            have hnb45 := NB393_392.out
            have hnc45 := NB392_393.out
            have hcz46_0 : wc.cell? ⟨gb393,0,none⟩ = some (.int .i64 x394000_12) := (kc_ BK393.out 0).trans rfl
            have hcz46_1 : wc.cell? ⟨gb393,1,none⟩ = some (.int .i64 x394001_22) := (kc_ BK393.out 1).trans rfl
            have hfz46_0 := kf_ BK393.out 0
            have hfz46_1 := kf_ BK393.out 1
            go_wp2_with (first|((with_reducible refine gate_callee (f := 30) rfl ?_);refine goesL_ (some 49) rfl rfl Tryd.func30 (by kernel_rfl) rfl #[.agg #[.int .i64 x394000_12,.int .i64 x394001_22]] rfl (by (try simp only [lm_,lq_,lx_]);first|done|rfl|(simp only [ld_,lt_];rfl)) ?_;(with_reducible refine (neumeref02_Check.calls kj22 x394000_12 x394001_22 false _ A28.out).mono ?_);rintro e w47 ⟨rfl,hb⟩;refine ⟨_,rfl,?_⟩;replace BK392 := kb_ BK392 hb;replace BK393 := kb_ BK393 hb;replace HB := hb_ HB (e_ GE392 (e_ GE393 e0_)) hb;(try clear hb);(try clear hb2);(try clear hk);(try clear hi);have hcz48_0 : w47.cell? ⟨gb392,0,none⟩ = some (.int .i64 0) := (kc_ BK392.out 0).trans rfl;have hcz48_1 : w47.cell? ⟨gb392,1,none⟩ = some (.int .i64 0) := (kc_ BK392.out 1).trans rfl;have hfz48_0 := kf_ BK392.out 0;have hfz48_1 := kf_ BK392.out 1))
            refine bodyPost_ret (results_ct rfl _ _ gb392 23 #[.int .i64 0,.int .i64 0] (0,0) _ rfl (by (with_reducible repeat first|apply kn_|apply kd_|apply ka_);refine blk_put (cs := #[.int .i64 0,.int .i64 0]) ?_ 1 _ rfl;(with_reducible repeat first|apply kn_|apply kd_|apply ka_);refine blk_put (cs := #[.int .i64 0,.int .i64 0]) ?_ 0 _ rfl;(with_reducible repeat first|apply kn_|apply kd_|apply ka_);exact BK392.out) Tryd.underlying23 rfl (by kernel_rfl)) rfl ?_
            exact ⟨by first|rfl|(simp [errW_none,errW_some] <;> rfl)|(simp [*,errW_none,errW_some] <;> rfl),by repeat (first|(with_reducible first|exact HB.out|apply ba_|apply pd_|apply d1_|refine bs_ ?_ GE392.out|refine bs_ ?_ GE393.out)|exact HB.out)⟩

/-! ### neumeref02_Cmp: function 24 -/
def neumeref02_Cmp.j0 : Nat → Bool → Int → Int → Int → Int → Option (Int)
 | 0, _, _, _, _, _ => none
 | k + 1, x14, x401000, x401001, x402000, x402001 => if x14 = true then (some 0) else (if (wrap64 (x401000 * x402001)) < (wrap64 (x402000 * x401001)) then (some (-1)) else (if (wrap64 (x401000 * x402001)) > (wrap64 (x402000 * x401001)) then (some 1) else (some 0)))
def neumeref02_Cmp.f (k : Nat) (a0_0 : Int) (a0_1 : Int) (a1_0 : Int) (a1_1 : Int) : Option (Int) := (neumeref02_Check.f k a0_0 a0_1).bind fun t402 => (if t402 = true then ((neumeref02_Check.f k a1_0 a1_1).bind fun t403 => (neumeref02_Cmp.j0 k (!t403) a0_0 a0_1 a1_0 a1_1)) else (neumeref02_Cmp.j0 k true a0_0 a0_1 a1_0 a1_1))
theorem neumeref02_Cmp.mono_l : ∀ k, (∀ y0 y1 y2 y3 y4, LeO (neumeref02_Cmp.j0 k y0 y1 y2 y3 y4) (neumeref02_Cmp.j0 (k + 1) y0 y1 y2 y3 y4))
 | 0 => fun _ _ _ _ _ r h => by simp [neumeref02_Cmp.j0] at h
 | k + 1 => by
  have ih0 := neumeref02_Cmp.mono_l k
  ·intro y0 y1 y2 y3 y4
   unfold neumeref02_Cmp.j0
   repeat' first
   | (with_reducible exact ih0 _ _ _ _ _)
   | (with_reducible exact neumeref02_Check.mono _ _ _)
   | (with_reducible exact LeO.refl _)
   | (with_reducible exact LeO.none _)
   | (with_reducible refine LeO.ite ?_ ?_)
   | (with_reducible refine LeO.bind ?_ (fun _ => ?_))
   | exact ih0 _ _ _ _ _
   | exact neumeref02_Check.mono _ _ _
   | exact LeO.none _
   | refine LeO.ite ?_ ?_
   | refine LeO.bind ?_ (fun _ => ?_)
theorem neumeref02_Cmp.mono : ∀ a0 a1 a2 a3 k, LeO (neumeref02_Cmp.f k a0 a1 a2 a3) (neumeref02_Cmp.f (k + 1) a0 a1 a2 a3) := by
 intro a0 a1 a2 a3 k
 have ih0 := neumeref02_Cmp.mono_l k
 unfold neumeref02_Cmp.f
 repeat' first
   | (with_reducible exact ih0 _ _ _ _ _)
   | (with_reducible exact neumeref02_Check.mono _ _ _)
   | (with_reducible exact LeO.refl _)
   | (with_reducible exact LeO.none _)
   | (with_reducible refine LeO.ite ?_ ?_)
   | (with_reducible refine LeO.bind ?_ (fun _ => ?_))
   | exact ih0 _ _ _ _ _
   | exact neumeref02_Check.mono _ _ _
   | exact LeO.none _
   | refine LeO.ite ?_ ?_
   | refine LeO.bind ?_ (fun _ => ?_)
set_option maxHeartbeats 8000000 in
set_option maxRecDepth 100000 in
theorem neumeref02_Cmp.calls (k : Nat) (a0_0 : Int) (a0_1 : Int) (a1_0 : Int) (a1_1 : Int) (r : Int) (w : World) (h : neumeref02_Cmp.f k a0_0 a0_1 a1_0 a1_1 = some r) :
  Calls Tryd.prog 24 #[.agg #[.int .i64 a0_0,.int .i64 a0_1],.agg #[.int .i64 a1_0,.int .i64 a1_1]] w fun e w' => e = .returned (.int .i64 r) ∧ Below w.heap.size w w' := by
 have hu23 := Tryd.underlying23
 have HB := sd_ (Below.refl w.heap.size w)
 have H : ((neumeref02_Check.f k a0_0 a0_1).bind fun t402 => (if t402 = true then ((neumeref02_Check.f k a1_0 a1_1).bind fun t403 => (neumeref02_Cmp.j0 k (!t403) a0_0 a0_1 a1_0 a1_1)) else (neumeref02_Cmp.j0 k true a0_0 a0_1 a1_0 a1_1))) = some r := h
 clear h
 have HC3 := sd_ H
 clear H
 go_enter Tryd.func24,Tryd.ntmps24
 go_upto_region 1 with (first|((with_reducible refine gate_dst (N := 2) rfl ?_);refine box_event ?hg (N := 2) ?hd (cs := #[.int .i64 a0_0,.int .i64 a0_1]) (t := 23) ?hr ?_;(case hd => rfl);(case hg => rfl);(case hr => first|(go_simp;done)|(go_simp;rfl));intro gb400 hg w4 hbox hb;have BK400 := sd_ hbox;have GW400 := gw_ HB e0_ hg;have GE400 := GW400;replace HB := hb_ HB e0_ hb;clear hb hbox hg)|((with_reducible refine gate_dst (N := 3) rfl ?_);refine box_event ?hg (N := 3) ?hd (cs := #[.int .i64 a1_0,.int .i64 a1_1]) (t := 23) ?hr ?_;(case hd => rfl);(case hg => rfl);(case hr => first|(go_simp;done)|(go_simp;rfl));intro gb401 hg w5 hbox hb;have BK401 := sd_ hbox;have GW401 := gw_ HB (e_ GE400 e0_) hg;have GE401 := GW401;have NB400_401 := nb_ BK400 hg;have NB401_400 := sy_ NB400_401;replace BK400 := kb_ BK400 hb;replace HB := hb_ HB (e_ GE400 e0_) hb;clear hb hbox hg))
 repeat (go_quiet (first|((with_reducible refine gate_dst (N := 2) rfl ?_);refine box_event ?hg (N := 2) ?hd (cs := #[.int .i64 a0_0,.int .i64 a0_1]) (t := 23) ?hr ?_;(case hd => rfl);(case hg => rfl);(case hr => first|(go_simp;done)|(go_simp;rfl));intro gb400 hg w4 hbox hb;have BK400 := sd_ hbox;have GW400 := gw_ HB e0_ hg;have GE400 := GW400;replace HB := hb_ HB e0_ hb;clear hb hbox hg)|((with_reducible refine gate_dst (N := 3) rfl ?_);refine box_event ?hg (N := 3) ?hd (cs := #[.int .i64 a1_0,.int .i64 a1_1]) (t := 23) ?hr ?_;(case hd => rfl);(case hg => rfl);(case hr => first|(go_simp;done)|(go_simp;rfl));intro gb401 hg w5 hbox hb;have BK401 := sd_ hbox;have GW401 := gw_ HB (e_ GE400 e0_) hg;have GE401 := GW401;have NB400_401 := nb_ BK400 hg;have NB401_400 := sy_ NB400_401;replace BK400 := kb_ BK400 hb;replace HB := hb_ HB (e_ GE400 e0_) hb;clear hb hbox hg));go_upto_region 1 with (first|((with_reducible refine gate_dst (N := 2) rfl ?_);refine box_event ?hg (N := 2) ?hd (cs := #[.int .i64 a0_0,.int .i64 a0_1]) (t := 23) ?hr ?_;(case hd => rfl);(case hg => rfl);(case hr => first|(go_simp;done)|(go_simp;rfl));intro gb400 hg w4 hbox hb;have BK400 := sd_ hbox;have GW400 := gw_ HB e0_ hg;have GE400 := GW400;replace HB := hb_ HB e0_ hb;clear hb hbox hg)|((with_reducible refine gate_dst (N := 3) rfl ?_);refine box_event ?hg (N := 3) ?hd (cs := #[.int .i64 a1_0,.int .i64 a1_1]) (t := 23) ?hr ?_;(case hd => rfl);(case hg => rfl);(case hr => first|(go_simp;done)|(go_simp;rfl));intro gb401 hg w5 hbox hb;have BK401 := sd_ hbox;have GW401 := gw_ HB (e_ GE400 e0_) hg;have GE401 := GW401;have NB400_401 := nb_ BK400 hg;have NB401_400 := sy_ NB400_401;replace BK400 := kb_ BK400 hb;replace HB := hb_ HB (e_ GE400 e0_) hb;clear hb hbox hg)))
 (try simp only [Act.put,ls_,lz_,lc_])
 go_cut [14] (fun v14 wc => ∃ (kq : Nat) (x14_2 : Bool),v14 = .bool x14_2 ∧ Aside0 (neumeref02_Cmp.j0 kq x14_2 a0_0 a0_1 a1_0 a1_1 = some r) ∧ Aside0 (kq ≤ k) ∧ Aside0 (wc.heap[gb400]? = some (.cells #[.int .i64 a0_0,.int .i64 a0_1] 23 (0,0))) ∧ Aside0 (wc.heap[gb401]? = some (.cells #[.int .i64 a1_0,.int .i64 a1_1] 23 (0,0))) ∧ Aside0 (Below w.heap.size w wc))
 case first =>
  have H := HC3.out
  clear HC3
  replace H := ob_ H
  obtain ⟨t402,A60,H⟩ := H
  replace H : (if t402 = true then ((neumeref02_Check.f k a1_0 a1_1).bind fun t403 => (neumeref02_Cmp.j0 k (!t403) a0_0 a0_1 a1_0 a1_1)) else (neumeref02_Cmp.j0 k true a0_0 a0_1 a1_0 a1_1)) = some r := H
  have A6 := sd_ A60
  clear A60
  by_cases c7 : t402 = true
  ·subst c7
   have H1 : ((neumeref02_Check.f k a1_0 a1_1).bind fun t403 => (neumeref02_Cmp.j0 k (!t403) a0_0 a0_1 a1_0 a1_1)) = some r := by rw [if_pos rfl] at H;exact H
   clear H;have H := H1;clear H1
   replace H := ob_ H
   obtain ⟨t403,A80,H⟩ := H
   replace H : (neumeref02_Cmp.j0 k (!t403) a0_0 a0_1 a1_0 a1_1) = some r := H
   have A8 := sd_ A80
   clear A80
   have H' := sd_ H
   clear H
   have hnb9 := NB400_401.out
   have hnc9 := NB401_400.out
   have hcz10_0 : w5.cell? ⟨gb400,0,none⟩ = some (.int .i64 a0_0) := (kc_ BK400.out 0).trans rfl
   have hcz10_1 : w5.cell? ⟨gb400,1,none⟩ = some (.int .i64 a0_1) := (kc_ BK400.out 1).trans rfl
   have hfz10_0 := kf_ BK400.out 0
   have hfz10_1 := kf_ BK400.out 1
   go_wp2_with (first|(go_at_call 30;(with_reducible refine (neumeref02_Check.calls k a0_0 a0_1 true _ A6.out).mono ?_);rintro e w11 ⟨rfl,hb⟩;replace BK400 := kb_ BK400 hb;replace BK401 := kb_ BK401 hb;replace HB := hb_ HB (e_ GE400 (e_ GE401 e0_)) hb;(try clear hb);(try clear hb2);(try clear hk);(try clear hi);have hcz12_0 : w11.cell? ⟨gb401,0,none⟩ = some (.int .i64 a1_0) := (kc_ BK401.out 0).trans rfl;have hcz12_1 : w11.cell? ⟨gb401,1,none⟩ = some (.int .i64 a1_1) := (kc_ BK401.out 1).trans rfl;have hfz12_0 := kf_ BK401.out 0;have hfz12_1 := kf_ BK401.out 1)|(go_at_call 30;(with_reducible refine (neumeref02_Check.calls k a1_0 a1_1 t403 _ A8.out).mono ?_);rintro e w13 ⟨rfl,hb⟩;replace BK400 := kb_ BK400 hb;replace BK401 := kb_ BK401 hb;replace HB := hb_ HB (e_ GE400 (e_ GE401 e0_)) hb;(try clear hb);(try clear hb2);(try clear hk);(try clear hi)))
   repeat (go_quiet (first|(go_at_call 30;(with_reducible refine (neumeref02_Check.calls k a0_0 a0_1 true _ A6.out).mono ?_);rintro e w11 ⟨rfl,hb⟩;replace BK400 := kb_ BK400 hb;replace BK401 := kb_ BK401 hb;replace HB := hb_ HB (e_ GE400 (e_ GE401 e0_)) hb;(try clear hb);(try clear hb2);(try clear hk);(try clear hi);have hcz12_0 : w11.cell? ⟨gb401,0,none⟩ = some (.int .i64 a1_0) := (kc_ BK401.out 0).trans rfl;have hcz12_1 : w11.cell? ⟨gb401,1,none⟩ = some (.int .i64 a1_1) := (kc_ BK401.out 1).trans rfl;have hfz12_0 := kf_ BK401.out 0;have hfz12_1 := kf_ BK401.out 1)|(go_at_call 30;(with_reducible refine (neumeref02_Check.calls k a1_0 a1_1 t403 _ A8.out).mono ?_);rintro e w13 ⟨rfl,hb⟩;replace BK400 := kb_ BK400 hb;replace BK401 := kb_ BK401 hb;replace HB := hb_ HB (e_ GE400 (e_ GE401 e0_)) hb;(try clear hb);(try clear hb2);(try clear hk);(try clear hi)));try go_wp2_with (first|(go_at_call 30;(with_reducible refine (neumeref02_Check.calls k a0_0 a0_1 true _ A6.out).mono ?_);rintro e w11 ⟨rfl,hb⟩;replace BK400 := kb_ BK400 hb;replace BK401 := kb_ BK401 hb;replace HB := hb_ HB (e_ GE400 (e_ GE401 e0_)) hb;(try clear hb);(try clear hb2);(try clear hk);(try clear hi);have hcz12_0 : w11.cell? ⟨gb401,0,none⟩ = some (.int .i64 a1_0) := (kc_ BK401.out 0).trans rfl;have hcz12_1 : w11.cell? ⟨gb401,1,none⟩ = some (.int .i64 a1_1) := (kc_ BK401.out 1).trans rfl;have hfz12_0 := kf_ BK401.out 0;have hfz12_1 := kf_ BK401.out 1)|(go_at_call 30;(with_reducible refine (neumeref02_Check.calls k a1_0 a1_1 t403 _ A8.out).mono ?_);rintro e w13 ⟨rfl,hb⟩;replace BK400 := kb_ BK400 hb;replace BK401 := kb_ BK401 hb;replace HB := hb_ HB (e_ GE400 (e_ GE401 e0_)) hb;(try clear hb);(try clear hb2);(try clear hk);(try clear hi))))
   go_meet
   case rel => exact ⟨_,(!t403),(by first|rfl|(simp;done)|(simp [*];done)|(simp [bne];done)),H',⟨by first|omega|exact Nat.le_refl _⟩,⟨by (with_reducible repeat first|apply kn_|apply kd_|apply ka_);exact BK400.out⟩,⟨by (with_reducible repeat first|apply kn_|apply kd_|apply ka_);exact BK401.out⟩,⟨by repeat (first|(with_reducible first|exact HB.out|apply ba_|apply pd_|apply d1_|refine bs_ ?_ GE400.out|refine bs_ ?_ GE401.out)|exact HB.out)⟩⟩
  ·replace c7 := bf_ c7
   subst c7
   have H1 : (neumeref02_Cmp.j0 k true a0_0 a0_1 a1_0 a1_1) = some r := by rw [if_neg (show ¬ (false = true) by decide)] at H;exact H
   clear H;have H := H1;clear H1
   have H' := sd_ H
   clear H
   have hnb14 := NB400_401.out
   have hnc14 := NB401_400.out
   have hcz15_0 : w5.cell? ⟨gb400,0,none⟩ = some (.int .i64 a0_0) := (kc_ BK400.out 0).trans rfl
   have hcz15_1 : w5.cell? ⟨gb400,1,none⟩ = some (.int .i64 a0_1) := (kc_ BK400.out 1).trans rfl
   have hfz15_0 := kf_ BK400.out 0
   have hfz15_1 := kf_ BK400.out 1
   go_wp2_with (first|(go_at_call 30;(with_reducible refine (neumeref02_Check.calls k a0_0 a0_1 false _ A6.out).mono ?_);rintro e w16 ⟨rfl,hb⟩;replace BK400 := kb_ BK400 hb;replace BK401 := kb_ BK401 hb;replace HB := hb_ HB (e_ GE400 (e_ GE401 e0_)) hb;(try clear hb);(try clear hb2);(try clear hk);(try clear hi)))
   repeat (go_quiet (first|(go_at_call 30;(with_reducible refine (neumeref02_Check.calls k a0_0 a0_1 false _ A6.out).mono ?_);rintro e w16 ⟨rfl,hb⟩;replace BK400 := kb_ BK400 hb;replace BK401 := kb_ BK401 hb;replace HB := hb_ HB (e_ GE400 (e_ GE401 e0_)) hb;(try clear hb);(try clear hb2);(try clear hk);(try clear hi)));try go_wp2_with (first|(go_at_call 30;(with_reducible refine (neumeref02_Check.calls k a0_0 a0_1 false _ A6.out).mono ?_);rintro e w16 ⟨rfl,hb⟩;replace BK400 := kb_ BK400 hb;replace BK401 := kb_ BK401 hb;replace HB := hb_ HB (e_ GE400 (e_ GE401 e0_)) hb;(try clear hb);(try clear hb2);(try clear hk);(try clear hi))))
   go_meet
   case rel => exact ⟨_,(true),(by first|rfl|(simp;done)|(simp [*];done)|(simp [bne];done)),H',⟨by first|omega|exact Nat.le_refl _⟩,⟨by (with_reducible repeat first|apply kn_|apply kd_|apply ka_);exact BK400.out⟩,⟨by (with_reducible repeat first|apply kn_|apply kd_|apply ka_);exact BK401.out⟩,⟨by repeat (first|(with_reducible first|exact HB.out|apply ba_|apply pd_|apply d1_|refine bs_ ?_ GE400.out|refine bs_ ?_ GE401.out)|exact HB.out)⟩⟩
 case rest =>
  clear HC3
  try clear c1;try clear c2;try clear p2;try clear c7;try clear c9;try clear c14;try clear hcz10_0;try clear hcz10_1;try clear hcz12_0;try clear hcz12_1;try clear hcz15_0;try clear hcz15_1;try clear hfz10_0;try clear hfz10_1;try clear hfz12_0;try clear hfz12_1;try clear hfz15_0;try clear hfz15_1
  obtain ⟨kq,x14_2,rfl,HA,HJ2,BK400,BK401,HB⟩ := hcut
  cases kq with
  | zero => exact absurd HA.out (by simp [neumeref02_Cmp.j0])
  | succ kj2 =>
   have H := HA.out
   clear HA
   simp only [neumeref02_Cmp.j0] at H
   by_cases c17 : x14_2 = true
   ·subst c17
    have H1 : (some 0) = some r := by rw [if_pos rfl] at H;exact H
    clear H;have H := H1;clear H1
    obtain rfl := Option.some.inj H
    go_wp2
    repeat (go_quiet (fail);try go_wp2)
    go_ret
    exact ⟨by first|rfl|(simp [errW_none,errW_some] <;> rfl)|(simp [*,errW_none,errW_some] <;> rfl),by repeat (first|(with_reducible first|exact HB.out|apply ba_|apply pd_|apply d1_|refine bs_ ?_ GE400.out|refine bs_ ?_ GE401.out)|exact HB.out)⟩
   ·replace c17 := bf_ c17
    subst c17
    have H1 : (if (wrap64 (a0_0 * a1_1)) < (wrap64 (a1_0 * a0_1)) then (some (-1)) else (if (wrap64 (a0_0 * a1_1)) > (wrap64 (a1_0 * a0_1)) then (some 1) else (some 0))) = some r := by rw [if_neg (show ¬ (false = true) by decide)] at H;exact H
    clear H;have H := H1;clear H1
    by_cases c18 : (wrap64 (a0_0 * a1_1)) < (wrap64 (a1_0 * a0_1))
    ·rw [if_pos c18] at H
     have c18b0 : decide ((wrap64 (a0_0 * a1_1)) < (wrap64 (a1_0 * a0_1))) = true := dt_ c18
     clear c18
     obtain rfl := Option.some.inj H
     have hnb19 := NB400_401.out
     have hnc19 := NB401_400.out
     have hcz20_0 : wc.cell? ⟨gb400,0,none⟩ = some (.int .i64 a0_0) := (kc_ BK400.out 0).trans rfl
     have hcz20_1 : wc.cell? ⟨gb400,1,none⟩ = some (.int .i64 a0_1) := (kc_ BK400.out 1).trans rfl
     have hfz20_0 := kf_ BK400.out 0
     have hfz20_1 := kf_ BK400.out 1
     have hcz21_0 : wc.cell? ⟨gb401,0,none⟩ = some (.int .i64 a1_0) := (kc_ BK401.out 0).trans rfl
     have hcz21_1 : wc.cell? ⟨gb401,1,none⟩ = some (.int .i64 a1_1) := (kc_ BK401.out 1).trans rfl
     have hfz21_0 := kf_ BK401.out 0
     have hfz21_1 := kf_ BK401.out 1
     go_wp2
     repeat (go_quiet (fail);try go_wp2)
     go_ret
     exact ⟨by first|rfl|(simp [errW_none,errW_some] <;> rfl)|(simp [*,errW_none,errW_some] <;> rfl),by repeat (first|(with_reducible first|exact HB.out|apply ba_|apply pd_|apply d1_|refine bs_ ?_ GE400.out|refine bs_ ?_ GE401.out)|exact HB.out)⟩
    ·rw [if_neg c18] at H
     have c18b0 : decide ((wrap64 (a0_0 * a1_1)) < (wrap64 (a1_0 * a0_1))) = false := df_ c18
     clear c18
     by_cases c22 : (wrap64 (a0_0 * a1_1)) > (wrap64 (a1_0 * a0_1))
     ·rw [if_pos c22] at H
      have c22b0 : decide ((wrap64 (a1_0 * a0_1)) < (wrap64 (a0_0 * a1_1))) = true := dt_ c22
      clear c22
      obtain rfl := Option.some.inj H
      have hnb23 := NB400_401.out
      have hnc23 := NB401_400.out
      have hcz24_0 : wc.cell? ⟨gb400,0,none⟩ = some (.int .i64 a0_0) := (kc_ BK400.out 0).trans rfl
      have hcz24_1 : wc.cell? ⟨gb400,1,none⟩ = some (.int .i64 a0_1) := (kc_ BK400.out 1).trans rfl
      have hfz24_0 := kf_ BK400.out 0
      have hfz24_1 := kf_ BK400.out 1
      have hcz25_0 : wc.cell? ⟨gb401,0,none⟩ = some (.int .i64 a1_0) := (kc_ BK401.out 0).trans rfl
      have hcz25_1 : wc.cell? ⟨gb401,1,none⟩ = some (.int .i64 a1_1) := (kc_ BK401.out 1).trans rfl
      have hfz25_0 := kf_ BK401.out 0
      have hfz25_1 := kf_ BK401.out 1
      go_wp2
      repeat (go_quiet (fail);try go_wp2)
      go_ret
      exact ⟨by first|rfl|(simp [errW_none,errW_some] <;> rfl)|(simp [*,errW_none,errW_some] <;> rfl),by repeat (first|(with_reducible first|exact HB.out|apply ba_|apply pd_|apply d1_|refine bs_ ?_ GE400.out|refine bs_ ?_ GE401.out)|exact HB.out)⟩
     ·rw [if_neg c22] at H
      have c22b0 : decide ((wrap64 (a1_0 * a0_1)) < (wrap64 (a0_0 * a1_1))) = false := df_ c22
      clear c22
      obtain rfl := Option.some.inj H
      have hnb26 := NB400_401.out
      have hnc26 := NB401_400.out
      have hcz27_0 : wc.cell? ⟨gb400,0,none⟩ = some (.int .i64 a0_0) := (kc_ BK400.out 0).trans rfl
      have hcz27_1 : wc.cell? ⟨gb400,1,none⟩ = some (.int .i64 a0_1) := (kc_ BK400.out 1).trans rfl
      have hfz27_0 := kf_ BK400.out 0
      have hfz27_1 := kf_ BK400.out 1
      have hcz28_0 : wc.cell? ⟨gb401,0,none⟩ = some (.int .i64 a1_0) := (kc_ BK401.out 0).trans rfl
      have hcz28_1 : wc.cell? ⟨gb401,1,none⟩ = some (.int .i64 a1_1) := (kc_ BK401.out 1).trans rfl
      have hfz28_0 := kf_ BK401.out 0
      have hfz28_1 := kf_ BK401.out 1
      go_wp2
      repeat (go_quiet (fail);try go_wp2)
      go_ret
      exact ⟨by first|rfl|(simp [errW_none,errW_some] <;> rfl)|(simp [*,errW_none,errW_some] <;> rfl),by repeat (first|(with_reducible first|exact HB.out|apply ba_|apply pd_|apply d1_|refine bs_ ?_ GE400.out|refine bs_ ?_ GE401.out)|exact HB.out)⟩

end Go.Proofs.YtmbdbinbdiiapaaDoor.P
