-- Written by a program of this session (wip/tools/xprint.py, over the kit's print): Lean checks it.
import Derived.Test.YteecpeggnejeaaaDoorPx0
import Derived.Test.YteecpeggnejeaaaDoorPx2
import Derived.Test.YteecpeggnejeaaaDoorPx3
namespace Go.Proofs.YteecpeggnejeaaaDoor.P
open Go.RowKit Go.Proofs.YteecpeggnejeaaaDoorW.PrintWords Go.Proofs.YteecpeggnejeaaaDoorW.PrintLast Go.Proofs.YteecpeggnejeaaaDoorW.PrintMore
attribute [local go_sem] max2_int min2_int max_two min_two max_three min_three max_four min_four   -- for this text's walks alone
set_option linter.unusedVariables false
set_option linter.unusedSimpArgs false

/-! ### box_Apart: function 23 -/
mutual
def box_Apart.l0 : Nat → List (S23) → List (S23) → Int → Int → Option (Int × Int × Bool)
 | 0, _, _, _, _ => none
 | k + 1, x0, x14, x15, x16 => if x16 < x15 then (if 0 ≤ x16 then (if x16 < (x14.length : Int) then ((box_Check.f ((rd_T23 x14 x16).f0) ((rd_T23 x14 x16).f1) ((rd_T23 x14 x16).f2) ((rd_T23 x14 x16).f3)).bind fun t209 => (if t209 = true then (box_Apart.l0 k x0 x14 x15 (wrap64 (x16 + 1))) else (some (0, 0, false)))) else (none)) else (none)) else (box_Apart.l1 k x0 (-1) (-1) (x0.length : Int) 0)
def box_Apart.l1 : Nat → List (S23) → Int → Int → Int → Int → Option (Int × Int × Bool)
 | 0, _, _, _, _, _ => none
 | k + 1, x0, x7, x8, x25, x26 => if x26 < x25 then (box_Apart.l2 k x0 x7 x8 x26 (wrap64 (x26 + 1)) x25 x26) else (some (x7, x8, decide (x7 < 0)))
def box_Apart.l2 : Nat → List (S23) → Int → Int → Int → Int → Int → Int → Option (Int × Int × Bool)
 | 0, _, _, _, _, _, _, _ => none
 | k + 1, x0, x7, x8, x9, x10, x25, x26 => if x10 < (x0.length : Int) then (if 0 ≤ x9 then (if x9 < (x0.length : Int) then (if 0 ≤ x10 then ((box_Meet.f ((rd_T23 x0 x9).f0) ((rd_T23 x0 x9).f1) ((rd_T23 x0 x9).f2) ((rd_T23 x0 x9).f3) ((rd_T23 x0 x10).f0) ((rd_T23 x0 x10).f1) ((rd_T23 x0 x10).f2) ((rd_T23 x0 x10).f3)).bind fun t212 => (if t212 = true then (some (x9, x10, decide (x9 < 0))) else (box_Apart.l2 k x0 x7 x8 x9 (wrap64 (x10 + 1)) x25 x26))) else (none)) else (none)) else (none)) else (box_Apart.l1 k x0 x7 x8 x25 (wrap64 (x26 + 1)))
end
def box_Apart.f (k : Nat) (l0 : List (S23)) : Option (Int × Int × Bool) := if (l0.length : Int) > 4096 then (some (0, 0, false)) else (box_Apart.l0 k l0 l0 (l0.length : Int) 0)
theorem box_Apart.mono_l : ∀ k, (∀ y0 y1 y2 y3, LeO (box_Apart.l0 k y0 y1 y2 y3) (box_Apart.l0 (k + 1) y0 y1 y2 y3)) ∧ (∀ y0 y1 y2 y3 y4, LeO (box_Apart.l1 k y0 y1 y2 y3 y4) (box_Apart.l1 (k + 1) y0 y1 y2 y3 y4)) ∧ (∀ y0 y1 y2 y3 y4 y5 y6, LeO (box_Apart.l2 k y0 y1 y2 y3 y4 y5 y6) (box_Apart.l2 (k + 1) y0 y1 y2 y3 y4 y5 y6))
 | 0 => ⟨fun _ _ _ _ r h => by simp [box_Apart.l0] at h, fun _ _ _ _ _ r h => by simp [box_Apart.l1] at h, fun _ _ _ _ _ _ _ r h => by simp [box_Apart.l2] at h⟩
 | k + 1 => by
  obtain ⟨ih0,ih1,ih2⟩ := box_Apart.mono_l k
  refine ⟨?_,?_,?_⟩
  ·intro y0 y1 y2 y3
   unfold box_Apart.l0
   repeat' first
   | (with_reducible exact ih0 _ _ _ _)
   | (with_reducible exact ih1 _ _ _ _ _)
   | (with_reducible exact ih2 _ _ _ _ _ _ _)
   | (with_reducible exact LeO.refl _)
   | (with_reducible exact LeO.none _)
   | (with_reducible refine LeO.ite ?_ ?_)
   | (with_reducible refine LeO.bind ?_ (fun _ => ?_))
   | exact ih0 _ _ _ _
   | exact ih1 _ _ _ _ _
   | exact ih2 _ _ _ _ _ _ _
   | exact LeO.none _
   | refine LeO.ite ?_ ?_
   | refine LeO.bind ?_ (fun _ => ?_)
  ·intro y0 y1 y2 y3 y4
   unfold box_Apart.l1
   repeat' first
   | (with_reducible exact ih0 _ _ _ _)
   | (with_reducible exact ih1 _ _ _ _ _)
   | (with_reducible exact ih2 _ _ _ _ _ _ _)
   | (with_reducible exact LeO.refl _)
   | (with_reducible exact LeO.none _)
   | (with_reducible refine LeO.ite ?_ ?_)
   | (with_reducible refine LeO.bind ?_ (fun _ => ?_))
   | exact ih0 _ _ _ _
   | exact ih1 _ _ _ _ _
   | exact ih2 _ _ _ _ _ _ _
   | exact LeO.none _
   | refine LeO.ite ?_ ?_
   | refine LeO.bind ?_ (fun _ => ?_)
  ·intro y0 y1 y2 y3 y4 y5 y6
   unfold box_Apart.l2
   repeat' first
   | (with_reducible exact ih0 _ _ _ _)
   | (with_reducible exact ih1 _ _ _ _ _)
   | (with_reducible exact ih2 _ _ _ _ _ _ _)
   | (with_reducible exact LeO.refl _)
   | (with_reducible exact LeO.none _)
   | (with_reducible refine LeO.ite ?_ ?_)
   | (with_reducible refine LeO.bind ?_ (fun _ => ?_))
   | exact ih0 _ _ _ _
   | exact ih1 _ _ _ _ _
   | exact ih2 _ _ _ _ _ _ _
   | exact LeO.none _
   | refine LeO.ite ?_ ?_
   | refine LeO.bind ?_ (fun _ => ?_)
theorem box_Apart.mono : ∀ a0 k, LeO (box_Apart.f k a0) (box_Apart.f (k + 1) a0) := by
 intro a0 k
 obtain ⟨ih0,ih1,ih2⟩ := box_Apart.mono_l k
 unfold box_Apart.f
 repeat' first
   | (with_reducible exact ih0 _ _ _ _)
   | (with_reducible exact ih1 _ _ _ _ _)
   | (with_reducible exact ih2 _ _ _ _ _ _ _)
   | (with_reducible exact LeO.refl _)
   | (with_reducible exact LeO.none _)
   | (with_reducible refine LeO.ite ?_ ?_)
   | (with_reducible refine LeO.bind ?_ (fun _ => ?_))
   | exact ih0 _ _ _ _
   | exact ih1 _ _ _ _ _
   | exact ih2 _ _ _ _ _ _ _
   | exact LeO.none _
   | refine LeO.ite ?_ ?_
   | refine LeO.bind ?_ (fun _ => ?_)
def box_Apart.T16 : Bool × List (List Nat × List Nat) := (true, [([], []), ([], []), ([0, 1], [0, 1]), ([2], [2]), ([], []), ([], []), ([4, 5], [4, 5]), ([6], [6]), ([3, 7], [3, 7])])
def box_Apart.B16 : List Nat := [0, 0, 3, 7, 0, 0, 48, 112, 255]
theorem box_Apart.tab16 : rtab .any (opsOf Tryd.f23 16) = box_Apart.T16 := by kernel_rfl
theorem box_Apart.bits16 : waitsOk box_Apart.T16.2 box_Apart.B16 = true := by kernel_rfl
set_option maxHeartbeats 8000000 in
set_option maxRecDepth 100000 in
theorem box_Apart.calls (k : Nat) (A0 : Option Addr) (c0 : Nat) (l0 : List (S23)) (r1 : Int) (r2 : Int) (r3 : Bool) (w : World) (hr0 : Kd.C k23 w A0 l0.length l0) (hc0 : l0.length ≤ c0) (h : box_Apart.f k l0 = some (r1, r2, r3)) :
  Calls Tryd.prog 23 #[.slice A0 l0.length c0] w fun e w' => e = .returned (.tuple #[.int .i64 r1,.int .i64 r2,.bool r3]) ∧ Below w.heap.size w w' := by
 have hu23 := Tryd.underlying23
 have HR0 := sd_ hr0
 have HC0 := sd_ hc0
 clear hr0 hc0
 have HB := sd_ (Below.refl w.heap.size w)
 have H : (if (l0.length : Int) > 4096 then (some (0,0,false)) else (box_Apart.l0 k l0 l0 (l0.length : Int) 0)) = some (r1,r2,r3) := h
 clear h
 by_cases c2 : (l0.length : Int) > 4096
 ·rw [if_pos c2] at H
  have c2b0 : decide (4096 < (l0.length : Int)) = true := dt_ c2
  have c2b1 : decide (4096 < l0.length) = true := dt_ (by omega)
  clear c2
  simp only [Option.some.injEq,Prod.mk.injEq] at H
  obtain ⟨rfl,rfl,rfl⟩ := H
  go_enter Tryd.func23,Tryd.ntmps23
  try go_step3
  try go_wp2
  repeat (go_step3;try go_wp2)
  try rw [Exit.noGoto_ret]
  go_ret3
  exact ⟨by first|rfl|(simp [errW_none,errW_some] <;> rfl)|(simp [*,errW_none,errW_some] <;> rfl),by repeat (first|(with_reducible first|exact HB.out|apply ba_|apply pd_|apply d1_)|exact HB.out)⟩
 ·rw [if_neg c2] at H
  have c2b0 : decide (4096 < (l0.length : Int)) = false := df_ c2
  have c2b1 : decide (4096 < l0.length) = false := df_ (by omega)
  clear c2
  have H' := sd_ H
  clear H
  go_enter Tryd.func23,Tryd.ntmps23
  try go_step3
  try go_wp2
  repeat (go_step3;try go_wp2)
  go_loopg [16] k (fun kq v16 w' => ∃ (x16_1 : Int),v16 = .int .i64 x16_1 ∧ Aside0 (box_Apart.l0 kq l0 l0 (l0.length : Int) x16_1 = some (r1,r2,r3)) ∧ Aside0 (kq ≤ k) ∧ Aside0 (Below w.heap.size w w'))
  case atStart => exact ⟨(0),(by first|rfl|(simp;done)|(simp [*];done)|(simp [bne];done)),H',⟨Nat.le_refl _⟩,⟨by repeat (first|(with_reducible first|exact HB.out|apply ba_|apply pd_|apply d1_)|exact HB.out)⟩⟩
  case round =>
   clear H'
   try clear c2;try clear c2b0;try clear c2b1;try clear p2
   obtain ⟨x16_1,rfl,HA,HK1,HB⟩ := hrel
   cases gk with
   | zero => exact absurd HA.out (by simp [box_Apart.l0])
   | succ k1 =>
    have H := HA.out
    clear HA
    simp only [box_Apart.l0] at H
    by_cases c3 : x16_1 < (l0.length : Int)
    ·rw [if_pos c3] at H
     have c3b0 : decide (x16_1 < (l0.length : Int)) = true := dt_ c3
     clear c3
     by_cases c4 : 0 ≤ x16_1
     ·rw [if_pos c4] at H
      have c4b0 : decide (0 ≤ x16_1) = true := dt_ c4
      clear c4
      by_cases c5 : x16_1 < (l0.length : Int)
      ·rw [if_pos c5] at H
       have c5b0 : decide (x16_1 < (l0.length : Int)) = true := dt_ c5
       clear c5
       replace H := ob_ H
       obtain ⟨t209,A60,H⟩ := H
       replace H : (if t209 = true then (box_Apart.l0 k1 l0 l0 (l0.length : Int) (wrap64 (x16_1 + 1))) else (some (0,0,false))) = some (r1,r2,r3) := H
       have A6 := sd_ A60
       clear A60
       by_cases c7 : t209 = true
       ·subst c7
        have H1 : (box_Apart.l0 k1 l0 l0 (l0.length : Int) (wrap64 (x16_1 + 1))) = some (r1,r2,r3) := by rw [if_pos rfl] at H;exact H
        clear H;have H := H1;clear H1
        have H' := sd_ H
        clear H
        have p207 : 0 ≤ (x16_1 : Int) := od_ (by first|(with_reducible assumption)|assumption)
        have q207 : x16_1 < (l0.length : Int) := od_ (by first|(with_reducible assumption)|assumption)
        obtain ⟨ad207,e207,hx207_0,hx207_1,hx207_2,hx207_3⟩ := at_T23 HR0.out x16_1 p207 q207
        cases e207
        replace hx207_0 := (HB.out.cell (wb_ w _ hx207_0)).trans hx207_0
        replace hx207_1 := (HB.out.cell (wb_ w _ hx207_1)).trans hx207_1
        replace hx207_2 := (HB.out.cell (wb_ w _ hx207_2)).trans hx207_2
        replace hx207_3 := (HB.out.cell (wb_ w _ hx207_3)).trans hx207_3
        replace p207 := eq_true p207
        replace q207 := eq_true q207
        try go_wp2_with (first|((with_reducible refine gate_dst (N := 6) rfl ?_);refine box_event ?hg (N := 6) ?hd (cs := #[.int .i64 0,.int .i64 0,.int .i64 0,.int .i64 0]) (t := 23) ?hr ?_;(case hd => rfl);(case hg => rfl);(case hr => first|(go_simp;done)|(go_simp;rfl));intro gb208 hg w8 hbox hb;have n0_ := sd_ (bt_ (by repeat (first|(with_reducible first|exact HB.out|apply ba_|apply pd_|apply d1_)|exact HB.out)) hb);have n1_ := sd_ (hbox);have n2_ := sd_ ((by rw [hg];exact (bz_ (by repeat (first|(with_reducible first|exact HB.out|apply ba_|apply pd_|apply d1_)|exact HB.out))) : w.heap.size ≤ gb208));have n3_ := sd_ ((by rw [hg];exact (bz_ (by repeat (first|(with_reducible first|exact HB.out|apply ba_|apply pd_|apply d1_)|exact HB.out))) : w.heap.size ≤ gb208));clear HB;have HB := n0_;have BK208 := n1_;have GW208 := n2_;have GE208 := n3_;clear n0_ n1_ n2_ n3_;clear hb hbox hg;have hcz9_0 : w8.cell? ⟨gb208,0,none⟩ = some (.int .i64 0) := (kc_ BK208.out 0).trans rfl;have hcz9_1 : w8.cell? ⟨gb208,1,none⟩ = some (.int .i64 0) := (kc_ BK208.out 1).trans rfl;have hcz9_2 : w8.cell? ⟨gb208,2,none⟩ = some (.int .i64 0) := (kc_ BK208.out 2).trans rfl;have hcz9_3 : w8.cell? ⟨gb208,3,none⟩ = some (.int .i64 0) := (kc_ BK208.out 3).trans rfl;have hfz9_0 := kf_ BK208.out 0;have hfz9_1 := kf_ BK208.out 1;have hfz9_2 := kf_ BK208.out 2;have hfz9_3 := kf_ BK208.out 3)|((with_reducible refine gate_callee (f := 12) rfl ?_);refine goesL_ (some 21) rfl rfl Tryd.func12 (by kernel_rfl) rfl #[.agg #[.int .i64 ((rd_T23 l0 x16_1).f0),.int .i64 ((rd_T23 l0 x16_1).f1),.int .i64 ((rd_T23 l0 x16_1).f2),.int .i64 ((rd_T23 l0 x16_1).f3)]] rfl (by (try simp only [lm_,lq_,lx_]);first|done|rfl|(simp only [ld_,lt_];rfl)) ?_;(with_reducible refine (box_Check.calls ((rd_T23 l0 x16_1).f0) ((rd_T23 l0 x16_1).f1) ((rd_T23 l0 x16_1).f2) ((rd_T23 l0 x16_1).f3) true _ A6.out).mono ?_);rintro e w10 ⟨rfl,hb⟩;refine ⟨_,rfl,?_⟩;have n0_ := sd_ (blk_below (g := gb208) (o := .cells #[.int .i64 ((rd_T23 l0 x16_1).f0),.int .i64 ((rd_T23 l0 x16_1).f1),.int .i64 ((rd_T23 l0 x16_1).f2),.int .i64 ((rd_T23 l0 x16_1).f3)] 23 (0,0)) (by (with_reducible repeat first|apply kn_|apply kd_|apply ka_);refine blk_put (cs := #[.int .i64 ((rd_T23 l0 x16_1).f0),.int .i64 ((rd_T23 l0 x16_1).f1),.int .i64 ((rd_T23 l0 x16_1).f2),.int .i64 0]) ?_ 3 _ rfl;(with_reducible repeat first|apply kn_|apply kd_|apply ka_);refine blk_put (cs := #[.int .i64 ((rd_T23 l0 x16_1).f0),.int .i64 ((rd_T23 l0 x16_1).f1),.int .i64 0,.int .i64 0]) ?_ 2 _ rfl;(with_reducible repeat first|apply kn_|apply kd_|apply ka_);refine blk_put (cs := #[.int .i64 ((rd_T23 l0 x16_1).f0),.int .i64 0,.int .i64 0,.int .i64 0]) ?_ 1 _ rfl;(with_reducible repeat first|apply kn_|apply kd_|apply ka_);refine blk_put (cs := #[.int .i64 0,.int .i64 0,.int .i64 0,.int .i64 0]) ?_ 0 _ rfl;(with_reducible repeat first|apply kn_|apply kd_|apply ka_);exact BK208.out) hb);have n1_ := sd_ (bt_ (by repeat (first|(with_reducible first|exact HB.out|apply ba_|apply pd_|apply d1_|refine bs_ ?_ GE208.out)|exact HB.out)) hb);clear BK208;clear HB;have BK208 := n0_;have HB := n1_;clear n0_ n1_;(try clear hb);(try clear hb2);(try clear hk);(try clear hi)))
        repeat (go_step3;try go_wp2_with (first|((with_reducible refine gate_dst (N := 6) rfl ?_);refine box_event ?hg (N := 6) ?hd (cs := #[.int .i64 0,.int .i64 0,.int .i64 0,.int .i64 0]) (t := 23) ?hr ?_;(case hd => rfl);(case hg => rfl);(case hr => first|(go_simp;done)|(go_simp;rfl));intro gb208 hg w8 hbox hb;have n0_ := sd_ (bt_ (by repeat (first|(with_reducible first|exact HB.out|apply ba_|apply pd_|apply d1_)|exact HB.out)) hb);have n1_ := sd_ (hbox);have n2_ := sd_ ((by rw [hg];exact (bz_ (by repeat (first|(with_reducible first|exact HB.out|apply ba_|apply pd_|apply d1_)|exact HB.out))) : w.heap.size ≤ gb208));have n3_ := sd_ ((by rw [hg];exact (bz_ (by repeat (first|(with_reducible first|exact HB.out|apply ba_|apply pd_|apply d1_)|exact HB.out))) : w.heap.size ≤ gb208));clear HB;have HB := n0_;have BK208 := n1_;have GW208 := n2_;have GE208 := n3_;clear n0_ n1_ n2_ n3_;clear hb hbox hg;have hcz9_0 : w8.cell? ⟨gb208,0,none⟩ = some (.int .i64 0) := (kc_ BK208.out 0).trans rfl;have hcz9_1 : w8.cell? ⟨gb208,1,none⟩ = some (.int .i64 0) := (kc_ BK208.out 1).trans rfl;have hcz9_2 : w8.cell? ⟨gb208,2,none⟩ = some (.int .i64 0) := (kc_ BK208.out 2).trans rfl;have hcz9_3 : w8.cell? ⟨gb208,3,none⟩ = some (.int .i64 0) := (kc_ BK208.out 3).trans rfl;have hfz9_0 := kf_ BK208.out 0;have hfz9_1 := kf_ BK208.out 1;have hfz9_2 := kf_ BK208.out 2;have hfz9_3 := kf_ BK208.out 3)|((with_reducible refine gate_callee (f := 12) rfl ?_);refine goesL_ (some 21) rfl rfl Tryd.func12 (by kernel_rfl) rfl #[.agg #[.int .i64 ((rd_T23 l0 x16_1).f0),.int .i64 ((rd_T23 l0 x16_1).f1),.int .i64 ((rd_T23 l0 x16_1).f2),.int .i64 ((rd_T23 l0 x16_1).f3)]] rfl (by (try simp only [lm_,lq_,lx_]);first|done|rfl|(simp only [ld_,lt_];rfl)) ?_;(with_reducible refine (box_Check.calls ((rd_T23 l0 x16_1).f0) ((rd_T23 l0 x16_1).f1) ((rd_T23 l0 x16_1).f2) ((rd_T23 l0 x16_1).f3) true _ A6.out).mono ?_);rintro e w10 ⟨rfl,hb⟩;refine ⟨_,rfl,?_⟩;have n0_ := sd_ (blk_below (g := gb208) (o := .cells #[.int .i64 ((rd_T23 l0 x16_1).f0),.int .i64 ((rd_T23 l0 x16_1).f1),.int .i64 ((rd_T23 l0 x16_1).f2),.int .i64 ((rd_T23 l0 x16_1).f3)] 23 (0,0)) (by (with_reducible repeat first|apply kn_|apply kd_|apply ka_);refine blk_put (cs := #[.int .i64 ((rd_T23 l0 x16_1).f0),.int .i64 ((rd_T23 l0 x16_1).f1),.int .i64 ((rd_T23 l0 x16_1).f2),.int .i64 0]) ?_ 3 _ rfl;(with_reducible repeat first|apply kn_|apply kd_|apply ka_);refine blk_put (cs := #[.int .i64 ((rd_T23 l0 x16_1).f0),.int .i64 ((rd_T23 l0 x16_1).f1),.int .i64 0,.int .i64 0]) ?_ 2 _ rfl;(with_reducible repeat first|apply kn_|apply kd_|apply ka_);refine blk_put (cs := #[.int .i64 ((rd_T23 l0 x16_1).f0),.int .i64 0,.int .i64 0,.int .i64 0]) ?_ 1 _ rfl;(with_reducible repeat first|apply kn_|apply kd_|apply ka_);refine blk_put (cs := #[.int .i64 0,.int .i64 0,.int .i64 0,.int .i64 0]) ?_ 0 _ rfl;(with_reducible repeat first|apply kn_|apply kd_|apply ka_);exact BK208.out) hb);have n1_ := sd_ (bt_ (by repeat (first|(with_reducible first|exact HB.out|apply ba_|apply pd_|apply d1_|refine bs_ ?_ GE208.out)|exact HB.out)) hb);clear BK208;clear HB;have BK208 := n0_;have HB := n1_;clear n0_ n1_;(try clear hb);(try clear hb2);(try clear hk);(try clear hi))))
        go_roundg k1
        case measure => have := HK1.out;omega
        case rel => exact ⟨(wrap64 (x16_1 + 1)),(by first|rfl|(simp;done)|(simp [*];done)|(simp [bne];done)),H',⟨by have := HK1.out;omega⟩,⟨by repeat (first|(with_reducible first|exact HB.out|apply ba_|apply pd_|apply d1_|refine bs_ ?_ GE208.out)|exact HB.out)⟩⟩
       ·replace c7 := bf_ c7
        subst c7
        have H1 : (some (0,0,false)) = some (r1,r2,r3) := by rw [if_neg (show ¬ (false = true) by decide)] at H;exact H
        clear H;have H := H1;clear H1
        simp only [Option.some.injEq,Prod.mk.injEq] at H
        obtain ⟨rfl,rfl,rfl⟩ := H
        have p207 : 0 ≤ (x16_1 : Int) := od_ (by first|(with_reducible assumption)|assumption)
        have q207 : x16_1 < (l0.length : Int) := od_ (by first|(with_reducible assumption)|assumption)
        obtain ⟨ad207,e207,hx207_0,hx207_1,hx207_2,hx207_3⟩ := at_T23 HR0.out x16_1 p207 q207
        cases e207
        replace hx207_0 := (HB.out.cell (wb_ w _ hx207_0)).trans hx207_0
        replace hx207_1 := (HB.out.cell (wb_ w _ hx207_1)).trans hx207_1
        replace hx207_2 := (HB.out.cell (wb_ w _ hx207_2)).trans hx207_2
        replace hx207_3 := (HB.out.cell (wb_ w _ hx207_3)).trans hx207_3
        replace p207 := eq_true p207
        replace q207 := eq_true q207
        try go_wp2_with (first|((with_reducible refine gate_dst (N := 6) rfl ?_);refine box_event ?hg (N := 6) ?hd (cs := #[.int .i64 0,.int .i64 0,.int .i64 0,.int .i64 0]) (t := 23) ?hr ?_;(case hd => rfl);(case hg => rfl);(case hr => first|(go_simp;done)|(go_simp;rfl));intro gb208 hg w11 hbox hb;have n0_ := sd_ (bt_ (by repeat (first|(with_reducible first|exact HB.out|apply ba_|apply pd_|apply d1_)|exact HB.out)) hb);have n1_ := sd_ (hbox);have n2_ := sd_ ((by rw [hg];exact (bz_ (by repeat (first|(with_reducible first|exact HB.out|apply ba_|apply pd_|apply d1_)|exact HB.out))) : w.heap.size ≤ gb208));have n3_ := sd_ ((by rw [hg];exact (bz_ (by repeat (first|(with_reducible first|exact HB.out|apply ba_|apply pd_|apply d1_)|exact HB.out))) : w.heap.size ≤ gb208));clear HB;have HB := n0_;have BK208 := n1_;have GW208 := n2_;have GE208 := n3_;clear n0_ n1_ n2_ n3_;clear hb hbox hg;have hcz12_0 : w11.cell? ⟨gb208,0,none⟩ = some (.int .i64 0) := (kc_ BK208.out 0).trans rfl;have hcz12_1 : w11.cell? ⟨gb208,1,none⟩ = some (.int .i64 0) := (kc_ BK208.out 1).trans rfl;have hcz12_2 : w11.cell? ⟨gb208,2,none⟩ = some (.int .i64 0) := (kc_ BK208.out 2).trans rfl;have hcz12_3 : w11.cell? ⟨gb208,3,none⟩ = some (.int .i64 0) := (kc_ BK208.out 3).trans rfl;have hfz12_0 := kf_ BK208.out 0;have hfz12_1 := kf_ BK208.out 1;have hfz12_2 := kf_ BK208.out 2;have hfz12_3 := kf_ BK208.out 3)|((with_reducible refine gate_callee (f := 12) rfl ?_);refine goesL_ (some 21) rfl rfl Tryd.func12 (by kernel_rfl) rfl #[.agg #[.int .i64 ((rd_T23 l0 x16_1).f0),.int .i64 ((rd_T23 l0 x16_1).f1),.int .i64 ((rd_T23 l0 x16_1).f2),.int .i64 ((rd_T23 l0 x16_1).f3)]] rfl (by (try simp only [lm_,lq_,lx_]);first|done|rfl|(simp only [ld_,lt_];rfl)) ?_;(with_reducible refine (box_Check.calls ((rd_T23 l0 x16_1).f0) ((rd_T23 l0 x16_1).f1) ((rd_T23 l0 x16_1).f2) ((rd_T23 l0 x16_1).f3) false _ A6.out).mono ?_);rintro e w13 ⟨rfl,hb⟩;refine ⟨_,rfl,?_⟩;have n0_ := sd_ (blk_below (g := gb208) (o := .cells #[.int .i64 ((rd_T23 l0 x16_1).f0),.int .i64 ((rd_T23 l0 x16_1).f1),.int .i64 ((rd_T23 l0 x16_1).f2),.int .i64 ((rd_T23 l0 x16_1).f3)] 23 (0,0)) (by (with_reducible repeat first|apply kn_|apply kd_|apply ka_);refine blk_put (cs := #[.int .i64 ((rd_T23 l0 x16_1).f0),.int .i64 ((rd_T23 l0 x16_1).f1),.int .i64 ((rd_T23 l0 x16_1).f2),.int .i64 0]) ?_ 3 _ rfl;(with_reducible repeat first|apply kn_|apply kd_|apply ka_);refine blk_put (cs := #[.int .i64 ((rd_T23 l0 x16_1).f0),.int .i64 ((rd_T23 l0 x16_1).f1),.int .i64 0,.int .i64 0]) ?_ 2 _ rfl;(with_reducible repeat first|apply kn_|apply kd_|apply ka_);refine blk_put (cs := #[.int .i64 ((rd_T23 l0 x16_1).f0),.int .i64 0,.int .i64 0,.int .i64 0]) ?_ 1 _ rfl;(with_reducible repeat first|apply kn_|apply kd_|apply ka_);refine blk_put (cs := #[.int .i64 0,.int .i64 0,.int .i64 0,.int .i64 0]) ?_ 0 _ rfl;(with_reducible repeat first|apply kn_|apply kd_|apply ka_);exact BK208.out) hb);have n1_ := sd_ (bt_ (by repeat (first|(with_reducible first|exact HB.out|apply ba_|apply pd_|apply d1_|refine bs_ ?_ GE208.out)|exact HB.out)) hb);clear BK208;clear HB;have BK208 := n0_;have HB := n1_;clear n0_ n1_;(try clear hb);(try clear hb2);(try clear hk);(try clear hi)))
        repeat (go_step3;try go_wp2_with (first|((with_reducible refine gate_dst (N := 6) rfl ?_);refine box_event ?hg (N := 6) ?hd (cs := #[.int .i64 0,.int .i64 0,.int .i64 0,.int .i64 0]) (t := 23) ?hr ?_;(case hd => rfl);(case hg => rfl);(case hr => first|(go_simp;done)|(go_simp;rfl));intro gb208 hg w11 hbox hb;have n0_ := sd_ (bt_ (by repeat (first|(with_reducible first|exact HB.out|apply ba_|apply pd_|apply d1_)|exact HB.out)) hb);have n1_ := sd_ (hbox);have n2_ := sd_ ((by rw [hg];exact (bz_ (by repeat (first|(with_reducible first|exact HB.out|apply ba_|apply pd_|apply d1_)|exact HB.out))) : w.heap.size ≤ gb208));have n3_ := sd_ ((by rw [hg];exact (bz_ (by repeat (first|(with_reducible first|exact HB.out|apply ba_|apply pd_|apply d1_)|exact HB.out))) : w.heap.size ≤ gb208));clear HB;have HB := n0_;have BK208 := n1_;have GW208 := n2_;have GE208 := n3_;clear n0_ n1_ n2_ n3_;clear hb hbox hg;have hcz12_0 : w11.cell? ⟨gb208,0,none⟩ = some (.int .i64 0) := (kc_ BK208.out 0).trans rfl;have hcz12_1 : w11.cell? ⟨gb208,1,none⟩ = some (.int .i64 0) := (kc_ BK208.out 1).trans rfl;have hcz12_2 : w11.cell? ⟨gb208,2,none⟩ = some (.int .i64 0) := (kc_ BK208.out 2).trans rfl;have hcz12_3 : w11.cell? ⟨gb208,3,none⟩ = some (.int .i64 0) := (kc_ BK208.out 3).trans rfl;have hfz12_0 := kf_ BK208.out 0;have hfz12_1 := kf_ BK208.out 1;have hfz12_2 := kf_ BK208.out 2;have hfz12_3 := kf_ BK208.out 3)|((with_reducible refine gate_callee (f := 12) rfl ?_);refine goesL_ (some 21) rfl rfl Tryd.func12 (by kernel_rfl) rfl #[.agg #[.int .i64 ((rd_T23 l0 x16_1).f0),.int .i64 ((rd_T23 l0 x16_1).f1),.int .i64 ((rd_T23 l0 x16_1).f2),.int .i64 ((rd_T23 l0 x16_1).f3)]] rfl (by (try simp only [lm_,lq_,lx_]);first|done|rfl|(simp only [ld_,lt_];rfl)) ?_;(with_reducible refine (box_Check.calls ((rd_T23 l0 x16_1).f0) ((rd_T23 l0 x16_1).f1) ((rd_T23 l0 x16_1).f2) ((rd_T23 l0 x16_1).f3) false _ A6.out).mono ?_);rintro e w13 ⟨rfl,hb⟩;refine ⟨_,rfl,?_⟩;have n0_ := sd_ (blk_below (g := gb208) (o := .cells #[.int .i64 ((rd_T23 l0 x16_1).f0),.int .i64 ((rd_T23 l0 x16_1).f1),.int .i64 ((rd_T23 l0 x16_1).f2),.int .i64 ((rd_T23 l0 x16_1).f3)] 23 (0,0)) (by (with_reducible repeat first|apply kn_|apply kd_|apply ka_);refine blk_put (cs := #[.int .i64 ((rd_T23 l0 x16_1).f0),.int .i64 ((rd_T23 l0 x16_1).f1),.int .i64 ((rd_T23 l0 x16_1).f2),.int .i64 0]) ?_ 3 _ rfl;(with_reducible repeat first|apply kn_|apply kd_|apply ka_);refine blk_put (cs := #[.int .i64 ((rd_T23 l0 x16_1).f0),.int .i64 ((rd_T23 l0 x16_1).f1),.int .i64 0,.int .i64 0]) ?_ 2 _ rfl;(with_reducible repeat first|apply kn_|apply kd_|apply ka_);refine blk_put (cs := #[.int .i64 ((rd_T23 l0 x16_1).f0),.int .i64 0,.int .i64 0,.int .i64 0]) ?_ 1 _ rfl;(with_reducible repeat first|apply kn_|apply kd_|apply ka_);refine blk_put (cs := #[.int .i64 0,.int .i64 0,.int .i64 0,.int .i64 0]) ?_ 0 _ rfl;(with_reducible repeat first|apply kn_|apply kd_|apply ka_);exact BK208.out) hb);have n1_ := sd_ (bt_ (by repeat (first|(with_reducible first|exact HB.out|apply ba_|apply pd_|apply d1_|refine bs_ ?_ GE208.out)|exact HB.out)) hb);clear BK208;clear HB;have BK208 := n0_;have HB := n1_;clear n0_ n1_;(try clear hb);(try clear hb2);(try clear hk);(try clear hi))))
        try rw [Exit.noGoto_ret]
        go_ret3
        exact ⟨by first|rfl|(simp [errW_none,errW_some] <;> rfl)|(simp [*,errW_none,errW_some] <;> rfl),by repeat (first|(with_reducible first|exact HB.out|apply ba_|apply pd_|apply d1_|refine bs_ ?_ GE208.out)|exact HB.out)⟩
      ·rw [if_neg c5] at H
       exact absurd H (by simp)
     ·rw [if_neg c4] at H
      exact absurd H (by simp)
    ·rw [if_neg c3] at H
     have c3b0 : decide (x16_1 < (l0.length : Int)) = false := df_ c3
     clear c3
     have H' := sd_ H
     clear H
     try go_wp2
     repeat (go_step3;try go_wp2)
     go_loopg [7,8,26] k1 (fun kq v7 v8 v26 w' => ∃ (x7_2 : Int) (x8_2 : Int) (x26_2 : Int),v7 = .int .i64 x7_2 ∧ v8 = .int .i64 x8_2 ∧ v26 = .int .i64 x26_2 ∧ Aside0 (box_Apart.l1 kq l0 x7_2 x8_2 (l0.length : Int) x26_2 = some (r1,r2,r3)) ∧ Aside0 (kq ≤ k1) ∧ Aside0 (Below w.heap.size w w'))
     case atStart => exact ⟨((-1)),((-1)),(0),(by first|rfl|(simp;done)|(simp [*];done)|(simp [bne];done)),(by first|rfl|(simp;done)|(simp [*];done)|(simp [bne];done)),(by first|rfl|(simp;done)|(simp [*];done)|(simp [bne];done)),H',⟨Nat.le_refl _⟩,⟨by repeat (first|(with_reducible first|exact HB.out|apply ba_|apply pd_|apply d1_)|exact HB.out)⟩⟩
     case round =>
      clear H'
      try clear c1;try clear c2;try clear c2b0;try clear c2b1;try clear p2;try clear q2;try clear hx2;try clear c3;try clear c3b0;try clear p3;try clear c4;try clear c4b0;try clear c5;try clear c5b0;try clear p6;try clear c7;try clear c12;try clear hcz12_0;try clear hcz12_1;try clear hcz12_2;try clear hcz12_3;try clear hcz9_0;try clear hcz9_1;try clear hcz9_2;try clear hcz9_3;try clear hfz12_0;try clear hfz12_1;try clear hfz12_2;try clear hfz12_3;try clear hfz9_0;try clear hfz9_1;try clear hfz9_2;try clear hfz9_3;try clear hx207_0;try clear hx207_1;try clear hx207_2;try clear hx207_3;try clear p2;try clear p207;try clear q207
      obtain ⟨x7_2,x8_2,x26_2,rfl,rfl,rfl,HA,HK2,HB⟩ := hrel
      cases gk with
      | zero => exact absurd HA.out (by simp [box_Apart.l1])
      | succ k2 =>
       have H := HA.out
       clear HA
       simp only [box_Apart.l1] at H
       by_cases c14 : x26_2 < (l0.length : Int)
       ·rw [if_pos c14] at H
        have c14b0 : decide (x26_2 < (l0.length : Int)) = true := dt_ c14
        clear c14
        have H' := sd_ H
        clear H
        try go_wp2
        repeat (go_step3;try go_wp2)
        go_loopg [7,8,10] k2 (fun kq v7 v8 v10 w' => ∃ (x7_3 : Int) (x8_3 : Int) (x10_3 : Int),v7 = .int .i64 x7_3 ∧ v8 = .int .i64 x8_3 ∧ v10 = .int .i64 x10_3 ∧ Aside0 (box_Apart.l2 kq l0 x7_3 x8_3 x26_2 x10_3 (l0.length : Int) x26_2 = some (r1,r2,r3)) ∧ Aside0 (kq ≤ k2) ∧ Aside0 (Below w.heap.size w w'))
        case atStart => exact ⟨(x7_2),(x8_2),(wrap64 (x26_2 + 1)),(by first|rfl|(simp;done)|(simp [*];done)|(simp [bne];done)),(by first|rfl|(simp;done)|(simp [*];done)|(simp [bne];done)),(by first|rfl|(simp;done)|(simp [*];done)|(simp [bne];done)),H',⟨Nat.le_refl _⟩,⟨by repeat (first|(with_reducible first|exact HB.out|apply ba_|apply pd_|apply d1_)|exact HB.out)⟩⟩
        case round =>
         clear H'
         try clear c1;try clear c2;try clear c2b0;try clear c2b1;try clear p2;try clear q2;try clear hx2;try clear c3;try clear c3b0;try clear p3;try clear c4;try clear c4b0;try clear c5;try clear c5b0;try clear p6;try clear c7;try clear c12;try clear c14;try clear c14b0;try clear hcz12_0;try clear hcz12_1;try clear hcz12_2;try clear hcz12_3;try clear hcz9_0;try clear hcz9_1;try clear hcz9_2;try clear hcz9_3;try clear hfz12_0;try clear hfz12_1;try clear hfz12_2;try clear hfz12_3;try clear hfz9_0;try clear hfz9_1;try clear hfz9_2;try clear hfz9_3;try clear hx207_0;try clear hx207_1;try clear hx207_2;try clear hx207_3;try clear p2;try clear p207;try clear p3;try clear p6;try clear q2;try clear q207
         obtain ⟨x7_3,x8_3,x10_3,rfl,rfl,rfl,HA,HK3,HB⟩ := hrel
         cases gk with
         | zero => exact absurd HA.out (by simp [box_Apart.l2])
         | succ k3 =>
          have H := HA.out
          clear HA
          simp only [box_Apart.l2] at H
          by_cases c15 : x10_3 < (l0.length : Int)
          ·rw [if_pos c15] at H
           have c15b0 : decide (x10_3 < (l0.length : Int)) = true := dt_ c15
           clear c15
           by_cases c16 : 0 ≤ x26_2
           ·rw [if_pos c16] at H
            have c16b0 : decide (0 ≤ x26_2) = true := dt_ c16
            clear c16
            by_cases c17 : x26_2 < (l0.length : Int)
            ·rw [if_pos c17] at H
             have c17b0 : decide (x26_2 < (l0.length : Int)) = true := dt_ c17
             clear c17
             by_cases c18 : 0 ≤ x10_3
             ·rw [if_pos c18] at H
              have c18b0 : decide (0 ≤ x10_3) = true := dt_ c18
              clear c18
              replace H := ob_ H
              obtain ⟨t212,A190,H⟩ := H
              replace H : (if t212 = true then (some (x26_2,x10_3,decide (x26_2 < 0))) else (box_Apart.l2 k3 l0 x7_3 x8_3 x26_2 (wrap64 (x10_3 + 1)) (l0.length : Int) x26_2)) = some (r1,r2,r3) := H
              have A19 := sd_ A190
              clear A190
              by_cases c20 : t212 = true
              ·subst c20
               have H1 : (some (x26_2,x10_3,decide (x26_2 < 0))) = some (r1,r2,r3) := by rw [if_pos rfl] at H;exact H
               clear H;have H := H1;clear H1
               simp only [Option.some.injEq,Prod.mk.injEq] at H
               obtain ⟨rfl,rfl,rfl⟩ := H
               try go_wp2
               repeat (go_step3;try go_wp2)
               have n0_ := sd_ (d1_ HB.out)
               clear HB
               have HB := n0_
               clear n0_
               have p210 : 0 ≤ (x26_2 : Int) := od_ (by first|(with_reducible assumption)|assumption)
               have q210 : x26_2 < (l0.length : Int) := od_ (by first|(with_reducible assumption)|assumption)
               obtain ⟨ad210,e210,hx210_0,hx210_1,hx210_2,hx210_3⟩ := at_T23 HR0.out x26_2 p210 q210
               have hw210_3 := hx210_3
               have hw210_2 := hx210_2
               have hw210_1 := hx210_1
               have hw210_0 := hx210_0
               cases e210
               replace hx210_0 := (HB.out.cell (wb_ w _ hx210_0)).trans hx210_0
               replace hx210_1 := (HB.out.cell (wb_ w _ hx210_1)).trans hx210_1
               replace hx210_2 := (HB.out.cell (wb_ w _ hx210_2)).trans hx210_2
               replace hx210_3 := (HB.out.cell (wb_ w _ hx210_3)).trans hx210_3
               replace p210 := eq_true p210
               replace q210 := eq_true q210
               have p211 : 0 ≤ (x10_3 : Int) := od_ (by first|(with_reducible assumption)|assumption)
               have q211 : x10_3 < (l0.length : Int) := od_ (by first|(with_reducible assumption)|assumption)
               obtain ⟨ad211,e211,hx211_0,hx211_1,hx211_2,hx211_3⟩ := at_T23 HR0.out x10_3 p211 q211
               have hw211_3 := hx211_3
               have hw211_2 := hx211_2
               have hw211_1 := hx211_1
               have hw211_0 := hx211_0
               obtain rfl : ad210 = ad211 := (by injection e211)
               replace hx211_0 := (HB.out.cell (wb_ w _ hx211_0)).trans hx211_0
               replace hx211_1 := (HB.out.cell (wb_ w _ hx211_1)).trans hx211_1
               replace hx211_2 := (HB.out.cell (wb_ w _ hx211_2)).trans hx211_2
               replace hx211_3 := (HB.out.cell (wb_ w _ hx211_3)).trans hx211_3
               replace p211 := eq_true p211
               replace q211 := eq_true q211
               refine start_ (n := 9) (S := fun w' => w'.cell? (ad210.add ((x26_2).toNat * 4)) = some (.int .i64 ((rd_T23 l0 x26_2).f0)) ∧ w'.cell? ⟨(ad210.add ((x26_2).toNat * 4)).block,(ad210.add ((x26_2).toNat * 4)).off + 1,none⟩ = some (.int .i64 ((rd_T23 l0 x26_2).f1)) ∧ w'.cell? ⟨(ad210.add ((x26_2).toNat * 4)).block,(ad210.add ((x26_2).toNat * 4)).off + 2,none⟩ = some (.int .i64 ((rd_T23 l0 x26_2).f2)) ∧ w'.cell? ⟨(ad210.add ((x26_2).toNat * 4)).block,(ad210.add ((x26_2).toNat * 4)).off + 3,none⟩ = some (.int .i64 ((rd_T23 l0 x26_2).f3)) ∧ w'.cell? (ad210.add ((x10_3).toNat * 4)) = some (.int .i64 ((rd_T23 l0 x10_3).f0)) ∧ w'.cell? ⟨(ad210.add ((x10_3).toNat * 4)).block,(ad210.add ((x10_3).toNat * 4)).off + 1,none⟩ = some (.int .i64 ((rd_T23 l0 x10_3).f1)) ∧ w'.cell? ⟨(ad210.add ((x10_3).toNat * 4)).block,(ad210.add ((x10_3).toNat * 4)).off + 2,none⟩ = some (.int .i64 ((rd_T23 l0 x10_3).f2)) ∧ w'.cell? ⟨(ad210.add ((x10_3).toNat * 4)).block,(ad210.add ((x10_3).toNat * 4)).off + 3,none⟩ = some (.int .i64 ((rd_T23 l0 x10_3).f3))) (ds := []) #[false,false,false,false,false,false,false,false,false] (by kernel_rfl) rfl rfl ⟨((HB.out.cell (wb_ w _ hw210_0)).trans hw210_0),((HB.out.cell (wb_ w _ hw210_1)).trans hw210_1),((HB.out.cell (wb_ w _ hw210_2)).trans hw210_2),((HB.out.cell (wb_ w _ hw210_3)).trans hw210_3),((HB.out.cell (wb_ w _ hw211_0)).trans hw211_0),((HB.out.cell (wb_ w _ hw211_1)).trans hw211_1),((HB.out.cell (wb_ w _ hw211_2)).trans hw211_2),((HB.out.cell (wb_ w _ hw211_3)).trans hw211_3)⟩ (fun hHeld => ?_);refine with_tabW box_Apart.tab16 box_Apart.bits16 (fun HT_ HW_ => ?_)
               generalize wr.drew = w21 at HB hx210_0 hx210_1 hx210_2 hx210_3 hx211_0 hx211_1 hx211_2 hx211_3 hHeld ⊢
               refine pure_ (i := 0) (N := some 37) (v := ?_) (a' := ?_) #[true,false,false,false,false,false,false,false,false] rfl rfl (any_of HT_.out (by kernel_rfl)) (fun _ _ _ h => h) (Or.inl ⟨by rfl,?_⟩) ?_ ?_
               rotate_left;(intro w';go_simp;with_reducible rfl);rotate_left;(simp only [Act.put,ls_,lz_,lc_,i64_w,i32_w];rfl)
               refine pure_ (i := 1) (N := some 38) (v := ?_) (a' := ?_) #[true,true,false,false,false,false,false,false,false] rfl rfl (any_of HT_.out (by kernel_rfl)) (fun _ _ _ h => h) (Or.inl ⟨by rfl,?_⟩) ?_ ?_
               rotate_left;(intro w';go_simp;with_reducible rfl);rotate_left;(simp only [Act.put,ls_,lz_,lc_,i64_w,i32_w];rfl)
               refine pure_ (i := 2) (N := some 39) (v := ?_) (a' := ?_) #[true,true,true,false,false,false,false,false,false] rfl rfl (any_of HT_.out (by kernel_rfl)) (fun _ _ _ h => h) (Or.inl ⟨by rfl,?_⟩) ?_ ?_
               rotate_left;(intro w';go_simp;with_reducible rfl);rotate_left;(simp only [Act.put,ls_,lz_,lc_,i64_w,i32_w];rfl)
               refine pure_ (i := 4) (N := some 41) (v := ?_) (a' := ?_) #[true,true,true,false,true,false,false,false,false] rfl rfl (any_of HT_.out (by kernel_rfl)) (fun _ _ _ h => h) (Or.inl ⟨by rfl,?_⟩) ?_ ?_
               rotate_left;(intro w';go_simp;with_reducible rfl);rotate_left;(simp only [Act.put,ls_,lz_,lc_,i64_w,i32_w];rfl)
               refine pure_ (i := 5) (N := some 42) (v := ?_) (a' := ?_) #[true,true,true,false,true,true,false,false,false] rfl rfl (any_of HT_.out (by kernel_rfl)) (fun _ _ _ h => h) (Or.inl ⟨by rfl,?_⟩) ?_ ?_
               rotate_left;(intro w';go_simp;with_reducible rfl);rotate_left;(simp only [Act.put,ls_,lz_,lc_,i64_w,i32_w];rfl)
               refine pure_ (i := 6) (N := some 43) (v := ?_) (a' := ?_) #[true,true,true,false,true,true,true,false,false] rfl rfl (any_of HT_.out (by kernel_rfl)) (fun _ _ _ h => h) (Or.inl ⟨by rfl,?_⟩) ?_ ?_
               rotate_left;(intro w';go_simp;with_reducible rfl);rotate_left;(simp only [Act.put,ls_,lz_,lc_,i64_w,i32_w];rfl)
               refine take_ (i := 3) (N := some 40) (v := ?_) (a' := ?_) #[true,true,true,true,true,true,true,false,false] rfl rfl (take_ofW HT_.out HW_.out (by kernel_rfl)) (fun _ _ _ h => h) (Or.inl ⟨by rfl,?_⟩) hHeld ?_ ?_
               rotate_left
               ·rintro w' ⟨s0,s1,s2,s3,s4,s5,s6,s7⟩
                go_simp
                with_reducible rfl
               rotate_left
               ·simp only [Act.put,ls_,lz_,lc_,i64_w,i32_w]
                rfl
               refine take_ (i := 7) (N := some 44) (v := ?_) (a' := ?_) #[true,true,true,true,true,true,true,true,false] rfl rfl (take_ofW HT_.out HW_.out (by kernel_rfl)) (fun _ _ _ h => h) (Or.inl ⟨by rfl,?_⟩) hHeld ?_ ?_
               rotate_left
               ·rintro w' ⟨s0,s1,s2,s3,s4,s5,s6,s7⟩
                go_simp
                with_reducible rfl
               rotate_left
               ·simp only [Act.put,ls_,lz_,lc_,i64_w,i32_w]
                rfl
               refine one_ (i := 8) (N := some 45) #[true,true,true,true,true,true,true,true,true] rfl rfl (one_of HT_.out (by kernel_rfl)) (by decide) (fun K hK => ?_)
               refine goes_ Tryd.func16 (by kernel_rfl) rfl #[.agg #[.int .i64 ((rd_T23 l0 x26_2).f0),.int .i64 ((rd_T23 l0 x26_2).f1),.int .i64 ((rd_T23 l0 x26_2).f2),.int .i64 ((rd_T23 l0 x26_2).f3)],.agg #[.int .i64 ((rd_T23 l0 x10_3).f0),.int .i64 ((rd_T23 l0 x10_3).f1),.int .i64 ((rd_T23 l0 x10_3).f2),.int .i64 ((rd_T23 l0 x10_3).f3)]] (by rfl) rfl rfl (by (try simp only [lm_,lq_,lx_]);first|done|rfl|(simp only [ld_,lt_];rfl)) ?_
               with_reducible refine (box_Meet.calls ((rd_T23 l0 x26_2).f0) ((rd_T23 l0 x26_2).f1) ((rd_T23 l0 x26_2).f2) ((rd_T23 l0 x26_2).f3) ((rd_T23 l0 x10_3).f0) ((rd_T23 l0 x10_3).f1) ((rd_T23 l0 x10_3).f2) ((rd_T23 l0 x10_3).f3) true _ A19.out).mono ?_
               rintro e w22 ⟨rfl,hb⟩
               refine ⟨_,rfl,?_⟩
               have n0_ := sd_ (bt_ (by repeat (first|(with_reducible first|exact HB.out|apply ba_|apply pd_|apply d1_)|exact HB.out)) hb)
               clear HB
               have HB := n0_
               clear n0_
               (try clear hb)
               (try clear hb2)
               (try clear hk)
               (try clear hi)
               refine hK.out _ _ ⟨((HB.out.cell (wb_ w _ hw210_0)).trans hw210_0),((HB.out.cell (wb_ w _ hw210_1)).trans hw210_1),((HB.out.cell (wb_ w _ hw210_2)).trans hw210_2),((HB.out.cell (wb_ w _ hw210_3)).trans hw210_3),((HB.out.cell (wb_ w _ hw211_0)).trans hw211_0),((HB.out.cell (wb_ w _ hw211_1)).trans hw211_1),((HB.out.cell (wb_ w _ hw211_2)).trans hw211_2),((HB.out.cell (wb_ w _ hw211_3)).trans hw211_3)⟩ (fun hHeld => ?_)
               clear hK K
               refine norm_ (a' := ?_) ?_ ?_
               rotate_left
               ·show Act.put _ (some 45) _ = _
                simp only [Act.put,ls_,lz_,lc_,i64_w,i32_w]
                rfl
               refine done_ (done_of HT_.out (by kernel_rfl)) ?_
               try go_wp2
               repeat (go_step3;try go_wp2)
               try rw [Exit.noGoto_ret]
               go_ret3
               exact ⟨by first|rfl|(simp [errW_none,errW_some] <;> rfl)|(simp [*,errW_none,errW_some] <;> rfl),by repeat (first|(with_reducible first|exact HB.out|apply ba_|apply pd_|apply d1_)|exact HB.out)⟩
              ·replace c20 := bf_ c20
               subst c20
               have H1 : (box_Apart.l2 k3 l0 x7_3 x8_3 x26_2 (wrap64 (x10_3 + 1)) (l0.length : Int) x26_2) = some (r1,r2,r3) := by rw [if_neg (show ¬ (false = true) by decide)] at H;exact H
               clear H;have H := H1;clear H1
               have H' := sd_ H
               clear H
               try go_wp2
               repeat (go_step3;try go_wp2)
               have n0_ := sd_ (d1_ HB.out)
               clear HB
               have HB := n0_
               clear n0_
               have p210 : 0 ≤ (x26_2 : Int) := od_ (by first|(with_reducible assumption)|assumption)
               have q210 : x26_2 < (l0.length : Int) := od_ (by first|(with_reducible assumption)|assumption)
               obtain ⟨ad210,e210,hx210_0,hx210_1,hx210_2,hx210_3⟩ := at_T23 HR0.out x26_2 p210 q210
               have hw210_3 := hx210_3
               have hw210_2 := hx210_2
               have hw210_1 := hx210_1
               have hw210_0 := hx210_0
               cases e210
               replace hx210_0 := (HB.out.cell (wb_ w _ hx210_0)).trans hx210_0
               replace hx210_1 := (HB.out.cell (wb_ w _ hx210_1)).trans hx210_1
               replace hx210_2 := (HB.out.cell (wb_ w _ hx210_2)).trans hx210_2
               replace hx210_3 := (HB.out.cell (wb_ w _ hx210_3)).trans hx210_3
               replace p210 := eq_true p210
               replace q210 := eq_true q210
               have p211 : 0 ≤ (x10_3 : Int) := od_ (by first|(with_reducible assumption)|assumption)
               have q211 : x10_3 < (l0.length : Int) := od_ (by first|(with_reducible assumption)|assumption)
               obtain ⟨ad211,e211,hx211_0,hx211_1,hx211_2,hx211_3⟩ := at_T23 HR0.out x10_3 p211 q211
               have hw211_3 := hx211_3
               have hw211_2 := hx211_2
               have hw211_1 := hx211_1
               have hw211_0 := hx211_0
               obtain rfl : ad210 = ad211 := (by injection e211)
               replace hx211_0 := (HB.out.cell (wb_ w _ hx211_0)).trans hx211_0
               replace hx211_1 := (HB.out.cell (wb_ w _ hx211_1)).trans hx211_1
               replace hx211_2 := (HB.out.cell (wb_ w _ hx211_2)).trans hx211_2
               replace hx211_3 := (HB.out.cell (wb_ w _ hx211_3)).trans hx211_3
               replace p211 := eq_true p211
               replace q211 := eq_true q211
               refine start_ (n := 9) (S := fun w' => w'.cell? (ad210.add ((x26_2).toNat * 4)) = some (.int .i64 ((rd_T23 l0 x26_2).f0)) ∧ w'.cell? ⟨(ad210.add ((x26_2).toNat * 4)).block,(ad210.add ((x26_2).toNat * 4)).off + 1,none⟩ = some (.int .i64 ((rd_T23 l0 x26_2).f1)) ∧ w'.cell? ⟨(ad210.add ((x26_2).toNat * 4)).block,(ad210.add ((x26_2).toNat * 4)).off + 2,none⟩ = some (.int .i64 ((rd_T23 l0 x26_2).f2)) ∧ w'.cell? ⟨(ad210.add ((x26_2).toNat * 4)).block,(ad210.add ((x26_2).toNat * 4)).off + 3,none⟩ = some (.int .i64 ((rd_T23 l0 x26_2).f3)) ∧ w'.cell? (ad210.add ((x10_3).toNat * 4)) = some (.int .i64 ((rd_T23 l0 x10_3).f0)) ∧ w'.cell? ⟨(ad210.add ((x10_3).toNat * 4)).block,(ad210.add ((x10_3).toNat * 4)).off + 1,none⟩ = some (.int .i64 ((rd_T23 l0 x10_3).f1)) ∧ w'.cell? ⟨(ad210.add ((x10_3).toNat * 4)).block,(ad210.add ((x10_3).toNat * 4)).off + 2,none⟩ = some (.int .i64 ((rd_T23 l0 x10_3).f2)) ∧ w'.cell? ⟨(ad210.add ((x10_3).toNat * 4)).block,(ad210.add ((x10_3).toNat * 4)).off + 3,none⟩ = some (.int .i64 ((rd_T23 l0 x10_3).f3))) (ds := []) #[false,false,false,false,false,false,false,false,false] (by kernel_rfl) rfl rfl ⟨((HB.out.cell (wb_ w _ hw210_0)).trans hw210_0),((HB.out.cell (wb_ w _ hw210_1)).trans hw210_1),((HB.out.cell (wb_ w _ hw210_2)).trans hw210_2),((HB.out.cell (wb_ w _ hw210_3)).trans hw210_3),((HB.out.cell (wb_ w _ hw211_0)).trans hw211_0),((HB.out.cell (wb_ w _ hw211_1)).trans hw211_1),((HB.out.cell (wb_ w _ hw211_2)).trans hw211_2),((HB.out.cell (wb_ w _ hw211_3)).trans hw211_3)⟩ (fun hHeld => ?_);refine with_tabW box_Apart.tab16 box_Apart.bits16 (fun HT_ HW_ => ?_)
               generalize wr.drew = w23 at HB hx210_0 hx210_1 hx210_2 hx210_3 hx211_0 hx211_1 hx211_2 hx211_3 hHeld ⊢
               refine pure_ (i := 0) (N := some 37) (v := ?_) (a' := ?_) #[true,false,false,false,false,false,false,false,false] rfl rfl (any_of HT_.out (by kernel_rfl)) (fun _ _ _ h => h) (Or.inl ⟨by rfl,?_⟩) ?_ ?_
               rotate_left;(intro w';go_simp;with_reducible rfl);rotate_left;(simp only [Act.put,ls_,lz_,lc_,i64_w,i32_w];rfl)
               refine pure_ (i := 1) (N := some 38) (v := ?_) (a' := ?_) #[true,true,false,false,false,false,false,false,false] rfl rfl (any_of HT_.out (by kernel_rfl)) (fun _ _ _ h => h) (Or.inl ⟨by rfl,?_⟩) ?_ ?_
               rotate_left;(intro w';go_simp;with_reducible rfl);rotate_left;(simp only [Act.put,ls_,lz_,lc_,i64_w,i32_w];rfl)
               refine pure_ (i := 2) (N := some 39) (v := ?_) (a' := ?_) #[true,true,true,false,false,false,false,false,false] rfl rfl (any_of HT_.out (by kernel_rfl)) (fun _ _ _ h => h) (Or.inl ⟨by rfl,?_⟩) ?_ ?_
               rotate_left;(intro w';go_simp;with_reducible rfl);rotate_left;(simp only [Act.put,ls_,lz_,lc_,i64_w,i32_w];rfl)
               refine pure_ (i := 4) (N := some 41) (v := ?_) (a' := ?_) #[true,true,true,false,true,false,false,false,false] rfl rfl (any_of HT_.out (by kernel_rfl)) (fun _ _ _ h => h) (Or.inl ⟨by rfl,?_⟩) ?_ ?_
               rotate_left;(intro w';go_simp;with_reducible rfl);rotate_left;(simp only [Act.put,ls_,lz_,lc_,i64_w,i32_w];rfl)
               refine pure_ (i := 5) (N := some 42) (v := ?_) (a' := ?_) #[true,true,true,false,true,true,false,false,false] rfl rfl (any_of HT_.out (by kernel_rfl)) (fun _ _ _ h => h) (Or.inl ⟨by rfl,?_⟩) ?_ ?_
               rotate_left;(intro w';go_simp;with_reducible rfl);rotate_left;(simp only [Act.put,ls_,lz_,lc_,i64_w,i32_w];rfl)
               refine pure_ (i := 6) (N := some 43) (v := ?_) (a' := ?_) #[true,true,true,false,true,true,true,false,false] rfl rfl (any_of HT_.out (by kernel_rfl)) (fun _ _ _ h => h) (Or.inl ⟨by rfl,?_⟩) ?_ ?_
               rotate_left;(intro w';go_simp;with_reducible rfl);rotate_left;(simp only [Act.put,ls_,lz_,lc_,i64_w,i32_w];rfl)
               refine take_ (i := 3) (N := some 40) (v := ?_) (a' := ?_) #[true,true,true,true,true,true,true,false,false] rfl rfl (take_ofW HT_.out HW_.out (by kernel_rfl)) (fun _ _ _ h => h) (Or.inl ⟨by rfl,?_⟩) hHeld ?_ ?_
               rotate_left
               ·rintro w' ⟨s0,s1,s2,s3,s4,s5,s6,s7⟩
                go_simp
                with_reducible rfl
               rotate_left
               ·simp only [Act.put,ls_,lz_,lc_,i64_w,i32_w]
                rfl
               refine take_ (i := 7) (N := some 44) (v := ?_) (a' := ?_) #[true,true,true,true,true,true,true,true,false] rfl rfl (take_ofW HT_.out HW_.out (by kernel_rfl)) (fun _ _ _ h => h) (Or.inl ⟨by rfl,?_⟩) hHeld ?_ ?_
               rotate_left
               ·rintro w' ⟨s0,s1,s2,s3,s4,s5,s6,s7⟩
                go_simp
                with_reducible rfl
               rotate_left
               ·simp only [Act.put,ls_,lz_,lc_,i64_w,i32_w]
                rfl
               refine one_ (i := 8) (N := some 45) #[true,true,true,true,true,true,true,true,true] rfl rfl (one_of HT_.out (by kernel_rfl)) (by decide) (fun K hK => ?_)
               refine goes_ Tryd.func16 (by kernel_rfl) rfl #[.agg #[.int .i64 ((rd_T23 l0 x26_2).f0),.int .i64 ((rd_T23 l0 x26_2).f1),.int .i64 ((rd_T23 l0 x26_2).f2),.int .i64 ((rd_T23 l0 x26_2).f3)],.agg #[.int .i64 ((rd_T23 l0 x10_3).f0),.int .i64 ((rd_T23 l0 x10_3).f1),.int .i64 ((rd_T23 l0 x10_3).f2),.int .i64 ((rd_T23 l0 x10_3).f3)]] (by rfl) rfl rfl (by (try simp only [lm_,lq_,lx_]);first|done|rfl|(simp only [ld_,lt_];rfl)) ?_
               with_reducible refine (box_Meet.calls ((rd_T23 l0 x26_2).f0) ((rd_T23 l0 x26_2).f1) ((rd_T23 l0 x26_2).f2) ((rd_T23 l0 x26_2).f3) ((rd_T23 l0 x10_3).f0) ((rd_T23 l0 x10_3).f1) ((rd_T23 l0 x10_3).f2) ((rd_T23 l0 x10_3).f3) false _ A19.out).mono ?_
               rintro e w24 ⟨rfl,hb⟩
               refine ⟨_,rfl,?_⟩
               have n0_ := sd_ (bt_ (by repeat (first|(with_reducible first|exact HB.out|apply ba_|apply pd_|apply d1_)|exact HB.out)) hb)
               clear HB
               have HB := n0_
               clear n0_
               (try clear hb)
               (try clear hb2)
               (try clear hk)
               (try clear hi)
               refine hK.out _ _ ⟨((HB.out.cell (wb_ w _ hw210_0)).trans hw210_0),((HB.out.cell (wb_ w _ hw210_1)).trans hw210_1),((HB.out.cell (wb_ w _ hw210_2)).trans hw210_2),((HB.out.cell (wb_ w _ hw210_3)).trans hw210_3),((HB.out.cell (wb_ w _ hw211_0)).trans hw211_0),((HB.out.cell (wb_ w _ hw211_1)).trans hw211_1),((HB.out.cell (wb_ w _ hw211_2)).trans hw211_2),((HB.out.cell (wb_ w _ hw211_3)).trans hw211_3)⟩ (fun hHeld => ?_)
               clear hK K
               refine norm_ (a' := ?_) ?_ ?_
               rotate_left
               ·show Act.put _ (some 45) _ = _
                simp only [Act.put,ls_,lz_,lc_,i64_w,i32_w]
                rfl
               refine done_ (done_of HT_.out (by kernel_rfl)) ?_
               try go_wp2
               repeat (go_step3;try go_wp2)
               go_roundg k3
               case measure => have := HK1.out;have := HK2.out;have := HK3.out;omega
               case rel => exact ⟨(x7_3),(x8_3),(wrap64 (x10_3 + 1)),(by first|rfl|(simp;done)|(simp [*];done)|(simp [bne];done)),(by first|rfl|(simp;done)|(simp [*];done)|(simp [bne];done)),(by first|rfl|(simp;done)|(simp [*];done)|(simp [bne];done)),H',⟨by have := HK1.out;have := HK2.out;have := HK3.out;omega⟩,⟨by repeat (first|(with_reducible first|exact HB.out|apply ba_|apply pd_|apply d1_)|exact HB.out)⟩⟩
             ·rw [if_neg c18] at H
              exact absurd H (by simp)
            ·rw [if_neg c17] at H
             exact absurd H (by simp)
           ·rw [if_neg c16] at H
            exact absurd H (by simp)
          ·rw [if_neg c15] at H
           have c15b0 : decide (x10_3 < (l0.length : Int)) = false := df_ c15
           clear c15
           have H' := sd_ H
           clear H
           try go_wp2
           repeat (go_step3;try go_wp2)
           go_roundg k3
           case measure => have := HK1.out;have := HK2.out;have := HK3.out;omega
           case rel => exact ⟨(x7_3),(x8_3),(wrap64 (x26_2 + 1)),(by first|rfl|(simp;done)|(simp [*];done)|(simp [bne];done)),(by first|rfl|(simp;done)|(simp [*];done)|(simp [bne];done)),(by first|rfl|(simp;done)|(simp [*];done)|(simp [bne];done)),H',⟨by have := HK1.out;have := HK2.out;have := HK3.out;omega⟩,⟨by repeat (first|(with_reducible first|exact HB.out|apply ba_|apply pd_|apply d1_)|exact HB.out)⟩⟩
       ·rw [if_neg c14] at H
        have c14b0 : decide (x26_2 < (l0.length : Int)) = false := df_ c14
        clear c14
        simp only [Option.some.injEq,Prod.mk.injEq] at H
        obtain ⟨rfl,rfl,rfl⟩ := H
        try go_wp2
        repeat (go_step3;try go_wp2)
        try rw [Exit.noGoto_ret]
        go_ret3
        exact ⟨by first|rfl|(simp [errW_none,errW_some] <;> rfl)|(simp [*,errW_none,errW_some] <;> rfl),by repeat (first|(with_reducible first|exact HB.out|apply ba_|apply pd_|apply d1_)|exact HB.out)⟩

/-! ### fix_errno: function 36 -/
/-- What errors.As reads: the variable that holds the type of errors. -/
def LaidE (w : World) : Prop := w.cell? ⟨0, 0, none⟩ = some (.iface 79 (.agg #[.pointer (some ⟨1, 55, none⟩)]))
theorem LaidE.below {w w1 : World} (h : LaidE w) (hb : Below w.heap.size w w1) : LaidE w1 := pw_cell_below hb h
open Go.Extern.Stop Go.Stop Go.Extern in
/-- errors.As(nil, target). -/
theorem ea_nil (t : Value) (w : World) :
  Calls Tryd.prog 37 #[.nilIface,t] w fun e w' => e = .returned (.bool false) ∧ w' = w := by
 go_enter Tryd.func37,Tryd.ntmps37
 go_wp2
 go_ret
 exact ⟨rfl,rfl⟩
/-! the entries for internal/reflectlite, after the kit's worked proof of errors.As -/
open Go.Extern.Stop Go.Stop Go.Extern in
theorem ea_valueOfPP (t : Addr) (w : World) : (ReflectliteValue.unpack (.iface 65 (.pointer (some t)))).run Tryd.prog w
  = .ok (.agg #[.pointer (some ⟨1,65,none⟩),.pointer (some ⟨w.heap.size,0,none⟩),.int .u64 150]) (w.alloc (.cells #[.pointer (some t)] 65)) := by kernel_rfl
open Go.Extern.Stop Go.Stop Go.Extern in
theorem ea_typePP (a : Addr) (w : World) : (ReflectliteValue.methodAny (ReflectliteValue.valueError "reflectlite.Value.Type" 0) (fun t _ _ _ => ReflectliteType.toType t) #[.agg #[.pointer (some ⟨1, 65, none⟩), .pointer (some a), .int .u64 150]]).run Tryd.prog w
  = .ok (.iface 79 (.agg #[.pointer (some ⟨1,65,none⟩)])) w := by kernel_rfl
open Go.Extern.Stop Go.Stop Go.Extern in
theorem ea_methodKind (h : Value) (w : World) : (Go.method 222 79 (.agg #[h]) "Kind").run Tryd.prog w = .ok (59, h) w := by kernel_rfl
open Go.Extern.Stop Go.Stop Go.Extern in
theorem ea_kindPP (w : World) : ((ReflectliteType.abiMethod fun t => (fun a : Nat => Value.int IntKind.u8 (a : Int)) <$> Rtype.kind t) #[.pointer (some ⟨1, 65, none⟩)]).run Tryd.prog w = .ok (.int .u8 22) w := by kernel_rfl
open Go.Extern.Stop Go.Stop Go.Extern in
theorem ea_kindP (w : World) : ((ReflectliteType.abiMethod fun t => (fun a : Nat => Value.int IntKind.u8 (a : Int)) <$> Rtype.kind t) #[.pointer (some ⟨1, 60, none⟩)]).run Tryd.prog w = .ok (.int .u8 22) w := by kernel_rfl
open Go.Extern.Stop Go.Stop Go.Extern in
theorem ea_rlm (z : Sem Value) (f : TypeId → Addr → Nat → Nat → Sem Value) (v : Value) :
  ReflectliteValue.method z f #[v] = (do match ← ReflectliteValue.parts v with|none => z|some (t,a,fl) => f t a fl (fl % 32)) := rfl
open Go.Extern.Stop Go.Stop Go.Extern in
theorem ea_partsPP (a : Addr) (w : World) : (ReflectliteValue.parts (.agg #[.pointer (some ⟨1, 65, none⟩), .pointer (some a), .int .u64 150])).run Tryd.prog w = .ok (some (65, a, 150)) w := by kernel_rfl
open Go.Extern.Stop Go.Stop Go.Extern in
/-- (Value).IsNil at the Value of a **p.E that is not nil. -/
theorem ea_isNilPP (a p : Addr) (W : World) (ha : W.cell? a = some (.pointer (some p))) :
  (ReflectliteValue.method (ReflectliteValue.valueError "reflectlite.Value.IsNil" 0) ReflectliteValue.isNil #[.agg #[.pointer (some ⟨1,65,none⟩),.pointer (some a),.int .u64 150]]).run Tryd.prog W = .ok (.bool false) W := by
 rw [ea_rlm]
 simp only [Sem.run_bind,ea_partsPP,Result.andThen]
 simp [ReflectliteValue.isNil,loadVar,isAgg,underlying,Tryd.underlying65,ha,Result.andThen]
open Go.Extern.Stop Go.Stop Go.Extern in
theorem ea_methodElem (h : Value) (w : World) : (Go.method 222 79 (.agg #[h]) "Elem").run Tryd.prog w = .ok (69, .agg #[h]) w := by kernel_rfl
open Go.Extern.Stop Go.Stop Go.Extern in
theorem ea_methodImplements (h : Value) (w : World) : (Go.method 222 79 (.agg #[h]) "Implements").run Tryd.prog w = .ok (70, .agg #[h]) w := by kernel_rfl
open Go.Extern.Stop Go.Stop Go.Extern in
theorem ea_methodAssignableTo (h : Value) (w : World) : (Go.method 222 79 (.agg #[h]) "AssignableTo").run Tryd.prog w = .ok (67, .agg #[h]) w := by kernel_rfl
open Go.Extern.Stop Go.Stop Go.Extern in
theorem ea_elemPP (w : World) : (ReflectliteType.method ReflectliteType.elem #[.agg #[.pointer (some ⟨1, 65, none⟩)]]).run Tryd.prog w = .ok (.iface 79 (.agg #[.pointer (some ⟨1, 60, none⟩)])) w := by kernel_rfl
open Go.Extern.Stop Go.Stop Go.Extern in
theorem ea_implementsP (w : World) : (ReflectliteType.relation "Implements" ReflectliteType.implements_ #[.agg #[.pointer (some ⟨1, 60, none⟩)], .iface 79 (.agg #[.pointer (some ⟨1, 55, none⟩)])]).run Tryd.prog w = .ok (.bool true) w := by kernel_rfl
open Go.Extern.Stop Go.Stop Go.Extern in
theorem ea_typeOfP (v : Value) (w : World) : (ReflectliteType.typeOf #[.iface 60 v]).run Tryd.prog w = .ok (.iface 79 (.agg #[.pointer (some ⟨1, 60, none⟩)])) w := by kernel_rfl
open Go.Extern.Stop Go.Stop Go.Extern in
theorem ea_assignableP (w : World) : (ReflectliteType.relation "AssignableTo" ReflectliteType.assignableTo #[.agg #[.pointer (some ⟨1, 60, none⟩)], .iface 79 (.agg #[.pointer (some ⟨1, 60, none⟩)])]).run Tryd.prog w = .ok (.bool true) w := by kernel_rfl
open Go.Extern.Stop Go.Stop Go.Extern in
theorem ea_valueOfP (e : Addr) (w : World) : (ReflectliteValue.unpack (.iface 60 (.pointer (some e)))).run Tryd.prog w
  = .ok (.agg #[.pointer (some ⟨1,60,none⟩),.pointer (some ⟨w.heap.size,0,none⟩),.int .u64 150]) (w.alloc (.cells #[.pointer (some e)] 60)) := by kernel_rfl
open Go.Extern.Stop Go.Stop Go.Extern in
theorem ea_elemOfPP (w : World) : (Rtype.elem? 65).run Tryd.prog w = .ok (some 60) w := by kernel_rfl
open Go.Extern.Stop Go.Stop Go.Extern in
theorem ea_mkP (p : Addr) (w : World) : (ReflectliteValue.mk 60 p ReflectliteValue.flagAddr).run Tryd.prog w = .ok (.agg #[.pointer (some ⟨1, 60, none⟩), .pointer (some p), .int .u64 406]) w := by kernel_rfl
open Go.Extern.Stop Go.Stop Go.Extern in
/-- (Value).Elem at the Value of a **p.E that is not nil: the Value of the *p.E variable that it points to, addressable. -/
theorem ea_elemVPP (a p : Addr) (W : World) (ha : W.cell? a = some (.pointer (some p))) :
  (ReflectliteValue.method (ReflectliteValue.valueError "reflectlite.Value.Elem" 0) ReflectliteValue.elem #[.agg #[.pointer (some ⟨1,65,none⟩),.pointer (some a),.int .u64 150]]).run Tryd.prog W
   = .ok (.agg #[.pointer (some ⟨1,60,none⟩),.pointer (some p),.int .u64 406]) W := by
 rw [ea_rlm]
 simp only [Sem.run_bind,ea_partsPP,Result.andThen]
 simp [ReflectliteValue.elem,loadVar,isAgg,underlying,Tryd.underlying65,ha,Result.andThen,ea_elemOfPP,ea_mkP]
open Go.Extern.Stop Go.Stop Go.Extern in
theorem ea_rls (v x : Value) : ReflectliteValue.set #[v, x] = (do
  let (some (dst,a,fl),some (src,b,_)) := (← ReflectliteValue.parts v,← ReflectliteValue.parts x)
   | unsupported (.noEntry "extern/(internal/reflectlite.Value).Set.zeroValue")
  if fl / ReflectliteValue.flagAddr % 2 == 0 then unsupported (.noEntry "extern/(internal/reflectlite.Value).Set.unaddressable")
  let val ← loadVar src b
  if ← Rtype.directlyAssignable dst src then storeVar dst a val
  else if ← Rtype.implements dst src then
   if (← Rtype.kind src) == 20 then
    match val with
    | .nilIface => unsupported (.noEntry "extern/reflectlite: a nil value of one interface type handed on as a value of another")
    | _ => storeVar dst a val
   else storeVar dst a (.iface src val)
  else panicString ("reflectlite.Set: value of type " ++ (← Rtype.spelt src) ++ " is not assignable to type " ++ (← Rtype.spelt dst))
  pure (.tuple #[])) := rfl
open Go.Extern.Stop Go.Stop Go.Extern in
theorem ea_partsPa (a : Addr) (w : World) : (ReflectliteValue.parts (.agg #[.pointer (some ⟨1, 60, none⟩), .pointer (some a), .int .u64 406])).run Tryd.prog w = .ok (some (60, a, 406)) w := by kernel_rfl
open Go.Extern.Stop Go.Stop Go.Extern in
theorem ea_partsP (a : Addr) (w : World) : (ReflectliteValue.parts (.agg #[.pointer (some ⟨1, 60, none⟩), .pointer (some a), .int .u64 150])).run Tryd.prog w = .ok (some (60, a, 150)) w := by kernel_rfl
open Go.Extern.Stop Go.Stop Go.Extern in
theorem ea_directP (w : World) : (Rtype.directlyAssignable 60 60).run Tryd.prog w = .ok true w := by kernel_rfl
open Go.Extern.Stop Go.Stop Go.Extern in
theorem ea_sizeP (w : World) : (sizeOf 60).run Tryd.prog w = .ok 1 w := by kernel_rfl
open Go.Extern.Stop Go.Stop Go.Extern in
/-- (Value).Set: the *p.E variable at 'ta' gets what the Value's own variable 'b' holds. -/
theorem ea_setP (ta b e : Addr) (old : Value) (W : World) (hb : W.cell? b = some (.pointer (some e))) (ht : W.cell? ta = some old) (hf : W.frozen? ta = false) :
  (ReflectliteValue.set #[.agg #[.pointer (some ⟨1,60,none⟩),.pointer (some ta),.int .u64 406],.agg #[.pointer (some ⟨1,60,none⟩),.pointer (some b),.int .u64 150]]).run Tryd.prog W
   = .ok (.tuple #[]) (W.setCell ta (.pointer (some e))) := by
 rw [ea_rls]
 simp only [Sem.run_bind,ea_partsPa,ea_partsP,Result.andThen]
 simp [ReflectliteValue.flagAddr,loadVar,isAgg,underlying,Tryd.underlying60,hb,Result.andThen,ea_directP,storeVar,Value.cells,storeCells,Addr.add]
 rw [run_store Tryd.prog W ta _ _ (by rfl)]
 simp [ht,hf]
open Go.Extern.Stop Go.Stop Go.Extern in
set_option maxHeartbeats 4000000 in
theorem ea_hit (e t : Addr) (old : Value) (w : World) (hg : w.cell? ⟨0, 0, none⟩ = some (.iface 79 (.agg #[.pointer (some ⟨1, 55, none⟩)]))) (ht0 : w.cell? t = some old) (hf0 : w.frozen? t = false) :
  Calls Tryd.prog 37 #[.iface 60 (.pointer (some e)),.iface 65 (.pointer (some t))] w fun ev w' => ev = .returned (.bool true) ∧ w' = ((((w.alloc (.cells #[.pointer (some t)] 65)).alloc (.cells #[.pointer (some ⟨1,65,none⟩),.pointer (some ⟨w.heap.size,0,none⟩),.int .u64 150] 69)).alloc (.cells #[.pointer (some ⟨1,65,none⟩),.pointer (some ⟨w.heap.size,0,none⟩),.int .u64 150] 69)).alloc (.cells #[.pointer (some e)] 60)).setCell t (.pointer (some e)) := by
 have h6 := @run_callFunc_extern Tryd.prog 38 _ (fun args => ReflectliteValue.unpack (args.getD 0 (.tuple #[]))) Tryd.func38 (by kernel_rfl) (by kernel_rfl) (by kernel_rfl) (by kernel_rfl)
 have h7 := @run_callFunc_extern Tryd.prog 39 _ (ReflectliteValue.methodAny (ReflectliteValue.valueError "reflectlite.Value.Type" 0) (fun t _ _ _ => ReflectliteType.toType t)) Tryd.func39 (by kernel_rfl) (by kernel_rfl) (by kernel_rfl) (by kernel_rfl)
 have h8 := @run_callFunc_extern Tryd.prog 40 _ (ReflectliteValue.method (ReflectliteValue.valueError "reflectlite.Value.IsNil" 0) ReflectliteValue.isNil) Tryd.func40 (by kernel_rfl) (by kernel_rfl) (by kernel_rfl) (by kernel_rfl)
 have h27 := @run_callFunc_extern Tryd.prog 59 _ (ReflectliteType.abiMethod fun t => do pure (.int .u8 (← Rtype.kind t))) Tryd.func59 (by kernel_rfl) (by kernel_rfl) (by kernel_rfl) (by kernel_rfl)
 have h37 := @run_callFunc_extern Tryd.prog 69 _ (ReflectliteType.method ReflectliteType.elem) Tryd.func69 (by kernel_rfl) (by kernel_rfl) (by kernel_rfl) (by kernel_rfl)
 have h38 := @run_callFunc_extern Tryd.prog 70 _ (ReflectliteType.relation "Implements" ReflectliteType.implements_) Tryd.func70 (by kernel_rfl) (by kernel_rfl) (by kernel_rfl) (by kernel_rfl)
 have h10 := @run_callFunc_extern Tryd.prog 42 _ ReflectliteType.typeOf Tryd.func42 (by kernel_rfl) (by kernel_rfl) (by kernel_rfl) (by kernel_rfl)
 have h35 := @run_callFunc_extern Tryd.prog 67 _ (ReflectliteType.relation "AssignableTo" ReflectliteType.assignableTo) Tryd.func67 (by kernel_rfl) (by kernel_rfl) (by kernel_rfl) (by kernel_rfl)
 have h11 := @run_callFunc_extern Tryd.prog 43 _ (ReflectliteValue.method (ReflectliteValue.valueError "reflectlite.Value.Elem" 0) ReflectliteValue.elem) Tryd.func43 (by kernel_rfl) (by kernel_rfl) (by kernel_rfl) (by kernel_rfl)
 have h12 := @run_callFunc_extern Tryd.prog 44 _ ReflectliteValue.set Tryd.func44 (by kernel_rfl) (by kernel_rfl) (by kernel_rfl) (by kernel_rfl)
 have tO := ea_typeOfP
 have mA := ea_methodAssignableTo
 have a25 := ea_assignableP
 have v25 := ea_valueOfP
 have f6 := ea_valueOfPP
 have f7 := ea_typePP
 have mK := ea_methodKind
 have mE := ea_methodElem
 have mI := ea_methodImplements
 have k27 := ea_kindPP
 have k25 := ea_kindP
 have e27 := ea_elemPP
 have i25 := ea_implementsP
 have n8 := ea_isNilPP ⟨w.heap.size,0,none⟩ t ((w.alloc (.cells #[.pointer (some t)] 65)).alloc (.cells #[.pointer (some ⟨1,65,none⟩),.pointer (some ⟨w.heap.size,0,none⟩),.int .u64 150] 69)) (by simp)
 have hlt : 0 < w.heap.size := wb_ w _ hg
 have hg2 : ((w.alloc (.cells #[.pointer (some t)] 65)).alloc (.cells #[.pointer (some ⟨1,65,none⟩),.pointer (some ⟨w.heap.size,0,none⟩),.int .u64 150] 69)).cell? ⟨0,0,none⟩ = some (.iface 79 (.agg #[.pointer (some ⟨1,55,none⟩)])) := by
  rw [World.cell?_alloc_lt _ _ ⟨0,0,none⟩ (Nat.lt_trans hlt (by rw [World.size_alloc];exact Nat.lt_succ_self _)),World.cell?_alloc_lt _ _ ⟨0,0,none⟩ hlt];exact hg
 have htl : t.block < w.heap.size := by
  rcases Nat.lt_or_ge t.block w.heap.size with h|h
  ·exact h
  ·simp [World.cell?,Array.getElem?_eq_none h] at ht0
 have el := ea_elemVPP ⟨w.heap.size,0,none⟩ t (((w.alloc (.cells #[.pointer (some t)] 65)).alloc (.cells #[.pointer (some ⟨1,65,none⟩),.pointer (some ⟨w.heap.size,0,none⟩),.int .u64 150] 69)).alloc (.cells #[.pointer (some ⟨1,65,none⟩),.pointer (some ⟨w.heap.size,0,none⟩),.int .u64 150] 69)) (by rw [World.cell?_alloc_lt _ _ ⟨w.heap.size,0,none⟩ (by simp;omega)];simp)
 have st := ea_setP t ⟨w.heap.size + 1 + 1 + 1,0,none⟩ e old ((((w.alloc (.cells #[.pointer (some t)] 65)).alloc (.cells #[.pointer (some ⟨1,65,none⟩),.pointer (some ⟨w.heap.size,0,none⟩),.int .u64 150] 69)).alloc (.cells #[.pointer (some ⟨1,65,none⟩),.pointer (some ⟨w.heap.size,0,none⟩),.int .u64 150] 69)).alloc (.cells #[.pointer (some e)] 60))
  (by rw [World.cell?_alloc_at _ _ _ _ (by simp)];rfl)
  (by rw [World.cell?_alloc_lt _ _ t (by simp;omega),World.cell?_alloc_lt _ _ t (by simp;omega),World.cell?_alloc_lt _ _ t (by simp;omega),World.cell?_alloc_lt _ _ t htl];exact ht0)
  (by rw [World.frozen?_alloc_old _ _ t (by simp;omega),World.frozen?_alloc_old _ _ t (by simp;omega),World.frozen?_alloc_old _ _ t (by simp;omega),World.frozen?_alloc_old _ _ t (nn_ htl)];exact hf0)
 go_enter Tryd.func37,Tryd.ntmps37
 go_wp2
 refine wp_loop_rounds 1 ?_
 rw [rounds_succ]
 go_wp2
 go_ret
 exact ⟨rfl,rfl⟩
theorem errno_as (w : World) (g : Nat) (c : Int) (hE : LaidE w) (hg : w.cell? ⟨g, 0, none⟩ = some (.int .i64 c)) :
  Calls Tryd.prog 37 #[.iface 60 (.pointer (some ⟨g,0,none⟩)),.iface 65 (.pointer (some ⟨w.heap.size,0,none⟩))] (w.alloc (.cells #[.pointer none] 60)) fun e w' => e = .returned (.bool true) ∧ w'.cell? ⟨w.heap.size,0,none⟩ = some (.pointer (some ⟨g,0,none⟩)) ∧ w'.cell? ⟨g,0,none⟩ = some (.int .i64 c) ∧ Below w.heap.size w w' := by
 have hb0 : Below w.heap.size w (w.alloc (.cells #[.pointer none] 60)) := ba_ (Below.refl _ _) _
 refine (ea_hit ⟨g,0,none⟩ ⟨w.heap.size,0,none⟩ (.pointer none) _ (hE.below hb0) (by simp) (by simp)).mono ?_
 rintro e w' ⟨rfl,rfl⟩
 have hb : Below w.heap.size w ((((((w.alloc (.cells #[.pointer none] 60)).alloc (.cells #[.pointer (some ⟨w.heap.size,0,none⟩)] 65)).alloc (.cells #[.pointer (some ⟨1,65,none⟩),.pointer (some ⟨(w.alloc (.cells #[.pointer none] 60)).heap.size,0,none⟩),.int .u64 150] 69)).alloc (.cells #[.pointer (some ⟨1,65,none⟩),.pointer (some ⟨(w.alloc (.cells #[.pointer none] 60)).heap.size,0,none⟩),.int .u64 150] 69)).alloc (.cells #[.pointer (some ⟨g,0,none⟩)] 60)).setCell ⟨w.heap.size,0,none⟩ (.pointer (some ⟨g,0,none⟩))) :=
  bs_ (ba_ (ba_ (ba_ (ba_ hb0 _) _) _) _) (Nat.le_refl _)
 refine ⟨rfl,World.cell?_setCell_same _ _ _ (u := .pointer none) ?_,pw_cell_below hb hg,hb⟩
 have h0 : (w.alloc (.cells #[.pointer none] 60)).cell? ⟨w.heap.size,0,none⟩ = some (.pointer none) := by simp
 exact pw_cell_below (ba_ (ba_ (ba_ (ba_ (Below.refl _ _) _) _) _) _) h0
theorem errno_hit (w : World) (g : Nat) (c : Int) (hE : LaidE w) (hg : w.cell? ⟨g, 0, none⟩ = some (.int .i64 c)) :
  Calls Tryd.prog 36 #[.iface 60 (.pointer (some ⟨g,0,none⟩))] w fun e w' => e = .returned (.int .i64 c) ∧ Below w.heap.size w w' := by
 have HA := sd_ (errno_as w g c hE hg)
 clear hE hg
 go_enter Tryd.func36,Tryd.ntmps36
 go_wp2_with (go_at_call 37;refine HA.out.mono ?_;rintro e w' ⟨rfl,h1,h2,hb⟩;have HB := sd_ hb;clear hb)
 go_ret
 exact ⟨rfl,HB.out⟩

/-! ### fix_out: function 34 -/
theorem fx_ret2 {a b c d : Int} (h : a = c) (h' : b = d) : Ending.returned (.tuple #[.int .i64 a, .int .i64 b]) = .returned (.tuple #[.int .i64 c, .int .i64 d]) := by rw [h, h']
/-- An error that came in: its code. -/
theorem fix_out_err (x : Int) (g : Nat) (c : Int) (w : World) (hE : LaidE w) (hg : w.cell? ⟨g, 0, none⟩ = some (.int .i64 c)) :
  Calls Tryd.prog 34 #[.int .i64 x,.iface 60 (.pointer (some ⟨g,0,none⟩))] w fun e w' => e = .returned (.tuple #[.int .i64 0,.int .i64 c]) ∧ Below w.heap.size w w' := by
 have HA := sd_ (errno_hit w g c hE hg)
 clear hE hg
 go_enter Tryd.func34,Tryd.ntmps34
 go_wp2_with (go_at_call 36;refine HA.out.mono ?_;rintro e w' ⟨rfl,hb⟩;have HB := sd_ hb;clear hb)
 go_ret2
 exact ⟨rfl,HB.out⟩
def fix_out.f (x : Int) : Option (Int × Int) := if fx_ok x = true then some (x, 0) else some (0, 3)
/-- No error came in: a length is handed back, or none. -/
theorem fix_out_nil (x r1 r2 : Int) (w : World) (hE : LaidE w) (h : fix_out.f x = some (r1, r2)) :
  Calls Tryd.prog 34 #[.int .i64 x,.nilIface] w fun e w' => e = .returned (.tuple #[.int .i64 r1,.int .i64 r2]) ∧ Below w.heap.size w w' := by
 have hC : Kd.C (Kd.int .i64) (w.alloc (.cells #[.int .i64 x] 3)) (some ⟨w.heap.size,0,none⟩) 1 [x] := fx_C w [x] (by simp)
 have hb1 : Below w.heap.size w (w.alloc (.cells #[.int .i64 x] 3)) := ba_ (Below.refl _ _) _
 unfold fix_out.f at h
 cases hx : fx_ok x with
 | true =>
  rw [hx,if_pos rfl] at h
  obtain ⟨rfl,rfl⟩ : x = r1 ∧ 0 = r2 := by simpa using h
  have HA := sd_ (fix_all_ok _ 1 [x] _ hC (by simp [hx]))
  have HB1 := sd_ hb1
  clear h hC hx hE hb1
  go_enter Tryd.func34,Tryd.ntmps34
  go_wp2_with (go_at_call 33;refine HA.out.mono ?_;rintro e w' ⟨rfl,rfl⟩)
  go_ret2
  exact ⟨rfl,HB1.out⟩
 | false =>
  rw [hx,if_neg (by decide)] at h
  obtain ⟨rfl,rfl⟩ : 0 = r1 ∧ 3 = r2 := by simpa using h
  have hb2 : Below w.heap.size w ((w.alloc (.cells #[.int .i64 x] 3)).alloc (.cells #[.int .i64 3] 62)) := ba_ hb1 _
  have HA := sd_ (fix_all_bad _ 1 [x] _ hC (by simp [hx]))
  have HE := sd_ (errno_hit _ (w.heap.size + 1) 3 (hE.below hb2) (by simp))
  have HB2 := sd_ hb2
  clear h hC hx hE hb1 hb2
  go_enter Tryd.func34,Tryd.ntmps34
  go_wp2_with (first|(go_at_call 33;refine HA.out.mono ?_;rintro e w' ⟨rfl,rfl⟩)|(go_at_call 36;refine HE.out.mono ?_;rintro e w' ⟨rfl,hb⟩;have HB := sd_ (below_then HB2.out HB2.out.size hb);clear hb))
  go_ret2
  exact ⟨rfl,HB.out⟩

/-! ### fix_Add: function 31 -/
theorem fx_all2 {a b : Int} (h : fx_ok a = true) (h' : fx_ok b = true) : [a, b].all fx_ok = true := by simp [h, h']
theorem fx_bad2 {a b : Int} (h : ¬ (fx_ok a = true ∧ fx_ok b = true)) : [a, b].all fx_ok = false := by
 cases ha : fx_ok a <;> cases hb : fx_ok b <;> simp_all
theorem fx_bd {a : Int} (h : fx_ok a = true) : -1099511627776 ≤ a ∧ a ≤ 1099511627776 := od_ h
def fix_Add.f (a b : Int) : Option (Int × Int) := if fx_ok a = true ∧ fx_ok b = true then fix_out.f (a + b) else some (0, 3)
theorem fix_Add.calls (a b r1 r2 : Int) (w : World) (hE : Aside0 (LaidE w)) (h : fix_Add.f a b = some (r1, r2)) :
  Calls Tryd.prog 31 #[.int .i64 a,.int .i64 b] w fun e w' => e = .returned (.tuple #[.int .i64 r1,.int .i64 r2]) ∧ Below w.heap.size w w' := by
 have hC : Kd.C (Kd.int .i64) (w.alloc (.cells #[.int .i64 a,.int .i64 b] 3)) (some ⟨w.heap.size,0,none⟩) 2 [a,b] := fx_C w [a,b] (by simp)
 have hb1 : Below w.heap.size w (w.alloc (.cells #[.int .i64 a,.int .i64 b] 3)) := ba_ (Below.refl _ _) _
 unfold fix_Add.f at h
 by_cases c : fx_ok a = true ∧ fx_ok b = true
 ·rw [if_pos c] at h
  have HA := sd_ (fix_all_ok _ 2 [a,b] _ hC (fx_all2 c.1 c.2))
  have HO := sd_ (fix_out_nil (a + b) r1 r2 _ (hE.out.below hb1) h)
  have HB1 := sd_ hb1
  obtain ⟨b1,b2⟩ := fx_bd c.1
  obtain ⟨b3,b4⟩ := fx_bd c.2
  clear h hC hE hb1 c
  go_enter Tryd.func31,Tryd.ntmps31
  go_wp2_with (first|(go_at_call 33;refine HA.out.mono ?_;rintro e w' ⟨rfl,rfl⟩)|(go_at_call 34;refine HO.out.mono ?_;rintro e w' ⟨rfl,hb⟩;have HB := sd_ (below_then HB1.out HB1.out.size hb);clear hb))
  go_ret2
  exact ⟨rfl,HB.out⟩
 ·rw [if_neg c] at h
  obtain ⟨rfl,rfl⟩ : 0 = r1 ∧ 3 = r2 := by simpa using h
  have hb2 : Below w.heap.size w ((w.alloc (.cells #[.int .i64 a,.int .i64 b] 3)).alloc (.cells #[.int .i64 3] 62)) := ba_ hb1 _
  have HA := sd_ (fix_all_bad _ 2 [a,b] _ hC (fx_bad2 c))
  have HO := sd_ (fix_out_err 0 (w.heap.size + 1) 3 _ (hE.out.below hb2) (by simp))
  have HB1 := sd_ hb2
  clear h hC hE hb1 hb2 c
  go_enter Tryd.func31,Tryd.ntmps31
  go_wp2_with (first|(go_at_call 33;refine HA.out.mono ?_;rintro e w' ⟨rfl,rfl⟩)|(go_at_call 34;refine HO.out.mono ?_;rintro e w' ⟨rfl,hb⟩;have HB := sd_ (below_then HB1.out HB1.out.size hb);clear hb))
  go_ret2
  exact ⟨rfl,HB.out⟩

-- NOT PRINTED: function 30 (box_shifted_1)

end Go.Proofs.YteecpeggnejeaaaDoor.P
