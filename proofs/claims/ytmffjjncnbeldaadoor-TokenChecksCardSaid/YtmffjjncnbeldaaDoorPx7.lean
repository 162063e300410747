-- Written by a program of this session (wip/tools/xprint.py, over the kit's print): Lean checks it.
import Derived.Test.YtmffjjncnbeldaaDoorPx0
import Derived.Test.YtmffjjncnbeldaaDoorPx3
namespace Go.Proofs.YtmffjjncnbeldaaDoor.P
open Go.RowKit Go.Proofs.YtmffjjncnbeldaaDoorW.PrintWords Go.Proofs.YtmffjjncnbeldaaDoorW.PrintLast Go.Proofs.YtmffjjncnbeldaaDoorW.PrintMore
attribute [local go_sem] max2_int min2_int max_two min_two max_three min_three max_four min_four   -- for this text's walks alone
set_option linter.unusedVariables false
set_option linter.unusedSimpArgs false

/-! ### neumeref08_fault: function 22 -/
def neumeref08_fault.f (a0 : Int) (a1 : Int) : Option (Int × Int) := some (a0, a1)
set_option maxHeartbeats 8000000 in
set_option maxRecDepth 100000 in
theorem neumeref08_fault.calls (a0 : Int) (a1 : Int) (r1 : Int) (r2 : Int) (w : World) (h : neumeref08_fault.f a0 a1 = some (r1, r2)) :
  Calls Tryd.prog 22 #[.int .i64 a0, .int .i64 a1] w fun e w' => e = .returned (.agg #[.int .i64 r1, .int .i64 r2]) ∧ Below w.heap.size w w' := by
 have hu26 := Tryd.underlying26
 have HB := sd_ (Below.refl w.heap.size w)
 have H : (some (a0, a1)) = some (r1, r2) := h
 clear h
 simp only [Option.some.injEq, Prod.mk.injEq] at H
 obtain ⟨rfl, rfl⟩ := H
 go_enter Tryd.func22, Tryd.ntmps22
 go_wp2_with (first | ((with_reducible refine gate_dst (N := 4) rfl ?_); refine box_event ?hg (N := 4) ?hd (cs := #[.int .i64 0, .int .i64 0]) (t := 26) ?hr ?_; (case hd => rfl); (case hg => rfl); (case hr => first | (go_simp; done) | (go_simp; rfl)); intro gb188 hg w3 hbox hb; have BK188 := sd_ hbox; have GW188 := gw_ HB e0_ hg; have GE188 := GW188; replace HB := hb_ HB e0_ hb; clear hb hbox hg; have hcz4_0 : w3.cell? ⟨gb188, 0, none⟩ = some (.int .i64 0) := (kc_ BK188.out 0).trans rfl; have hcz4_1 : w3.cell? ⟨gb188, 1, none⟩ = some (.int .i64 0) := (kc_ BK188.out 1).trans rfl; have hfz4_0 := kf_ BK188.out 0; have hfz4_1 := kf_ BK188.out 1))
 refine bodyPost_ret (results_cell_row rfl _ _ gb188 26 #[.int .i64 a0, .int .i64 a1] (0, 0) _ rfl (by (with_reducible repeat first | apply kn_ | apply kd_ | apply ka_); refine blk_put (cs := #[.int .i64 a0, .int .i64 0]) ?_ 1 _ rfl; (with_reducible repeat first | apply kn_ | apply kd_ | apply ka_); refine blk_put (cs := #[.int .i64 0, .int .i64 0]) ?_ 0 _ rfl; (with_reducible repeat first | apply kn_ | apply kd_ | apply ka_); exact BK188.out) Tryd.underlying26 rfl (by kernel_rfl)) rfl ?_
 exact ⟨by first | rfl | (simp [errW_none, errW_some] <;> rfl) | (simp [*, errW_none, errW_some] <;> rfl), by repeat (first | (with_reducible first | exact HB.out | apply ba_ | apply pd_ | apply d1_ | refine bs_ ?_ GE188.out) | exact HB.out)⟩

/-! ### neumeref08_skip: function 23 -/
mutual
def neumeref08_skip.l0 : Nat → ByteArray → Int → Option (Int)
 | 0, _, _ => none
 | k + 1, x0, x1 => if x1 < (x0.size : Int) then (if 0 ≤ x1 then (if (bt x0 x1) = 32 then (neumeref08_skip.j1 k x0 x1 (bt x0 x1) true) else (if (bt x0 x1) = 9 then (neumeref08_skip.j1 k x0 x1 (bt x0 x1) true) else (if (bt x0 x1) = 10 then (neumeref08_skip.j1 k x0 x1 (bt x0 x1) true) else (neumeref08_skip.j1 k x0 x1 (bt x0 x1) ((bt x0 x1) == 13))))) else (none)) else (some x1)
def neumeref08_skip.j1 : Nat → ByteArray → Int → Int → Bool → Option (Int)
 | 0, _, _, _, _ => none
 | k + 1, x0, x1, x5, x14 => if x14 = true then (neumeref08_skip.l0 k x0 (wrap64 (x1 + 1))) else (if x5 = 37 then (neumeref08_skip.l1 k x0 x1) else (some x1))
def neumeref08_skip.l1 : Nat → ByteArray → Int → Option (Int)
 | 0, _, _ => none
 | k + 1, x0, x1 => if x1 < (x0.size : Int) then (if 0 ≤ x1 then (if (bt x0 x1) = 10 then (neumeref08_skip.l0 k x0 x1) else (neumeref08_skip.l1 k x0 (wrap64 (x1 + 1)))) else (none)) else (neumeref08_skip.l0 k x0 x1)
end
def neumeref08_skip.f (k : Nat) (a0 : ByteArray) (a1 : Int) : Option (Int) := neumeref08_skip.l0 k a0 a1
theorem neumeref08_skip.mono_l : ∀ k, (∀ y0 y1, LeO (neumeref08_skip.l0 k y0 y1) (neumeref08_skip.l0 (k + 1) y0 y1)) ∧ (∀ y0 y1 y2 y3, LeO (neumeref08_skip.j1 k y0 y1 y2 y3) (neumeref08_skip.j1 (k + 1) y0 y1 y2 y3)) ∧ (∀ y0 y1, LeO (neumeref08_skip.l1 k y0 y1) (neumeref08_skip.l1 (k + 1) y0 y1))
 | 0 => ⟨fun _ _ r h => by simp [neumeref08_skip.l0] at h, fun _ _ _ _ r h => by simp [neumeref08_skip.j1] at h, fun _ _ r h => by simp [neumeref08_skip.l1] at h⟩
 | k + 1 => by
  obtain ⟨ih0, ih1, ih2⟩ := neumeref08_skip.mono_l k
  refine ⟨?_, ?_, ?_⟩
  ·intro y0 y1
   unfold neumeref08_skip.l0
   repeat' first
   | (with_reducible exact ih0 _ _)
   | (with_reducible exact ih1 _ _ _ _)
   | (with_reducible exact ih2 _ _)
   | (with_reducible exact LeO.refl _)
   | (with_reducible exact LeO.none _)
   | (with_reducible refine LeO.ite ?_ ?_)
   | (with_reducible refine LeO.bind ?_ (fun _ => ?_))
   | exact ih0 _ _
   | exact ih1 _ _ _ _
   | exact ih2 _ _
   | exact LeO.none _
   | refine LeO.ite ?_ ?_
   | refine LeO.bind ?_ (fun _ => ?_)
  ·intro y0 y1 y2 y3
   unfold neumeref08_skip.j1
   repeat' first
   | (with_reducible exact ih0 _ _)
   | (with_reducible exact ih1 _ _ _ _)
   | (with_reducible exact ih2 _ _)
   | (with_reducible exact LeO.refl _)
   | (with_reducible exact LeO.none _)
   | (with_reducible refine LeO.ite ?_ ?_)
   | (with_reducible refine LeO.bind ?_ (fun _ => ?_))
   | exact ih0 _ _
   | exact ih1 _ _ _ _
   | exact ih2 _ _
   | exact LeO.none _
   | refine LeO.ite ?_ ?_
   | refine LeO.bind ?_ (fun _ => ?_)
  ·intro y0 y1
   unfold neumeref08_skip.l1
   repeat' first
   | (with_reducible exact ih0 _ _)
   | (with_reducible exact ih1 _ _ _ _)
   | (with_reducible exact ih2 _ _)
   | (with_reducible exact LeO.refl _)
   | (with_reducible exact LeO.none _)
   | (with_reducible refine LeO.ite ?_ ?_)
   | (with_reducible refine LeO.bind ?_ (fun _ => ?_))
   | exact ih0 _ _
   | exact ih1 _ _ _ _
   | exact ih2 _ _
   | exact LeO.none _
   | refine LeO.ite ?_ ?_
   | refine LeO.bind ?_ (fun _ => ?_)
theorem neumeref08_skip.mono : ∀ a0 a1 k, LeO (neumeref08_skip.f k a0 a1) (neumeref08_skip.f (k + 1) a0 a1) := by
 intro a0 a1 k
 obtain ⟨ih0, ih1, ih2⟩ := neumeref08_skip.mono_l k
 unfold neumeref08_skip.f
 repeat' first
   | (with_reducible exact ih0 _ _)
   | (with_reducible exact ih1 _ _ _ _)
   | (with_reducible exact ih2 _ _)
   | (with_reducible exact LeO.refl _)
   | (with_reducible exact LeO.none _)
   | (with_reducible refine LeO.ite ?_ ?_)
   | (with_reducible refine LeO.bind ?_ (fun _ => ?_))
   | exact ih0 _ _
   | exact ih1 _ _ _ _
   | exact ih2 _ _
   | exact LeO.none _
   | refine LeO.ite ?_ ?_
   | refine LeO.bind ?_ (fun _ => ?_)
set_option maxHeartbeats 8000000 in
set_option maxRecDepth 100000 in
theorem neumeref08_skip.calls (k : Nat) (a0 : ByteArray) (a1 : Int) (r : Int) (w : World) (h : neumeref08_skip.f k a0 a1 = some r) :
  Calls Tryd.prog 23 #[.string a0, .int .i64 a1] w fun e w' => e = .returned (.int .i64 r) ∧ Drawn0 w w' := by
 have H : (neumeref08_skip.l0 k a0 a1) = some r := h
 clear h
 have H' := sd_ H
 clear H
 go_enter Tryd.func23, Tryd.ntmps23
 go_wp2
 go_loopg [1] k (fun kq v1 w' => ∃ (x1_1 : Int), v1 = .int .i64 x1_1 ∧ Aside0 (neumeref08_skip.l0 kq a0 x1_1 = some r) ∧ Aside0 (kq ≤ k) ∧ Drawn0 w w')
 case atStart => exact ⟨(a1), (by first | rfl | (simp; done) | (simp [*]; done) | (simp [bne]; done)), H', ⟨Nat.le_refl _⟩, by repeat (first | exact Drawn0.refl _ | apply Drawn0.step)⟩
 case round =>
  clear H'
  try clear c2; try clear p2
  obtain ⟨x1_1, rfl, HA, HK1, ⟨m1, rfl⟩⟩ := hrel
  cases gk with
  | zero => exact absurd HA.out (by simp [neumeref08_skip.l0])
  | succ k1 =>
   have H := HA.out
   clear HA
   simp only [neumeref08_skip.l0] at H
   by_cases c3 : x1_1 < (a0.size : Int)
   ·rw [if_pos c3] at H
    have c3b0 : decide (x1_1 < (a0.size : Int)) = true := dt_ c3
    clear c3
    by_cases c4 : 0 ≤ x1_1
    ·rw [if_pos c4] at H
     have c4b0 : decide (0 ≤ x1_1) = true := dt_ c4
     clear c4
     have HC6 := sd_ H
     clear H
     have p5 : 0 ≤ (x1_1 : Int) := od_ (by first | (with_reducible assumption) | assumption)
     have q5 : x1_1 < (a0.size : Int) := od_ (by first | (with_reducible assumption) | assumption)
     have hx5 := bt_at a0 x1_1
     replace p5 := eq_true p5
     replace q5 := eq_true q5
     go_upto_region 4 with (fail)
     go_cut [14] (fun v14 wc => ∃ (kq : Nat) (x14_5 : Bool), v14 = .bool x14_5 ∧ Aside0 (neumeref08_skip.j1 kq a0 x1_1 (bt a0 x1_1) x14_5 = some r) ∧ Aside0 (kq ≤ k1) ∧ Drawn0 w wc)
     case first =>
      have H := HC6.out
      clear HC6
      by_cases c7 : (bt a0 x1_1) = 32
      ·rw [if_pos c7] at H
       have c7b0 : ((bt a0 x1_1) == 32) = true := beq_iff_eq.mpr c7
       have c7b1 : ((bt a0 x1_1) != 32) = false := bne_eq_false_iff_eq.mpr c7
       clear c7
       (first | rw [c7b0] | (simp only [i64_w, i32_w]; rw [c7b0]) | skip)
       have H' := sd_ H
       clear H
       go_wp2
       go_meet
       case rel => exact ⟨_, (true), (by first | rfl | (simp; done) | (simp [*]; done) | (simp [bne]; done)), H', ⟨by have := HK1.out; first | omega | exact Nat.le_refl _⟩, by repeat (first | exact Drawn0.refl _ | apply Drawn0.step)⟩
      ·rw [if_neg c7] at H
       have c7b0 : ((bt a0 x1_1) == 32) = false := beq_eq_false_iff_ne.mpr c7
       have c7b1 : ((bt a0 x1_1) != 32) = true := bne_iff_ne.mpr c7
       (first | rw [c7b0] | (simp only [i64_w, i32_w]; rw [c7b0]) | skip)
       by_cases c8 : (bt a0 x1_1) = 9
       ·rw [if_pos c8] at H
        have c8b0 : ((bt a0 x1_1) == 9) = true := beq_iff_eq.mpr c8
        have c8b1 : ((bt a0 x1_1) != 9) = false := bne_eq_false_iff_eq.mpr c8
        clear c8
        have H' := sd_ H
        clear H
        go_wp2
        go_meet
        case rel => exact ⟨_, (true), (by first | rfl | (simp; done) | (simp [*]; done) | (simp [bne]; done)), H', ⟨by have := HK1.out; first | omega | exact Nat.le_refl _⟩, by repeat (first | exact Drawn0.refl _ | apply Drawn0.step)⟩
       ·rw [if_neg c8] at H
        have c8b0 : ((bt a0 x1_1) == 9) = false := beq_eq_false_iff_ne.mpr c8
        have c8b1 : ((bt a0 x1_1) != 9) = true := bne_iff_ne.mpr c8
        by_cases c9 : (bt a0 x1_1) = 10
        ·rw [if_pos c9] at H
         have c9b0 : ((bt a0 x1_1) == 10) = true := beq_iff_eq.mpr c9
         have c9b1 : ((bt a0 x1_1) != 10) = false := bne_eq_false_iff_eq.mpr c9
         clear c9
         have H' := sd_ H
         clear H
         go_wp2
         go_meet
         case rel => exact ⟨_, (true), (by first | rfl | (simp; done) | (simp [*]; done) | (simp [bne]; done)), H', ⟨by have := HK1.out; first | omega | exact Nat.le_refl _⟩, by repeat (first | exact Drawn0.refl _ | apply Drawn0.step)⟩
        ·rw [if_neg c9] at H
         have c9b0 : ((bt a0 x1_1) == 10) = false := beq_eq_false_iff_ne.mpr c9
         have c9b1 : ((bt a0 x1_1) != 10) = true := bne_iff_ne.mpr c9
         have H' := sd_ H
         clear H
         go_wp2
         go_meet
         case rel => exact ⟨_, (((bt a0 x1_1) == 13)), (by first | rfl | (simp; done) | (simp [*]; done) | (simp [bne]; done)), H', ⟨by have := HK1.out; first | omega | exact Nat.le_refl _⟩, by repeat (first | exact Drawn0.refl _ | apply Drawn0.step)⟩
     case rest =>
      clear HC6
      try clear c2; try clear p2; try clear c3; try clear c3b0; try clear c4; try clear c4b0; try clear p5; try clear q5; try clear hx5; try clear c7; try clear c7b0; try clear c7b1; try clear c8; try clear c8b0; try clear c8b1; try clear c9; try clear c9b0; try clear c9b1; try clear p2; try clear p5; try clear q5
      obtain ⟨kq, x14_5, rfl, HA, HJ5, ⟨mc5, rfl⟩⟩ := hcut
      cases kq with
      | zero => exact absurd HA.out (by simp [neumeref08_skip.j1])
      | succ kj5 =>
       have H := HA.out
       clear HA
       simp only [neumeref08_skip.j1] at H
       by_cases c10 : x14_5 = true
       ·subst c10
        have H1 : (neumeref08_skip.l0 kj5 a0 (wrap64 (x1_1 + 1))) = some r := by rw [if_pos rfl] at H; exact H
        clear H; have H := H1; clear H1
        have H' := sd_ H
        clear H
        go_wp2
        go_roundg kj5
        case measure => have := HK1.out; have := HJ5.out; omega
        case rel => exact ⟨(wrap64 (x1_1 + 1)), (by first | rfl | (simp; done) | (simp [*]; done) | (simp [bne]; done)), H', ⟨by have := HK1.out; have := HJ5.out; omega⟩, by repeat (first | exact Drawn0.refl _ | apply Drawn0.step)⟩
       ·replace c10 := bf_ c10
        subst c10
        have H1 : (if (bt a0 x1_1) = 37 then (neumeref08_skip.l1 kj5 a0 x1_1) else (some x1_1)) = some r := by rw [if_neg (show ¬ (false = true) by decide)] at H; exact H
        clear H; have H := H1; clear H1
        by_cases c11 : (bt a0 x1_1) = 37
        ·rw [if_pos c11] at H
         have c11b0 : ((bt a0 x1_1) == 37) = true := beq_iff_eq.mpr c11
         have c11b1 : ((bt a0 x1_1) != 37) = false := bne_eq_false_iff_eq.mpr c11
         clear c11
         have H' := sd_ H
         clear H
         go_wp2
         go_loopg [1] kj5 (fun kq v1 w' => ∃ (x1_3 : Int), v1 = .int .i64 x1_3 ∧ Aside0 (neumeref08_skip.l1 kq a0 x1_3 = some r) ∧ Aside0 (kq ≤ kj5) ∧ Drawn0 w w')
         case atStart => exact ⟨(x1_1), (by first | rfl | (simp; done) | (simp [*]; done) | (simp [bne]; done)), H', ⟨Nat.le_refl _⟩, by repeat (first | exact Drawn0.refl _ | apply Drawn0.step)⟩
         case round =>
          clear H'
          try clear c1; try clear c2; try clear p2; try clear c3; try clear c3b0; try clear c4; try clear c4b0; try clear c5; try clear p5; try clear q5; try clear hx5; try clear p6; try clear c7; try clear c7b0; try clear c7b1; try clear c8; try clear c8b0; try clear c8b1; try clear c9; try clear c9b0; try clear c9b1; try clear c10; try clear c11; try clear c11b0; try clear c11b1; try clear p2; try clear p5; try clear q5
          obtain ⟨x1_3, rfl, HA, HK3, ⟨m3, rfl⟩⟩ := hrel
          cases gk with
          | zero => exact absurd HA.out (by simp [neumeref08_skip.l1])
          | succ k3 =>
           have H := HA.out
           clear HA
           simp only [neumeref08_skip.l1] at H
           by_cases c12 : x1_3 < (a0.size : Int)
           ·rw [if_pos c12] at H
            have c12b0 : decide (x1_3 < (a0.size : Int)) = true := dt_ c12
            clear c12
            by_cases c13 : 0 ≤ x1_3
            ·rw [if_pos c13] at H
             have c13b0 : decide (0 ≤ x1_3) = true := dt_ c13
             clear c13
             by_cases c15 : (bt a0 x1_3) = 10
             ·rw [if_pos c15] at H
              have c15b0 : ((bt a0 x1_3) == 10) = true := beq_iff_eq.mpr c15
              have c15b1 : ((bt a0 x1_3) != 10) = false := bne_eq_false_iff_eq.mpr c15
              clear c15
              have H' := sd_ H
              clear H
              have p14 : 0 ≤ (x1_3 : Int) := od_ (by first | (with_reducible assumption) | assumption)
              have q14 : x1_3 < (a0.size : Int) := od_ (by first | (with_reducible assumption) | assumption)
              have hx14 := bt_at a0 x1_3
              replace p14 := eq_true p14
              replace q14 := eq_true q14
              go_wp2
              go_roundg k3
              case measure => have := HK1.out; have := HJ5.out; have := HK3.out; omega
              case rel => exact ⟨(x1_3), (by first | rfl | (simp; done) | (simp [*]; done) | (simp [bne]; done)), H', ⟨by have := HK1.out; have := HJ5.out; have := HK3.out; omega⟩, by repeat (first | exact Drawn0.refl _ | apply Drawn0.step)⟩
             ·rw [if_neg c15] at H
              have c15b0 : ((bt a0 x1_3) == 10) = false := beq_eq_false_iff_ne.mpr c15
              have c15b1 : ((bt a0 x1_3) != 10) = true := bne_iff_ne.mpr c15
              have H' := sd_ H
              clear H
              have p14 : 0 ≤ (x1_3 : Int) := od_ (by first | (with_reducible assumption) | assumption)
              have q14 : x1_3 < (a0.size : Int) := od_ (by first | (with_reducible assumption) | assumption)
              have hx14 := bt_at a0 x1_3
              replace p14 := eq_true p14
              replace q14 := eq_true q14
              go_wp2
              go_roundg k3
              case measure => have := HK1.out; have := HJ5.out; have := HK3.out; omega
              case rel => exact ⟨(wrap64 (x1_3 + 1)), (by first | rfl | (simp; done) | (simp [*]; done) | (simp [bne]; done)), H', ⟨by have := HK1.out; have := HJ5.out; have := HK3.out; omega⟩, by repeat (first | exact Drawn0.refl _ | apply Drawn0.step)⟩
            ·rw [if_neg c13] at H
             exact absurd H (by simp)
           ·rw [if_neg c12] at H
            have c12b0 : decide (x1_3 < (a0.size : Int)) = false := df_ c12
            clear c12
            have H' := sd_ H
            clear H
            go_wp2
            go_roundg k3
            case measure => have := HK1.out; have := HJ5.out; have := HK3.out; omega
            case rel => exact ⟨(x1_3), (by first | rfl | (simp; done) | (simp [*]; done) | (simp [bne]; done)), H', ⟨by have := HK1.out; have := HJ5.out; have := HK3.out; omega⟩, by repeat (first | exact Drawn0.refl _ | apply Drawn0.step)⟩
        ·rw [if_neg c11] at H
         have c11b0 : ((bt a0 x1_1) == 37) = false := beq_eq_false_iff_ne.mpr c11
         have c11b1 : ((bt a0 x1_1) != 37) = true := bne_iff_ne.mpr c11
         obtain rfl := Option.some.inj H
         go_wp2
         go_ret
         exact ⟨by first | rfl | (simp; done) | (simp [*]; done), by repeat (first | exact Drawn0.refl _ | apply Drawn0.step)⟩
    ·rw [if_neg c4] at H
     exact absurd H (by simp)
   ·rw [if_neg c3] at H
    have c3b0 : decide (x1_1 < (a0.size : Int)) = false := df_ c3
    clear c3
    obtain rfl := Option.some.inj H
    go_wp2
    go_ret
    exact ⟨by first | rfl | (simp; done) | (simp [*]; done), by repeat (first | exact Drawn0.refl _ | apply Drawn0.step)⟩

/-! ### neumeref08_sign: function 37 -/
def neumeref08_sign.l0 : Nat → Int → ByteArray → Int → Option (Bool)
 | 0, _, _, _ => none
 | k + 1, x0, x3, x4 => if x4 < (x3.size : Int) then (if 0 ≤ x4 then (if (bt x3 x4) = x0 then (some true) else (neumeref08_sign.l0 k x0 x3 (wrap64 (x4 + 1)))) else (none)) else (some false)
def neumeref08_sign.f (k : Nat) (a0 : Int) : Option (Bool) := neumeref08_sign.l0 k a0 (⟨#[123, 125, 60, 62, 124, 126, 40, 41, 47, 33, 46]⟩ : ByteArray) 0
theorem neumeref08_sign.mono_l : ∀ k, (∀ y0 y1 y2, LeO (neumeref08_sign.l0 k y0 y1 y2) (neumeref08_sign.l0 (k + 1) y0 y1 y2))
 | 0 => fun _ _ _ r h => by simp [neumeref08_sign.l0] at h
 | k + 1 => by
  have ih0 := neumeref08_sign.mono_l k
  ·intro y0 y1 y2
   unfold neumeref08_sign.l0
   repeat' first
   | (with_reducible exact ih0 _ _ _)
   | (with_reducible exact LeO.refl _)
   | (with_reducible exact LeO.none _)
   | (with_reducible refine LeO.ite ?_ ?_)
   | (with_reducible refine LeO.bind ?_ (fun _ => ?_))
   | exact ih0 _ _ _
   | exact LeO.none _
   | refine LeO.ite ?_ ?_
   | refine LeO.bind ?_ (fun _ => ?_)
theorem neumeref08_sign.mono : ∀ a0 k, LeO (neumeref08_sign.f k a0) (neumeref08_sign.f (k + 1) a0) := by
 intro a0 k
 have ih0 := neumeref08_sign.mono_l k
 unfold neumeref08_sign.f
 repeat' first
   | (with_reducible exact ih0 _ _ _)
   | (with_reducible exact LeO.refl _)
   | (with_reducible exact LeO.none _)
   | (with_reducible refine LeO.ite ?_ ?_)
   | (with_reducible refine LeO.bind ?_ (fun _ => ?_))
   | exact ih0 _ _ _
   | exact LeO.none _
   | refine LeO.ite ?_ ?_
   | refine LeO.bind ?_ (fun _ => ?_)
set_option maxHeartbeats 8000000 in
set_option maxRecDepth 100000 in
theorem neumeref08_sign.calls (k : Nat) (a0 : Int) (r : Bool) (w : World) (h : neumeref08_sign.f k a0 = some r) :
  Calls Tryd.prog 37 #[.int .u8 a0] w fun e w' => e = .returned (.bool r) ∧ Drawn0 w w' := by
 have H : (neumeref08_sign.l0 k a0 (⟨#[123, 125, 60, 62, 124, 126, 40, 41, 47, 33, 46]⟩ : ByteArray) 0) = some r := h
 clear h
 have H' := sd_ H
 clear H
 go_enter Tryd.func37, Tryd.ntmps37
 go_wp2
 go_loopg [4] k (fun kq v4 w' => ∃ (x4_1 : Int), v4 = .int .i64 x4_1 ∧ Aside0 (neumeref08_sign.l0 kq a0 (⟨#[123, 125, 60, 62, 124, 126, 40, 41, 47, 33, 46]⟩ : ByteArray) x4_1 = some r) ∧ Aside0 (kq ≤ k) ∧ Drawn0 w w')
 case atStart => exact ⟨(0), (by first | rfl | (simp; done) | (simp [*]; done) | (simp [bne]; done)), H', ⟨Nat.le_refl _⟩, by repeat (first | exact Drawn0.refl _ | apply Drawn0.step)⟩
 case round =>
  clear H'
  obtain ⟨x4_1, rfl, HA, HK1, ⟨m1, rfl⟩⟩ := hrel
  cases gk with
  | zero => exact absurd HA.out (by simp [neumeref08_sign.l0])
  | succ k1 =>
   have H := HA.out
   clear HA
   simp only [neumeref08_sign.l0] at H
   by_cases c2 : x4_1 < ((⟨#[123, 125, 60, 62, 124, 126, 40, 41, 47, 33, 46]⟩ : ByteArray).size : Int)
   ·rw [if_pos c2] at H
    have c2b0 : decide (x4_1 < ((⟨#[123, 125, 60, 62, 124, 126, 40, 41, 47, 33, 46]⟩ : ByteArray).size : Int)) = true := dt_ c2
    have c2b08 : decide (x4_1 < 11) = true := c2b0
    clear c2
    by_cases c3 : 0 ≤ x4_1
    ·rw [if_pos c3] at H
     have c3b0 : decide (0 ≤ x4_1) = true := dt_ c3
     clear c3
     by_cases c5 : (bt (⟨#[123, 125, 60, 62, 124, 126, 40, 41, 47, 33, 46]⟩ : ByteArray) x4_1) = a0
     ·rw [if_pos c5] at H
      have c5b0 : ((bt (⟨#[123, 125, 60, 62, 124, 126, 40, 41, 47, 33, 46]⟩ : ByteArray) x4_1) == a0) = true := beq_iff_eq.mpr c5
      have c5b1 : ((bt (⟨#[123, 125, 60, 62, 124, 126, 40, 41, 47, 33, 46]⟩ : ByteArray) x4_1) != a0) = false := bne_eq_false_iff_eq.mpr c5
      clear c5
      obtain rfl := Option.some.inj H
      have p4 : 0 ≤ (x4_1 : Int) := od_ (by first | (with_reducible assumption) | assumption)
      have q4 : x4_1 < (11 : Int) := od_ (by first | (with_reducible assumption) | assumption)
      have hx4 := bt_at (⟨#[123, 125, 60, 62, 124, 126, 40, 41, 47, 33, 46]⟩ : ByteArray) x4_1
      replace p4 := eq_true p4
      replace q4 := eq_true q4
      go_wp2
      go_ret
      exact ⟨by first | rfl | (simp; done) | (simp [*]; done), by repeat (first | exact Drawn0.refl _ | apply Drawn0.step)⟩
     ·rw [if_neg c5] at H
      have c5b0 : ((bt (⟨#[123, 125, 60, 62, 124, 126, 40, 41, 47, 33, 46]⟩ : ByteArray) x4_1) == a0) = false := beq_eq_false_iff_ne.mpr c5
      have c5b1 : ((bt (⟨#[123, 125, 60, 62, 124, 126, 40, 41, 47, 33, 46]⟩ : ByteArray) x4_1) != a0) = true := bne_iff_ne.mpr c5
      have H' := sd_ H
      clear H
      have p4 : 0 ≤ (x4_1 : Int) := od_ (by first | (with_reducible assumption) | assumption)
      have q4 : x4_1 < (11 : Int) := od_ (by first | (with_reducible assumption) | assumption)
      have hx4 := bt_at (⟨#[123, 125, 60, 62, 124, 126, 40, 41, 47, 33, 46]⟩ : ByteArray) x4_1
      replace p4 := eq_true p4
      replace q4 := eq_true q4
      go_wp2
      go_roundg k1
      case measure => have := HK1.out; omega
      case rel => exact ⟨(wrap64 (x4_1 + 1)), (by first | rfl | (simp; done) | (simp [*]; done) | (simp [bne]; done)), H', ⟨by have := HK1.out; omega⟩, by repeat (first | exact Drawn0.refl _ | apply Drawn0.step)⟩
    ·rw [if_neg c3] at H
     exact absurd H (by simp)
   ·rw [if_neg c2] at H
    have c2b0 : decide (x4_1 < ((⟨#[123, 125, 60, 62, 124, 126, 40, 41, 47, 33, 46]⟩ : ByteArray).size : Int)) = false := df_ c2
    have c2b08 : decide (x4_1 < 11) = false := c2b0
    clear c2
    obtain rfl := Option.some.inj H
    go_wp2
    go_ret
    exact ⟨by first | rfl | (simp; done) | (simp [*]; done), by repeat (first | exact Drawn0.refl _ | apply Drawn0.step)⟩

/-! ### neumeref08_long: function 46 -/
/-- Is the rune at a place the sign of no rune, and not written so? -/
def badAt (s : ByteArray) (p : Nat) : Prop := ((Utf8.decode s p).1 : Int) = 65533 ∧ (s.size < p + 3 ∨ (s.extract p (p + 3)).toList ≠ (⟨#[239, 191, 189]⟩ : ByteArray).toList)
instance (s : ByteArray) (p : Nat) : Decidable (badAt s p) := by unfold badAt; infer_instance
def longV (s : ByteArray) (p : Nat) : Nat := if badAt s p then 0 else (Utf8.decode s p).2
def neumeref08_long.f (a0 : ByteArray) (a1 : Int) : Option Int := if 0 ≤ a1 then (if a1 < a0.size then (if a0.size < 4611686018427387904 then some (longV a0 a1.toNat) else none) else none) else none
theorem dec_le (s : ByteArray) (p : Nat) (h : p < s.size) : p + (Utf8.decode s p).2 ≤ s.size := by
 unfold Utf8.decode
 dsimp only
 repeat' split
 all_goals (simp only [Bool.and_eq_true, decide_eq_true_eq] at *; omega)
theorem dec_ext (s : ByteArray) (p : Nat) (h : p < s.size) : Utf8.decode (s.extract p s.size) 0 = Utf8.decode s p := by
 have h1 := decodeGo_ex s p h
 unfold Go.Lib.decodeGo at h1
 rw [if_neg (by rw [ByteArray.size_extract]; omega)] at h1
 exact h1
theorem lit_list : (⟨#[239, 191, 189]⟩ : ByteArray).toList = [239, 191, 189] := by decide +kernel
set_option maxHeartbeats 4000000 in
set_option maxRecDepth 100000 in
theorem long_at (a0 : ByteArray) (p : Nat) (hp : p < a0.size) (hsz : a0.size < 4611686018427387904) (w : World) :
  Calls Tryd.prog 46 #[.string a0, .int .i64 p] w fun e w' => e = .returned (.int .i64 (longV a0 p)) ∧ Below w.heap.size w w' := by
 have hd := dec_ext a0 p hp
 have hle := dec_le a0 p hp
 have hwd := dec_pos a0 p hp
 have hus : (a0.extract p a0.size).size = a0.size - p := by rw [ByteArray.size_extract]; omega
 have hV : longV a0 p = if ((Utf8.decode a0 p).1 : Int) = 65533 ∧ (a0.size < p + 3 ∨ (a0.extract p (p + 3)).toList ≠ (⟨#[239, 191, 189]⟩ : ByteArray).toList) then 0 else (Utf8.decode a0 p).2 := rfl
 generalize hu : a0.extract p a0.size = u at hd hus
 have HU := sd_ hu
 clear hu
 have hnx0 : ∀ (wr : World), wr.heap[w.heap.size]? = some (.stringIter u 0) → ∀ ty, (Instr.next (.pointer (some ⟨w.heap.size, 0, none⟩)) true ty).run Tryd.prog wr = .ok (.tuple #[.bool true, .int .i64 0, .int .i32 ((Utf8.decode a0 p).1 : Int)]) (wr.iterAt w.heap.size u (Utf8.decode a0 p).2) := by
  intro wr hk ty
  rw [Lib.run_next_any_at wr w.heap.size u 0 ty hk (by omega), hd, Nat.zero_add]
  rfl
 clear hd
 generalize ((Utf8.decode a0 p).1 : Int) = rn at *
 generalize (Utf8.decode a0 p).2 = dn at *
 generalize longV a0 p = r at *
 have HN := sd_ hnx0
 have HV := sd_ hV
 clear hnx0 hV
 have e1 : (0 : Int) ≤ (p : Int) := by omega
 have e2 : (p : Int) ≤ (a0.size : Int) := by omega
 have e3 : wrap64 ((a0.size : Int) - (p : Int)) = (a0.size : Int) - (p : Int) := by unfold wrap64; omega
 have e4 : wrap64 ((p : Int) + 3) = (p : Int) + 3 := by unfold wrap64; omega
 go_enter Tryd.func46, Tryd.ntmps46
 go_wp2
 go_loopw [5] (fun _ w' => ∃ (pos : Nat), w'.heap[w.heap.size]? = some (.stringIter u pos) ∧ Below w.heap.size w w' ∧ (pos = 0 ∨ (pos = dn ∧ r = dn))) (fun _ w' => u.size - w'.iterPos w.heap.size)
 case atStart => exact ⟨0, by rw [← HU.out]; exact blk_new w _, ba_ (Below.refl w.heap.size w) _, Or.inl rfl⟩
 case round =>
  obtain ⟨pos, hk, hbel, hc⟩ := hrel
  rcases hc with rfl | ⟨hpd, hrd⟩
  ·have hnx := HN.out wr hk
   have hk2 := Lib.iterAt_heap wr w.heap.size u 0 dn hk
   have hb2 := Lib.below_iterAt hbel (Nat.le_refl w.heap.size) u dn
   have hpi := iterPos_at hk
   by_cases c1 : rn = 65533
   ·have q1 : (rn == 65533) = true := beq_iff_eq.mpr c1
    by_cases c2 : a0.size < p + 3
    ·have q2 : decide ((a0.size : Int) - (p : Int) < 3) = true := dt_ (by omega)
     have HR := sd_ (HV.out.trans (if_pos ⟨c1, Or.inl c2⟩))
     clear c1
     go_wp2
     go_ret
     rw [HR.out]
     exact ⟨rfl, hb2⟩
    ·have q2 : decide ((a0.size : Int) - (p : Int) < 3) = false := df_ (by omega)
     have e5 : (p : Int) ≤ (p : Int) + 3 := by omega
     have e6 : (p : Int) + 3 ≤ (a0.size : Int) := by omega
     by_cases c3 : (a0.extract p (p + 3)).toList = (⟨#[239, 191, 189]⟩ : ByteArray).toList
     ·have HR := sd_ (HV.out.trans (if_neg (fun q => q.2.elim c2 (fun q => q c3))))
      have q3 : ((a0.extract p (p + 3)).toList == (⟨#[239, 191, 189]⟩ : ByteArray).toList) = true := beq_iff_eq.mpr c3
      rw [lit_list] at q3
      clear c1 c3
      go_wp2
      refine ⟨⟨dn, hk2, hb2, Or.inr ⟨rfl, HR.out⟩⟩, ?_⟩
      rw [iterPos_at hk2, hpi]
      omega
     ·have HR := sd_ (HV.out.trans (if_pos ⟨c1, Or.inr c3⟩))
      have q3 : ((a0.extract p (p + 3)).toList == (⟨#[239, 191, 189]⟩ : ByteArray).toList) = false := beq_eq_false_iff_ne.mpr c3
      rw [lit_list] at q3
      clear c1 c3
      go_wp2
      go_ret
      rw [HR.out]
      exact ⟨rfl, hb2⟩
   ·have q1 : (rn == 65533) = false := beq_eq_false_iff_ne.mpr c1
    have HR := sd_ (HV.out.trans (if_neg (fun q => c1 q.1)))
    clear c1
    go_wp2
    refine ⟨⟨dn, hk2, hb2, Or.inr ⟨rfl, HR.out⟩⟩, ?_⟩
    rw [iterPos_at hk2, hpi]
    omega
  ·have h1 : 1 ≤ pos := by omega
   have h2 : pos + p ≤ a0.size := by omega
   have HP := sd_ (show r = pos by omega)
   clear hpd hrd hle hwd
   by_cases hlt : pos < u.size
   ·have hnx : ∀ ty, (Instr.next (.pointer (some ⟨w.heap.size, 0, none⟩)) true ty).run Tryd.prog wr = _ := fun ty => Lib.run_next_any_at wr w.heap.size u pos ty hk hlt
    have hb2 := Lib.below_iterAt hbel (Nat.le_refl w.heap.size) u (pos + (Utf8.decode u pos).2)
    have q1 : decide ((pos : Int) > 0) = true := dt_ (by omega)
    have q2 : (0 : Int) < (pos : Int) := by omega
    go_wp2
    go_ret
    rw [HP.out]
    exact ⟨rfl, hb2⟩
   ·have hnx : ∀ ty, (Instr.next (.pointer (some ⟨w.heap.size, 0, none⟩)) true ty).run Tryd.prog wr = _ := fun ty => Lib.run_next_end_at wr w.heap.size u pos ty hk hlt
    have e7 : (a0.size : Int) - (p : Int) = (pos : Int) := by omega
    rw [e7] at e3
    go_wp2
    go_ret
    rw [HP.out]
    exact ⟨rfl, hbel⟩
theorem neumeref08_long.calls (a0 : ByteArray) (a1 : Int) (r : Int) (w : World) (h : neumeref08_long.f a0 a1 = some r) :
  Calls Tryd.prog 46 #[.string a0, .int .i64 a1] w fun e w' => e = .returned (.int .i64 r) ∧ Below w.heap.size w w' := by
 unfold neumeref08_long.f at h
 split at h
 rotate_left
 ·exact absurd h (by simp)
 split at h
 rotate_left
 ·exact absurd h (by simp)
 split at h
 rotate_left
 ·exact absurd h (by simp)
 rename_i h1 h2 h3
 obtain rfl := Option.some.inj h
 have e : ((a1.toNat : Nat) : Int) = a1 := Int.toNat_of_nonneg h1
 have := long_at a0 a1.toNat (by omega) h3 w
 rw [e] at this
 exact this

/-! ### neumeref08_quoted: function 38 -/
def neumeref08_quoted.l0 : Nat → ByteArray → Int → Option (Int × Int × Int)
 | 0, _, _ => none
 | k + 1, x0, x6 => if x6 < (x0.size : Int) then (if 0 ≤ x6 then (if (bt x0 x6) = 34 then (some (wrap64 (x6 + 1), 0, 0)) else (if (bt x0 x6) ≥ 128 then ((neumeref08_long.f x0 x6).bind fun t192 => (if (bt x0 x6) < 32 then ((neumeref08_fault.f 10 x6).bind fun bt193 => (some (0, bt193.1, bt193.2))) else (if (bt x0 x6) = 127 then ((neumeref08_fault.f 10 x6).bind fun bt195 => (some (0, bt195.1, bt195.2))) else (if t192 = 0 then ((neumeref08_fault.f 10 x6).bind fun bt197 => (some (0, bt197.1, bt197.2))) else (neumeref08_quoted.l0 k x0 (wrap64 (x6 + t192))))))) else (if (bt x0 x6) < 32 then ((neumeref08_fault.f 10 x6).bind fun bt199 => (some (0, bt199.1, bt199.2))) else (if (bt x0 x6) = 127 then ((neumeref08_fault.f 10 x6).bind fun bt201 => (some (0, bt201.1, bt201.2))) else (if 1 = 0 then ((neumeref08_fault.f 10 x6).bind fun bt203 => (some (0, bt203.1, bt203.2))) else (neumeref08_quoted.l0 k x0 (wrap64 (x6 + 1)))))))) else (none)) else ((neumeref08_fault.f 14 (x0.size : Int)).bind fun bt190 => (some (0, bt190.1, bt190.2)))
def neumeref08_quoted.f (k : Nat) (a0 : ByteArray) (a1 : Int) : Option (Int × Int × Int) := neumeref08_quoted.l0 k a0 (wrap64 (a1 + 1))
theorem neumeref08_quoted.mono_l : ∀ k, (∀ y0 y1, LeO (neumeref08_quoted.l0 k y0 y1) (neumeref08_quoted.l0 (k + 1) y0 y1))
 | 0 => fun _ _ r h => by simp [neumeref08_quoted.l0] at h
 | k + 1 => by
  have ih0 := neumeref08_quoted.mono_l k
  ·intro y0 y1
   unfold neumeref08_quoted.l0
   repeat' first
   | (with_reducible exact ih0 _ _)
   | (with_reducible exact LeO.refl _)
   | (with_reducible exact LeO.none _)
   | (with_reducible refine LeO.ite ?_ ?_)
   | (with_reducible refine LeO.bind ?_ (fun _ => ?_))
   | exact ih0 _ _
   | exact LeO.none _
   | refine LeO.ite ?_ ?_
   | refine LeO.bind ?_ (fun _ => ?_)
theorem neumeref08_quoted.mono : ∀ a0 a1 k, LeO (neumeref08_quoted.f k a0 a1) (neumeref08_quoted.f (k + 1) a0 a1) := by
 intro a0 a1 k
 have ih0 := neumeref08_quoted.mono_l k
 unfold neumeref08_quoted.f
 repeat' first
   | (with_reducible exact ih0 _ _)
   | (with_reducible exact LeO.refl _)
   | (with_reducible exact LeO.none _)
   | (with_reducible refine LeO.ite ?_ ?_)
   | (with_reducible refine LeO.bind ?_ (fun _ => ?_))
   | exact ih0 _ _
   | exact LeO.none _
   | refine LeO.ite ?_ ?_
   | refine LeO.bind ?_ (fun _ => ?_)
set_option maxHeartbeats 8000000 in
set_option maxRecDepth 100000 in
theorem neumeref08_quoted.calls (k : Nat) (a0 : ByteArray) (a1 : Int) (r1 : Int) (r2 : Int) (r3 : Int) (w : World) (h : neumeref08_quoted.f k a0 a1 = some (r1, r2, r3)) :
  Calls Tryd.prog 38 #[.string a0, .int .i64 a1] w fun e w' => e = .returned (.tuple #[.int .i64 r1, .agg #[.int .i64 r2, .int .i64 r3]]) ∧ Below w.heap.size w w' := by
 have hu26 := Tryd.underlying26
 have HB := sd_ (Below.refl w.heap.size w)
 have H : (neumeref08_quoted.l0 k a0 (wrap64 (a1 + 1))) = some (r1, r2, r3) := h
 clear h
 have H' := sd_ H
 clear H
 go_enter Tryd.func38, Tryd.ntmps38
 go_wp2_with (first | ((with_reducible refine gate_dst (N := 5) rfl ?_); refine box_event ?hg (N := 5) ?hd (cs := #[.int .i64 0, .int .i64 0]) (t := 26) ?hr ?_; (case hd => rfl); (case hg => rfl); (case hr => first | (go_simp; done) | (go_simp; rfl)); intro gb189 hg w3 hbox hb; have BK189 := sd_ hbox; have GW189 := gw_ HB e0_ hg; have GE189 := GW189; replace HB := hb_ HB e0_ hb; clear hb hbox hg))
 go_loopg [6] k (fun kq v6 w' => ∃ (x6_1 : Int) (x190000_1 : Int) (x190001_1 : Int), v6 = .int .i64 x6_1 ∧ Aside0 (neumeref08_quoted.l0 kq a0 x6_1 = some (r1, r2, r3)) ∧ Aside0 (kq ≤ k) ∧ Aside0 (w'.heap[gb189]? = some (.cells #[.int .i64 x190000_1, .int .i64 x190001_1] 26 (0, 0))) ∧ Aside0 (Below w.heap.size w w'))
 case atStart => exact ⟨(wrap64 (a1 + 1)), (0), (0), (by first | rfl | (simp; done) | (simp [*]; done) | (simp [bne]; done)), H', ⟨Nat.le_refl _⟩, ⟨by (with_reducible repeat first | apply kn_ | apply kd_ | apply ka_); exact BK189.out⟩, ⟨by repeat (first | (with_reducible first | exact HB.out | apply ba_ | apply pd_ | apply d1_ | refine bs_ ?_ GE189.out) | exact HB.out)⟩⟩
 case round =>
  clear H'
  try clear p2; try clear c3
  obtain ⟨x6_1, x190000_1, x190001_1, rfl, HA, HK1, BK189, HB⟩ := hrel
  cases gk with
  | zero => exact absurd HA.out (by simp [neumeref08_quoted.l0])
  | succ k1 =>
   have H := HA.out
   clear HA
   simp only [neumeref08_quoted.l0] at H
   by_cases c4 : x6_1 < (a0.size : Int)
   ·rw [if_pos c4] at H
    have c4b0 : decide (x6_1 < (a0.size : Int)) = true := dt_ c4
    clear c4
    by_cases c5 : 0 ≤ x6_1
    ·rw [if_pos c5] at H
     have c5b0 : decide (0 ≤ x6_1) = true := dt_ c5
     clear c5
     by_cases c7 : (bt a0 x6_1) = 34
     ·rw [if_pos c7] at H
      have c7b0 : ((bt a0 x6_1) == 34) = true := beq_iff_eq.mpr c7
      have c7b1 : ((bt a0 x6_1) != 34) = false := bne_eq_false_iff_eq.mpr c7
      clear c7
      simp only [Option.some.injEq, Prod.mk.injEq] at H
      obtain ⟨rfl, rfl, rfl⟩ := H
      have p6 : 0 ≤ (x6_1 : Int) := od_ (by first | (with_reducible assumption) | assumption)
      have q6 : x6_1 < (a0.size : Int) := od_ (by first | (with_reducible assumption) | assumption)
      have hx6 := bt_at a0 x6_1
      replace p6 := eq_true p6
      replace q6 := eq_true q6
      have hcz8_0 : wr.cell? ⟨gb189, 0, none⟩ = some (.int .i64 x190000_1) := (kc_ BK189.out 0).trans rfl
      have hcz8_1 : wr.cell? ⟨gb189, 1, none⟩ = some (.int .i64 x190001_1) := (kc_ BK189.out 1).trans rfl
      have hfz8_0 := kf_ BK189.out 0
      have hfz8_1 := kf_ BK189.out 1
      go_wp2
      refine bodyPost_ret (results_tc rfl _ _ gb189 26 #[.int .i64 0, .int .i64 0] (0, 0) _ rfl (by (with_reducible repeat first | apply kn_ | apply kd_ | apply ka_); refine blk_put (cs := #[.int .i64 0, .int .i64 x190001_1]) ?_ 1 _ rfl; (with_reducible repeat first | apply kn_ | apply kd_ | apply ka_); refine blk_put (cs := #[.int .i64 x190000_1, .int .i64 x190001_1]) ?_ 0 _ rfl; (with_reducible repeat first | apply kn_ | apply kd_ | apply ka_); exact BK189.out) Tryd.underlying26 rfl (by kernel_rfl)) rfl ?_
      exact ⟨by first | rfl | (simp [errW_none, errW_some] <;> rfl) | (simp [*, errW_none, errW_some] <;> rfl), by repeat (first | (with_reducible first | exact HB.out | apply ba_ | apply pd_ | apply d1_ | refine bs_ ?_ GE189.out) | exact HB.out)⟩
     ·rw [if_neg c7] at H
      have c7b0 : ((bt a0 x6_1) == 34) = false := beq_eq_false_iff_ne.mpr c7
      have c7b1 : ((bt a0 x6_1) != 34) = true := bne_iff_ne.mpr c7
      by_cases c9 : (bt a0 x6_1) ≥ 128
      ·rw [if_pos c9] at H
       have c9b0 : decide (128 ≤ (bt a0 x6_1)) = true := dt_ c9
       clear c9
       replace H := ob_ H
       obtain ⟨t192, A100, H⟩ := H
       replace H : (if (bt a0 x6_1) < 32 then ((neumeref08_fault.f 10 x6_1).bind fun bt193 => (some (0, bt193.1, bt193.2))) else (if (bt a0 x6_1) = 127 then ((neumeref08_fault.f 10 x6_1).bind fun bt195 => (some (0, bt195.1, bt195.2))) else (if t192 = 0 then ((neumeref08_fault.f 10 x6_1).bind fun bt197 => (some (0, bt197.1, bt197.2))) else (neumeref08_quoted.l0 k1 a0 (wrap64 (x6_1 + t192)))))) = some (r1, r2, r3) := H
       have A10 := sd_ A100
       clear A100
       by_cases c11 : (bt a0 x6_1) < 32
       ·exact absurd (of_decide_eq_true c9b0) (by omega)
       ·rw [if_neg c11] at H
        have c11b0 : decide ((bt a0 x6_1) < 32) = false := df_ c11
        clear c11
        by_cases c16 : (bt a0 x6_1) = 127
        ·exact absurd (of_decide_eq_true c9b0) (by omega)
        ·rw [if_neg c16] at H
         have c16b0 : ((bt a0 x6_1) == 127) = false := beq_eq_false_iff_ne.mpr c16
         have c16b1 : ((bt a0 x6_1) != 127) = true := bne_iff_ne.mpr c16
         by_cases c21 : t192 = 0
         ·rw [if_pos c21] at H
          have c21b0 : (t192 == 0) = true := beq_iff_eq.mpr c21
          have c21b1 : (t192 != 0) = false := bne_eq_false_iff_eq.mpr c21
          clear c21
          replace H := ob_ H
          obtain ⟨⟨t197, t198⟩, A220, H⟩ := H
          replace H : (some (0, t197, t198)) = some (r1, r2, r3) := H
          have A22 := sd_ A220
          clear A220
          simp only [Option.some.injEq, Prod.mk.injEq] at H
          obtain ⟨rfl, rfl, rfl⟩ := H
          have p6 : 0 ≤ (x6_1 : Int) := od_ (by first | (with_reducible assumption) | assumption)
          have q6 : x6_1 < (a0.size : Int) := od_ (by first | (with_reducible assumption) | assumption)
          have hx6 := bt_at a0 x6_1
          replace p6 := eq_true p6
          replace q6 := eq_true q6
          go_wp2_with (first | ((with_reducible refine gate_callee (f := 46) rfl ?_); refine goesL_ (some 27) rfl rfl Tryd.func46 (by kernel_rfl) rfl #[.string a0, .int .i64 x6_1] rfl (by (try simp only [lm_, lq_, lx_]); first | done | rfl | (simp only [ld_, lt_]; rfl)) ?_; (with_reducible refine (neumeref08_long.calls a0 x6_1 t192 _ A10.out).mono ?_); rintro e w23 ⟨rfl, hb⟩; refine ⟨_, rfl, ?_⟩; replace BK189 := kb_ BK189 hb; replace HB := hb_ HB (e_ GE189 e0_) hb; (try clear hb); (try clear hb2); (try clear hk); (try clear hi)) | ((with_reducible refine gate_callee (f := 22) rfl ?_); refine goesL_ (some 39) rfl rfl Tryd.func22 (by kernel_rfl) rfl #[.int .i64 10, .int .i64 x6_1] rfl (by (try simp only [lm_, lq_, lx_]); first | done | rfl | (simp only [ld_, lt_]; rfl)) ?_; (with_reducible refine (neumeref08_fault.calls 10 x6_1 t197 t198 _ A22.out).mono ?_); rintro e w24 ⟨rfl, hb⟩; refine ⟨_, rfl, ?_⟩; replace BK189 := kb_ BK189 hb; replace HB := hb_ HB (e_ GE189 e0_) hb; (try clear hb); (try clear hb2); (try clear hk); (try clear hi); have hcz25_0 : w24.cell? ⟨gb189, 0, none⟩ = some (.int .i64 x190000_1) := (kc_ BK189.out 0).trans rfl; have hcz25_1 : w24.cell? ⟨gb189, 1, none⟩ = some (.int .i64 x190001_1) := (kc_ BK189.out 1).trans rfl; have hfz25_0 := kf_ BK189.out 0; have hfz25_1 := kf_ BK189.out 1))
          refine bodyPost_ret (results_tc rfl _ _ gb189 26 #[.int .i64 t197, .int .i64 t198] (0, 0) _ rfl (by (with_reducible repeat first | apply kn_ | apply kd_ | apply ka_); refine blk_put (cs := #[.int .i64 t197, .int .i64 x190001_1]) ?_ 1 _ rfl; (with_reducible repeat first | apply kn_ | apply kd_ | apply ka_); refine blk_put (cs := #[.int .i64 x190000_1, .int .i64 x190001_1]) ?_ 0 _ rfl; (with_reducible repeat first | apply kn_ | apply kd_ | apply ka_); exact BK189.out) Tryd.underlying26 rfl (by kernel_rfl)) rfl ?_
          exact ⟨by first | rfl | (simp [errW_none, errW_some] <;> rfl) | (simp [*, errW_none, errW_some] <;> rfl), by repeat (first | (with_reducible first | exact HB.out | apply ba_ | apply pd_ | apply d1_ | refine bs_ ?_ GE189.out) | exact HB.out)⟩
         ·rw [if_neg c21] at H
          have c21b0 : (t192 == 0) = false := beq_eq_false_iff_ne.mpr c21
          have c21b1 : (t192 != 0) = true := bne_iff_ne.mpr c21
          have H' := sd_ H
          clear H
          have p6 : 0 ≤ (x6_1 : Int) := od_ (by first | (with_reducible assumption) | assumption)
          have q6 : x6_1 < (a0.size : Int) := od_ (by first | (with_reducible assumption) | assumption)
          have hx6 := bt_at a0 x6_1
          replace p6 := eq_true p6
          replace q6 := eq_true q6
          go_wp2_with (first | ((with_reducible refine gate_callee (f := 46) rfl ?_); refine goesL_ (some 27) rfl rfl Tryd.func46 (by kernel_rfl) rfl #[.string a0, .int .i64 x6_1] rfl (by (try simp only [lm_, lq_, lx_]); first | done | rfl | (simp only [ld_, lt_]; rfl)) ?_; (with_reducible refine (neumeref08_long.calls a0 x6_1 t192 _ A10.out).mono ?_); rintro e w26 ⟨rfl, hb⟩; refine ⟨_, rfl, ?_⟩; replace BK189 := kb_ BK189 hb; replace HB := hb_ HB (e_ GE189 e0_) hb; (try clear hb); (try clear hb2); (try clear hk); (try clear hi)))
          go_roundg k1
          case measure => have := HK1.out; omega
          case rel => exact ⟨(wrap64 (x6_1 + t192)), (x190000_1), (x190001_1), (by first | rfl | (simp; done) | (simp [*]; done) | (simp [bne]; done)), H', ⟨by have := HK1.out; omega⟩, ⟨by (with_reducible repeat first | apply kn_ | apply kd_ | apply ka_); exact BK189.out⟩, ⟨by repeat (first | (with_reducible first | exact HB.out | apply ba_ | apply pd_ | apply d1_ | refine bs_ ?_ GE189.out) | exact HB.out)⟩⟩
      ·rw [if_neg c9] at H
       have c9b0 : decide (128 ≤ (bt a0 x6_1)) = false := df_ c9
       clear c9
       by_cases c27 : (bt a0 x6_1) < 32
       ·rw [if_pos c27] at H
        have c27b0 : decide ((bt a0 x6_1) < 32) = true := dt_ c27
        clear c27
        replace H := ob_ H
        obtain ⟨⟨t199, t200⟩, A280, H⟩ := H
        replace H : (some (0, t199, t200)) = some (r1, r2, r3) := H
        have A28 := sd_ A280
        clear A280
        simp only [Option.some.injEq, Prod.mk.injEq] at H
        obtain ⟨rfl, rfl, rfl⟩ := H
        have p6 : 0 ≤ (x6_1 : Int) := od_ (by first | (with_reducible assumption) | assumption)
        have q6 : x6_1 < (a0.size : Int) := od_ (by first | (with_reducible assumption) | assumption)
        have hx6 := bt_at a0 x6_1
        replace p6 := eq_true p6
        replace q6 := eq_true q6
        go_wp2_with (first | ((with_reducible refine gate_callee (f := 22) rfl ?_); refine goesL_ (some 39) rfl rfl Tryd.func22 (by kernel_rfl) rfl #[.int .i64 10, .int .i64 x6_1] rfl (by (try simp only [lm_, lq_, lx_]); first | done | rfl | (simp only [ld_, lt_]; rfl)) ?_; (with_reducible refine (neumeref08_fault.calls 10 x6_1 t199 t200 _ A28.out).mono ?_); rintro e w29 ⟨rfl, hb⟩; refine ⟨_, rfl, ?_⟩; replace BK189 := kb_ BK189 hb; replace HB := hb_ HB (e_ GE189 e0_) hb; (try clear hb); (try clear hb2); (try clear hk); (try clear hi); have hcz30_0 : w29.cell? ⟨gb189, 0, none⟩ = some (.int .i64 x190000_1) := (kc_ BK189.out 0).trans rfl; have hcz30_1 : w29.cell? ⟨gb189, 1, none⟩ = some (.int .i64 x190001_1) := (kc_ BK189.out 1).trans rfl; have hfz30_0 := kf_ BK189.out 0; have hfz30_1 := kf_ BK189.out 1))
        refine bodyPost_ret (results_tc rfl _ _ gb189 26 #[.int .i64 t199, .int .i64 t200] (0, 0) _ rfl (by (with_reducible repeat first | apply kn_ | apply kd_ | apply ka_); refine blk_put (cs := #[.int .i64 t199, .int .i64 x190001_1]) ?_ 1 _ rfl; (with_reducible repeat first | apply kn_ | apply kd_ | apply ka_); refine blk_put (cs := #[.int .i64 x190000_1, .int .i64 x190001_1]) ?_ 0 _ rfl; (with_reducible repeat first | apply kn_ | apply kd_ | apply ka_); exact BK189.out) Tryd.underlying26 rfl (by kernel_rfl)) rfl ?_
        exact ⟨by first | rfl | (simp [errW_none, errW_some] <;> rfl) | (simp [*, errW_none, errW_some] <;> rfl), by repeat (first | (with_reducible first | exact HB.out | apply ba_ | apply pd_ | apply d1_ | refine bs_ ?_ GE189.out) | exact HB.out)⟩
       ·rw [if_neg c27] at H
        have c27b0 : decide ((bt a0 x6_1) < 32) = false := df_ c27
        clear c27
        by_cases c31 : (bt a0 x6_1) = 127
        ·rw [if_pos c31] at H
         have c31b0 : ((bt a0 x6_1) == 127) = true := beq_iff_eq.mpr c31
         have c31b1 : ((bt a0 x6_1) != 127) = false := bne_eq_false_iff_eq.mpr c31
         clear c31
         replace H := ob_ H
         obtain ⟨⟨t201, t202⟩, A320, H⟩ := H
         replace H : (some (0, t201, t202)) = some (r1, r2, r3) := H
         have A32 := sd_ A320
         clear A320
         simp only [Option.some.injEq, Prod.mk.injEq] at H
         obtain ⟨rfl, rfl, rfl⟩ := H
         have p6 : 0 ≤ (x6_1 : Int) := od_ (by first | (with_reducible assumption) | assumption)
         have q6 : x6_1 < (a0.size : Int) := od_ (by first | (with_reducible assumption) | assumption)
         have hx6 := bt_at a0 x6_1
         replace p6 := eq_true p6
         replace q6 := eq_true q6
         go_wp2_with (first | ((with_reducible refine gate_callee (f := 22) rfl ?_); refine goesL_ (some 39) rfl rfl Tryd.func22 (by kernel_rfl) rfl #[.int .i64 10, .int .i64 x6_1] rfl (by (try simp only [lm_, lq_, lx_]); first | done | rfl | (simp only [ld_, lt_]; rfl)) ?_; (with_reducible refine (neumeref08_fault.calls 10 x6_1 t201 t202 _ A32.out).mono ?_); rintro e w33 ⟨rfl, hb⟩; refine ⟨_, rfl, ?_⟩; replace BK189 := kb_ BK189 hb; replace HB := hb_ HB (e_ GE189 e0_) hb; (try clear hb); (try clear hb2); (try clear hk); (try clear hi); have hcz34_0 : w33.cell? ⟨gb189, 0, none⟩ = some (.int .i64 x190000_1) := (kc_ BK189.out 0).trans rfl; have hcz34_1 : w33.cell? ⟨gb189, 1, none⟩ = some (.int .i64 x190001_1) := (kc_ BK189.out 1).trans rfl; have hfz34_0 := kf_ BK189.out 0; have hfz34_1 := kf_ BK189.out 1))
         refine bodyPost_ret (results_tc rfl _ _ gb189 26 #[.int .i64 t201, .int .i64 t202] (0, 0) _ rfl (by (with_reducible repeat first | apply kn_ | apply kd_ | apply ka_); refine blk_put (cs := #[.int .i64 t201, .int .i64 x190001_1]) ?_ 1 _ rfl; (with_reducible repeat first | apply kn_ | apply kd_ | apply ka_); refine blk_put (cs := #[.int .i64 x190000_1, .int .i64 x190001_1]) ?_ 0 _ rfl; (with_reducible repeat first | apply kn_ | apply kd_ | apply ka_); exact BK189.out) Tryd.underlying26 rfl (by kernel_rfl)) rfl ?_
         exact ⟨by first | rfl | (simp [errW_none, errW_some] <;> rfl) | (simp [*, errW_none, errW_some] <;> rfl), by repeat (first | (with_reducible first | exact HB.out | apply ba_ | apply pd_ | apply d1_ | refine bs_ ?_ GE189.out) | exact HB.out)⟩
        ·rw [if_neg c31] at H
         have c31b0 : ((bt a0 x6_1) == 127) = false := beq_eq_false_iff_ne.mpr c31
         have c31b1 : ((bt a0 x6_1) != 127) = true := bne_iff_ne.mpr c31
         by_cases c35 : 1 = 0
         ·exact absurd c35 (by decide)
         ·rw [if_neg c35] at H
          have c35b0 : (1 == 0) = false := beq_eq_false_iff_ne.mpr c35
          have c35b1 : (1 != 0) = true := bne_iff_ne.mpr c35
          have H' := sd_ H
          clear H
          have p6 : 0 ≤ (x6_1 : Int) := od_ (by first | (with_reducible assumption) | assumption)
          have q6 : x6_1 < (a0.size : Int) := od_ (by first | (with_reducible assumption) | assumption)
          have hx6 := bt_at a0 x6_1
          replace p6 := eq_true p6
          replace q6 := eq_true q6
          go_wp2
          go_roundg k1
          case measure => have := HK1.out; omega
          case rel => exact ⟨(wrap64 (x6_1 + 1)), (x190000_1), (x190001_1), (by first | rfl | (simp; done) | (simp [*]; done) | (simp [bne]; done)), H', ⟨by have := HK1.out; omega⟩, ⟨by (with_reducible repeat first | apply kn_ | apply kd_ | apply ka_); exact BK189.out⟩, ⟨by repeat (first | (with_reducible first | exact HB.out | apply ba_ | apply pd_ | apply d1_ | refine bs_ ?_ GE189.out) | exact HB.out)⟩⟩
    ·rw [if_neg c5] at H
     exact absurd H (by simp)
   ·rw [if_neg c4] at H
    have c4b0 : decide (x6_1 < (a0.size : Int)) = false := df_ c4
    clear c4
    replace H := ob_ H
    obtain ⟨⟨t190, t191⟩, A390, H⟩ := H
    replace H : (some (0, t190, t191)) = some (r1, r2, r3) := H
    have A39 := sd_ A390
    clear A390
    simp only [Option.some.injEq, Prod.mk.injEq] at H
    obtain ⟨rfl, rfl, rfl⟩ := H
    go_wp2_with (first | ((with_reducible refine gate_callee (f := 22) rfl ?_); refine goesL_ (some 45) rfl rfl Tryd.func22 (by kernel_rfl) rfl #[.int .i64 14, .int .i64 (a0.size : Int)] rfl (by (try simp only [lm_, lq_, lx_]); first | done | rfl | (simp only [ld_, lt_]; rfl)) ?_; (with_reducible refine (neumeref08_fault.calls 14 (a0.size : Int) t190 t191 _ A39.out).mono ?_); rintro e w40 ⟨rfl, hb⟩; refine ⟨_, rfl, ?_⟩; replace BK189 := kb_ BK189 hb; replace HB := hb_ HB (e_ GE189 e0_) hb; (try clear hb); (try clear hb2); (try clear hk); (try clear hi); have hcz41_0 : w40.cell? ⟨gb189, 0, none⟩ = some (.int .i64 x190000_1) := (kc_ BK189.out 0).trans rfl; have hcz41_1 : w40.cell? ⟨gb189, 1, none⟩ = some (.int .i64 x190001_1) := (kc_ BK189.out 1).trans rfl; have hfz41_0 := kf_ BK189.out 0; have hfz41_1 := kf_ BK189.out 1))
    refine bodyPost_ret (results_tc rfl _ _ gb189 26 #[.int .i64 t190, .int .i64 t191] (0, 0) _ rfl (by (with_reducible repeat first | apply kn_ | apply kd_ | apply ka_); refine blk_put (cs := #[.int .i64 t190, .int .i64 x190001_1]) ?_ 1 _ rfl; (with_reducible repeat first | apply kn_ | apply kd_ | apply ka_); refine blk_put (cs := #[.int .i64 x190000_1, .int .i64 x190001_1]) ?_ 0 _ rfl; (with_reducible repeat first | apply kn_ | apply kd_ | apply ka_); exact BK189.out) Tryd.underlying26 rfl (by kernel_rfl)) rfl ?_
    exact ⟨by first | rfl | (simp [errW_none, errW_some] <;> rfl) | (simp [*, errW_none, errW_some] <;> rfl), by repeat (first | (with_reducible first | exact HB.out | apply ba_ | apply pd_ | apply d1_ | refine bs_ ?_ GE189.out) | exact HB.out)⟩

end Go.Proofs.YtmffjjncnbeldaaDoor.P
