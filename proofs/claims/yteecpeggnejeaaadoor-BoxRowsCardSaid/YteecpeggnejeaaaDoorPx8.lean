-- Written by a program of this session (wip/tools/xprint.py, over the kit's print): Lean checks it.
import Derived.Test.YteecpeggnejeaaaDoorPx0
import Derived.Test.YteecpeggnejeaaaDoorPx5
namespace Go.Proofs.YteecpeggnejeaaaDoor.P
open Go.RowKit Go.Proofs.YteecpeggnejeaaaDoorW.PrintWords Go.Proofs.YteecpeggnejeaaaDoorW.PrintLast Go.Proofs.YteecpeggnejeaaaDoorW.PrintMore
attribute [local go_sem] max2_int min2_int max_two min_two max_three min_three max_four min_four   -- for this text's walks alone
set_option linter.unusedVariables false
set_option linter.unusedSimpArgs false

/-! ### neumeref03_Apart: function 24 -/
mutual
def neumeref03_Apart.l0 : Nat → List (S23) → Int → Option (Int × Int × Bool)
 | 0, _, _ => none
 | k + 1, x0, x5 => if x5 < (x0.length : Int) then (if 0 ≤ x5 then ((neumeref03_Check.f ((rd_T23 x0 x5).f0) ((rd_T23 x0 x5).f1) ((rd_T23 x0 x5).f2) ((rd_T23 x0 x5).f3)).bind fun t315 => (if t315 = true then (neumeref03_Apart.l0 k x0 (wrap64 (x5 + 1))) else (some (0, 0, false)))) else (none)) else (neumeref03_Apart.l1 k x0 0)
def neumeref03_Apart.l1 : Nat → List (S23) → Int → Option (Int × Int × Bool)
 | 0, _, _ => none
 | k + 1, x0, x6 => if x6 < (x0.length : Int) then (neumeref03_Apart.l2 k x0 x6 (wrap64 (x6 + 1))) else (some ((-1), (-1), true))
def neumeref03_Apart.l2 : Nat → List (S23) → Int → Int → Option (Int × Int × Bool)
 | 0, _, _, _ => none
 | k + 1, x0, x6, x7 => if x7 < (x0.length : Int) then (if 0 ≤ x6 then (if x6 < (x0.length : Int) then (if 0 ≤ x7 then ((neumeref03_Meet.f ((rd_T23 x0 x6).f0) ((rd_T23 x0 x6).f1) ((rd_T23 x0 x6).f2) ((rd_T23 x0 x6).f3) ((rd_T23 x0 x7).f0) ((rd_T23 x0 x7).f1) ((rd_T23 x0 x7).f2) ((rd_T23 x0 x7).f3)).bind fun t318 => (if t318 = true then (some (x6, x7, false)) else (neumeref03_Apart.l2 k x0 x6 (wrap64 (x7 + 1))))) else (none)) else (none)) else (none)) else (neumeref03_Apart.l1 k x0 (wrap64 (x6 + 1)))
end
def neumeref03_Apart.f (k : Nat) (l0 : List (S23)) : Option (Int × Int × Bool) := if (l0.length : Int) > 4096 then (some (0, 0, false)) else (neumeref03_Apart.l0 k l0 0)
theorem neumeref03_Apart.mono_l : ∀ k, (∀ y0 y1, LeO (neumeref03_Apart.l0 k y0 y1) (neumeref03_Apart.l0 (k + 1) y0 y1)) ∧ (∀ y0 y1, LeO (neumeref03_Apart.l1 k y0 y1) (neumeref03_Apart.l1 (k + 1) y0 y1)) ∧ (∀ y0 y1 y2, LeO (neumeref03_Apart.l2 k y0 y1 y2) (neumeref03_Apart.l2 (k + 1) y0 y1 y2))
 | 0 => ⟨fun _ _ r h => by simp [neumeref03_Apart.l0] at h, fun _ _ r h => by simp [neumeref03_Apart.l1] at h, fun _ _ _ r h => by simp [neumeref03_Apart.l2] at h⟩
 | k + 1 => by
  obtain ⟨ih0, ih1, ih2⟩ := neumeref03_Apart.mono_l k
  refine ⟨?_, ?_, ?_⟩
  ·intro y0 y1
   unfold neumeref03_Apart.l0
   repeat' first
   | (with_reducible exact ih0 _ _)
   | (with_reducible exact ih1 _ _)
   | (with_reducible exact ih2 _ _ _)
   | (with_reducible exact LeO.refl _)
   | (with_reducible exact LeO.none _)
   | (with_reducible refine LeO.ite ?_ ?_)
   | (with_reducible refine LeO.bind ?_ (fun _ => ?_))
   | exact ih0 _ _
   | exact ih1 _ _
   | exact ih2 _ _ _
   | exact LeO.none _
   | refine LeO.ite ?_ ?_
   | refine LeO.bind ?_ (fun _ => ?_)
  ·intro y0 y1
   unfold neumeref03_Apart.l1
   repeat' first
   | (with_reducible exact ih0 _ _)
   | (with_reducible exact ih1 _ _)
   | (with_reducible exact ih2 _ _ _)
   | (with_reducible exact LeO.refl _)
   | (with_reducible exact LeO.none _)
   | (with_reducible refine LeO.ite ?_ ?_)
   | (with_reducible refine LeO.bind ?_ (fun _ => ?_))
   | exact ih0 _ _
   | exact ih1 _ _
   | exact ih2 _ _ _
   | exact LeO.none _
   | refine LeO.ite ?_ ?_
   | refine LeO.bind ?_ (fun _ => ?_)
  ·intro y0 y1 y2
   unfold neumeref03_Apart.l2
   repeat' first
   | (with_reducible exact ih0 _ _)
   | (with_reducible exact ih1 _ _)
   | (with_reducible exact ih2 _ _ _)
   | (with_reducible exact LeO.refl _)
   | (with_reducible exact LeO.none _)
   | (with_reducible refine LeO.ite ?_ ?_)
   | (with_reducible refine LeO.bind ?_ (fun _ => ?_))
   | exact ih0 _ _
   | exact ih1 _ _
   | exact ih2 _ _ _
   | exact LeO.none _
   | refine LeO.ite ?_ ?_
   | refine LeO.bind ?_ (fun _ => ?_)
theorem neumeref03_Apart.mono : ∀ a0 k, LeO (neumeref03_Apart.f k a0) (neumeref03_Apart.f (k + 1) a0) := by
 intro a0 k
 obtain ⟨ih0, ih1, ih2⟩ := neumeref03_Apart.mono_l k
 unfold neumeref03_Apart.f
 repeat' first
   | (with_reducible exact ih0 _ _)
   | (with_reducible exact ih1 _ _)
   | (with_reducible exact ih2 _ _ _)
   | (with_reducible exact LeO.refl _)
   | (with_reducible exact LeO.none _)
   | (with_reducible refine LeO.ite ?_ ?_)
   | (with_reducible refine LeO.bind ?_ (fun _ => ?_))
   | exact ih0 _ _
   | exact ih1 _ _
   | exact ih2 _ _ _
   | exact LeO.none _
   | refine LeO.ite ?_ ?_
   | refine LeO.bind ?_ (fun _ => ?_)
def neumeref03_Apart.T14 : Bool × List (List Nat × List Nat) := (true, [([], []), ([], []), ([0, 1], [0, 1]), ([2], [2]), ([], []), ([], []), ([4, 5], [4, 5]), ([6], [6]), ([3, 7], [3, 7])])
def neumeref03_Apart.B14 : List Nat := [0, 0, 3, 7, 0, 0, 48, 112, 255]
theorem neumeref03_Apart.tab14 : rtab .any (opsOf Tryd.f24 14) = neumeref03_Apart.T14 := by kernel_rfl
theorem neumeref03_Apart.bits14 : waitsOk neumeref03_Apart.T14.2 neumeref03_Apart.B14 = true := by kernel_rfl
set_option maxHeartbeats 8000000 in
set_option maxRecDepth 100000 in
theorem neumeref03_Apart.calls (k : Nat) (A0 : Option Addr) (c0 : Nat) (l0 : List (S23)) (r1 : Int) (r2 : Int) (r3 : Bool) (w : World) (hr0 : Kd.C k23 w A0 l0.length l0) (hc0 : l0.length ≤ c0) (h : neumeref03_Apart.f k l0 = some (r1, r2, r3)) :
  Calls Tryd.prog 24 #[.slice A0 l0.length c0] w fun e w' => e = .returned (.tuple #[.int .i64 r1, .int .i64 r2, .bool r3]) ∧ Below w.heap.size w w' := by
 have hu23 := Tryd.underlying23
 have HR0 := sd_ hr0
 have HC0 := sd_ hc0
 clear hr0 hc0
 have HB := sd_ (Below.refl w.heap.size w)
 have H : (if (l0.length : Int) > 4096 then (some (0, 0, false)) else (neumeref03_Apart.l0 k l0 0)) = some (r1, r2, r3) := h
 clear h
 by_cases c2 : (l0.length : Int) > 4096
 ·rw [if_pos c2] at H
  have c2b0 : decide (4096 < (l0.length : Int)) = true := dt_ c2
  have c2b1 : decide (4096 < l0.length) = true := dt_ (by omega)
  clear c2
  simp only [Option.some.injEq, Prod.mk.injEq] at H
  obtain ⟨rfl, rfl, rfl⟩ := H
  go_enter Tryd.func24, Tryd.ntmps24
  go_wp2
  go_ret3
  exact ⟨by first | rfl | (simp [errW_none, errW_some] <;> rfl) | (simp [*, errW_none, errW_some] <;> rfl), by repeat (first | (with_reducible first | exact HB.out | apply ba_ | apply pd_ | apply d1_) | exact HB.out)⟩
 ·rw [if_neg c2] at H
  have c2b0 : decide (4096 < (l0.length : Int)) = false := df_ c2
  have c2b1 : decide (4096 < l0.length) = false := df_ (by omega)
  clear c2
  have H' := sd_ H
  clear H
  go_enter Tryd.func24, Tryd.ntmps24
  go_wp2
  go_loopg [5] k (fun kq v5 w' => ∃ (x5_1 : Int), v5 = .int .i64 x5_1 ∧ Aside0 (neumeref03_Apart.l0 kq l0 x5_1 = some (r1, r2, r3)) ∧ Aside0 (kq ≤ k) ∧ Aside0 (Below w.heap.size w w'))
  case atStart => exact ⟨(0), (by first | rfl | (simp; done) | (simp [*]; done) | (simp [bne]; done)), H', ⟨Nat.le_refl _⟩, ⟨by repeat (first | (with_reducible first | exact HB.out | apply ba_ | apply pd_ | apply d1_) | exact HB.out)⟩⟩
  case round =>
   clear H'
   try clear c2; try clear c2b0; try clear c2b1; try clear p2
   obtain ⟨x5_1, rfl, HA, HK1, HB⟩ := hrel
   cases gk with
   | zero => exact absurd HA.out (by simp [neumeref03_Apart.l0])
   | succ k1 =>
    have H := HA.out
    clear HA
    simp only [neumeref03_Apart.l0] at H
    by_cases c3 : x5_1 < (l0.length : Int)
    ·rw [if_pos c3] at H
     have c3b0 : decide (x5_1 < (l0.length : Int)) = true := dt_ c3
     clear c3
     by_cases c4 : 0 ≤ x5_1
     ·rw [if_pos c4] at H
      have c4b0 : decide (0 ≤ x5_1) = true := dt_ c4
      clear c4
      replace H := ob_ H
      obtain ⟨t315, A50, H⟩ := H
      replace H : (if t315 = true then (neumeref03_Apart.l0 k1 l0 (wrap64 (x5_1 + 1))) else (some (0, 0, false))) = some (r1, r2, r3) := H
      have A5 := sd_ A50
      clear A50
      by_cases c6 : t315 = true
      ·subst c6
       have H1 : (neumeref03_Apart.l0 k1 l0 (wrap64 (x5_1 + 1))) = some (r1, r2, r3) := by rw [if_pos rfl] at H; exact H
       clear H; have H := H1; clear H1
       have H' := sd_ H
       clear H
       have p314 : 0 ≤ (x5_1 : Int) := od_ (by first | (with_reducible assumption) | assumption)
       have q314 : x5_1 < (l0.length : Int) := od_ (by first | (with_reducible assumption) | assumption)
       obtain ⟨ad314, e314, hx314_0, hx314_1, hx314_2, hx314_3⟩ := at_T23 HR0.out x5_1 p314 q314
       cases e314
       replace hx314_0 := (HB.out.cell (wb_ w _ hx314_0)).trans hx314_0
       replace hx314_1 := (HB.out.cell (wb_ w _ hx314_1)).trans hx314_1
       replace hx314_2 := (HB.out.cell (wb_ w _ hx314_2)).trans hx314_2
       replace hx314_3 := (HB.out.cell (wb_ w _ hx314_3)).trans hx314_3
       replace p314 := eq_true p314
       replace q314 := eq_true q314
       go_wp2_with (first | ((with_reducible refine gate_callee (f := 13) rfl ?_); refine goesL_ (some 21) rfl rfl Tryd.func13 (by kernel_rfl) rfl #[.agg #[.int .i64 ((rd_T23 l0 x5_1).f0), .int .i64 ((rd_T23 l0 x5_1).f1), .int .i64 ((rd_T23 l0 x5_1).f2), .int .i64 ((rd_T23 l0 x5_1).f3)]] rfl (by (try simp only [lm_, lq_, lx_]); first | done | rfl | (simp only [ld_, lt_]; rfl)) ?_; (with_reducible refine (neumeref03_Check.calls ((rd_T23 l0 x5_1).f0) ((rd_T23 l0 x5_1).f1) ((rd_T23 l0 x5_1).f2) ((rd_T23 l0 x5_1).f3) true _ A5.out).mono ?_); rintro e w7 ⟨rfl, hb⟩; refine ⟨_, rfl, ?_⟩; have n0_ := sd_ (bt_ (by repeat (first | (with_reducible first | exact HB.out | apply ba_ | apply pd_ | apply d1_) | exact HB.out)) hb); clear HB; have HB := n0_; clear n0_; (try clear hb); (try clear hb2); (try clear hk); (try clear hi)))
       go_roundg k1
       case measure => have := HK1.out; omega
       case rel => exact ⟨(wrap64 (x5_1 + 1)), (by first | rfl | (simp; done) | (simp [*]; done) | (simp [bne]; done)), H', ⟨by have := HK1.out; omega⟩, ⟨by repeat (first | (with_reducible first | exact HB.out | apply ba_ | apply pd_ | apply d1_) | exact HB.out)⟩⟩
      ·replace c6 := bf_ c6
       subst c6
       have H1 : (some (0, 0, false)) = some (r1, r2, r3) := by rw [if_neg (show ¬ (false = true) by decide)] at H; exact H
       clear H; have H := H1; clear H1
       simp only [Option.some.injEq, Prod.mk.injEq] at H
       obtain ⟨rfl, rfl, rfl⟩ := H
       have p314 : 0 ≤ (x5_1 : Int) := od_ (by first | (with_reducible assumption) | assumption)
       have q314 : x5_1 < (l0.length : Int) := od_ (by first | (with_reducible assumption) | assumption)
       obtain ⟨ad314, e314, hx314_0, hx314_1, hx314_2, hx314_3⟩ := at_T23 HR0.out x5_1 p314 q314
       cases e314
       replace hx314_0 := (HB.out.cell (wb_ w _ hx314_0)).trans hx314_0
       replace hx314_1 := (HB.out.cell (wb_ w _ hx314_1)).trans hx314_1
       replace hx314_2 := (HB.out.cell (wb_ w _ hx314_2)).trans hx314_2
       replace hx314_3 := (HB.out.cell (wb_ w _ hx314_3)).trans hx314_3
       replace p314 := eq_true p314
       replace q314 := eq_true q314
       go_wp2_with (first | ((with_reducible refine gate_callee (f := 13) rfl ?_); refine goesL_ (some 21) rfl rfl Tryd.func13 (by kernel_rfl) rfl #[.agg #[.int .i64 ((rd_T23 l0 x5_1).f0), .int .i64 ((rd_T23 l0 x5_1).f1), .int .i64 ((rd_T23 l0 x5_1).f2), .int .i64 ((rd_T23 l0 x5_1).f3)]] rfl (by (try simp only [lm_, lq_, lx_]); first | done | rfl | (simp only [ld_, lt_]; rfl)) ?_; (with_reducible refine (neumeref03_Check.calls ((rd_T23 l0 x5_1).f0) ((rd_T23 l0 x5_1).f1) ((rd_T23 l0 x5_1).f2) ((rd_T23 l0 x5_1).f3) false _ A5.out).mono ?_); rintro e w8 ⟨rfl, hb⟩; refine ⟨_, rfl, ?_⟩; have n0_ := sd_ (bt_ (by repeat (first | (with_reducible first | exact HB.out | apply ba_ | apply pd_ | apply d1_) | exact HB.out)) hb); clear HB; have HB := n0_; clear n0_; (try clear hb); (try clear hb2); (try clear hk); (try clear hi)))
       go_ret3
       exact ⟨by first | rfl | (simp [errW_none, errW_some] <;> rfl) | (simp [*, errW_none, errW_some] <;> rfl), by repeat (first | (with_reducible first | exact HB.out | apply ba_ | apply pd_ | apply d1_) | exact HB.out)⟩
     ·rw [if_neg c4] at H
      exact absurd H (by simp)
    ·rw [if_neg c3] at H
     have c3b0 : decide (x5_1 < (l0.length : Int)) = false := df_ c3
     clear c3
     have H' := sd_ H
     clear H
     go_wp2
     go_loopg [6] k1 (fun kq v6 w' => ∃ (x6_2 : Int), v6 = .int .i64 x6_2 ∧ Aside0 (neumeref03_Apart.l1 kq l0 x6_2 = some (r1, r2, r3)) ∧ Aside0 (kq ≤ k1) ∧ Aside0 (Below w.heap.size w w'))
     case atStart => exact ⟨(0), (by first | rfl | (simp; done) | (simp [*]; done) | (simp [bne]; done)), H', ⟨Nat.le_refl _⟩, ⟨by repeat (first | (with_reducible first | exact HB.out | apply ba_ | apply pd_ | apply d1_) | exact HB.out)⟩⟩
     case round =>
      clear H'
      try clear c1; try clear c2; try clear c2b0; try clear c2b1; try clear p2; try clear c3; try clear c3b0; try clear p3; try clear q3; try clear hx3; try clear c4; try clear c4b0; try clear c6; try clear p6; try clear hx314_0; try clear hx314_1; try clear hx314_2; try clear hx314_3; try clear p2; try clear p314; try clear q314
      obtain ⟨x6_2, rfl, HA, HK2, HB⟩ := hrel
      cases gk with
      | zero => exact absurd HA.out (by simp [neumeref03_Apart.l1])
      | succ k2 =>
       have H := HA.out
       clear HA
       simp only [neumeref03_Apart.l1] at H
       by_cases c9 : x6_2 < (l0.length : Int)
       ·rw [if_pos c9] at H
        have c9b0 : decide (x6_2 < (l0.length : Int)) = true := dt_ c9
        clear c9
        have H' := sd_ H
        clear H
        go_wp2
        go_loopg [7] k2 (fun kq v7 w' => ∃ (x7_3 : Int), v7 = .int .i64 x7_3 ∧ Aside0 (neumeref03_Apart.l2 kq l0 x6_2 x7_3 = some (r1, r2, r3)) ∧ Aside0 (kq ≤ k2) ∧ Aside0 (Below w.heap.size w w'))
        case atStart => exact ⟨(wrap64 (x6_2 + 1)), (by first | rfl | (simp; done) | (simp [*]; done) | (simp [bne]; done)), H', ⟨Nat.le_refl _⟩, ⟨by repeat (first | (with_reducible first | exact HB.out | apply ba_ | apply pd_ | apply d1_) | exact HB.out)⟩⟩
        case round =>
         clear H'
         try clear c1; try clear c2; try clear c2b0; try clear c2b1; try clear p2; try clear c3; try clear c3b0; try clear p3; try clear q3; try clear hx3; try clear c4; try clear c4b0; try clear c6; try clear p6; try clear c9; try clear c9b0; try clear hx314_0; try clear hx314_1; try clear hx314_2; try clear hx314_3; try clear p2; try clear p3; try clear p314; try clear p6; try clear q3; try clear q314
         obtain ⟨x7_3, rfl, HA, HK3, HB⟩ := hrel
         cases gk with
         | zero => exact absurd HA.out (by simp [neumeref03_Apart.l2])
         | succ k3 =>
          have H := HA.out
          clear HA
          simp only [neumeref03_Apart.l2] at H
          by_cases c10 : x7_3 < (l0.length : Int)
          ·rw [if_pos c10] at H
           have c10b0 : decide (x7_3 < (l0.length : Int)) = true := dt_ c10
           clear c10
           by_cases c11 : 0 ≤ x6_2
           ·rw [if_pos c11] at H
            have c11b0 : decide (0 ≤ x6_2) = true := dt_ c11
            clear c11
            by_cases c12 : x6_2 < (l0.length : Int)
            ·rw [if_pos c12] at H
             have c12b0 : decide (x6_2 < (l0.length : Int)) = true := dt_ c12
             clear c12
             by_cases c13 : 0 ≤ x7_3
             ·rw [if_pos c13] at H
              have c13b0 : decide (0 ≤ x7_3) = true := dt_ c13
              clear c13
              replace H := ob_ H
              obtain ⟨t318, A140, H⟩ := H
              replace H : (if t318 = true then (some (x6_2, x7_3, false)) else (neumeref03_Apart.l2 k3 l0 x6_2 (wrap64 (x7_3 + 1)))) = some (r1, r2, r3) := H
              have A14 := sd_ A140
              clear A140
              by_cases c15 : t318 = true
              ·subst c15
               have H1 : (some (x6_2, x7_3, false)) = some (r1, r2, r3) := by rw [if_pos rfl] at H; exact H
               clear H; have H := H1; clear H1
               simp only [Option.some.injEq, Prod.mk.injEq] at H
               obtain ⟨rfl, rfl, rfl⟩ := H
               try go_wp2
               have n0_ := sd_ (d1_ HB.out)
               clear HB
               have HB := n0_
               clear n0_
               have p316 : 0 ≤ (x6_2 : Int) := od_ (by first | (with_reducible assumption) | assumption)
               have q316 : x6_2 < (l0.length : Int) := od_ (by first | (with_reducible assumption) | assumption)
               obtain ⟨ad316, e316, hx316_0, hx316_1, hx316_2, hx316_3⟩ := at_T23 HR0.out x6_2 p316 q316
               have hw316_3 := hx316_3
               have hw316_2 := hx316_2
               have hw316_1 := hx316_1
               have hw316_0 := hx316_0
               cases e316
               replace hx316_0 := (HB.out.cell (wb_ w _ hx316_0)).trans hx316_0
               replace hx316_1 := (HB.out.cell (wb_ w _ hx316_1)).trans hx316_1
               replace hx316_2 := (HB.out.cell (wb_ w _ hx316_2)).trans hx316_2
               replace hx316_3 := (HB.out.cell (wb_ w _ hx316_3)).trans hx316_3
               replace p316 := eq_true p316
               replace q316 := eq_true q316
               have p317 : 0 ≤ (x7_3 : Int) := od_ (by first | (with_reducible assumption) | assumption)
               have q317 : x7_3 < (l0.length : Int) := od_ (by first | (with_reducible assumption) | assumption)
               obtain ⟨ad317, e317, hx317_0, hx317_1, hx317_2, hx317_3⟩ := at_T23 HR0.out x7_3 p317 q317
               have hw317_3 := hx317_3
               have hw317_2 := hx317_2
               have hw317_1 := hx317_1
               have hw317_0 := hx317_0
               obtain rfl : ad316 = ad317 := (by injection e317)
               replace hx317_0 := (HB.out.cell (wb_ w _ hx317_0)).trans hx317_0
               replace hx317_1 := (HB.out.cell (wb_ w _ hx317_1)).trans hx317_1
               replace hx317_2 := (HB.out.cell (wb_ w _ hx317_2)).trans hx317_2
               replace hx317_3 := (HB.out.cell (wb_ w _ hx317_3)).trans hx317_3
               replace p317 := eq_true p317
               replace q317 := eq_true q317
               refine start_ (n := 9) (S := fun w' => w'.cell? (ad316.add ((x6_2).toNat * 4)) = some (.int .i64 ((rd_T23 l0 x6_2).f0)) ∧ w'.cell? ⟨(ad316.add ((x6_2).toNat * 4)).block, (ad316.add ((x6_2).toNat * 4)).off + 1, none⟩ = some (.int .i64 ((rd_T23 l0 x6_2).f1)) ∧ w'.cell? ⟨(ad316.add ((x6_2).toNat * 4)).block, (ad316.add ((x6_2).toNat * 4)).off + 2, none⟩ = some (.int .i64 ((rd_T23 l0 x6_2).f2)) ∧ w'.cell? ⟨(ad316.add ((x6_2).toNat * 4)).block, (ad316.add ((x6_2).toNat * 4)).off + 3, none⟩ = some (.int .i64 ((rd_T23 l0 x6_2).f3)) ∧ w'.cell? (ad316.add ((x7_3).toNat * 4)) = some (.int .i64 ((rd_T23 l0 x7_3).f0)) ∧ w'.cell? ⟨(ad316.add ((x7_3).toNat * 4)).block, (ad316.add ((x7_3).toNat * 4)).off + 1, none⟩ = some (.int .i64 ((rd_T23 l0 x7_3).f1)) ∧ w'.cell? ⟨(ad316.add ((x7_3).toNat * 4)).block, (ad316.add ((x7_3).toNat * 4)).off + 2, none⟩ = some (.int .i64 ((rd_T23 l0 x7_3).f2)) ∧ w'.cell? ⟨(ad316.add ((x7_3).toNat * 4)).block, (ad316.add ((x7_3).toNat * 4)).off + 3, none⟩ = some (.int .i64 ((rd_T23 l0 x7_3).f3))) (ds := []) #[false, false, false, false, false, false, false, false, false] (by kernel_rfl) rfl rfl ⟨((HB.out.cell (wb_ w _ hw316_0)).trans hw316_0), ((HB.out.cell (wb_ w _ hw316_1)).trans hw316_1), ((HB.out.cell (wb_ w _ hw316_2)).trans hw316_2), ((HB.out.cell (wb_ w _ hw316_3)).trans hw316_3), ((HB.out.cell (wb_ w _ hw317_0)).trans hw317_0), ((HB.out.cell (wb_ w _ hw317_1)).trans hw317_1), ((HB.out.cell (wb_ w _ hw317_2)).trans hw317_2), ((HB.out.cell (wb_ w _ hw317_3)).trans hw317_3)⟩ (fun hHeld => ?_); refine with_tabW neumeref03_Apart.tab14 neumeref03_Apart.bits14 (fun HT_ HW_ => ?_)
               generalize wr.drew = w16 at HB hx316_0 hx316_1 hx316_2 hx316_3 hx317_0 hx317_1 hx317_2 hx317_3 hHeld ⊢
               refine pure_ (i := 0) (N := some 37) (v := ?_) (a' := ?_) #[true, false, false, false, false, false, false, false, false] rfl rfl (any_of HT_.out (by kernel_rfl)) (fun _ _ _ h => h) (Or.inl ⟨by rfl, ?_⟩) ?_ ?_
               rotate_left; (intro w'; go_simp; with_reducible rfl); rotate_left; (simp only [Act.put, ls_, lz_, lc_, i64_w, i32_w]; rfl)
               refine pure_ (i := 1) (N := some 38) (v := ?_) (a' := ?_) #[true, true, false, false, false, false, false, false, false] rfl rfl (any_of HT_.out (by kernel_rfl)) (fun _ _ _ h => h) (Or.inl ⟨by rfl, ?_⟩) ?_ ?_
               rotate_left; (intro w'; go_simp; with_reducible rfl); rotate_left; (simp only [Act.put, ls_, lz_, lc_, i64_w, i32_w]; rfl)
               refine pure_ (i := 2) (N := some 39) (v := ?_) (a' := ?_) #[true, true, true, false, false, false, false, false, false] rfl rfl (any_of HT_.out (by kernel_rfl)) (fun _ _ _ h => h) (Or.inl ⟨by rfl, ?_⟩) ?_ ?_
               rotate_left; (intro w'; go_simp; with_reducible rfl); rotate_left; (simp only [Act.put, ls_, lz_, lc_, i64_w, i32_w]; rfl)
               refine pure_ (i := 4) (N := some 41) (v := ?_) (a' := ?_) #[true, true, true, false, true, false, false, false, false] rfl rfl (any_of HT_.out (by kernel_rfl)) (fun _ _ _ h => h) (Or.inl ⟨by rfl, ?_⟩) ?_ ?_
               rotate_left; (intro w'; go_simp; with_reducible rfl); rotate_left; (simp only [Act.put, ls_, lz_, lc_, i64_w, i32_w]; rfl)
               refine pure_ (i := 5) (N := some 42) (v := ?_) (a' := ?_) #[true, true, true, false, true, true, false, false, false] rfl rfl (any_of HT_.out (by kernel_rfl)) (fun _ _ _ h => h) (Or.inl ⟨by rfl, ?_⟩) ?_ ?_
               rotate_left; (intro w'; go_simp; with_reducible rfl); rotate_left; (simp only [Act.put, ls_, lz_, lc_, i64_w, i32_w]; rfl)
               refine pure_ (i := 6) (N := some 43) (v := ?_) (a' := ?_) #[true, true, true, false, true, true, true, false, false] rfl rfl (any_of HT_.out (by kernel_rfl)) (fun _ _ _ h => h) (Or.inl ⟨by rfl, ?_⟩) ?_ ?_
               rotate_left; (intro w'; go_simp; with_reducible rfl); rotate_left; (simp only [Act.put, ls_, lz_, lc_, i64_w, i32_w]; rfl)
               refine take_ (i := 3) (N := some 40) (v := ?_) (a' := ?_) #[true, true, true, true, true, true, true, false, false] rfl rfl (take_ofW HT_.out HW_.out (by kernel_rfl)) (fun _ _ _ h => h) (Or.inl ⟨by rfl, ?_⟩) hHeld ?_ ?_
               rotate_left
               ·rintro w' ⟨s0, s1, s2, s3, s4, s5, s6, s7⟩
                go_simp
                with_reducible rfl
               rotate_left
               ·simp only [Act.put, ls_, lz_, lc_, i64_w, i32_w]
                rfl
               refine take_ (i := 7) (N := some 44) (v := ?_) (a' := ?_) #[true, true, true, true, true, true, true, true, false] rfl rfl (take_ofW HT_.out HW_.out (by kernel_rfl)) (fun _ _ _ h => h) (Or.inl ⟨by rfl, ?_⟩) hHeld ?_ ?_
               rotate_left
               ·rintro w' ⟨s0, s1, s2, s3, s4, s5, s6, s7⟩
                go_simp
                with_reducible rfl
               rotate_left
               ·simp only [Act.put, ls_, lz_, lc_, i64_w, i32_w]
                rfl
               refine one_ (i := 8) (N := some 45) #[true, true, true, true, true, true, true, true, true] rfl rfl (one_of HT_.out (by kernel_rfl)) (by decide) (fun K hK => ?_)
               refine goes_ Tryd.func17 (by kernel_rfl) rfl #[.agg #[.int .i64 ((rd_T23 l0 x6_2).f0), .int .i64 ((rd_T23 l0 x6_2).f1), .int .i64 ((rd_T23 l0 x6_2).f2), .int .i64 ((rd_T23 l0 x6_2).f3)], .agg #[.int .i64 ((rd_T23 l0 x7_3).f0), .int .i64 ((rd_T23 l0 x7_3).f1), .int .i64 ((rd_T23 l0 x7_3).f2), .int .i64 ((rd_T23 l0 x7_3).f3)]] (by rfl) rfl rfl (by (try simp only [lm_, lq_, lx_]); first | done | rfl | (simp only [ld_, lt_]; rfl)) ?_
               with_reducible refine (neumeref03_Meet.calls ((rd_T23 l0 x6_2).f0) ((rd_T23 l0 x6_2).f1) ((rd_T23 l0 x6_2).f2) ((rd_T23 l0 x6_2).f3) ((rd_T23 l0 x7_3).f0) ((rd_T23 l0 x7_3).f1) ((rd_T23 l0 x7_3).f2) ((rd_T23 l0 x7_3).f3) true _ A14.out).mono ?_
               rintro e w17 ⟨rfl, hb⟩
               refine ⟨_, rfl, ?_⟩
               have n0_ := sd_ (bt_ (by repeat (first | (with_reducible first | exact HB.out | apply ba_ | apply pd_ | apply d1_) | exact HB.out)) hb)
               clear HB
               have HB := n0_
               clear n0_
               (try clear hb)
               (try clear hb2)
               (try clear hk)
               (try clear hi)
               refine hK.out _ _ ⟨((HB.out.cell (wb_ w _ hw316_0)).trans hw316_0), ((HB.out.cell (wb_ w _ hw316_1)).trans hw316_1), ((HB.out.cell (wb_ w _ hw316_2)).trans hw316_2), ((HB.out.cell (wb_ w _ hw316_3)).trans hw316_3), ((HB.out.cell (wb_ w _ hw317_0)).trans hw317_0), ((HB.out.cell (wb_ w _ hw317_1)).trans hw317_1), ((HB.out.cell (wb_ w _ hw317_2)).trans hw317_2), ((HB.out.cell (wb_ w _ hw317_3)).trans hw317_3)⟩ (fun hHeld => ?_)
               clear hK K
               refine norm_ (a' := ?_) ?_ ?_
               rotate_left
               ·show Act.put _ (some 45) _ = _
                simp only [Act.put, ls_, lz_, lc_, i64_w, i32_w]
                rfl
               refine done_ (done_of HT_.out (by kernel_rfl)) ?_
               try go_wp2
               go_ret3
               exact ⟨by first | rfl | (simp [errW_none, errW_some] <;> rfl) | (simp [*, errW_none, errW_some] <;> rfl), by repeat (first | (with_reducible first | exact HB.out | apply ba_ | apply pd_ | apply d1_) | exact HB.out)⟩
              ·replace c15 := bf_ c15
               subst c15
               have H1 : (neumeref03_Apart.l2 k3 l0 x6_2 (wrap64 (x7_3 + 1))) = some (r1, r2, r3) := by rw [if_neg (show ¬ (false = true) by decide)] at H; exact H
               clear H; have H := H1; clear H1
               have H' := sd_ H
               clear H
               try go_wp2
               have n0_ := sd_ (d1_ HB.out)
               clear HB
               have HB := n0_
               clear n0_
               have p316 : 0 ≤ (x6_2 : Int) := od_ (by first | (with_reducible assumption) | assumption)
               have q316 : x6_2 < (l0.length : Int) := od_ (by first | (with_reducible assumption) | assumption)
               obtain ⟨ad316, e316, hx316_0, hx316_1, hx316_2, hx316_3⟩ := at_T23 HR0.out x6_2 p316 q316
               have hw316_3 := hx316_3
               have hw316_2 := hx316_2
               have hw316_1 := hx316_1
               have hw316_0 := hx316_0
               cases e316
               replace hx316_0 := (HB.out.cell (wb_ w _ hx316_0)).trans hx316_0
               replace hx316_1 := (HB.out.cell (wb_ w _ hx316_1)).trans hx316_1
               replace hx316_2 := (HB.out.cell (wb_ w _ hx316_2)).trans hx316_2
               replace hx316_3 := (HB.out.cell (wb_ w _ hx316_3)).trans hx316_3
               replace p316 := eq_true p316
               replace q316 := eq_true q316
               have p317 : 0 ≤ (x7_3 : Int) := od_ (by first | (with_reducible assumption) | assumption)
               have q317 : x7_3 < (l0.length : Int) := od_ (by first | (with_reducible assumption) | assumption)
               obtain ⟨ad317, e317, hx317_0, hx317_1, hx317_2, hx317_3⟩ := at_T23 HR0.out x7_3 p317 q317
               have hw317_3 := hx317_3
               have hw317_2 := hx317_2
               have hw317_1 := hx317_1
               have hw317_0 := hx317_0
               obtain rfl : ad316 = ad317 := (by injection e317)
               replace hx317_0 := (HB.out.cell (wb_ w _ hx317_0)).trans hx317_0
               replace hx317_1 := (HB.out.cell (wb_ w _ hx317_1)).trans hx317_1
               replace hx317_2 := (HB.out.cell (wb_ w _ hx317_2)).trans hx317_2
               replace hx317_3 := (HB.out.cell (wb_ w _ hx317_3)).trans hx317_3
               replace p317 := eq_true p317
               replace q317 := eq_true q317
               refine start_ (n := 9) (S := fun w' => w'.cell? (ad316.add ((x6_2).toNat * 4)) = some (.int .i64 ((rd_T23 l0 x6_2).f0)) ∧ w'.cell? ⟨(ad316.add ((x6_2).toNat * 4)).block, (ad316.add ((x6_2).toNat * 4)).off + 1, none⟩ = some (.int .i64 ((rd_T23 l0 x6_2).f1)) ∧ w'.cell? ⟨(ad316.add ((x6_2).toNat * 4)).block, (ad316.add ((x6_2).toNat * 4)).off + 2, none⟩ = some (.int .i64 ((rd_T23 l0 x6_2).f2)) ∧ w'.cell? ⟨(ad316.add ((x6_2).toNat * 4)).block, (ad316.add ((x6_2).toNat * 4)).off + 3, none⟩ = some (.int .i64 ((rd_T23 l0 x6_2).f3)) ∧ w'.cell? (ad316.add ((x7_3).toNat * 4)) = some (.int .i64 ((rd_T23 l0 x7_3).f0)) ∧ w'.cell? ⟨(ad316.add ((x7_3).toNat * 4)).block, (ad316.add ((x7_3).toNat * 4)).off + 1, none⟩ = some (.int .i64 ((rd_T23 l0 x7_3).f1)) ∧ w'.cell? ⟨(ad316.add ((x7_3).toNat * 4)).block, (ad316.add ((x7_3).toNat * 4)).off + 2, none⟩ = some (.int .i64 ((rd_T23 l0 x7_3).f2)) ∧ w'.cell? ⟨(ad316.add ((x7_3).toNat * 4)).block, (ad316.add ((x7_3).toNat * 4)).off + 3, none⟩ = some (.int .i64 ((rd_T23 l0 x7_3).f3))) (ds := []) #[false, false, false, false, false, false, false, false, false] (by kernel_rfl) rfl rfl ⟨((HB.out.cell (wb_ w _ hw316_0)).trans hw316_0), ((HB.out.cell (wb_ w _ hw316_1)).trans hw316_1), ((HB.out.cell (wb_ w _ hw316_2)).trans hw316_2), ((HB.out.cell (wb_ w _ hw316_3)).trans hw316_3), ((HB.out.cell (wb_ w _ hw317_0)).trans hw317_0), ((HB.out.cell (wb_ w _ hw317_1)).trans hw317_1), ((HB.out.cell (wb_ w _ hw317_2)).trans hw317_2), ((HB.out.cell (wb_ w _ hw317_3)).trans hw317_3)⟩ (fun hHeld => ?_); refine with_tabW neumeref03_Apart.tab14 neumeref03_Apart.bits14 (fun HT_ HW_ => ?_)
               generalize wr.drew = w18 at HB hx316_0 hx316_1 hx316_2 hx316_3 hx317_0 hx317_1 hx317_2 hx317_3 hHeld ⊢
               refine pure_ (i := 0) (N := some 37) (v := ?_) (a' := ?_) #[true, false, false, false, false, false, false, false, false] rfl rfl (any_of HT_.out (by kernel_rfl)) (fun _ _ _ h => h) (Or.inl ⟨by rfl, ?_⟩) ?_ ?_
               rotate_left; (intro w'; go_simp; with_reducible rfl); rotate_left; (simp only [Act.put, ls_, lz_, lc_, i64_w, i32_w]; rfl)
               refine pure_ (i := 1) (N := some 38) (v := ?_) (a' := ?_) #[true, true, false, false, false, false, false, false, false] rfl rfl (any_of HT_.out (by kernel_rfl)) (fun _ _ _ h => h) (Or.inl ⟨by rfl, ?_⟩) ?_ ?_
               rotate_left; (intro w'; go_simp; with_reducible rfl); rotate_left; (simp only [Act.put, ls_, lz_, lc_, i64_w, i32_w]; rfl)
               refine pure_ (i := 2) (N := some 39) (v := ?_) (a' := ?_) #[true, true, true, false, false, false, false, false, false] rfl rfl (any_of HT_.out (by kernel_rfl)) (fun _ _ _ h => h) (Or.inl ⟨by rfl, ?_⟩) ?_ ?_
               rotate_left; (intro w'; go_simp; with_reducible rfl); rotate_left; (simp only [Act.put, ls_, lz_, lc_, i64_w, i32_w]; rfl)
               refine pure_ (i := 4) (N := some 41) (v := ?_) (a' := ?_) #[true, true, true, false, true, false, false, false, false] rfl rfl (any_of HT_.out (by kernel_rfl)) (fun _ _ _ h => h) (Or.inl ⟨by rfl, ?_⟩) ?_ ?_
               rotate_left; (intro w'; go_simp; with_reducible rfl); rotate_left; (simp only [Act.put, ls_, lz_, lc_, i64_w, i32_w]; rfl)
               refine pure_ (i := 5) (N := some 42) (v := ?_) (a' := ?_) #[true, true, true, false, true, true, false, false, false] rfl rfl (any_of HT_.out (by kernel_rfl)) (fun _ _ _ h => h) (Or.inl ⟨by rfl, ?_⟩) ?_ ?_
               rotate_left; (intro w'; go_simp; with_reducible rfl); rotate_left; (simp only [Act.put, ls_, lz_, lc_, i64_w, i32_w]; rfl)
               refine pure_ (i := 6) (N := some 43) (v := ?_) (a' := ?_) #[true, true, true, false, true, true, true, false, false] rfl rfl (any_of HT_.out (by kernel_rfl)) (fun _ _ _ h => h) (Or.inl ⟨by rfl, ?_⟩) ?_ ?_
               rotate_left; (intro w'; go_simp; with_reducible rfl); rotate_left; (simp only [Act.put, ls_, lz_, lc_, i64_w, i32_w]; rfl)
               refine take_ (i := 3) (N := some 40) (v := ?_) (a' := ?_) #[true, true, true, true, true, true, true, false, false] rfl rfl (take_ofW HT_.out HW_.out (by kernel_rfl)) (fun _ _ _ h => h) (Or.inl ⟨by rfl, ?_⟩) hHeld ?_ ?_
               rotate_left
               ·rintro w' ⟨s0, s1, s2, s3, s4, s5, s6, s7⟩
                go_simp
                with_reducible rfl
               rotate_left
               ·simp only [Act.put, ls_, lz_, lc_, i64_w, i32_w]
                rfl
               refine take_ (i := 7) (N := some 44) (v := ?_) (a' := ?_) #[true, true, true, true, true, true, true, true, false] rfl rfl (take_ofW HT_.out HW_.out (by kernel_rfl)) (fun _ _ _ h => h) (Or.inl ⟨by rfl, ?_⟩) hHeld ?_ ?_
               rotate_left
               ·rintro w' ⟨s0, s1, s2, s3, s4, s5, s6, s7⟩
                go_simp
                with_reducible rfl
               rotate_left
               ·simp only [Act.put, ls_, lz_, lc_, i64_w, i32_w]
                rfl
               refine one_ (i := 8) (N := some 45) #[true, true, true, true, true, true, true, true, true] rfl rfl (one_of HT_.out (by kernel_rfl)) (by decide) (fun K hK => ?_)
               refine goes_ Tryd.func17 (by kernel_rfl) rfl #[.agg #[.int .i64 ((rd_T23 l0 x6_2).f0), .int .i64 ((rd_T23 l0 x6_2).f1), .int .i64 ((rd_T23 l0 x6_2).f2), .int .i64 ((rd_T23 l0 x6_2).f3)], .agg #[.int .i64 ((rd_T23 l0 x7_3).f0), .int .i64 ((rd_T23 l0 x7_3).f1), .int .i64 ((rd_T23 l0 x7_3).f2), .int .i64 ((rd_T23 l0 x7_3).f3)]] (by rfl) rfl rfl (by (try simp only [lm_, lq_, lx_]); first | done | rfl | (simp only [ld_, lt_]; rfl)) ?_
               with_reducible refine (neumeref03_Meet.calls ((rd_T23 l0 x6_2).f0) ((rd_T23 l0 x6_2).f1) ((rd_T23 l0 x6_2).f2) ((rd_T23 l0 x6_2).f3) ((rd_T23 l0 x7_3).f0) ((rd_T23 l0 x7_3).f1) ((rd_T23 l0 x7_3).f2) ((rd_T23 l0 x7_3).f3) false _ A14.out).mono ?_
               rintro e w19 ⟨rfl, hb⟩
               refine ⟨_, rfl, ?_⟩
               have n0_ := sd_ (bt_ (by repeat (first | (with_reducible first | exact HB.out | apply ba_ | apply pd_ | apply d1_) | exact HB.out)) hb)
               clear HB
               have HB := n0_
               clear n0_
               (try clear hb)
               (try clear hb2)
               (try clear hk)
               (try clear hi)
               refine hK.out _ _ ⟨((HB.out.cell (wb_ w _ hw316_0)).trans hw316_0), ((HB.out.cell (wb_ w _ hw316_1)).trans hw316_1), ((HB.out.cell (wb_ w _ hw316_2)).trans hw316_2), ((HB.out.cell (wb_ w _ hw316_3)).trans hw316_3), ((HB.out.cell (wb_ w _ hw317_0)).trans hw317_0), ((HB.out.cell (wb_ w _ hw317_1)).trans hw317_1), ((HB.out.cell (wb_ w _ hw317_2)).trans hw317_2), ((HB.out.cell (wb_ w _ hw317_3)).trans hw317_3)⟩ (fun hHeld => ?_)
               clear hK K
               refine norm_ (a' := ?_) ?_ ?_
               rotate_left
               ·show Act.put _ (some 45) _ = _
                simp only [Act.put, ls_, lz_, lc_, i64_w, i32_w]
                rfl
               refine done_ (done_of HT_.out (by kernel_rfl)) ?_
               try go_wp2
               go_roundg k3
               case measure => have := HK1.out; have := HK2.out; have := HK3.out; omega
               case rel => exact ⟨(wrap64 (x7_3 + 1)), (by first | rfl | (simp; done) | (simp [*]; done) | (simp [bne]; done)), H', ⟨by have := HK1.out; have := HK2.out; have := HK3.out; omega⟩, ⟨by repeat (first | (with_reducible first | exact HB.out | apply ba_ | apply pd_ | apply d1_) | exact HB.out)⟩⟩
             ·rw [if_neg c13] at H
              exact absurd H (by simp)
            ·rw [if_neg c12] at H
             exact absurd H (by simp)
           ·rw [if_neg c11] at H
            exact absurd H (by simp)
          ·rw [if_neg c10] at H
           have c10b0 : decide (x7_3 < (l0.length : Int)) = false := df_ c10
           clear c10
           have H' := sd_ H
           clear H
           go_wp2
           go_roundg k3
           case measure => have := HK1.out; have := HK2.out; have := HK3.out; omega
           case rel => exact ⟨(wrap64 (x6_2 + 1)), (by first | rfl | (simp; done) | (simp [*]; done) | (simp [bne]; done)), H', ⟨by have := HK1.out; have := HK2.out; have := HK3.out; omega⟩, ⟨by repeat (first | (with_reducible first | exact HB.out | apply ba_ | apply pd_ | apply d1_) | exact HB.out)⟩⟩
       ·rw [if_neg c9] at H
        have c9b0 : decide (x6_2 < (l0.length : Int)) = false := df_ c9
        clear c9
        simp only [Option.some.injEq, Prod.mk.injEq] at H
        obtain ⟨rfl, rfl, rfl⟩ := H
        go_wp2
        go_ret3
        exact ⟨by first | rfl | (simp [errW_none, errW_some] <;> rfl) | (simp [*, errW_none, errW_some] <;> rfl), by repeat (first | (with_reducible first | exact HB.out | apply ba_ | apply pd_ | apply d1_) | exact HB.out)⟩

end Go.Proofs.YteecpeggnejeaaaDoor.P
