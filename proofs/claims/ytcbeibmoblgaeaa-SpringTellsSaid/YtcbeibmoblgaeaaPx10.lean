-- Written by a program of this session (wip/tools/xprint.py, over the kit's print): Lean checks it.
import Derived.Test.YtcbeibmoblgaeaaPx0
import Derived.Test.YtcbeibmoblgaeaaPx9
namespace Go.Proofs.Ytcbeibmoblgaeaa.P
open Go.RowKit Go.Proofs.YtcbeibmoblgaeaaW.PrintWords Go.Proofs.YtcbeibmoblgaeaaW.PrintLast Go.Proofs.YtcbeibmoblgaeaaW.PrintMore
attribute [local go_sem] max2_int min2_int max_two min_two max_three min_three max_four min_four   -- for this text's walks alone
set_option linter.unusedVariables false
set_option linter.unusedSimpArgs false

/-! ### neumeref28_Springs: function 10 -/
mutual
def neumeref28_Springs.j0 : Nat → List (S48) → Int → Int → Bool → Option (List Int × Int)
 | 0, _, _, _, _ => none
 | k + 1, x0, x1, x2, x26 => if x26 = true then (some (([] : List Int), 2)) else (neumeref28_Springs.l0 k x0 x2 ([] : List Int) x1)
def neumeref28_Springs.l0 : Nat → List (S48) → Int → List Int → Int → Option (List Int × Int)
 | 0, _, _, _, _ => none
 | k + 1, x0, x2, x8, x9 => if x9 < x2 then (if 0 ≤ x9 then (if x9 < (x0.length : Int) then (if (rd_T48 x0 x9).f0 = true then (if x8.length < 17592186044416 then (neumeref28_Springs.l0 k x0 x2 (x8 ++ [800]) (wrap64 (x9 + 1))) else (none)) else (if 0 ≤ (wrap64 (x9 + 1)) then (if (wrap64 (x9 + 1)) < (x0.length : Int) then ((neumeref02_Sub.f k ((rd_T48 x0 (wrap64 (x9 + 1))).f1.f0) ((rd_T48 x0 (wrap64 (x9 + 1))).f1.f1) ((rd_T48 x0 x9).f1.f0) ((rd_T48 x0 x9).f1.f1)).bind fun bt228 => ((neumeref28_Ideal.f k bt228.1 bt228.2.1).bind fun bt232 => (if bt228.2.2 = 0 then (if bt232.2 = 0 then (if x8.length < 17592186044416 then (neumeref28_Springs.l0 k x0 x2 (x8 ++ [bt232.1]) (wrap64 (x9 + 1))) else (none)) else (if x8.length < 17592186044416 then (neumeref28_Springs.l0 k x0 x2 (x8 ++ [600]) (wrap64 (x9 + 1))) else (none))) else (if x8.length < 17592186044416 then (neumeref28_Springs.l0 k x0 x2 (x8 ++ [600]) (wrap64 (x9 + 1))) else (none))))) else (none)) else (none))) else (none)) else (none)) else (some (x8, 0))
end
def neumeref28_Springs.f (k : Nat) (l0 : List (S48)) (a1 : Int) (a2 : Int) : Option (List Int × Int) := if a1 < 0 then (neumeref28_Springs.j0 k l0 a1 a2 true) else (if a2 < a1 then (neumeref28_Springs.j0 k l0 a1 a2 true) else (neumeref28_Springs.j0 k l0 a1 a2 (decide (a2 ≥ (l0.length : Int)))))
theorem neumeref28_Springs.mono_l : ∀ k, (∀ y0 y1 y2 y3, LeO (neumeref28_Springs.j0 k y0 y1 y2 y3) (neumeref28_Springs.j0 (k + 1) y0 y1 y2 y3)) ∧ (∀ y0 y1 y2 y3, LeO (neumeref28_Springs.l0 k y0 y1 y2 y3) (neumeref28_Springs.l0 (k + 1) y0 y1 y2 y3))
 | 0 => ⟨fun _ _ _ _ r h => by simp [neumeref28_Springs.j0] at h, fun _ _ _ _ r h => by simp [neumeref28_Springs.l0] at h⟩
 | k + 1 => by
  obtain ⟨ih0, ih1⟩ := neumeref28_Springs.mono_l k
  refine ⟨?_, ?_⟩
  ·intro y0 y1 y2 y3
   unfold neumeref28_Springs.j0
   repeat' first
   | (with_reducible exact ih0 _ _ _ _)
   | (with_reducible exact ih1 _ _ _ _)
   | (with_reducible exact neumeref02_Sub.mono _ _ _ _ _)
   | (with_reducible exact neumeref28_Ideal.mono _ _ _)
   | (with_reducible exact LeO.refl _)
   | (with_reducible exact LeO.none _)
   | (with_reducible refine LeO.ite ?_ ?_)
   | (with_reducible refine LeO.bind ?_ (fun _ => ?_))
   | exact ih0 _ _ _ _
   | exact ih1 _ _ _ _
   | exact neumeref02_Sub.mono _ _ _ _ _
   | exact neumeref28_Ideal.mono _ _ _
   | exact LeO.none _
   | refine LeO.ite ?_ ?_
   | refine LeO.bind ?_ (fun _ => ?_)
  ·intro y0 y1 y2 y3
   unfold neumeref28_Springs.l0
   repeat' first
   | (with_reducible exact ih0 _ _ _ _)
   | (with_reducible exact ih1 _ _ _ _)
   | (with_reducible exact neumeref02_Sub.mono _ _ _ _ _)
   | (with_reducible exact neumeref28_Ideal.mono _ _ _)
   | (with_reducible exact LeO.refl _)
   | (with_reducible exact LeO.none _)
   | (with_reducible refine LeO.ite ?_ ?_)
   | (with_reducible refine LeO.bind ?_ (fun _ => ?_))
   | exact ih0 _ _ _ _
   | exact ih1 _ _ _ _
   | exact neumeref02_Sub.mono _ _ _ _ _
   | exact neumeref28_Ideal.mono _ _ _
   | exact LeO.none _
   | refine LeO.ite ?_ ?_
   | refine LeO.bind ?_ (fun _ => ?_)
theorem neumeref28_Springs.mono : ∀ a0 a1 a2 k, LeO (neumeref28_Springs.f k a0 a1 a2) (neumeref28_Springs.f (k + 1) a0 a1 a2) := by
 intro a0 a1 a2 k
 obtain ⟨ih0, ih1⟩ := neumeref28_Springs.mono_l k
 unfold neumeref28_Springs.f
 repeat' first
   | (with_reducible exact ih0 _ _ _ _)
   | (with_reducible exact ih1 _ _ _ _)
   | (with_reducible exact neumeref02_Sub.mono _ _ _ _ _)
   | (with_reducible exact neumeref28_Ideal.mono _ _ _)
   | (with_reducible exact LeO.refl _)
   | (with_reducible exact LeO.none _)
   | (with_reducible refine LeO.ite ?_ ?_)
   | (with_reducible refine LeO.bind ?_ (fun _ => ?_))
   | exact ih0 _ _ _ _
   | exact ih1 _ _ _ _
   | exact neumeref02_Sub.mono _ _ _ _ _
   | exact neumeref28_Ideal.mono _ _ _
   | exact LeO.none _
   | refine LeO.ite ?_ ?_
   | refine LeO.bind ?_ (fun _ => ?_)
def neumeref28_Springs.T9 : Bool × List (List Nat × List Nat) := (true, [([], []), ([], []), ([1], [1]), ([0, 2], [0, 2]), ([3], [3]), ([4], [4]), ([], []), ([], []), ([6, 7], [6, 7]), ([8], [8]), ([9], [9]), ([5, 10], [5, 10]), ([11], [11]), ([12], [12]), ([12], [12]), ([], []), ([15, 13, 11, 0, 1, 2, 3, 4, 5, 6, 7, 8, 9, 10, 11, 12, 13, 15], [13, 15]), ([14, 16, 0, 1, 2, 3, 4, 5, 6, 7, 8, 9, 10, 11, 12, 13, 14, 15, 16], [14])])
def neumeref28_Springs.B9 : List Nat := [0, 0, 2, 7, 15, 31, 0, 0, 192, 448, 960, 2047, 4095, 8191, 8191, 0, 49151, 131071]
theorem neumeref28_Springs.tab9 : rtab .any (opsOf Try.f10 9) = neumeref28_Springs.T9 := by kernel_rfl
theorem neumeref28_Springs.bits9 : waitsOk neumeref28_Springs.T9.2 neumeref28_Springs.B9 = true := by kernel_rfl
set_option maxHeartbeats 8000000 in
set_option maxRecDepth 100000 in
theorem neumeref28_Springs.calls (k : Nat) (A0 : Option Addr) (c0 : Nat) (l0 : List (S48)) (a1 : Int) (a2 : Int) (r1 : List Int) (r2 : Int) (w : World) (hr0 : Kd.C k48 w A0 l0.length l0) (hc0 : l0.length ≤ c0) (h : neumeref28_Springs.f k l0 a1 a2 = some (r1, r2)) :
  Calls Try.prog 10 #[.slice A0 l0.length c0, .int .i64 a1, .int .i64 a2] w fun e w' => ∃ v0_ : Value, e = .returned (.tuple #[v0_, .int .i64 r2]) ∧ Kd.R (Kd.int .i64) 3 w' w.heap.size (fun _ => True) v0_ r1 ∧ Below w.heap.size w w' := by
 have hu23 := Try.underlying23
 have HR0 := sd_ hr0
 have HC0 := sd_ hc0
 clear hr0 hc0
 have HB := sd_ (Below.refl w.heap.size w)
 have H : (if a1 < 0 then (neumeref28_Springs.j0 k l0 a1 a2 true) else (if a2 < a1 then (neumeref28_Springs.j0 k l0 a1 a2 true) else (neumeref28_Springs.j0 k l0 a1 a2 (decide (a2 ≥ (l0.length : Int)))))) = some (r1, r2) := h
 clear h
 have HC4 := sd_ H
 clear H
 go_enter Try.func10, Try.ntmps10
 go_upto_region 1 with (fail)
 go_cut [26] (fun v26 wc => ∃ (kq : Nat) (x26_3 : Bool), v26 = .bool x26_3 ∧ Aside0 (neumeref28_Springs.j0 kq l0 a1 a2 x26_3 = some (r1, r2)) ∧ Aside0 (kq ≤ k) ∧ Aside0 (Below w.heap.size w wc))
 case first =>
  have H := HC4.out
  clear HC4
  by_cases c5 : a1 < 0
  ·rw [if_pos c5] at H
   have c5b0 : decide (a1 < 0) = true := dt_ c5
   clear c5
   (first | rw [c5b0] | (simp only [i64_w, i32_w]; rw [c5b0]) | skip)
   have H' := sd_ H
   clear H
   go_wp2
   go_meet
   case rel => exact ⟨_, (true), (by first | rfl | (simp; done) | (simp [*]; done)), H', ⟨by first | omega | exact Nat.le_refl _⟩, ⟨by repeat first | exact HB.out | apply ba_ | apply pd_ | apply d1_⟩⟩
  ·rw [if_neg c5] at H
   have c5b0 : decide (a1 < 0) = false := df_ c5
   clear c5
   (first | rw [c5b0] | (simp only [i64_w, i32_w]; rw [c5b0]) | skip)
   by_cases c6 : a2 < a1
   ·rw [if_pos c6] at H
    have c6b0 : decide (a2 < a1) = true := dt_ c6
    clear c6
    have H' := sd_ H
    clear H
    go_wp2
    go_meet
    case rel => exact ⟨_, (true), (by first | rfl | (simp; done) | (simp [*]; done)), H', ⟨by first | omega | exact Nat.le_refl _⟩, ⟨by repeat first | exact HB.out | apply ba_ | apply pd_ | apply d1_⟩⟩
   ·rw [if_neg c6] at H
    have c6b0 : decide (a2 < a1) = false := df_ c6
    clear c6
    have H' := sd_ H
    clear H
    go_wp2
    go_meet
    case rel => exact ⟨_, (decide (a2 ≥ (l0.length : Int))), (by first | rfl | (simp; done) | (simp [*]; done)), H', ⟨by first | omega | exact Nat.le_refl _⟩, ⟨by repeat first | exact HB.out | apply ba_ | apply pd_ | apply d1_⟩⟩
 case rest =>
  clear HC4
  try clear c1; try clear p2; try clear c5; try clear c5b0; try clear c6; try clear c6b0
  obtain ⟨kq, x26_3, rfl, HA, HJ3, HB⟩ := hcut
  cases kq with
  | zero => exact absurd HA.out (by simp [neumeref28_Springs.j0])
  | succ kj3 =>
   have H := HA.out
   clear HA
   simp only [neumeref28_Springs.j0] at H
   by_cases c7 : x26_3 = true
   ·subst c7
    have H1 : (some (([] : List Int), 2)) = some (r1, r2) := by rw [if_pos rfl] at H; exact H
    clear H; have H := H1; clear H1
    simp only [Option.some.injEq, Prod.mk.injEq] at H
    obtain ⟨rfl, rfl⟩ := H
    go_wp2
    go_ret2
    exact ⟨_, by first | rfl | (simp [errW_none, errW_some] <;> rfl) | (simp [*, errW_none, errW_some] <;> rfl), by first | exact Kd.R_nil _ _ _ _ _ | exact Kd.N_nil _ _ _ _ _ | exact Kd.V_nil _ _ _ _ _ | exact Kd.Q_nil _ _ _ _ _ | exact Kd.S_nil _ _ _ _ _, by repeat first | exact HB.out | apply ba_ | apply pd_ | apply d1_⟩
   ·replace c7 := bf_ c7
    subst c7
    have H1 : (neumeref28_Springs.l0 kj3 l0 a2 ([] : List Int) a1) = some (r1, r2) := by rw [if_neg (show ¬ (false = true) by decide)] at H; exact H
    clear H; have H := H1; clear H1
    have H' := sd_ H
    clear H
    go_wp2
    go_loopg [8, 9] kj3 (fun kq v8 v9 w' => ∃ (x8_2 : List Int) (x9_2 : Int), v9 = .int .i64 x9_2 ∧ Aside0 (neumeref28_Springs.l0 kq l0 a2 x8_2 x9_2 = some (r1, r2)) ∧ Aside0 (kq ≤ kj3) ∧ Aside0 (Kd.R (Kd.int .i64) 3 w' w.heap.size (fun _ => True) v8 x8_2) ∧ Aside0 (Below w.heap.size w w'))
    case atStart => exact ⟨(([] : List Int)), (a1), (by first | rfl | (simp; done) | (simp [*]; done)), H', ⟨Nat.le_refl _⟩, ⟨by first | exact Kd.R_nil _ _ _ _ _ | exact Kd.N_nil _ _ _ _ _ | exact Kd.V_nil _ _ _ _ _ | exact Kd.Q_nil _ _ _ _ _ | exact Kd.S_nil _ _ _ _ _⟩, ⟨by repeat first | exact HB.out | apply ba_ | apply pd_ | apply d1_⟩⟩
    case round =>
     clear H'
     try clear c1; try clear p2; try clear c5; try clear c5b0; try clear c6; try clear c6b0; try clear c7; try clear p2
     obtain ⟨x8_2, x9_2, rfl, HA, HK2, HO_8, HB⟩ := hrel
     cases gk with
     | zero => exact absurd HA.out (by simp [neumeref28_Springs.l0])
     | succ k2 =>
      have H := HA.out
      clear HA
      simp only [neumeref28_Springs.l0] at H
      by_cases c8 : x9_2 < a2
      ·rw [if_pos c8] at H
       have c8b0 : decide (x9_2 < a2) = true := dt_ c8
       clear c8
       by_cases c9 : 0 ≤ x9_2
       ·rw [if_pos c9] at H
        have c9b0 : decide (0 ≤ x9_2) = true := dt_ c9
        clear c9
        by_cases c10 : x9_2 < (l0.length : Int)
        ·rw [if_pos c10] at H
         have c10b0 : decide (x9_2 < (l0.length : Int)) = true := dt_ c10
         clear c10
         obtain ⟨bq11, hbq11⟩ : ∃ b_ : Bool, b_ = ((rd_T48 l0 x9_2).f0) := ⟨_, rfl⟩
         replace H : (if bq11 = true then (if x8_2.length < 17592186044416 then (neumeref28_Springs.l0 k2 l0 a2 (x8_2 ++ [800]) (wrap64 (x9_2 + 1))) else (none)) else (if 0 ≤ (wrap64 (x9_2 + 1)) then (if (wrap64 (x9_2 + 1)) < (l0.length : Int) then ((neumeref02_Sub.f k2 ((rd_T48 l0 (wrap64 (x9_2 + 1))).f1.f0) ((rd_T48 l0 (wrap64 (x9_2 + 1))).f1.f1) ((rd_T48 l0 x9_2).f1.f0) ((rd_T48 l0 x9_2).f1.f1)).bind fun bt228 => ((neumeref28_Ideal.f k2 bt228.1 bt228.2.1).bind fun bt232 => (if bt228.2.2 = 0 then (if bt232.2 = 0 then (if x8_2.length < 17592186044416 then (neumeref28_Springs.l0 k2 l0 a2 (x8_2 ++ [bt232.1]) (wrap64 (x9_2 + 1))) else (none)) else (if x8_2.length < 17592186044416 then (neumeref28_Springs.l0 k2 l0 a2 (x8_2 ++ [600]) (wrap64 (x9_2 + 1))) else (none))) else (if x8_2.length < 17592186044416 then (neumeref28_Springs.l0 k2 l0 a2 (x8_2 ++ [600]) (wrap64 (x9_2 + 1))) else (none))))) else (none)) else (none))) = some (r1, r2) := by rw [← hbq11] at H; exact H
         have Nbq11 := sd_ hbq11
         clear hbq11
         by_cases c12 : bq11 = true
         ·subst c12
          have H1 : (if x8_2.length < 17592186044416 then (neumeref28_Springs.l0 k2 l0 a2 (x8_2 ++ [800]) (wrap64 (x9_2 + 1))) else (none)) = some (r1, r2) := by rw [if_pos rfl] at H; exact H
          clear H; have H := H1; clear H1
          by_cases c13 : x8_2.length < 17592186044416
          ·rw [if_pos c13] at H
           have LMc13 := sd_ c13
           clear c13
           obtain ⟨y223, hy223⟩ : ∃ y_ : List Int, y_ = (x8_2 ++ [800]) := ⟨_, rfl⟩
           replace H : (neumeref28_Springs.l0 k2 l0 a2 y223 (wrap64 (x9_2 + 1))) = some (r1, r2) := by first | (rw [hy223]; with_reducible exact H) | (have H2_ := (Option.bind_some _ _).symm.trans H; rw [hy223]; with_reducible exact H2_) | (have H2_ := (Option.bind_some _ _).symm.trans H; with_reducible exact H2_) | with_reducible exact H | (rw [hy223]; exact H) | exact H
           have Ny223 := sd_ hy223
           clear hy223
           have H' := sd_ H
           clear H
           have p222 : 0 ≤ (x9_2 : Int) := od_ (by first | (with_reducible assumption) | assumption)
           have q222 : x9_2 < (l0.length : Int) := od_ (by first | (with_reducible assumption) | assumption)
           obtain ⟨ad222, A222_4, c222_4, e222, hx222_0, hx222_1, hx222_2, hx222_3, hx222_4, hl222_4, hi222_4⟩ := at_T48 HR0.out x9_2 p222 q222
           (try rw [← Nbq11.out] at hx222_0)
           cases e222
           replace hx222_0 := (HB.out.cell (wb_ w _ hx222_0)).trans hx222_0
           replace hx222_1 := (HB.out.cell (wb_ w _ hx222_1)).trans hx222_1
           replace hx222_2 := (HB.out.cell (wb_ w _ hx222_2)).trans hx222_2
           replace hx222_3 := (HB.out.cell (wb_ w _ hx222_3)).trans hx222_3
           replace hx222_4 := (HB.out.cell (wb_ w _ hx222_4)).trans hx222_4
           have HR222_4 := sd_ hi222_4
           have HC222_4 := sd_ hl222_4
           clear hi222_4 hl222_4
           replace p222 := eq_true p222
           replace q222 := eq_true q222
           go_wp2_with (first | ((with_reducible refine gate_builtin (b := .append) (xs := #[.tmp 38, .tmp 39]) rfl ?_); (try (refine gate_guard (by rfl) ?_; dsimp only)); at_builtin; refine Kd.R_append (Kd.int .i64) (w0 := w) w.heap.size rfl (.tmp 38) (.tmp 39) 31 3 (.int .i64 0) 8 rfl Try.underlying31 info3 rfl (by decide) (by omega) u8 x8_2 800 [.int .i64 800] (fun _ => True) (fun _ => False) rfl rfl ?aP (fun _ hk => hk.elim) ?aF ?aO ?aB ?aS ?aL ?_; (case aP => exact rfl); (case aB => exact (by repeat first | exact HB.out | apply ba_ | apply pd_ | apply d1_)); (case aF => exact (fun _ _ => trivial)); (case aO => exact (by (with_reducible repeat (first | apply Kd.R_alloc | apply Kd.R_drewN | apply Kd.R_drew)); exact HO_8.out)); (case aS => exact (bz_ (by repeat first | exact HB.out | apply ba_ | apply pd_ | apply d1_))); (case aL => have := LMc13.out; omega); intro v224 w14 ho hb hg hat; rw [← Ny223.out] at ho; have n0_ := sd_ (hb); have n1_ := sd_ (ho); clear HB; clear HO_8; have HB := n0_; have HO225 := n1_; clear n0_ n1_; clear ho hb hg hat))
           go_roundg k2
           case measure => have := HJ3.out; have := HK2.out; omega
           case rel => exact ⟨(y223), (wrap64 (x9_2 + 1)), (by first | rfl | (simp; done) | (simp [*]; done)), H', ⟨by have := HJ3.out; have := HK2.out; omega⟩, ⟨by (with_reducible repeat (first | apply Kd.R_alloc | apply Kd.R_drewN | apply Kd.R_drew)); exact HO225.out⟩, ⟨by repeat first | exact HB.out | apply ba_ | apply pd_ | apply d1_⟩⟩
          ·rw [if_neg c13] at H
           exact absurd H (by simp)
         ·replace c12 := bf_ c12
          subst c12
          have H1 : (if 0 ≤ (wrap64 (x9_2 + 1)) then (if (wrap64 (x9_2 + 1)) < (l0.length : Int) then ((neumeref02_Sub.f k2 ((rd_T48 l0 (wrap64 (x9_2 + 1))).f1.f0) ((rd_T48 l0 (wrap64 (x9_2 + 1))).f1.f1) ((rd_T48 l0 x9_2).f1.f0) ((rd_T48 l0 x9_2).f1.f1)).bind fun bt228 => ((neumeref28_Ideal.f k2 bt228.1 bt228.2.1).bind fun bt232 => (if bt228.2.2 = 0 then (if bt232.2 = 0 then (if x8_2.length < 17592186044416 then (neumeref28_Springs.l0 k2 l0 a2 (x8_2 ++ [bt232.1]) (wrap64 (x9_2 + 1))) else (none)) else (if x8_2.length < 17592186044416 then (neumeref28_Springs.l0 k2 l0 a2 (x8_2 ++ [600]) (wrap64 (x9_2 + 1))) else (none))) else (if x8_2.length < 17592186044416 then (neumeref28_Springs.l0 k2 l0 a2 (x8_2 ++ [600]) (wrap64 (x9_2 + 1))) else (none))))) else (none)) else (none)) = some (r1, r2) := by rw [if_neg (show ¬ (false = true) by decide)] at H; exact H
          clear H; have H := H1; clear H1
          obtain ⟨ji15, hji15⟩ : ∃ j_ : Int, (wrap64 (x9_2 + 1)) = j_ := ⟨_, rfl⟩
          replace H : (if 0 ≤ (ji15) then (if (ji15) < (l0.length : Int) then ((neumeref02_Sub.f k2 ((rd_T48 l0 (ji15)).f1.f0) ((rd_T48 l0 (ji15)).f1.f1) ((rd_T48 l0 x9_2).f1.f0) ((rd_T48 l0 x9_2).f1.f1)).bind fun bt228 => ((neumeref28_Ideal.f k2 bt228.1 bt228.2.1).bind fun bt232 => (if bt228.2.2 = 0 then (if bt232.2 = 0 then (if x8_2.length < 17592186044416 then (neumeref28_Springs.l0 k2 l0 a2 (x8_2 ++ [bt232.1]) ji15) else (none)) else (if x8_2.length < 17592186044416 then (neumeref28_Springs.l0 k2 l0 a2 (x8_2 ++ [600]) ji15) else (none))) else (if x8_2.length < 17592186044416 then (neumeref28_Springs.l0 k2 l0 a2 (x8_2 ++ [600]) ji15) else (none))))) else (none)) else (none)) = some (r1, r2) := by first | (rw [hji15] at H; exact H) | (simp only [hji15] at H ⊢; exact H)
          have hji15w : (IntKind.i64.wrap (x9_2 + 1)) = ji15 := (i64_w _).trans hji15
          by_cases c16 : 0 ≤ (ji15)
          ·rw [if_pos c16] at H
           have c16b0 : decide (0 ≤ (ji15)) = true := dt_ c16
           clear c16
           by_cases c17 : (ji15) < (l0.length : Int)
           ·rw [if_pos c17] at H
            have c17b0 : decide ((ji15) < (l0.length : Int)) = true := dt_ c17
            clear c17
            replace H := ob_ H
            obtain ⟨⟨t228, t229, t230⟩, A180, H⟩ := H
            replace H : ((neumeref28_Ideal.f k2 t228 t229).bind fun bt232 => (if t230 = 0 then (if bt232.2 = 0 then (if x8_2.length < 17592186044416 then (neumeref28_Springs.l0 k2 l0 a2 (x8_2 ++ [bt232.1]) ji15) else (none)) else (if x8_2.length < 17592186044416 then (neumeref28_Springs.l0 k2 l0 a2 (x8_2 ++ [600]) ji15) else (none))) else (if x8_2.length < 17592186044416 then (neumeref28_Springs.l0 k2 l0 a2 (x8_2 ++ [600]) ji15) else (none)))) = some (r1, r2) := H
            have A18 := sd_ A180
            clear A180
            replace H := ob_ H
            obtain ⟨⟨t232, t233⟩, A190, H⟩ := H
            replace H : (if t230 = 0 then (if t233 = 0 then (if x8_2.length < 17592186044416 then (neumeref28_Springs.l0 k2 l0 a2 (x8_2 ++ [t232]) ji15) else (none)) else (if x8_2.length < 17592186044416 then (neumeref28_Springs.l0 k2 l0 a2 (x8_2 ++ [600]) ji15) else (none))) else (if x8_2.length < 17592186044416 then (neumeref28_Springs.l0 k2 l0 a2 (x8_2 ++ [600]) ji15) else (none))) = some (r1, r2) := H
            have A19 := sd_ A190
            clear A190
            by_cases c20 : t230 = 0
            ·rw [if_pos c20] at H
             have c20b0 : (t230 == 0) = true := beq_iff_eq.mpr c20
             have c20b1 : (t230 != 0) = false := bne_eq_false_iff_eq.mpr c20
             clear c20
             by_cases c21 : t233 = 0
             ·rw [if_pos c21] at H
              have c21b0 : (t233 == 0) = true := beq_iff_eq.mpr c21
              have c21b1 : (t233 != 0) = false := bne_eq_false_iff_eq.mpr c21
              clear c21
              by_cases c22 : x8_2.length < 17592186044416
              ·rw [if_pos c22] at H
               have LMc22 := sd_ c22
               clear c22
               obtain ⟨y234, hy234⟩ : ∃ y_ : List Int, y_ = (x8_2 ++ [t232]) := ⟨_, rfl⟩
               replace H : (neumeref28_Springs.l0 k2 l0 a2 y234 ji15) = some (r1, r2) := by first | (rw [hy234]; with_reducible exact H) | (have H2_ := (Option.bind_some _ _).symm.trans H; rw [hy234]; with_reducible exact H2_) | (have H2_ := (Option.bind_some _ _).symm.trans H; with_reducible exact H2_) | with_reducible exact H | (rw [hy234]; exact H) | exact H
               have Ny234 := sd_ hy234
               clear hy234
               have H' := sd_ H
               clear H
               have p222 : 0 ≤ (x9_2 : Int) := od_ (by first | (with_reducible assumption) | assumption)
               have q222 : x9_2 < (l0.length : Int) := od_ (by first | (with_reducible assumption) | assumption)
               obtain ⟨ad222, A222_4, c222_4, e222, hx222_0, hx222_1, hx222_2, hx222_3, hx222_4, hl222_4, hi222_4⟩ := at_T48 HR0.out x9_2 p222 q222
               (try rw [← Nbq11.out] at hx222_0)
               cases e222
               replace hx222_0 := (HB.out.cell (wb_ w _ hx222_0)).trans hx222_0
               replace hx222_1 := (HB.out.cell (wb_ w _ hx222_1)).trans hx222_1
               replace hx222_2 := (HB.out.cell (wb_ w _ hx222_2)).trans hx222_2
               replace hx222_3 := (HB.out.cell (wb_ w _ hx222_3)).trans hx222_3
               replace hx222_4 := (HB.out.cell (wb_ w _ hx222_4)).trans hx222_4
               have HR222_4 := sd_ hi222_4
               have HC222_4 := sd_ hl222_4
               clear hi222_4 hl222_4
               replace p222 := eq_true p222
               replace q222 := eq_true q222
               try go_wp2
               have n0_ := sd_ (Kd.R_drew HO_8.out)
               have n1_ := sd_ (d1_ HB.out)
               clear HO_8
               clear HB
               have HO_8 := n0_
               have HB := n1_
               clear n0_ n1_
               have p226 : 0 ≤ ((ji15) : Int) := od_ (by first | (with_reducible assumption) | assumption)
               have q226 : (ji15) < (l0.length : Int) := od_ (by first | (with_reducible assumption) | assumption)
               obtain ⟨ad226, A226_4, c226_4, e226, hx226_0, hx226_1, hx226_2, hx226_3, hx226_4, hl226_4, hi226_4⟩ := at_T48 HR0.out (ji15) p226 q226
               (try rw [← Nbq11.out] at hx226_0)
               have hw226_4 := hx226_4
               have hw226_3 := hx226_3
               have hw226_2 := hx226_2
               have hw226_1 := hx226_1
               have hw226_0 := hx226_0
               obtain rfl : ad222 = ad226 := (by injection e226)
               replace hx226_0 := (HB.out.cell (wb_ w _ hx226_0)).trans hx226_0
               replace hx226_1 := (HB.out.cell (wb_ w _ hx226_1)).trans hx226_1
               replace hx226_2 := (HB.out.cell (wb_ w _ hx226_2)).trans hx226_2
               replace hx226_3 := (HB.out.cell (wb_ w _ hx226_3)).trans hx226_3
               replace hx226_4 := (HB.out.cell (wb_ w _ hx226_4)).trans hx226_4
               have HR226_4 := sd_ hi226_4
               have HC226_4 := sd_ hl226_4
               clear hi226_4 hl226_4
               replace p226 := eq_true p226
               replace q226 := eq_true q226
               have p227 : 0 ≤ (x9_2 : Int) := od_ (by first | (with_reducible assumption) | assumption)
               have q227 : x9_2 < (l0.length : Int) := od_ (by first | (with_reducible assumption) | assumption)
               obtain ⟨ad227, A227_4, c227_4, e227, hx227_0, hx227_1, hx227_2, hx227_3, hx227_4, hl227_4, hi227_4⟩ := at_T48 HR0.out x9_2 p227 q227
               (try rw [← Nbq11.out] at hx227_0)
               have hw227_4 := hx227_4
               have hw227_3 := hx227_3
               have hw227_2 := hx227_2
               have hw227_1 := hx227_1
               have hw227_0 := hx227_0
               obtain rfl : ad222 = ad227 := (by injection e227)
               replace hx227_0 := (HB.out.cell (wb_ w _ hx227_0)).trans hx227_0
               replace hx227_1 := (HB.out.cell (wb_ w _ hx227_1)).trans hx227_1
               replace hx227_2 := (HB.out.cell (wb_ w _ hx227_2)).trans hx227_2
               replace hx227_3 := (HB.out.cell (wb_ w _ hx227_3)).trans hx227_3
               replace hx227_4 := (HB.out.cell (wb_ w _ hx227_4)).trans hx227_4
               have HR227_4 := sd_ hi227_4
               have HC227_4 := sd_ hl227_4
               clear hi227_4 hl227_4
               replace p227 := eq_true p227
               replace q227 := eq_true q227
               refine start_ (n := 18) (S := fun w' => w'.cell? (ad222.add (((ji15)).toNat * 5)) = some (.bool ((rd_T48 l0 (ji15)).f0)) ∧ w'.cell? ⟨(ad222.add (((ji15)).toNat * 5)).block, (ad222.add (((ji15)).toNat * 5)).off + 1, none⟩ = some (.int .i64 ((rd_T48 l0 (ji15)).f1.f0)) ∧ w'.cell? ⟨(ad222.add (((ji15)).toNat * 5)).block, (ad222.add (((ji15)).toNat * 5)).off + 2, none⟩ = some (.int .i64 ((rd_T48 l0 (ji15)).f1.f1)) ∧ w'.cell? ⟨(ad222.add (((ji15)).toNat * 5)).block, (ad222.add (((ji15)).toNat * 5)).off + 3, none⟩ = some (.int .i64 ((rd_T48 l0 (ji15)).f2)) ∧ w'.cell? ⟨(ad222.add (((ji15)).toNat * 5)).block, (ad222.add (((ji15)).toNat * 5)).off + 4, none⟩ = some (.slice A226_4 ((rd_T48 l0 (ji15)).f3).length c226_4) ∧ w'.cell? (ad222.add ((x9_2).toNat * 5)) = some (.bool (false)) ∧ w'.cell? ⟨(ad222.add ((x9_2).toNat * 5)).block, (ad222.add ((x9_2).toNat * 5)).off + 1, none⟩ = some (.int .i64 ((rd_T48 l0 x9_2).f1.f0)) ∧ w'.cell? ⟨(ad222.add ((x9_2).toNat * 5)).block, (ad222.add ((x9_2).toNat * 5)).off + 2, none⟩ = some (.int .i64 ((rd_T48 l0 x9_2).f1.f1)) ∧ w'.cell? ⟨(ad222.add ((x9_2).toNat * 5)).block, (ad222.add ((x9_2).toNat * 5)).off + 3, none⟩ = some (.int .i64 ((rd_T48 l0 x9_2).f2)) ∧ w'.cell? ⟨(ad222.add ((x9_2).toNat * 5)).block, (ad222.add ((x9_2).toNat * 5)).off + 4, none⟩ = some (.slice A227_4 ((rd_T48 l0 x9_2).f3).length c227_4)) (ds := []) #[false, false, false, false, false, false, false, false, false, false, false, false, false, false, false, false, false, false] (by kernel_rfl) rfl rfl ⟨((HB.out.cell (wb_ w _ hw226_0)).trans hw226_0), ((HB.out.cell (wb_ w _ hw226_1)).trans hw226_1), ((HB.out.cell (wb_ w _ hw226_2)).trans hw226_2), ((HB.out.cell (wb_ w _ hw226_3)).trans hw226_3), ((HB.out.cell (wb_ w _ hw226_4)).trans hw226_4), ((HB.out.cell (wb_ w _ hw227_0)).trans hw227_0), ((HB.out.cell (wb_ w _ hw227_1)).trans hw227_1), ((HB.out.cell (wb_ w _ hw227_2)).trans hw227_2), ((HB.out.cell (wb_ w _ hw227_3)).trans hw227_3), ((HB.out.cell (wb_ w _ hw227_4)).trans hw227_4)⟩ (fun hHeld => ?_); refine with_tabW neumeref28_Springs.tab9 neumeref28_Springs.bits9 (fun HT_ HW_ => ?_)
               generalize wr.drew = w23 at HO_8 HB HR226_4 HR227_4 hx226_0 hx226_1 hx226_2 hx226_3 hx226_4 hx227_0 hx227_1 hx227_2 hx227_3 hx227_4 hHeld ⊢
               refine pure_ (i := 0) (N := some 42) (v := ?_) (a' := ?_) #[true, false, false, false, false, false, false, false, false, false, false, false, false, false, false, false, false, false] rfl rfl (any_of HT_.out (by kernel_rfl)) (fun _ _ _ h => h) (Or.inl ⟨by rfl, ?_⟩) ?_ ?_
               rotate_left; (intro w'; go_simp; with_reducible rfl); rotate_left; (simp only [Act.put, ls_, lz_, lc_, i64_w, i32_w]; rfl)
               refine pure_ (i := 1) (N := some 43) (v := ?_) (a' := ?_) #[true, true, false, false, false, false, false, false, false, false, false, false, false, false, false, false, false, false] rfl rfl (any_of HT_.out (by kernel_rfl)) (fun _ _ _ h => h) (Or.inl ⟨by rfl, ?_⟩) ?_ ?_
               rotate_left; (intro w'; go_simp; with_reducible rfl); rotate_left; (simp only [Act.put, ls_, lz_, lc_, i64_w, i32_w]; rfl)
               refine pure_ (i := 2) (N := some 44) (v := ?_) (a' := ?_) #[true, true, true, false, false, false, false, false, false, false, false, false, false, false, false, false, false, false] rfl rfl (any_of HT_.out (by kernel_rfl)) (fun _ _ _ h => h) (Or.inl ⟨by rfl, ?_⟩) ?_ ?_
               rotate_left; (intro w'; go_simp; with_reducible rfl); rotate_left; (simp only [Act.put, ls_, lz_, lc_, i64_w, i32_w]; rfl)
               refine pure_ (i := 3) (N := some 45) (v := ?_) (a' := ?_) #[true, true, true, true, false, false, false, false, false, false, false, false, false, false, false, false, false, false] rfl rfl (any_of HT_.out (by kernel_rfl)) (fun _ _ _ h => h) (Or.inl ⟨by rfl, ?_⟩) ?_ ?_
               rotate_left; (intro w'; go_simp; with_reducible rfl); rotate_left; (simp only [Act.put, ls_, lz_, lc_, i64_w, i32_w]; rfl)
               refine pure_ (i := 4) (N := some 46) (v := ?_) (a' := ?_) #[true, true, true, true, true, false, false, false, false, false, false, false, false, false, false, false, false, false] rfl rfl (any_of HT_.out (by kernel_rfl)) (fun _ _ _ h => h) (Or.inl ⟨by rfl, ?_⟩) ?_ ?_
               rotate_left; (intro w'; go_simp; with_reducible rfl); rotate_left; (simp only [Act.put, ls_, lz_, lc_, i64_w, i32_w]; rfl)
               refine pure_ (i := 6) (N := some 48) (v := ?_) (a' := ?_) #[true, true, true, true, true, false, true, false, false, false, false, false, false, false, false, false, false, false] rfl rfl (any_of HT_.out (by kernel_rfl)) (fun _ _ _ h => h) (Or.inl ⟨by rfl, ?_⟩) ?_ ?_
               rotate_left; (intro w'; go_simp; with_reducible rfl); rotate_left; (simp only [Act.put, ls_, lz_, lc_, i64_w, i32_w]; rfl)
               refine pure_ (i := 7) (N := some 49) (v := ?_) (a' := ?_) #[true, true, true, true, true, false, true, true, false, false, false, false, false, false, false, false, false, false] rfl rfl (any_of HT_.out (by kernel_rfl)) (fun _ _ _ h => h) (Or.inl ⟨by rfl, ?_⟩) ?_ ?_
               rotate_left; (intro w'; go_simp; with_reducible rfl); rotate_left; (simp only [Act.put, ls_, lz_, lc_, i64_w, i32_w]; rfl)
               refine pure_ (i := 8) (N := some 50) (v := ?_) (a' := ?_) #[true, true, true, true, true, false, true, true, true, false, false, false, false, false, false, false, false, false] rfl rfl (any_of HT_.out (by kernel_rfl)) (fun _ _ _ h => h) (Or.inl ⟨by rfl, ?_⟩) ?_ ?_
               rotate_left; (intro w'; go_simp; with_reducible rfl); rotate_left; (simp only [Act.put, ls_, lz_, lc_, i64_w, i32_w]; rfl)
               refine pure_ (i := 9) (N := some 51) (v := ?_) (a' := ?_) #[true, true, true, true, true, false, true, true, true, true, false, false, false, false, false, false, false, false] rfl rfl (any_of HT_.out (by kernel_rfl)) (fun _ _ _ h => h) (Or.inl ⟨by rfl, ?_⟩) ?_ ?_
               rotate_left; (intro w'; go_simp; with_reducible rfl); rotate_left; (simp only [Act.put, ls_, lz_, lc_, i64_w, i32_w]; rfl)
               refine take_ (i := 5) (N := some 47) (v := ?_) (a' := ?_) #[true, true, true, true, true, true, true, true, true, true, false, false, false, false, false, false, false, false] rfl rfl (take_ofW HT_.out HW_.out (by kernel_rfl)) (fun _ _ _ h => h) (Or.inl ⟨by rfl, ?_⟩) hHeld ?_ ?_
               rotate_left
               ·rintro w' ⟨s0, s1, s2, s3, s4, s5, s6, s7, s8, s9⟩
                go_simp
                with_reducible rfl
               rotate_left
               ·simp only [Act.put, ls_, lz_, lc_, i64_w, i32_w]
                rfl
               refine take_ (i := 10) (N := some 52) (v := ?_) (a' := ?_) #[true, true, true, true, true, true, true, true, true, true, true, false, false, false, false, false, false, false] rfl rfl (take_ofW HT_.out HW_.out (by kernel_rfl)) (fun _ _ _ h => h) (Or.inl ⟨by rfl, ?_⟩) hHeld ?_ ?_
               rotate_left
               ·rintro w' ⟨s0, s1, s2, s3, s4, s5, s6, s7, s8, s9⟩
                go_simp
                with_reducible rfl
               rotate_left
               ·simp only [Act.put, ls_, lz_, lc_, i64_w, i32_w]
                rfl
               refine join_ (σ := Nat) 2 #[true, true, true, true, true, true, true, true, true, true, true, true, true, true, true, true, false, false] (fun s_ => [(53, .tuple #[.agg #[.int .i64 t228, .int .i64 t229], .int .i64 t230]), (10, .pointer (some ⟨s_, 0, none⟩)), (41, .tuple #[.agg #[.int .i64 t228, .int .i64 t229], .int .i64 t230]), (54, .agg #[.int .i64 t228, .int .i64 t229]), (55, .int .i64 t230)]) (fun s_ w' => (w'.cell? (ad222.add (((ji15)).toNat * 5)) = some (.bool ((rd_T48 l0 (ji15)).f0)) ∧ w'.cell? ⟨(ad222.add (((ji15)).toNat * 5)).block, (ad222.add (((ji15)).toNat * 5)).off + 1, none⟩ = some (.int .i64 ((rd_T48 l0 (ji15)).f1.f0)) ∧ w'.cell? ⟨(ad222.add (((ji15)).toNat * 5)).block, (ad222.add (((ji15)).toNat * 5)).off + 2, none⟩ = some (.int .i64 ((rd_T48 l0 (ji15)).f1.f1)) ∧ w'.cell? ⟨(ad222.add (((ji15)).toNat * 5)).block, (ad222.add (((ji15)).toNat * 5)).off + 3, none⟩ = some (.int .i64 ((rd_T48 l0 (ji15)).f2)) ∧ w'.cell? ⟨(ad222.add (((ji15)).toNat * 5)).block, (ad222.add (((ji15)).toNat * 5)).off + 4, none⟩ = some (.slice A226_4 ((rd_T48 l0 (ji15)).f3).length c226_4) ∧ w'.cell? (ad222.add ((x9_2).toNat * 5)) = some (.bool (false)) ∧ w'.cell? ⟨(ad222.add ((x9_2).toNat * 5)).block, (ad222.add ((x9_2).toNat * 5)).off + 1, none⟩ = some (.int .i64 ((rd_T48 l0 x9_2).f1.f0)) ∧ w'.cell? ⟨(ad222.add ((x9_2).toNat * 5)).block, (ad222.add ((x9_2).toNat * 5)).off + 2, none⟩ = some (.int .i64 ((rd_T48 l0 x9_2).f1.f1)) ∧ w'.cell? ⟨(ad222.add ((x9_2).toNat * 5)).block, (ad222.add ((x9_2).toNat * 5)).off + 3, none⟩ = some (.int .i64 ((rd_T48 l0 x9_2).f2)) ∧ w'.cell? ⟨(ad222.add ((x9_2).toNat * 5)).block, (ad222.add ((x9_2).toNat * 5)).off + 4, none⟩ = some (.slice A227_4 ((rd_T48 l0 x9_2).f3).length c227_4)) ∧ (Kd.R (Kd.int .i64) 3 w' w.heap.size (fun _ => True) u8 x8_2) ∧ (w'.heap[s_]? = some (.cells #[.int .i64 0, .int .i64 0] 23 (0, 0))) ∧ (w.heap.size ≤ s_) ∧ (w.heap.size ≤ s_) ∧ (Below w.heap.size w w')) ?_ ?_
               rotate_left
               ·intro hCont
                refine two_ (i := 11) (j := 15) (Ni := some 53) (Nj := some 10) #[true, true, true, true, true, true, true, true, true, true, true, true, false, false, false, false, false, false] #[true, true, true, true, true, true, true, true, true, true, true, false, false, false, false, true, false, false] rfl rfl rfl rfl (two_of HT_.out (by kernel_rfl)) (by decide) (by decide) (fun K hK => ?_) (fun K hK => ?_)
                ·skip
                 refine goes_ Try.func22 (by kernel_rfl) rfl #[.agg #[.int .i64 ((rd_T48 l0 (ji15)).f1.f0), .int .i64 ((rd_T48 l0 (ji15)).f1.f1)], .agg #[.int .i64 ((rd_T48 l0 x9_2).f1.f0), .int .i64 ((rd_T48 l0 x9_2).f1.f1)]] (by rfl) rfl rfl (by (try simp only [lm_, lq_, lx_]); first | done | (simp only [hji15]; rfl) | rfl | (simp only [ld_, lt_]; rfl)) ?_
                 with_reducible refine (neumeref02_Sub.calls k2 ((rd_T48 l0 (ji15)).f1.f0) ((rd_T48 l0 (ji15)).f1.f1) ((rd_T48 l0 x9_2).f1.f0) ((rd_T48 l0 x9_2).f1.f1) t228 t229 t230 _ A18.out).mono ?_
                 rintro e w24 ⟨rfl, hb⟩
                 refine ⟨_, rfl, ?_⟩
                 have n0_ := sd_ (Kd.R_below (by (with_reducible repeat (first | apply Kd.R_alloc | apply Kd.R_drewN | apply Kd.R_drew)); exact HO_8.out) hb)
                 have n1_ := sd_ (bt_ (by repeat first | exact HB.out | apply ba_ | apply pd_ | apply d1_) hb)
                 clear HO_8
                 clear HB
                 have HO_8 := n0_
                 have HB := n1_
                 clear n0_ n1_
                 (try clear hb)
                 (try clear hb2)
                 (try clear hk)
                 (try clear hi)
                 refine hK.out _ _ ⟨((HB.out.cell (wb_ w _ hw226_0)).trans hw226_0), ((HB.out.cell (wb_ w _ hw226_1)).trans hw226_1), ((HB.out.cell (wb_ w _ hw226_2)).trans hw226_2), ((HB.out.cell (wb_ w _ hw226_3)).trans hw226_3), ((HB.out.cell (wb_ w _ hw226_4)).trans hw226_4), ((HB.out.cell (wb_ w _ hw227_0)).trans hw227_0), ((HB.out.cell (wb_ w _ hw227_1)).trans hw227_1), ((HB.out.cell (wb_ w _ hw227_2)).trans hw227_2), ((HB.out.cell (wb_ w _ hw227_3)).trans hw227_3), ((HB.out.cell (wb_ w _ hw227_4)).trans hw227_4)⟩ (fun hHeld => ?_)
                 clear hK K
                 refine norm_ (a' := ?_) ?_ ?_
                 rotate_left
                 ·show Act.put _ (some 53) _ = _
                  simp only [Act.put, ls_, lz_, lc_, i64_w, i32_w]
                  rfl
                 refine pure_ (i := 12) (N := some 41) (v := ?_) (a' := ?_) #[true, true, true, true, true, true, true, true, true, true, true, true, true, false, false, false, false, false] rfl rfl (any_of HT_.out (by kernel_rfl)) (fun _ _ _ h => h) (Or.inl ⟨by rfl, ?_⟩) ?_ ?_
                 rotate_left; (intro w'; go_simp; with_reducible rfl); rotate_left; (simp only [Act.put, ls_, lz_, lc_, i64_w, i32_w]; rfl)
                 refine pure_ (i := 13) (N := some 54) (v := ?_) (a' := ?_) #[true, true, true, true, true, true, true, true, true, true, true, true, true, true, false, false, false, false] rfl rfl (any_of HT_.out (by kernel_rfl)) (fun _ _ _ h => h) (Or.inl ⟨by rfl, ?_⟩) ?_ ?_
                 rotate_left; (intro w'; go_simp; with_reducible rfl); rotate_left; (simp only [Act.put, ls_, lz_, lc_, i64_w, i32_w]; rfl)
                 refine pure_ (i := 14) (N := some 55) (v := ?_) (a' := ?_) #[true, true, true, true, true, true, true, true, true, true, true, true, true, true, true, false, false, false] rfl rfl (any_of HT_.out (by kernel_rfl)) (fun _ _ _ h => h) (Or.inl ⟨by rfl, ?_⟩) ?_ ?_
                 rotate_left; (intro w'; go_simp; with_reducible rfl); rotate_left; (simp only [Act.put, ls_, lz_, lc_, i64_w, i32_w]; rfl)
                 refine one_ (i := 15) (N := some 10) #[true, true, true, true, true, true, true, true, true, true, true, true, true, true, true, true, false, false] rfl rfl (one_of HT_.out (by kernel_rfl)) (by decide) (fun K hK => ?_)
                 refine box_step ?hg (N := 10) ?hd (cs := #[.int .i64 0, .int .i64 0]) (t := 23) ?hr ?_; (case hd => rfl); (case hg => rfl); (case hr => first | (go_simp; done) | (go_simp; rfl))
                 intro gb231 hg w25 hbox hb
                 have n0_ := sd_ (Kd.R_below (by (with_reducible repeat (first | apply Kd.R_alloc | apply Kd.R_drewN | apply Kd.R_drew)); exact HO_8.out) hb)
                 have n1_ := sd_ (bt_ (by repeat first | exact HB.out | apply ba_ | apply pd_ | apply d1_) hb)
                 have n2_ := sd_ (hbox)
                 have n3_ := sd_ ((by rw [hg]; exact (bz_ (by repeat first | exact HB.out | apply ba_ | apply pd_ | apply d1_)) : w.heap.size ≤ gb231))
                 have n4_ := sd_ ((by rw [hg]; exact (bz_ (by repeat first | exact HB.out | apply ba_ | apply pd_ | apply d1_)) : w.heap.size ≤ gb231))
                 clear HO_8
                 clear HB
                 have HO_8 := n0_
                 have HB := n1_
                 have BK231 := n2_
                 have GW231 := n3_
                 have GE231 := n4_
                 clear n0_ n1_ n2_ n3_ n4_
                 clear hb hbox hg
                 refine hK.out _ _ ⟨((HB.out.cell (wb_ w _ hw226_0)).trans hw226_0), ((HB.out.cell (wb_ w _ hw226_1)).trans hw226_1), ((HB.out.cell (wb_ w _ hw226_2)).trans hw226_2), ((HB.out.cell (wb_ w _ hw226_3)).trans hw226_3), ((HB.out.cell (wb_ w _ hw226_4)).trans hw226_4), ((HB.out.cell (wb_ w _ hw227_0)).trans hw227_0), ((HB.out.cell (wb_ w _ hw227_1)).trans hw227_1), ((HB.out.cell (wb_ w _ hw227_2)).trans hw227_2), ((HB.out.cell (wb_ w _ hw227_3)).trans hw227_3), ((HB.out.cell (wb_ w _ hw227_4)).trans hw227_4)⟩ (fun hHeld => ?_)
                 clear hK K
                 refine norm_ (a' := ?_) ?_ ?_
                 rotate_left
                 ·show Act.put _ (some 10) _ = _
                  simp only [Act.put, ls_, lz_, lc_, i64_w, i32_w]
                  rfl
                 exact norm_ (by simp only [putAll, Act.put, ls_, lz_, lc_]) (hCont (gb231) _ ⟨hHeld, (by (with_reducible repeat (first | apply Kd.R_alloc | apply Kd.R_drewN | apply Kd.R_drew)); exact HO_8.out), (by (with_reducible repeat (first | refine kn_ ?_ _ | refine kd_ ?_ | refine ka_ ?_ _)); exact BK231.out), GW231.out, GE231.out, (by repeat first | exact HB.out | apply ba_ | apply pd_ | apply d1_ | refine bs_ ?_ GE231.out)⟩)
                ·skip
                 refine box_step ?hg (N := 10) ?hd (cs := #[.int .i64 0, .int .i64 0]) (t := 23) ?hr ?_; (case hd => rfl); (case hg => rfl); (case hr => first | (go_simp; done) | (go_simp; rfl))
                 intro gb231 hg w24 hbox hb
                 have n0_ := sd_ (Kd.R_below (by (with_reducible repeat (first | apply Kd.R_alloc | apply Kd.R_drewN | apply Kd.R_drew)); exact HO_8.out) hb)
                 have n1_ := sd_ (bt_ (by repeat first | exact HB.out | apply ba_ | apply pd_ | apply d1_) hb)
                 have n2_ := sd_ (hbox)
                 have n3_ := sd_ ((by rw [hg]; exact (bz_ (by repeat first | exact HB.out | apply ba_ | apply pd_ | apply d1_)) : w.heap.size ≤ gb231))
                 have n4_ := sd_ ((by rw [hg]; exact (bz_ (by repeat first | exact HB.out | apply ba_ | apply pd_ | apply d1_)) : w.heap.size ≤ gb231))
                 clear HO_8
                 clear HB
                 have HO_8 := n0_
                 have HB := n1_
                 have BK231 := n2_
                 have GW231 := n3_
                 have GE231 := n4_
                 clear n0_ n1_ n2_ n3_ n4_
                 clear hb hbox hg
                 refine hK.out _ _ ⟨((HB.out.cell (wb_ w _ hw226_0)).trans hw226_0), ((HB.out.cell (wb_ w _ hw226_1)).trans hw226_1), ((HB.out.cell (wb_ w _ hw226_2)).trans hw226_2), ((HB.out.cell (wb_ w _ hw226_3)).trans hw226_3), ((HB.out.cell (wb_ w _ hw226_4)).trans hw226_4), ((HB.out.cell (wb_ w _ hw227_0)).trans hw227_0), ((HB.out.cell (wb_ w _ hw227_1)).trans hw227_1), ((HB.out.cell (wb_ w _ hw227_2)).trans hw227_2), ((HB.out.cell (wb_ w _ hw227_3)).trans hw227_3), ((HB.out.cell (wb_ w _ hw227_4)).trans hw227_4)⟩ (fun hHeld => ?_)
                 clear hK K
                 refine norm_ (a' := ?_) ?_ ?_
                 rotate_left
                 ·show Act.put _ (some 10) _ = _
                  simp only [Act.put, ls_, lz_, lc_, i64_w, i32_w]
                  rfl
                 refine one_ (i := 11) (N := some 53) #[true, true, true, true, true, true, true, true, true, true, true, true, false, false, false, true, false, false] rfl rfl (one_of HT_.out (by kernel_rfl)) (by decide) (fun K hK => ?_)
                 refine goes_ Try.func22 (by kernel_rfl) rfl #[.agg #[.int .i64 ((rd_T48 l0 (ji15)).f1.f0), .int .i64 ((rd_T48 l0 (ji15)).f1.f1)], .agg #[.int .i64 ((rd_T48 l0 x9_2).f1.f0), .int .i64 ((rd_T48 l0 x9_2).f1.f1)]] (by rfl) rfl rfl (by (try simp only [lm_, lq_, lx_]); first | done | (simp only [hji15]; rfl) | rfl | (simp only [ld_, lt_]; rfl)) ?_
                 with_reducible refine (neumeref02_Sub.calls k2 ((rd_T48 l0 (ji15)).f1.f0) ((rd_T48 l0 (ji15)).f1.f1) ((rd_T48 l0 x9_2).f1.f0) ((rd_T48 l0 x9_2).f1.f1) t228 t229 t230 _ A18.out).mono ?_
                 rintro e w25 ⟨rfl, hb⟩
                 refine ⟨_, rfl, ?_⟩
                 have n0_ := sd_ (Kd.R_below (by (with_reducible repeat (first | apply Kd.R_alloc | apply Kd.R_drewN | apply Kd.R_drew)); exact HO_8.out) hb)
                 have n1_ := sd_ (blk_below (g := gb231) (o := .cells #[.int .i64 0, .int .i64 0] 23 (0, 0)) (by (with_reducible repeat (first | refine kn_ ?_ _ | refine kd_ ?_ | refine ka_ ?_ _)); exact BK231.out) hb)
                 have n2_ := sd_ (bt_ (by repeat first | exact HB.out | apply ba_ | apply pd_ | apply d1_ | refine bs_ ?_ GE231.out) hb)
                 clear HO_8
                 clear BK231
                 clear HB
                 have HO_8 := n0_
                 have BK231 := n1_
                 have HB := n2_
                 clear n0_ n1_ n2_
                 (try clear hb)
                 (try clear hb2)
                 (try clear hk)
                 (try clear hi)
                 refine hK.out _ _ ⟨((HB.out.cell (wb_ w _ hw226_0)).trans hw226_0), ((HB.out.cell (wb_ w _ hw226_1)).trans hw226_1), ((HB.out.cell (wb_ w _ hw226_2)).trans hw226_2), ((HB.out.cell (wb_ w _ hw226_3)).trans hw226_3), ((HB.out.cell (wb_ w _ hw226_4)).trans hw226_4), ((HB.out.cell (wb_ w _ hw227_0)).trans hw227_0), ((HB.out.cell (wb_ w _ hw227_1)).trans hw227_1), ((HB.out.cell (wb_ w _ hw227_2)).trans hw227_2), ((HB.out.cell (wb_ w _ hw227_3)).trans hw227_3), ((HB.out.cell (wb_ w _ hw227_4)).trans hw227_4)⟩ (fun hHeld => ?_)
                 clear hK K
                 refine norm_ (a' := ?_) ?_ ?_
                 rotate_left
                 ·show Act.put _ (some 53) _ = _
                  simp only [Act.put, ls_, lz_, lc_, i64_w, i32_w]
                  rfl
                 refine pure_ (i := 12) (N := some 41) (v := ?_) (a' := ?_) #[true, true, true, true, true, true, true, true, true, true, true, true, true, false, false, true, false, false] rfl rfl (any_of HT_.out (by kernel_rfl)) (fun _ _ _ h => h) (Or.inl ⟨by rfl, ?_⟩) ?_ ?_
                 rotate_left; (intro w'; go_simp; with_reducible rfl); rotate_left; (simp only [Act.put, ls_, lz_, lc_, i64_w, i32_w]; rfl)
                 refine pure_ (i := 13) (N := some 54) (v := ?_) (a' := ?_) #[true, true, true, true, true, true, true, true, true, true, true, true, true, true, false, true, false, false] rfl rfl (any_of HT_.out (by kernel_rfl)) (fun _ _ _ h => h) (Or.inl ⟨by rfl, ?_⟩) ?_ ?_
                 rotate_left; (intro w'; go_simp; with_reducible rfl); rotate_left; (simp only [Act.put, ls_, lz_, lc_, i64_w, i32_w]; rfl)
                 refine pure_ (i := 14) (N := some 55) (v := ?_) (a' := ?_) #[true, true, true, true, true, true, true, true, true, true, true, true, true, true, true, true, false, false] rfl rfl (any_of HT_.out (by kernel_rfl)) (fun _ _ _ h => h) (Or.inl ⟨by rfl, ?_⟩) ?_ ?_
                 rotate_left; (intro w'; go_simp; with_reducible rfl); rotate_left; (simp only [Act.put, ls_, lz_, lc_, i64_w, i32_w]; rfl)
                 exact norm_ (by simp only [putAll, Act.put, ls_, lz_, lc_]) (hCont (gb231) _ ⟨hHeld, (by (with_reducible repeat (first | apply Kd.R_alloc | apply Kd.R_drewN | apply Kd.R_drew)); exact HO_8.out), (by (with_reducible repeat (first | refine kn_ ?_ _ | refine kd_ ?_ | refine ka_ ?_ _)); exact BK231.out), GW231.out, GE231.out, (by repeat first | exact HB.out | apply ba_ | apply pd_ | apply d1_ | refine bs_ ?_ GE231.out)⟩)
               rintro gb231 w26 ⟨hS_, h0_, h1_, h2_, h3_, h4_⟩
               have n0_ : Aside0 (Kd.R (Kd.int .i64) 3 w26 w.heap.size (fun _ => True) u8 x8_2) := ⟨h0_⟩
               have n1_ : Aside0 (w26.heap[gb231]? = some (.cells #[.int .i64 0, .int .i64 0] 23 (0, 0))) := ⟨h1_⟩
               have n2_ : Aside0 (w.heap.size ≤ gb231) := ⟨h2_⟩
               have n3_ : Aside0 (w.heap.size ≤ gb231) := ⟨h3_⟩
               have n4_ : Aside0 (Below w.heap.size w w26) := ⟨h4_⟩
               clear HO_8
               clear HB
               clear h0_ h1_ h2_ h3_ h4_
               have HO_8 := n0_
               have BK231 := n1_
               have GW231 := n2_
               have GE231 := n3_
               have HB := n4_
               clear n0_ n1_ n2_ n3_ n4_
               have hHeld : w26.cell? (ad222.add (((ji15)).toNat * 5)) = some (.bool ((rd_T48 l0 (ji15)).f0)) ∧ w26.cell? ⟨(ad222.add (((ji15)).toNat * 5)).block, (ad222.add (((ji15)).toNat * 5)).off + 1, none⟩ = some (.int .i64 ((rd_T48 l0 (ji15)).f1.f0)) ∧ w26.cell? ⟨(ad222.add (((ji15)).toNat * 5)).block, (ad222.add (((ji15)).toNat * 5)).off + 2, none⟩ = some (.int .i64 ((rd_T48 l0 (ji15)).f1.f1)) ∧ w26.cell? ⟨(ad222.add (((ji15)).toNat * 5)).block, (ad222.add (((ji15)).toNat * 5)).off + 3, none⟩ = some (.int .i64 ((rd_T48 l0 (ji15)).f2)) ∧ w26.cell? ⟨(ad222.add (((ji15)).toNat * 5)).block, (ad222.add (((ji15)).toNat * 5)).off + 4, none⟩ = some (.slice A226_4 ((rd_T48 l0 (ji15)).f3).length c226_4) ∧ w26.cell? (ad222.add ((x9_2).toNat * 5)) = some (.bool (false)) ∧ w26.cell? ⟨(ad222.add ((x9_2).toNat * 5)).block, (ad222.add ((x9_2).toNat * 5)).off + 1, none⟩ = some (.int .i64 ((rd_T48 l0 x9_2).f1.f0)) ∧ w26.cell? ⟨(ad222.add ((x9_2).toNat * 5)).block, (ad222.add ((x9_2).toNat * 5)).off + 2, none⟩ = some (.int .i64 ((rd_T48 l0 x9_2).f1.f1)) ∧ w26.cell? ⟨(ad222.add ((x9_2).toNat * 5)).block, (ad222.add ((x9_2).toNat * 5)).off + 3, none⟩ = some (.int .i64 ((rd_T48 l0 x9_2).f2)) ∧ w26.cell? ⟨(ad222.add ((x9_2).toNat * 5)).block, (ad222.add ((x9_2).toNat * 5)).off + 4, none⟩ = some (.slice A227_4 ((rd_T48 l0 x9_2).f3).length c227_4) := hS_
               refine norm_ (a' := ?_) ?_ ?_
               rotate_left
               ·simp only [putAll, Act.put, ls_, lz_, lc_]
                rfl
               refine one_ (i := 16) (N := none) #[true, true, true, true, true, true, true, true, true, true, true, true, true, true, true, true, true, false] rfl rfl (one_of HT_.out (by kernel_rfl)) (by decide) (fun K hK => ?_)
               have hs27 : w26.cell? ⟨gb231, 0, none⟩ = some (.int .i64 0) := (kc_ BK231.out 0).trans rfl
               have hfs27 := kf_ BK231.out 0
               have hs28 : w26.cell? ⟨gb231, 1, none⟩ = some (.int .i64 0) := (kc_ BK231.out 1).trans rfl
               have hfs28 := kf_ BK231.out 1
               refine skip_ (w1 := ?_) (by rfl) rfl ?_ ?_
               rotate_left
               ·go_simp
                rfl
               refine hK.out _ _ ⟨((cell_far (p := ⟨gb231, _, none⟩) (by first | exact nn_ (nl_ (by have := wb_ _ _ hw226_0; first | rwa [ak_] at this | exact this) GW231.out) | (rw [ak_]; exact nn_ (nl_ (by have := wb_ _ _ hw226_0; first | rwa [ak_] at this | exact this) GW231.out)) | (show (Addr.add _ _).block ≠ _; rw [ak_]; exact nn_ (nl_ (by have := wb_ _ _ hw226_0; first | rwa [ak_] at this | exact this) GW231.out)) | (dsimp only; exact nn_ (nl_ (by have := wb_ _ _ hw226_0; first | rwa [ak_] at this | exact this) GW231.out))) _).trans (((cell_far (p := ⟨gb231, _, none⟩) (by first | exact nn_ (nl_ (by have := wb_ _ _ hw226_0; first | rwa [ak_] at this | exact this) GW231.out) | (rw [ak_]; exact nn_ (nl_ (by have := wb_ _ _ hw226_0; first | rwa [ak_] at this | exact this) GW231.out)) | (show (Addr.add _ _).block ≠ _; rw [ak_]; exact nn_ (nl_ (by have := wb_ _ _ hw226_0; first | rwa [ak_] at this | exact this) GW231.out)) | (dsimp only; exact nn_ (nl_ (by have := wb_ _ _ hw226_0; first | rwa [ak_] at this | exact this) GW231.out))) _).trans (hHeld.1)))), ((cell_far (p := ⟨gb231, _, none⟩) (by first | exact nn_ (nl_ (by have := wb_ _ _ hw226_1; first | rwa [ak_] at this | exact this) GW231.out) | (rw [ak_]; exact nn_ (nl_ (by have := wb_ _ _ hw226_1; first | rwa [ak_] at this | exact this) GW231.out)) | (show (Addr.add _ _).block ≠ _; rw [ak_]; exact nn_ (nl_ (by have := wb_ _ _ hw226_1; first | rwa [ak_] at this | exact this) GW231.out)) | (dsimp only; exact nn_ (nl_ (by have := wb_ _ _ hw226_1; first | rwa [ak_] at this | exact this) GW231.out))) _).trans (((cell_far (p := ⟨gb231, _, none⟩) (by first | exact nn_ (nl_ (by have := wb_ _ _ hw226_1; first | rwa [ak_] at this | exact this) GW231.out) | (rw [ak_]; exact nn_ (nl_ (by have := wb_ _ _ hw226_1; first | rwa [ak_] at this | exact this) GW231.out)) | (show (Addr.add _ _).block ≠ _; rw [ak_]; exact nn_ (nl_ (by have := wb_ _ _ hw226_1; first | rwa [ak_] at this | exact this) GW231.out)) | (dsimp only; exact nn_ (nl_ (by have := wb_ _ _ hw226_1; first | rwa [ak_] at this | exact this) GW231.out))) _).trans (hHeld.2.1)))), ((cell_far (p := ⟨gb231, _, none⟩) (by first | exact nn_ (nl_ (by have := wb_ _ _ hw226_2; first | rwa [ak_] at this | exact this) GW231.out) | (rw [ak_]; exact nn_ (nl_ (by have := wb_ _ _ hw226_2; first | rwa [ak_] at this | exact this) GW231.out)) | (show (Addr.add _ _).block ≠ _; rw [ak_]; exact nn_ (nl_ (by have := wb_ _ _ hw226_2; first | rwa [ak_] at this | exact this) GW231.out)) | (dsimp only; exact nn_ (nl_ (by have := wb_ _ _ hw226_2; first | rwa [ak_] at this | exact this) GW231.out))) _).trans (((cell_far (p := ⟨gb231, _, none⟩) (by first | exact nn_ (nl_ (by have := wb_ _ _ hw226_2; first | rwa [ak_] at this | exact this) GW231.out) | (rw [ak_]; exact nn_ (nl_ (by have := wb_ _ _ hw226_2; first | rwa [ak_] at this | exact this) GW231.out)) | (show (Addr.add _ _).block ≠ _; rw [ak_]; exact nn_ (nl_ (by have := wb_ _ _ hw226_2; first | rwa [ak_] at this | exact this) GW231.out)) | (dsimp only; exact nn_ (nl_ (by have := wb_ _ _ hw226_2; first | rwa [ak_] at this | exact this) GW231.out))) _).trans (hHeld.2.2.1)))), ((cell_far (p := ⟨gb231, _, none⟩) (by first | exact nn_ (nl_ (by have := wb_ _ _ hw226_3; first | rwa [ak_] at this | exact this) GW231.out) | (rw [ak_]; exact nn_ (nl_ (by have := wb_ _ _ hw226_3; first | rwa [ak_] at this | exact this) GW231.out)) | (show (Addr.add _ _).block ≠ _; rw [ak_]; exact nn_ (nl_ (by have := wb_ _ _ hw226_3; first | rwa [ak_] at this | exact this) GW231.out)) | (dsimp only; exact nn_ (nl_ (by have := wb_ _ _ hw226_3; first | rwa [ak_] at this | exact this) GW231.out))) _).trans (((cell_far (p := ⟨gb231, _, none⟩) (by first | exact nn_ (nl_ (by have := wb_ _ _ hw226_3; first | rwa [ak_] at this | exact this) GW231.out) | (rw [ak_]; exact nn_ (nl_ (by have := wb_ _ _ hw226_3; first | rwa [ak_] at this | exact this) GW231.out)) | (show (Addr.add _ _).block ≠ _; rw [ak_]; exact nn_ (nl_ (by have := wb_ _ _ hw226_3; first | rwa [ak_] at this | exact this) GW231.out)) | (dsimp only; exact nn_ (nl_ (by have := wb_ _ _ hw226_3; first | rwa [ak_] at this | exact this) GW231.out))) _).trans (hHeld.2.2.2.1)))), ((cell_far (p := ⟨gb231, _, none⟩) (by first | exact nn_ (nl_ (by have := wb_ _ _ hw226_4; first | rwa [ak_] at this | exact this) GW231.out) | (rw [ak_]; exact nn_ (nl_ (by have := wb_ _ _ hw226_4; first | rwa [ak_] at this | exact this) GW231.out)) | (show (Addr.add _ _).block ≠ _; rw [ak_]; exact nn_ (nl_ (by have := wb_ _ _ hw226_4; first | rwa [ak_] at this | exact this) GW231.out)) | (dsimp only; exact nn_ (nl_ (by have := wb_ _ _ hw226_4; first | rwa [ak_] at this | exact this) GW231.out))) _).trans (((cell_far (p := ⟨gb231, _, none⟩) (by first | exact nn_ (nl_ (by have := wb_ _ _ hw226_4; first | rwa [ak_] at this | exact this) GW231.out) | (rw [ak_]; exact nn_ (nl_ (by have := wb_ _ _ hw226_4; first | rwa [ak_] at this | exact this) GW231.out)) | (show (Addr.add _ _).block ≠ _; rw [ak_]; exact nn_ (nl_ (by have := wb_ _ _ hw226_4; first | rwa [ak_] at this | exact this) GW231.out)) | (dsimp only; exact nn_ (nl_ (by have := wb_ _ _ hw226_4; first | rwa [ak_] at this | exact this) GW231.out))) _).trans (hHeld.2.2.2.2.1)))), ((cell_far (p := ⟨gb231, _, none⟩) (by first | exact nn_ (nl_ (by have := wb_ _ _ hw227_0; first | rwa [ak_] at this | exact this) GW231.out) | (rw [ak_]; exact nn_ (nl_ (by have := wb_ _ _ hw227_0; first | rwa [ak_] at this | exact this) GW231.out)) | (show (Addr.add _ _).block ≠ _; rw [ak_]; exact nn_ (nl_ (by have := wb_ _ _ hw227_0; first | rwa [ak_] at this | exact this) GW231.out)) | (dsimp only; exact nn_ (nl_ (by have := wb_ _ _ hw227_0; first | rwa [ak_] at this | exact this) GW231.out))) _).trans (((cell_far (p := ⟨gb231, _, none⟩) (by first | exact nn_ (nl_ (by have := wb_ _ _ hw227_0; first | rwa [ak_] at this | exact this) GW231.out) | (rw [ak_]; exact nn_ (nl_ (by have := wb_ _ _ hw227_0; first | rwa [ak_] at this | exact this) GW231.out)) | (show (Addr.add _ _).block ≠ _; rw [ak_]; exact nn_ (nl_ (by have := wb_ _ _ hw227_0; first | rwa [ak_] at this | exact this) GW231.out)) | (dsimp only; exact nn_ (nl_ (by have := wb_ _ _ hw227_0; first | rwa [ak_] at this | exact this) GW231.out))) _).trans (hHeld.2.2.2.2.2.1)))), ((cell_far (p := ⟨gb231, _, none⟩) (by first | exact nn_ (nl_ (by have := wb_ _ _ hw227_1; first | rwa [ak_] at this | exact this) GW231.out) | (rw [ak_]; exact nn_ (nl_ (by have := wb_ _ _ hw227_1; first | rwa [ak_] at this | exact this) GW231.out)) | (show (Addr.add _ _).block ≠ _; rw [ak_]; exact nn_ (nl_ (by have := wb_ _ _ hw227_1; first | rwa [ak_] at this | exact this) GW231.out)) | (dsimp only; exact nn_ (nl_ (by have := wb_ _ _ hw227_1; first | rwa [ak_] at this | exact this) GW231.out))) _).trans (((cell_far (p := ⟨gb231, _, none⟩) (by first | exact nn_ (nl_ (by have := wb_ _ _ hw227_1; first | rwa [ak_] at this | exact this) GW231.out) | (rw [ak_]; exact nn_ (nl_ (by have := wb_ _ _ hw227_1; first | rwa [ak_] at this | exact this) GW231.out)) | (show (Addr.add _ _).block ≠ _; rw [ak_]; exact nn_ (nl_ (by have := wb_ _ _ hw227_1; first | rwa [ak_] at this | exact this) GW231.out)) | (dsimp only; exact nn_ (nl_ (by have := wb_ _ _ hw227_1; first | rwa [ak_] at this | exact this) GW231.out))) _).trans (hHeld.2.2.2.2.2.2.1)))), ((cell_far (p := ⟨gb231, _, none⟩) (by first | exact nn_ (nl_ (by have := wb_ _ _ hw227_2; first | rwa [ak_] at this | exact this) GW231.out) | (rw [ak_]; exact nn_ (nl_ (by have := wb_ _ _ hw227_2; first | rwa [ak_] at this | exact this) GW231.out)) | (show (Addr.add _ _).block ≠ _; rw [ak_]; exact nn_ (nl_ (by have := wb_ _ _ hw227_2; first | rwa [ak_] at this | exact this) GW231.out)) | (dsimp only; exact nn_ (nl_ (by have := wb_ _ _ hw227_2; first | rwa [ak_] at this | exact this) GW231.out))) _).trans (((cell_far (p := ⟨gb231, _, none⟩) (by first | exact nn_ (nl_ (by have := wb_ _ _ hw227_2; first | rwa [ak_] at this | exact this) GW231.out) | (rw [ak_]; exact nn_ (nl_ (by have := wb_ _ _ hw227_2; first | rwa [ak_] at this | exact this) GW231.out)) | (show (Addr.add _ _).block ≠ _; rw [ak_]; exact nn_ (nl_ (by have := wb_ _ _ hw227_2; first | rwa [ak_] at this | exact this) GW231.out)) | (dsimp only; exact nn_ (nl_ (by have := wb_ _ _ hw227_2; first | rwa [ak_] at this | exact this) GW231.out))) _).trans (hHeld.2.2.2.2.2.2.2.1)))), ((cell_far (p := ⟨gb231, _, none⟩) (by first | exact nn_ (nl_ (by have := wb_ _ _ hw227_3; first | rwa [ak_] at this | exact this) GW231.out) | (rw [ak_]; exact nn_ (nl_ (by have := wb_ _ _ hw227_3; first | rwa [ak_] at this | exact this) GW231.out)) | (show (Addr.add _ _).block ≠ _; rw [ak_]; exact nn_ (nl_ (by have := wb_ _ _ hw227_3; first | rwa [ak_] at this | exact this) GW231.out)) | (dsimp only; exact nn_ (nl_ (by have := wb_ _ _ hw227_3; first | rwa [ak_] at this | exact this) GW231.out))) _).trans (((cell_far (p := ⟨gb231, _, none⟩) (by first | exact nn_ (nl_ (by have := wb_ _ _ hw227_3; first | rwa [ak_] at this | exact this) GW231.out) | (rw [ak_]; exact nn_ (nl_ (by have := wb_ _ _ hw227_3; first | rwa [ak_] at this | exact this) GW231.out)) | (show (Addr.add _ _).block ≠ _; rw [ak_]; exact nn_ (nl_ (by have := wb_ _ _ hw227_3; first | rwa [ak_] at this | exact this) GW231.out)) | (dsimp only; exact nn_ (nl_ (by have := wb_ _ _ hw227_3; first | rwa [ak_] at this | exact this) GW231.out))) _).trans (hHeld.2.2.2.2.2.2.2.2.1)))), ((cell_far (p := ⟨gb231, _, none⟩) (by first | exact nn_ (nl_ (by have := wb_ _ _ hw227_4; first | rwa [ak_] at this | exact this) GW231.out) | (rw [ak_]; exact nn_ (nl_ (by have := wb_ _ _ hw227_4; first | rwa [ak_] at this | exact this) GW231.out)) | (show (Addr.add _ _).block ≠ _; rw [ak_]; exact nn_ (nl_ (by have := wb_ _ _ hw227_4; first | rwa [ak_] at this | exact this) GW231.out)) | (dsimp only; exact nn_ (nl_ (by have := wb_ _ _ hw227_4; first | rwa [ak_] at this | exact this) GW231.out))) _).trans (((cell_far (p := ⟨gb231, _, none⟩) (by first | exact nn_ (nl_ (by have := wb_ _ _ hw227_4; first | rwa [ak_] at this | exact this) GW231.out) | (rw [ak_]; exact nn_ (nl_ (by have := wb_ _ _ hw227_4; first | rwa [ak_] at this | exact this) GW231.out)) | (show (Addr.add _ _).block ≠ _; rw [ak_]; exact nn_ (nl_ (by have := wb_ _ _ hw227_4; first | rwa [ak_] at this | exact this) GW231.out)) | (dsimp only; exact nn_ (nl_ (by have := wb_ _ _ hw227_4; first | rwa [ak_] at this | exact this) GW231.out))) _).trans (hHeld.2.2.2.2.2.2.2.2.2))))⟩ (fun hHeld => ?_)
               clear hK K
               refine pure_ (i := 17) (N := some 11) (v := ?_) (a' := ?_) #[true, true, true, true, true, true, true, true, true, true, true, true, true, true, true, true, true, true] rfl rfl (any_of HT_.out (by kernel_rfl)) (fun _ _ _ h => h) (Or.inl ⟨by rfl, ?_⟩) ?_ ?_
               rotate_left; (intro w'; go_simp; with_reducible rfl); rotate_left; (simp only [Act.put, ls_, lz_, lc_, i64_w, i32_w]; rfl)
               refine done_ (done_of HT_.out (by kernel_rfl)) ?_
               have hcz29_0 : w26.cell? ⟨gb231, 0, none⟩ = some (.int .i64 0) := (kc_ BK231.out 0).trans rfl
               have hcz29_1 : w26.cell? ⟨gb231, 1, none⟩ = some (.int .i64 0) := (kc_ BK231.out 1).trans rfl
               have hfz29_0 := kf_ BK231.out 0
               have hfz29_1 := kf_ BK231.out 1
               try go_wp2_with (first | ((with_reducible refine gate_callee (f := 8) rfl ?_); refine goesL_ (some 58) rfl rfl Try.func8 (by kernel_rfl) rfl #[.agg #[.int .i64 t228, .int .i64 t229]] rfl (by (try simp only [lm_, lq_, lx_]); first | done | rfl | (simp only [ld_, lt_]; rfl)) ?_; (with_reducible refine (neumeref28_Ideal.calls k2 t228 t229 t232 t233 _ A19.out).mono ?_); rintro e w30 ⟨rfl, hb⟩; refine ⟨_, rfl, ?_⟩; have n0_ := sd_ (Kd.R_below (by (with_reducible repeat (first | apply Kd.R_alloc | apply Kd.R_drewN | apply Kd.R_drew)); exact (Kd.R_mono (Kd.R_far (p := ⟨gb231, 1, none⟩) (Kd.R_far (p := ⟨gb231, 0, none⟩) (Kd.R_types HO_8.out BK231.out (by decide)) (fun _ hk => hk.2) (.int .i64 t228)) (fun _ hk => hk.2) (.int .i64 t229)) (fun _ h_ => h_.1))) hb); have n1_ := sd_ (blk_below (g := gb231) (o := .cells #[.int .i64 t228, .int .i64 t229] 23 (0, 0)) (by (with_reducible repeat (first | refine kn_ ?_ _ | refine kd_ ?_ | refine ka_ ?_ _)); refine blk_put (cs := #[.int .i64 t228, .int .i64 0]) ?_ 1 _ rfl; (with_reducible repeat (first | refine kn_ ?_ _ | refine kd_ ?_ | refine ka_ ?_ _)); refine blk_put (cs := #[.int .i64 0, .int .i64 0]) ?_ 0 _ rfl; (with_reducible repeat (first | refine kn_ ?_ _ | refine kd_ ?_ | refine ka_ ?_ _)); exact BK231.out) hb); have n2_ := sd_ (bt_ (by repeat first | exact HB.out | apply ba_ | apply pd_ | apply d1_ | refine bs_ ?_ GE231.out) hb); clear HO_8; clear BK231; clear HB; have HO_8 := n0_; have BK231 := n1_; have HB := n2_; clear n0_ n1_ n2_; (try clear hb); (try clear hb2); (try clear hk); (try clear hi)) | ((with_reducible refine gate_builtin (b := .append) (xs := #[.tmp 67, .tmp 69]) rfl ?_); (try (refine gate_guard (by rfl) ?_; dsimp only)); at_builtin; refine Kd.R_append (Kd.int .i64) (w0 := w) w.heap.size rfl (.tmp 67) (.tmp 69) 31 3 (.int .i64 0) 8 rfl Try.underlying31 info3 rfl (by decide) (by omega) u8 x8_2 t232 [.int .i64 t232] (fun _ => True) (fun _ => False) rfl rfl ?aP (fun _ hk => hk.elim) ?aF ?aO ?aB ?aS ?aL ?_; (case aP => exact rfl); (case aB => exact (by repeat first | exact HB.out | apply ba_ | apply pd_ | apply d1_ | refine bs_ ?_ GE231.out)); (case aF => exact (fun _ _ => trivial)); (case aO => exact (by (with_reducible repeat (first | apply Kd.R_alloc | apply Kd.R_drewN | apply Kd.R_drew)); exact HO_8.out)); (case aS => exact (bz_ (by repeat first | exact HB.out | apply ba_ | apply pd_ | apply d1_ | refine bs_ ?_ GE231.out))); (case aL => have := LMc22.out; omega); intro v235 w31 ho hb hg hat; rw [← Ny234.out] at ho; have n0_ := sd_ (blk_grown (g := gb231) (o := .cells #[.int .i64 t228, .int .i64 t229] 23 (0, 0)) (by (with_reducible repeat (first | refine kn_ ?_ _ | refine kd_ ?_ | refine ka_ ?_ _)); exact BK231.out) hg (Kd.R_ne HO_8.out BK231.out (by decide))); have n1_ := sd_ (hb); have n2_ := sd_ (ho); clear BK231; clear HB; clear HO_8; have BK231 := n0_; have HB := n1_; have HO236 := n2_; clear n0_ n1_ n2_; clear ho hb hg hat))
               go_roundg k2
               case measure => have := HJ3.out; have := HK2.out; omega
               case rel => exact ⟨(y234), (ji15), (by first | rfl | (simp; done) | (simp only [← hji15] <;> (first | rfl | simp)) | (simp [*]; done)), H', ⟨by have := HJ3.out; have := HK2.out; omega⟩, ⟨by (with_reducible repeat (first | apply Kd.R_alloc | apply Kd.R_drewN | apply Kd.R_drew)); exact HO236.out⟩, ⟨by repeat first | exact HB.out | apply ba_ | apply pd_ | apply d1_ | refine bs_ ?_ GE231.out⟩⟩
              ·rw [if_neg c22] at H
               exact absurd H (by simp)
             ·rw [if_neg c21] at H
              have c21b0 : (t233 == 0) = false := beq_eq_false_iff_ne.mpr c21
              have c21b1 : (t233 != 0) = true := bne_iff_ne.mpr c21
              by_cases c32 : x8_2.length < 17592186044416
              ·rw [if_pos c32] at H
               have LMc32 := sd_ c32
               clear c32
               obtain ⟨y237, hy237⟩ : ∃ y_ : List Int, y_ = (x8_2 ++ [600]) := ⟨_, rfl⟩
               replace H : (neumeref28_Springs.l0 k2 l0 a2 y237 ji15) = some (r1, r2) := by first | (rw [hy237]; with_reducible exact H) | (have H2_ := (Option.bind_some _ _).symm.trans H; rw [hy237]; with_reducible exact H2_) | (have H2_ := (Option.bind_some _ _).symm.trans H; with_reducible exact H2_) | with_reducible exact H | (rw [hy237]; exact H) | exact H
               have Ny237 := sd_ hy237
               clear hy237
               have H' := sd_ H
               clear H
               have p222 : 0 ≤ (x9_2 : Int) := od_ (by first | (with_reducible assumption) | assumption)
               have q222 : x9_2 < (l0.length : Int) := od_ (by first | (with_reducible assumption) | assumption)
               obtain ⟨ad222, A222_4, c222_4, e222, hx222_0, hx222_1, hx222_2, hx222_3, hx222_4, hl222_4, hi222_4⟩ := at_T48 HR0.out x9_2 p222 q222
               (try rw [← Nbq11.out] at hx222_0)
               cases e222
               replace hx222_0 := (HB.out.cell (wb_ w _ hx222_0)).trans hx222_0
               replace hx222_1 := (HB.out.cell (wb_ w _ hx222_1)).trans hx222_1
               replace hx222_2 := (HB.out.cell (wb_ w _ hx222_2)).trans hx222_2
               replace hx222_3 := (HB.out.cell (wb_ w _ hx222_3)).trans hx222_3
               replace hx222_4 := (HB.out.cell (wb_ w _ hx222_4)).trans hx222_4
               have HR222_4 := sd_ hi222_4
               have HC222_4 := sd_ hl222_4
               clear hi222_4 hl222_4
               replace p222 := eq_true p222
               replace q222 := eq_true q222
               try go_wp2
               have n0_ := sd_ (Kd.R_drew HO_8.out)
               have n1_ := sd_ (d1_ HB.out)
               clear HO_8
               clear HB
               have HO_8 := n0_
               have HB := n1_
               clear n0_ n1_
               have p226 : 0 ≤ ((ji15) : Int) := od_ (by first | (with_reducible assumption) | assumption)
               have q226 : (ji15) < (l0.length : Int) := od_ (by first | (with_reducible assumption) | assumption)
               obtain ⟨ad226, A226_4, c226_4, e226, hx226_0, hx226_1, hx226_2, hx226_3, hx226_4, hl226_4, hi226_4⟩ := at_T48 HR0.out (ji15) p226 q226
               (try rw [← Nbq11.out] at hx226_0)
               have hw226_4 := hx226_4
               have hw226_3 := hx226_3
               have hw226_2 := hx226_2
               have hw226_1 := hx226_1
               have hw226_0 := hx226_0
               obtain rfl : ad222 = ad226 := (by injection e226)
               replace hx226_0 := (HB.out.cell (wb_ w _ hx226_0)).trans hx226_0
               replace hx226_1 := (HB.out.cell (wb_ w _ hx226_1)).trans hx226_1
               replace hx226_2 := (HB.out.cell (wb_ w _ hx226_2)).trans hx226_2
               replace hx226_3 := (HB.out.cell (wb_ w _ hx226_3)).trans hx226_3
               replace hx226_4 := (HB.out.cell (wb_ w _ hx226_4)).trans hx226_4
               have HR226_4 := sd_ hi226_4
               have HC226_4 := sd_ hl226_4
               clear hi226_4 hl226_4
               replace p226 := eq_true p226
               replace q226 := eq_true q226
               have p227 : 0 ≤ (x9_2 : Int) := od_ (by first | (with_reducible assumption) | assumption)
               have q227 : x9_2 < (l0.length : Int) := od_ (by first | (with_reducible assumption) | assumption)
               obtain ⟨ad227, A227_4, c227_4, e227, hx227_0, hx227_1, hx227_2, hx227_3, hx227_4, hl227_4, hi227_4⟩ := at_T48 HR0.out x9_2 p227 q227
               (try rw [← Nbq11.out] at hx227_0)
               have hw227_4 := hx227_4
               have hw227_3 := hx227_3
               have hw227_2 := hx227_2
               have hw227_1 := hx227_1
               have hw227_0 := hx227_0
               obtain rfl : ad222 = ad227 := (by injection e227)
               replace hx227_0 := (HB.out.cell (wb_ w _ hx227_0)).trans hx227_0
               replace hx227_1 := (HB.out.cell (wb_ w _ hx227_1)).trans hx227_1
               replace hx227_2 := (HB.out.cell (wb_ w _ hx227_2)).trans hx227_2
               replace hx227_3 := (HB.out.cell (wb_ w _ hx227_3)).trans hx227_3
               replace hx227_4 := (HB.out.cell (wb_ w _ hx227_4)).trans hx227_4
               have HR227_4 := sd_ hi227_4
               have HC227_4 := sd_ hl227_4
               clear hi227_4 hl227_4
               replace p227 := eq_true p227
               replace q227 := eq_true q227
               refine start_ (n := 18) (S := fun w' => w'.cell? (ad222.add (((ji15)).toNat * 5)) = some (.bool ((rd_T48 l0 (ji15)).f0)) ∧ w'.cell? ⟨(ad222.add (((ji15)).toNat * 5)).block, (ad222.add (((ji15)).toNat * 5)).off + 1, none⟩ = some (.int .i64 ((rd_T48 l0 (ji15)).f1.f0)) ∧ w'.cell? ⟨(ad222.add (((ji15)).toNat * 5)).block, (ad222.add (((ji15)).toNat * 5)).off + 2, none⟩ = some (.int .i64 ((rd_T48 l0 (ji15)).f1.f1)) ∧ w'.cell? ⟨(ad222.add (((ji15)).toNat * 5)).block, (ad222.add (((ji15)).toNat * 5)).off + 3, none⟩ = some (.int .i64 ((rd_T48 l0 (ji15)).f2)) ∧ w'.cell? ⟨(ad222.add (((ji15)).toNat * 5)).block, (ad222.add (((ji15)).toNat * 5)).off + 4, none⟩ = some (.slice A226_4 ((rd_T48 l0 (ji15)).f3).length c226_4) ∧ w'.cell? (ad222.add ((x9_2).toNat * 5)) = some (.bool (false)) ∧ w'.cell? ⟨(ad222.add ((x9_2).toNat * 5)).block, (ad222.add ((x9_2).toNat * 5)).off + 1, none⟩ = some (.int .i64 ((rd_T48 l0 x9_2).f1.f0)) ∧ w'.cell? ⟨(ad222.add ((x9_2).toNat * 5)).block, (ad222.add ((x9_2).toNat * 5)).off + 2, none⟩ = some (.int .i64 ((rd_T48 l0 x9_2).f1.f1)) ∧ w'.cell? ⟨(ad222.add ((x9_2).toNat * 5)).block, (ad222.add ((x9_2).toNat * 5)).off + 3, none⟩ = some (.int .i64 ((rd_T48 l0 x9_2).f2)) ∧ w'.cell? ⟨(ad222.add ((x9_2).toNat * 5)).block, (ad222.add ((x9_2).toNat * 5)).off + 4, none⟩ = some (.slice A227_4 ((rd_T48 l0 x9_2).f3).length c227_4)) (ds := []) #[false, false, false, false, false, false, false, false, false, false, false, false, false, false, false, false, false, false] (by kernel_rfl) rfl rfl ⟨((HB.out.cell (wb_ w _ hw226_0)).trans hw226_0), ((HB.out.cell (wb_ w _ hw226_1)).trans hw226_1), ((HB.out.cell (wb_ w _ hw226_2)).trans hw226_2), ((HB.out.cell (wb_ w _ hw226_3)).trans hw226_3), ((HB.out.cell (wb_ w _ hw226_4)).trans hw226_4), ((HB.out.cell (wb_ w _ hw227_0)).trans hw227_0), ((HB.out.cell (wb_ w _ hw227_1)).trans hw227_1), ((HB.out.cell (wb_ w _ hw227_2)).trans hw227_2), ((HB.out.cell (wb_ w _ hw227_3)).trans hw227_3), ((HB.out.cell (wb_ w _ hw227_4)).trans hw227_4)⟩ (fun hHeld => ?_); refine with_tabW neumeref28_Springs.tab9 neumeref28_Springs.bits9 (fun HT_ HW_ => ?_)
               generalize wr.drew = w33 at HO_8 HB HR226_4 HR227_4 hx226_0 hx226_1 hx226_2 hx226_3 hx226_4 hx227_0 hx227_1 hx227_2 hx227_3 hx227_4 hHeld ⊢
               refine pure_ (i := 0) (N := some 42) (v := ?_) (a' := ?_) #[true, false, false, false, false, false, false, false, false, false, false, false, false, false, false, false, false, false] rfl rfl (any_of HT_.out (by kernel_rfl)) (fun _ _ _ h => h) (Or.inl ⟨by rfl, ?_⟩) ?_ ?_
               rotate_left; (intro w'; go_simp; with_reducible rfl); rotate_left; (simp only [Act.put, ls_, lz_, lc_, i64_w, i32_w]; rfl)
               refine pure_ (i := 1) (N := some 43) (v := ?_) (a' := ?_) #[true, true, false, false, false, false, false, false, false, false, false, false, false, false, false, false, false, false] rfl rfl (any_of HT_.out (by kernel_rfl)) (fun _ _ _ h => h) (Or.inl ⟨by rfl, ?_⟩) ?_ ?_
               rotate_left; (intro w'; go_simp; with_reducible rfl); rotate_left; (simp only [Act.put, ls_, lz_, lc_, i64_w, i32_w]; rfl)
               refine pure_ (i := 2) (N := some 44) (v := ?_) (a' := ?_) #[true, true, true, false, false, false, false, false, false, false, false, false, false, false, false, false, false, false] rfl rfl (any_of HT_.out (by kernel_rfl)) (fun _ _ _ h => h) (Or.inl ⟨by rfl, ?_⟩) ?_ ?_
               rotate_left; (intro w'; go_simp; with_reducible rfl); rotate_left; (simp only [Act.put, ls_, lz_, lc_, i64_w, i32_w]; rfl)
               refine pure_ (i := 3) (N := some 45) (v := ?_) (a' := ?_) #[true, true, true, true, false, false, false, false, false, false, false, false, false, false, false, false, false, false] rfl rfl (any_of HT_.out (by kernel_rfl)) (fun _ _ _ h => h) (Or.inl ⟨by rfl, ?_⟩) ?_ ?_
               rotate_left; (intro w'; go_simp; with_reducible rfl); rotate_left; (simp only [Act.put, ls_, lz_, lc_, i64_w, i32_w]; rfl)
               refine pure_ (i := 4) (N := some 46) (v := ?_) (a' := ?_) #[true, true, true, true, true, false, false, false, false, false, false, false, false, false, false, false, false, false] rfl rfl (any_of HT_.out (by kernel_rfl)) (fun _ _ _ h => h) (Or.inl ⟨by rfl, ?_⟩) ?_ ?_
               rotate_left; (intro w'; go_simp; with_reducible rfl); rotate_left; (simp only [Act.put, ls_, lz_, lc_, i64_w, i32_w]; rfl)
               refine pure_ (i := 6) (N := some 48) (v := ?_) (a' := ?_) #[true, true, true, true, true, false, true, false, false, false, false, false, false, false, false, false, false, false] rfl rfl (any_of HT_.out (by kernel_rfl)) (fun _ _ _ h => h) (Or.inl ⟨by rfl, ?_⟩) ?_ ?_
               rotate_left; (intro w'; go_simp; with_reducible rfl); rotate_left; (simp only [Act.put, ls_, lz_, lc_, i64_w, i32_w]; rfl)
               refine pure_ (i := 7) (N := some 49) (v := ?_) (a' := ?_) #[true, true, true, true, true, false, true, true, false, false, false, false, false, false, false, false, false, false] rfl rfl (any_of HT_.out (by kernel_rfl)) (fun _ _ _ h => h) (Or.inl ⟨by rfl, ?_⟩) ?_ ?_
               rotate_left; (intro w'; go_simp; with_reducible rfl); rotate_left; (simp only [Act.put, ls_, lz_, lc_, i64_w, i32_w]; rfl)
               refine pure_ (i := 8) (N := some 50) (v := ?_) (a' := ?_) #[true, true, true, true, true, false, true, true, true, false, false, false, false, false, false, false, false, false] rfl rfl (any_of HT_.out (by kernel_rfl)) (fun _ _ _ h => h) (Or.inl ⟨by rfl, ?_⟩) ?_ ?_
               rotate_left; (intro w'; go_simp; with_reducible rfl); rotate_left; (simp only [Act.put, ls_, lz_, lc_, i64_w, i32_w]; rfl)
               refine pure_ (i := 9) (N := some 51) (v := ?_) (a' := ?_) #[true, true, true, true, true, false, true, true, true, true, false, false, false, false, false, false, false, false] rfl rfl (any_of HT_.out (by kernel_rfl)) (fun _ _ _ h => h) (Or.inl ⟨by rfl, ?_⟩) ?_ ?_
               rotate_left; (intro w'; go_simp; with_reducible rfl); rotate_left; (simp only [Act.put, ls_, lz_, lc_, i64_w, i32_w]; rfl)
               refine take_ (i := 5) (N := some 47) (v := ?_) (a' := ?_) #[true, true, true, true, true, true, true, true, true, true, false, false, false, false, false, false, false, false] rfl rfl (take_ofW HT_.out HW_.out (by kernel_rfl)) (fun _ _ _ h => h) (Or.inl ⟨by rfl, ?_⟩) hHeld ?_ ?_
               rotate_left
               ·rintro w' ⟨s0, s1, s2, s3, s4, s5, s6, s7, s8, s9⟩
                go_simp
                with_reducible rfl
               rotate_left
               ·simp only [Act.put, ls_, lz_, lc_, i64_w, i32_w]
                rfl
               refine take_ (i := 10) (N := some 52) (v := ?_) (a' := ?_) #[true, true, true, true, true, true, true, true, true, true, true, false, false, false, false, false, false, false] rfl rfl (take_ofW HT_.out HW_.out (by kernel_rfl)) (fun _ _ _ h => h) (Or.inl ⟨by rfl, ?_⟩) hHeld ?_ ?_
               rotate_left
               ·rintro w' ⟨s0, s1, s2, s3, s4, s5, s6, s7, s8, s9⟩
                go_simp
                with_reducible rfl
               rotate_left
               ·simp only [Act.put, ls_, lz_, lc_, i64_w, i32_w]
                rfl
               refine join_ (σ := Nat) 2 #[true, true, true, true, true, true, true, true, true, true, true, true, true, true, true, true, false, false] (fun s_ => [(53, .tuple #[.agg #[.int .i64 t228, .int .i64 t229], .int .i64 t230]), (10, .pointer (some ⟨s_, 0, none⟩)), (41, .tuple #[.agg #[.int .i64 t228, .int .i64 t229], .int .i64 t230]), (54, .agg #[.int .i64 t228, .int .i64 t229]), (55, .int .i64 t230)]) (fun s_ w' => (w'.cell? (ad222.add (((ji15)).toNat * 5)) = some (.bool ((rd_T48 l0 (ji15)).f0)) ∧ w'.cell? ⟨(ad222.add (((ji15)).toNat * 5)).block, (ad222.add (((ji15)).toNat * 5)).off + 1, none⟩ = some (.int .i64 ((rd_T48 l0 (ji15)).f1.f0)) ∧ w'.cell? ⟨(ad222.add (((ji15)).toNat * 5)).block, (ad222.add (((ji15)).toNat * 5)).off + 2, none⟩ = some (.int .i64 ((rd_T48 l0 (ji15)).f1.f1)) ∧ w'.cell? ⟨(ad222.add (((ji15)).toNat * 5)).block, (ad222.add (((ji15)).toNat * 5)).off + 3, none⟩ = some (.int .i64 ((rd_T48 l0 (ji15)).f2)) ∧ w'.cell? ⟨(ad222.add (((ji15)).toNat * 5)).block, (ad222.add (((ji15)).toNat * 5)).off + 4, none⟩ = some (.slice A226_4 ((rd_T48 l0 (ji15)).f3).length c226_4) ∧ w'.cell? (ad222.add ((x9_2).toNat * 5)) = some (.bool (false)) ∧ w'.cell? ⟨(ad222.add ((x9_2).toNat * 5)).block, (ad222.add ((x9_2).toNat * 5)).off + 1, none⟩ = some (.int .i64 ((rd_T48 l0 x9_2).f1.f0)) ∧ w'.cell? ⟨(ad222.add ((x9_2).toNat * 5)).block, (ad222.add ((x9_2).toNat * 5)).off + 2, none⟩ = some (.int .i64 ((rd_T48 l0 x9_2).f1.f1)) ∧ w'.cell? ⟨(ad222.add ((x9_2).toNat * 5)).block, (ad222.add ((x9_2).toNat * 5)).off + 3, none⟩ = some (.int .i64 ((rd_T48 l0 x9_2).f2)) ∧ w'.cell? ⟨(ad222.add ((x9_2).toNat * 5)).block, (ad222.add ((x9_2).toNat * 5)).off + 4, none⟩ = some (.slice A227_4 ((rd_T48 l0 x9_2).f3).length c227_4)) ∧ (Kd.R (Kd.int .i64) 3 w' w.heap.size (fun _ => True) u8 x8_2) ∧ (w'.heap[s_]? = some (.cells #[.int .i64 0, .int .i64 0] 23 (0, 0))) ∧ (w.heap.size ≤ s_) ∧ (w.heap.size ≤ s_) ∧ (Below w.heap.size w w')) ?_ ?_
               rotate_left
               ·intro hCont
                refine two_ (i := 11) (j := 15) (Ni := some 53) (Nj := some 10) #[true, true, true, true, true, true, true, true, true, true, true, true, false, false, false, false, false, false] #[true, true, true, true, true, true, true, true, true, true, true, false, false, false, false, true, false, false] rfl rfl rfl rfl (two_of HT_.out (by kernel_rfl)) (by decide) (by decide) (fun K hK => ?_) (fun K hK => ?_)
                ·skip
                 refine goes_ Try.func22 (by kernel_rfl) rfl #[.agg #[.int .i64 ((rd_T48 l0 (ji15)).f1.f0), .int .i64 ((rd_T48 l0 (ji15)).f1.f1)], .agg #[.int .i64 ((rd_T48 l0 x9_2).f1.f0), .int .i64 ((rd_T48 l0 x9_2).f1.f1)]] (by rfl) rfl rfl (by (try simp only [lm_, lq_, lx_]); first | done | (simp only [hji15]; rfl) | rfl | (simp only [ld_, lt_]; rfl)) ?_
                 with_reducible refine (neumeref02_Sub.calls k2 ((rd_T48 l0 (ji15)).f1.f0) ((rd_T48 l0 (ji15)).f1.f1) ((rd_T48 l0 x9_2).f1.f0) ((rd_T48 l0 x9_2).f1.f1) t228 t229 t230 _ A18.out).mono ?_
                 rintro e w34 ⟨rfl, hb⟩
                 refine ⟨_, rfl, ?_⟩
                 have n0_ := sd_ (Kd.R_below (by (with_reducible repeat (first | apply Kd.R_alloc | apply Kd.R_drewN | apply Kd.R_drew)); exact HO_8.out) hb)
                 have n1_ := sd_ (bt_ (by repeat first | exact HB.out | apply ba_ | apply pd_ | apply d1_) hb)
                 clear HO_8
                 clear HB
                 have HO_8 := n0_
                 have HB := n1_
                 clear n0_ n1_
                 (try clear hb)
                 (try clear hb2)
                 (try clear hk)
                 (try clear hi)
                 refine hK.out _ _ ⟨((HB.out.cell (wb_ w _ hw226_0)).trans hw226_0), ((HB.out.cell (wb_ w _ hw226_1)).trans hw226_1), ((HB.out.cell (wb_ w _ hw226_2)).trans hw226_2), ((HB.out.cell (wb_ w _ hw226_3)).trans hw226_3), ((HB.out.cell (wb_ w _ hw226_4)).trans hw226_4), ((HB.out.cell (wb_ w _ hw227_0)).trans hw227_0), ((HB.out.cell (wb_ w _ hw227_1)).trans hw227_1), ((HB.out.cell (wb_ w _ hw227_2)).trans hw227_2), ((HB.out.cell (wb_ w _ hw227_3)).trans hw227_3), ((HB.out.cell (wb_ w _ hw227_4)).trans hw227_4)⟩ (fun hHeld => ?_)
                 clear hK K
                 refine norm_ (a' := ?_) ?_ ?_
                 rotate_left
                 ·show Act.put _ (some 53) _ = _
                  simp only [Act.put, ls_, lz_, lc_, i64_w, i32_w]
                  rfl
                 refine pure_ (i := 12) (N := some 41) (v := ?_) (a' := ?_) #[true, true, true, true, true, true, true, true, true, true, true, true, true, false, false, false, false, false] rfl rfl (any_of HT_.out (by kernel_rfl)) (fun _ _ _ h => h) (Or.inl ⟨by rfl, ?_⟩) ?_ ?_
                 rotate_left; (intro w'; go_simp; with_reducible rfl); rotate_left; (simp only [Act.put, ls_, lz_, lc_, i64_w, i32_w]; rfl)
                 refine pure_ (i := 13) (N := some 54) (v := ?_) (a' := ?_) #[true, true, true, true, true, true, true, true, true, true, true, true, true, true, false, false, false, false] rfl rfl (any_of HT_.out (by kernel_rfl)) (fun _ _ _ h => h) (Or.inl ⟨by rfl, ?_⟩) ?_ ?_
                 rotate_left; (intro w'; go_simp; with_reducible rfl); rotate_left; (simp only [Act.put, ls_, lz_, lc_, i64_w, i32_w]; rfl)
                 refine pure_ (i := 14) (N := some 55) (v := ?_) (a' := ?_) #[true, true, true, true, true, true, true, true, true, true, true, true, true, true, true, false, false, false] rfl rfl (any_of HT_.out (by kernel_rfl)) (fun _ _ _ h => h) (Or.inl ⟨by rfl, ?_⟩) ?_ ?_
                 rotate_left; (intro w'; go_simp; with_reducible rfl); rotate_left; (simp only [Act.put, ls_, lz_, lc_, i64_w, i32_w]; rfl)
                 refine one_ (i := 15) (N := some 10) #[true, true, true, true, true, true, true, true, true, true, true, true, true, true, true, true, false, false] rfl rfl (one_of HT_.out (by kernel_rfl)) (by decide) (fun K hK => ?_)
                 refine box_step ?hg (N := 10) ?hd (cs := #[.int .i64 0, .int .i64 0]) (t := 23) ?hr ?_; (case hd => rfl); (case hg => rfl); (case hr => first | (go_simp; done) | (go_simp; rfl))
                 intro gb231 hg w35 hbox hb
                 have n0_ := sd_ (Kd.R_below (by (with_reducible repeat (first | apply Kd.R_alloc | apply Kd.R_drewN | apply Kd.R_drew)); exact HO_8.out) hb)
                 have n1_ := sd_ (bt_ (by repeat first | exact HB.out | apply ba_ | apply pd_ | apply d1_) hb)
                 have n2_ := sd_ (hbox)
                 have n3_ := sd_ ((by rw [hg]; exact (bz_ (by repeat first | exact HB.out | apply ba_ | apply pd_ | apply d1_)) : w.heap.size ≤ gb231))
                 have n4_ := sd_ ((by rw [hg]; exact (bz_ (by repeat first | exact HB.out | apply ba_ | apply pd_ | apply d1_)) : w.heap.size ≤ gb231))
                 clear HO_8
                 clear HB
                 have HO_8 := n0_
                 have HB := n1_
                 have BK231 := n2_
                 have GW231 := n3_
                 have GE231 := n4_
                 clear n0_ n1_ n2_ n3_ n4_
                 clear hb hbox hg
                 refine hK.out _ _ ⟨((HB.out.cell (wb_ w _ hw226_0)).trans hw226_0), ((HB.out.cell (wb_ w _ hw226_1)).trans hw226_1), ((HB.out.cell (wb_ w _ hw226_2)).trans hw226_2), ((HB.out.cell (wb_ w _ hw226_3)).trans hw226_3), ((HB.out.cell (wb_ w _ hw226_4)).trans hw226_4), ((HB.out.cell (wb_ w _ hw227_0)).trans hw227_0), ((HB.out.cell (wb_ w _ hw227_1)).trans hw227_1), ((HB.out.cell (wb_ w _ hw227_2)).trans hw227_2), ((HB.out.cell (wb_ w _ hw227_3)).trans hw227_3), ((HB.out.cell (wb_ w _ hw227_4)).trans hw227_4)⟩ (fun hHeld => ?_)
                 clear hK K
                 refine norm_ (a' := ?_) ?_ ?_
                 rotate_left
                 ·show Act.put _ (some 10) _ = _
                  simp only [Act.put, ls_, lz_, lc_, i64_w, i32_w]
                  rfl
                 exact norm_ (by simp only [putAll, Act.put, ls_, lz_, lc_]) (hCont (gb231) _ ⟨hHeld, (by (with_reducible repeat (first | apply Kd.R_alloc | apply Kd.R_drewN | apply Kd.R_drew)); exact HO_8.out), (by (with_reducible repeat (first | refine kn_ ?_ _ | refine kd_ ?_ | refine ka_ ?_ _)); exact BK231.out), GW231.out, GE231.out, (by repeat first | exact HB.out | apply ba_ | apply pd_ | apply d1_ | refine bs_ ?_ GE231.out)⟩)
                ·skip
                 refine box_step ?hg (N := 10) ?hd (cs := #[.int .i64 0, .int .i64 0]) (t := 23) ?hr ?_; (case hd => rfl); (case hg => rfl); (case hr => first | (go_simp; done) | (go_simp; rfl))
                 intro gb231 hg w34 hbox hb
                 have n0_ := sd_ (Kd.R_below (by (with_reducible repeat (first | apply Kd.R_alloc | apply Kd.R_drewN | apply Kd.R_drew)); exact HO_8.out) hb)
                 have n1_ := sd_ (bt_ (by repeat first | exact HB.out | apply ba_ | apply pd_ | apply d1_) hb)
                 have n2_ := sd_ (hbox)
                 have n3_ := sd_ ((by rw [hg]; exact (bz_ (by repeat first | exact HB.out | apply ba_ | apply pd_ | apply d1_)) : w.heap.size ≤ gb231))
                 have n4_ := sd_ ((by rw [hg]; exact (bz_ (by repeat first | exact HB.out | apply ba_ | apply pd_ | apply d1_)) : w.heap.size ≤ gb231))
                 clear HO_8
                 clear HB
                 have HO_8 := n0_
                 have HB := n1_
                 have BK231 := n2_
                 have GW231 := n3_
                 have GE231 := n4_
                 clear n0_ n1_ n2_ n3_ n4_
                 clear hb hbox hg
                 refine hK.out _ _ ⟨((HB.out.cell (wb_ w _ hw226_0)).trans hw226_0), ((HB.out.cell (wb_ w _ hw226_1)).trans hw226_1), ((HB.out.cell (wb_ w _ hw226_2)).trans hw226_2), ((HB.out.cell (wb_ w _ hw226_3)).trans hw226_3), ((HB.out.cell (wb_ w _ hw226_4)).trans hw226_4), ((HB.out.cell (wb_ w _ hw227_0)).trans hw227_0), ((HB.out.cell (wb_ w _ hw227_1)).trans hw227_1), ((HB.out.cell (wb_ w _ hw227_2)).trans hw227_2), ((HB.out.cell (wb_ w _ hw227_3)).trans hw227_3), ((HB.out.cell (wb_ w _ hw227_4)).trans hw227_4)⟩ (fun hHeld => ?_)
                 clear hK K
                 refine norm_ (a' := ?_) ?_ ?_
                 rotate_left
                 ·show Act.put _ (some 10) _ = _
                  simp only [Act.put, ls_, lz_, lc_, i64_w, i32_w]
                  rfl
                 refine one_ (i := 11) (N := some 53) #[true, true, true, true, true, true, true, true, true, true, true, true, false, false, false, true, false, false] rfl rfl (one_of HT_.out (by kernel_rfl)) (by decide) (fun K hK => ?_)
                 refine goes_ Try.func22 (by kernel_rfl) rfl #[.agg #[.int .i64 ((rd_T48 l0 (ji15)).f1.f0), .int .i64 ((rd_T48 l0 (ji15)).f1.f1)], .agg #[.int .i64 ((rd_T48 l0 x9_2).f1.f0), .int .i64 ((rd_T48 l0 x9_2).f1.f1)]] (by rfl) rfl rfl (by (try simp only [lm_, lq_, lx_]); first | done | (simp only [hji15]; rfl) | rfl | (simp only [ld_, lt_]; rfl)) ?_
                 with_reducible refine (neumeref02_Sub.calls k2 ((rd_T48 l0 (ji15)).f1.f0) ((rd_T48 l0 (ji15)).f1.f1) ((rd_T48 l0 x9_2).f1.f0) ((rd_T48 l0 x9_2).f1.f1) t228 t229 t230 _ A18.out).mono ?_
                 rintro e w35 ⟨rfl, hb⟩
                 refine ⟨_, rfl, ?_⟩
                 have n0_ := sd_ (Kd.R_below (by (with_reducible repeat (first | apply Kd.R_alloc | apply Kd.R_drewN | apply Kd.R_drew)); exact HO_8.out) hb)
                 have n1_ := sd_ (blk_below (g := gb231) (o := .cells #[.int .i64 0, .int .i64 0] 23 (0, 0)) (by (with_reducible repeat (first | refine kn_ ?_ _ | refine kd_ ?_ | refine ka_ ?_ _)); exact BK231.out) hb)
                 have n2_ := sd_ (bt_ (by repeat first | exact HB.out | apply ba_ | apply pd_ | apply d1_ | refine bs_ ?_ GE231.out) hb)
                 clear HO_8
                 clear BK231
                 clear HB
                 have HO_8 := n0_
                 have BK231 := n1_
                 have HB := n2_
                 clear n0_ n1_ n2_
                 (try clear hb)
                 (try clear hb2)
                 (try clear hk)
                 (try clear hi)
                 refine hK.out _ _ ⟨((HB.out.cell (wb_ w _ hw226_0)).trans hw226_0), ((HB.out.cell (wb_ w _ hw226_1)).trans hw226_1), ((HB.out.cell (wb_ w _ hw226_2)).trans hw226_2), ((HB.out.cell (wb_ w _ hw226_3)).trans hw226_3), ((HB.out.cell (wb_ w _ hw226_4)).trans hw226_4), ((HB.out.cell (wb_ w _ hw227_0)).trans hw227_0), ((HB.out.cell (wb_ w _ hw227_1)).trans hw227_1), ((HB.out.cell (wb_ w _ hw227_2)).trans hw227_2), ((HB.out.cell (wb_ w _ hw227_3)).trans hw227_3), ((HB.out.cell (wb_ w _ hw227_4)).trans hw227_4)⟩ (fun hHeld => ?_)
                 clear hK K
                 refine norm_ (a' := ?_) ?_ ?_
                 rotate_left
                 ·show Act.put _ (some 53) _ = _
                  simp only [Act.put, ls_, lz_, lc_, i64_w, i32_w]
                  rfl
                 refine pure_ (i := 12) (N := some 41) (v := ?_) (a' := ?_) #[true, true, true, true, true, true, true, true, true, true, true, true, true, false, false, true, false, false] rfl rfl (any_of HT_.out (by kernel_rfl)) (fun _ _ _ h => h) (Or.inl ⟨by rfl, ?_⟩) ?_ ?_
                 rotate_left; (intro w'; go_simp; with_reducible rfl); rotate_left; (simp only [Act.put, ls_, lz_, lc_, i64_w, i32_w]; rfl)
                 refine pure_ (i := 13) (N := some 54) (v := ?_) (a' := ?_) #[true, true, true, true, true, true, true, true, true, true, true, true, true, true, false, true, false, false] rfl rfl (any_of HT_.out (by kernel_rfl)) (fun _ _ _ h => h) (Or.inl ⟨by rfl, ?_⟩) ?_ ?_
                 rotate_left; (intro w'; go_simp; with_reducible rfl); rotate_left; (simp only [Act.put, ls_, lz_, lc_, i64_w, i32_w]; rfl)
                 refine pure_ (i := 14) (N := some 55) (v := ?_) (a' := ?_) #[true, true, true, true, true, true, true, true, true, true, true, true, true, true, true, true, false, false] rfl rfl (any_of HT_.out (by kernel_rfl)) (fun _ _ _ h => h) (Or.inl ⟨by rfl, ?_⟩) ?_ ?_
                 rotate_left; (intro w'; go_simp; with_reducible rfl); rotate_left; (simp only [Act.put, ls_, lz_, lc_, i64_w, i32_w]; rfl)
                 exact norm_ (by simp only [putAll, Act.put, ls_, lz_, lc_]) (hCont (gb231) _ ⟨hHeld, (by (with_reducible repeat (first | apply Kd.R_alloc | apply Kd.R_drewN | apply Kd.R_drew)); exact HO_8.out), (by (with_reducible repeat (first | refine kn_ ?_ _ | refine kd_ ?_ | refine ka_ ?_ _)); exact BK231.out), GW231.out, GE231.out, (by repeat first | exact HB.out | apply ba_ | apply pd_ | apply d1_ | refine bs_ ?_ GE231.out)⟩)
               rintro gb231 w36 ⟨hS_, h0_, h1_, h2_, h3_, h4_⟩
               have n0_ : Aside0 (Kd.R (Kd.int .i64) 3 w36 w.heap.size (fun _ => True) u8 x8_2) := ⟨h0_⟩
               have n1_ : Aside0 (w36.heap[gb231]? = some (.cells #[.int .i64 0, .int .i64 0] 23 (0, 0))) := ⟨h1_⟩
               have n2_ : Aside0 (w.heap.size ≤ gb231) := ⟨h2_⟩
               have n3_ : Aside0 (w.heap.size ≤ gb231) := ⟨h3_⟩
               have n4_ : Aside0 (Below w.heap.size w w36) := ⟨h4_⟩
               clear HO_8
               clear HB
               clear h0_ h1_ h2_ h3_ h4_
               have HO_8 := n0_
               have BK231 := n1_
               have GW231 := n2_
               have GE231 := n3_
               have HB := n4_
               clear n0_ n1_ n2_ n3_ n4_
               have hHeld : w36.cell? (ad222.add (((ji15)).toNat * 5)) = some (.bool ((rd_T48 l0 (ji15)).f0)) ∧ w36.cell? ⟨(ad222.add (((ji15)).toNat * 5)).block, (ad222.add (((ji15)).toNat * 5)).off + 1, none⟩ = some (.int .i64 ((rd_T48 l0 (ji15)).f1.f0)) ∧ w36.cell? ⟨(ad222.add (((ji15)).toNat * 5)).block, (ad222.add (((ji15)).toNat * 5)).off + 2, none⟩ = some (.int .i64 ((rd_T48 l0 (ji15)).f1.f1)) ∧ w36.cell? ⟨(ad222.add (((ji15)).toNat * 5)).block, (ad222.add (((ji15)).toNat * 5)).off + 3, none⟩ = some (.int .i64 ((rd_T48 l0 (ji15)).f2)) ∧ w36.cell? ⟨(ad222.add (((ji15)).toNat * 5)).block, (ad222.add (((ji15)).toNat * 5)).off + 4, none⟩ = some (.slice A226_4 ((rd_T48 l0 (ji15)).f3).length c226_4) ∧ w36.cell? (ad222.add ((x9_2).toNat * 5)) = some (.bool (false)) ∧ w36.cell? ⟨(ad222.add ((x9_2).toNat * 5)).block, (ad222.add ((x9_2).toNat * 5)).off + 1, none⟩ = some (.int .i64 ((rd_T48 l0 x9_2).f1.f0)) ∧ w36.cell? ⟨(ad222.add ((x9_2).toNat * 5)).block, (ad222.add ((x9_2).toNat * 5)).off + 2, none⟩ = some (.int .i64 ((rd_T48 l0 x9_2).f1.f1)) ∧ w36.cell? ⟨(ad222.add ((x9_2).toNat * 5)).block, (ad222.add ((x9_2).toNat * 5)).off + 3, none⟩ = some (.int .i64 ((rd_T48 l0 x9_2).f2)) ∧ w36.cell? ⟨(ad222.add ((x9_2).toNat * 5)).block, (ad222.add ((x9_2).toNat * 5)).off + 4, none⟩ = some (.slice A227_4 ((rd_T48 l0 x9_2).f3).length c227_4) := hS_
               refine norm_ (a' := ?_) ?_ ?_
               rotate_left
               ·simp only [putAll, Act.put, ls_, lz_, lc_]
                rfl
               refine one_ (i := 16) (N := none) #[true, true, true, true, true, true, true, true, true, true, true, true, true, true, true, true, true, false] rfl rfl (one_of HT_.out (by kernel_rfl)) (by decide) (fun K hK => ?_)
               have hs37 : w36.cell? ⟨gb231, 0, none⟩ = some (.int .i64 0) := (kc_ BK231.out 0).trans rfl
               have hfs37 := kf_ BK231.out 0
               have hs38 : w36.cell? ⟨gb231, 1, none⟩ = some (.int .i64 0) := (kc_ BK231.out 1).trans rfl
               have hfs38 := kf_ BK231.out 1
               refine skip_ (w1 := ?_) (by rfl) rfl ?_ ?_
               rotate_left
               ·go_simp
                rfl
               refine hK.out _ _ ⟨((cell_far (p := ⟨gb231, _, none⟩) (by first | exact nn_ (nl_ (by have := wb_ _ _ hw226_0; first | rwa [ak_] at this | exact this) GW231.out) | (rw [ak_]; exact nn_ (nl_ (by have := wb_ _ _ hw226_0; first | rwa [ak_] at this | exact this) GW231.out)) | (show (Addr.add _ _).block ≠ _; rw [ak_]; exact nn_ (nl_ (by have := wb_ _ _ hw226_0; first | rwa [ak_] at this | exact this) GW231.out)) | (dsimp only; exact nn_ (nl_ (by have := wb_ _ _ hw226_0; first | rwa [ak_] at this | exact this) GW231.out))) _).trans (((cell_far (p := ⟨gb231, _, none⟩) (by first | exact nn_ (nl_ (by have := wb_ _ _ hw226_0; first | rwa [ak_] at this | exact this) GW231.out) | (rw [ak_]; exact nn_ (nl_ (by have := wb_ _ _ hw226_0; first | rwa [ak_] at this | exact this) GW231.out)) | (show (Addr.add _ _).block ≠ _; rw [ak_]; exact nn_ (nl_ (by have := wb_ _ _ hw226_0; first | rwa [ak_] at this | exact this) GW231.out)) | (dsimp only; exact nn_ (nl_ (by have := wb_ _ _ hw226_0; first | rwa [ak_] at this | exact this) GW231.out))) _).trans (hHeld.1)))), ((cell_far (p := ⟨gb231, _, none⟩) (by first | exact nn_ (nl_ (by have := wb_ _ _ hw226_1; first | rwa [ak_] at this | exact this) GW231.out) | (rw [ak_]; exact nn_ (nl_ (by have := wb_ _ _ hw226_1; first | rwa [ak_] at this | exact this) GW231.out)) | (show (Addr.add _ _).block ≠ _; rw [ak_]; exact nn_ (nl_ (by have := wb_ _ _ hw226_1; first | rwa [ak_] at this | exact this) GW231.out)) | (dsimp only; exact nn_ (nl_ (by have := wb_ _ _ hw226_1; first | rwa [ak_] at this | exact this) GW231.out))) _).trans (((cell_far (p := ⟨gb231, _, none⟩) (by first | exact nn_ (nl_ (by have := wb_ _ _ hw226_1; first | rwa [ak_] at this | exact this) GW231.out) | (rw [ak_]; exact nn_ (nl_ (by have := wb_ _ _ hw226_1; first | rwa [ak_] at this | exact this) GW231.out)) | (show (Addr.add _ _).block ≠ _; rw [ak_]; exact nn_ (nl_ (by have := wb_ _ _ hw226_1; first | rwa [ak_] at this | exact this) GW231.out)) | (dsimp only; exact nn_ (nl_ (by have := wb_ _ _ hw226_1; first | rwa [ak_] at this | exact this) GW231.out))) _).trans (hHeld.2.1)))), ((cell_far (p := ⟨gb231, _, none⟩) (by first | exact nn_ (nl_ (by have := wb_ _ _ hw226_2; first | rwa [ak_] at this | exact this) GW231.out) | (rw [ak_]; exact nn_ (nl_ (by have := wb_ _ _ hw226_2; first | rwa [ak_] at this | exact this) GW231.out)) | (show (Addr.add _ _).block ≠ _; rw [ak_]; exact nn_ (nl_ (by have := wb_ _ _ hw226_2; first | rwa [ak_] at this | exact this) GW231.out)) | (dsimp only; exact nn_ (nl_ (by have := wb_ _ _ hw226_2; first | rwa [ak_] at this | exact this) GW231.out))) _).trans (((cell_far (p := ⟨gb231, _, none⟩) (by first | exact nn_ (nl_ (by have := wb_ _ _ hw226_2; first | rwa [ak_] at this | exact this) GW231.out) | (rw [ak_]; exact nn_ (nl_ (by have := wb_ _ _ hw226_2; first | rwa [ak_] at this | exact this) GW231.out)) | (show (Addr.add _ _).block ≠ _; rw [ak_]; exact nn_ (nl_ (by have := wb_ _ _ hw226_2; first | rwa [ak_] at this | exact this) GW231.out)) | (dsimp only; exact nn_ (nl_ (by have := wb_ _ _ hw226_2; first | rwa [ak_] at this | exact this) GW231.out))) _).trans (hHeld.2.2.1)))), ((cell_far (p := ⟨gb231, _, none⟩) (by first | exact nn_ (nl_ (by have := wb_ _ _ hw226_3; first | rwa [ak_] at this | exact this) GW231.out) | (rw [ak_]; exact nn_ (nl_ (by have := wb_ _ _ hw226_3; first | rwa [ak_] at this | exact this) GW231.out)) | (show (Addr.add _ _).block ≠ _; rw [ak_]; exact nn_ (nl_ (by have := wb_ _ _ hw226_3; first | rwa [ak_] at this | exact this) GW231.out)) | (dsimp only; exact nn_ (nl_ (by have := wb_ _ _ hw226_3; first | rwa [ak_] at this | exact this) GW231.out))) _).trans (((cell_far (p := ⟨gb231, _, none⟩) (by first | exact nn_ (nl_ (by have := wb_ _ _ hw226_3; first | rwa [ak_] at this | exact this) GW231.out) | (rw [ak_]; exact nn_ (nl_ (by have := wb_ _ _ hw226_3; first | rwa [ak_] at this | exact this) GW231.out)) | (show (Addr.add _ _).block ≠ _; rw [ak_]; exact nn_ (nl_ (by have := wb_ _ _ hw226_3; first | rwa [ak_] at this | exact this) GW231.out)) | (dsimp only; exact nn_ (nl_ (by have := wb_ _ _ hw226_3; first | rwa [ak_] at this | exact this) GW231.out))) _).trans (hHeld.2.2.2.1)))), ((cell_far (p := ⟨gb231, _, none⟩) (by first | exact nn_ (nl_ (by have := wb_ _ _ hw226_4; first | rwa [ak_] at this | exact this) GW231.out) | (rw [ak_]; exact nn_ (nl_ (by have := wb_ _ _ hw226_4; first | rwa [ak_] at this | exact this) GW231.out)) | (show (Addr.add _ _).block ≠ _; rw [ak_]; exact nn_ (nl_ (by have := wb_ _ _ hw226_4; first | rwa [ak_] at this | exact this) GW231.out)) | (dsimp only; exact nn_ (nl_ (by have := wb_ _ _ hw226_4; first | rwa [ak_] at this | exact this) GW231.out))) _).trans (((cell_far (p := ⟨gb231, _, none⟩) (by first | exact nn_ (nl_ (by have := wb_ _ _ hw226_4; first | rwa [ak_] at this | exact this) GW231.out) | (rw [ak_]; exact nn_ (nl_ (by have := wb_ _ _ hw226_4; first | rwa [ak_] at this | exact this) GW231.out)) | (show (Addr.add _ _).block ≠ _; rw [ak_]; exact nn_ (nl_ (by have := wb_ _ _ hw226_4; first | rwa [ak_] at this | exact this) GW231.out)) | (dsimp only; exact nn_ (nl_ (by have := wb_ _ _ hw226_4; first | rwa [ak_] at this | exact this) GW231.out))) _).trans (hHeld.2.2.2.2.1)))), ((cell_far (p := ⟨gb231, _, none⟩) (by first | exact nn_ (nl_ (by have := wb_ _ _ hw227_0; first | rwa [ak_] at this | exact this) GW231.out) | (rw [ak_]; exact nn_ (nl_ (by have := wb_ _ _ hw227_0; first | rwa [ak_] at this | exact this) GW231.out)) | (show (Addr.add _ _).block ≠ _; rw [ak_]; exact nn_ (nl_ (by have := wb_ _ _ hw227_0; first | rwa [ak_] at this | exact this) GW231.out)) | (dsimp only; exact nn_ (nl_ (by have := wb_ _ _ hw227_0; first | rwa [ak_] at this | exact this) GW231.out))) _).trans (((cell_far (p := ⟨gb231, _, none⟩) (by first | exact nn_ (nl_ (by have := wb_ _ _ hw227_0; first | rwa [ak_] at this | exact this) GW231.out) | (rw [ak_]; exact nn_ (nl_ (by have := wb_ _ _ hw227_0; first | rwa [ak_] at this | exact this) GW231.out)) | (show (Addr.add _ _).block ≠ _; rw [ak_]; exact nn_ (nl_ (by have := wb_ _ _ hw227_0; first | rwa [ak_] at this | exact this) GW231.out)) | (dsimp only; exact nn_ (nl_ (by have := wb_ _ _ hw227_0; first | rwa [ak_] at this | exact this) GW231.out))) _).trans (hHeld.2.2.2.2.2.1)))), ((cell_far (p := ⟨gb231, _, none⟩) (by first | exact nn_ (nl_ (by have := wb_ _ _ hw227_1; first | rwa [ak_] at this | exact this) GW231.out) | (rw [ak_]; exact nn_ (nl_ (by have := wb_ _ _ hw227_1; first | rwa [ak_] at this | exact this) GW231.out)) | (show (Addr.add _ _).block ≠ _; rw [ak_]; exact nn_ (nl_ (by have := wb_ _ _ hw227_1; first | rwa [ak_] at this | exact this) GW231.out)) | (dsimp only; exact nn_ (nl_ (by have := wb_ _ _ hw227_1; first | rwa [ak_] at this | exact this) GW231.out))) _).trans (((cell_far (p := ⟨gb231, _, none⟩) (by first | exact nn_ (nl_ (by have := wb_ _ _ hw227_1; first | rwa [ak_] at this | exact this) GW231.out) | (rw [ak_]; exact nn_ (nl_ (by have := wb_ _ _ hw227_1; first | rwa [ak_] at this | exact this) GW231.out)) | (show (Addr.add _ _).block ≠ _; rw [ak_]; exact nn_ (nl_ (by have := wb_ _ _ hw227_1; first | rwa [ak_] at this | exact this) GW231.out)) | (dsimp only; exact nn_ (nl_ (by have := wb_ _ _ hw227_1; first | rwa [ak_] at this | exact this) GW231.out))) _).trans (hHeld.2.2.2.2.2.2.1)))), ((cell_far (p := ⟨gb231, _, none⟩) (by first | exact nn_ (nl_ (by have := wb_ _ _ hw227_2; first | rwa [ak_] at this | exact this) GW231.out) | (rw [ak_]; exact nn_ (nl_ (by have := wb_ _ _ hw227_2; first | rwa [ak_] at this | exact this) GW231.out)) | (show (Addr.add _ _).block ≠ _; rw [ak_]; exact nn_ (nl_ (by have := wb_ _ _ hw227_2; first | rwa [ak_] at this | exact this) GW231.out)) | (dsimp only; exact nn_ (nl_ (by have := wb_ _ _ hw227_2; first | rwa [ak_] at this | exact this) GW231.out))) _).trans (((cell_far (p := ⟨gb231, _, none⟩) (by first | exact nn_ (nl_ (by have := wb_ _ _ hw227_2; first | rwa [ak_] at this | exact this) GW231.out) | (rw [ak_]; exact nn_ (nl_ (by have := wb_ _ _ hw227_2; first | rwa [ak_] at this | exact this) GW231.out)) | (show (Addr.add _ _).block ≠ _; rw [ak_]; exact nn_ (nl_ (by have := wb_ _ _ hw227_2; first | rwa [ak_] at this | exact this) GW231.out)) | (dsimp only; exact nn_ (nl_ (by have := wb_ _ _ hw227_2; first | rwa [ak_] at this | exact this) GW231.out))) _).trans (hHeld.2.2.2.2.2.2.2.1)))), ((cell_far (p := ⟨gb231, _, none⟩) (by first | exact nn_ (nl_ (by have := wb_ _ _ hw227_3; first | rwa [ak_] at this | exact this) GW231.out) | (rw [ak_]; exact nn_ (nl_ (by have := wb_ _ _ hw227_3; first | rwa [ak_] at this | exact this) GW231.out)) | (show (Addr.add _ _).block ≠ _; rw [ak_]; exact nn_ (nl_ (by have := wb_ _ _ hw227_3; first | rwa [ak_] at this | exact this) GW231.out)) | (dsimp only; exact nn_ (nl_ (by have := wb_ _ _ hw227_3; first | rwa [ak_] at this | exact this) GW231.out))) _).trans (((cell_far (p := ⟨gb231, _, none⟩) (by first | exact nn_ (nl_ (by have := wb_ _ _ hw227_3; first | rwa [ak_] at this | exact this) GW231.out) | (rw [ak_]; exact nn_ (nl_ (by have := wb_ _ _ hw227_3; first | rwa [ak_] at this | exact this) GW231.out)) | (show (Addr.add _ _).block ≠ _; rw [ak_]; exact nn_ (nl_ (by have := wb_ _ _ hw227_3; first | rwa [ak_] at this | exact this) GW231.out)) | (dsimp only; exact nn_ (nl_ (by have := wb_ _ _ hw227_3; first | rwa [ak_] at this | exact this) GW231.out))) _).trans (hHeld.2.2.2.2.2.2.2.2.1)))), ((cell_far (p := ⟨gb231, _, none⟩) (by first | exact nn_ (nl_ (by have := wb_ _ _ hw227_4; first | rwa [ak_] at this | exact this) GW231.out) | (rw [ak_]; exact nn_ (nl_ (by have := wb_ _ _ hw227_4; first | rwa [ak_] at this | exact this) GW231.out)) | (show (Addr.add _ _).block ≠ _; rw [ak_]; exact nn_ (nl_ (by have := wb_ _ _ hw227_4; first | rwa [ak_] at this | exact this) GW231.out)) | (dsimp only; exact nn_ (nl_ (by have := wb_ _ _ hw227_4; first | rwa [ak_] at this | exact this) GW231.out))) _).trans (((cell_far (p := ⟨gb231, _, none⟩) (by first | exact nn_ (nl_ (by have := wb_ _ _ hw227_4; first | rwa [ak_] at this | exact this) GW231.out) | (rw [ak_]; exact nn_ (nl_ (by have := wb_ _ _ hw227_4; first | rwa [ak_] at this | exact this) GW231.out)) | (show (Addr.add _ _).block ≠ _; rw [ak_]; exact nn_ (nl_ (by have := wb_ _ _ hw227_4; first | rwa [ak_] at this | exact this) GW231.out)) | (dsimp only; exact nn_ (nl_ (by have := wb_ _ _ hw227_4; first | rwa [ak_] at this | exact this) GW231.out))) _).trans (hHeld.2.2.2.2.2.2.2.2.2))))⟩ (fun hHeld => ?_)
               clear hK K
               refine pure_ (i := 17) (N := some 11) (v := ?_) (a' := ?_) #[true, true, true, true, true, true, true, true, true, true, true, true, true, true, true, true, true, true] rfl rfl (any_of HT_.out (by kernel_rfl)) (fun _ _ _ h => h) (Or.inl ⟨by rfl, ?_⟩) ?_ ?_
               rotate_left; (intro w'; go_simp; with_reducible rfl); rotate_left; (simp only [Act.put, ls_, lz_, lc_, i64_w, i32_w]; rfl)
               refine done_ (done_of HT_.out (by kernel_rfl)) ?_
               have hcz39_0 : w36.cell? ⟨gb231, 0, none⟩ = some (.int .i64 0) := (kc_ BK231.out 0).trans rfl
               have hcz39_1 : w36.cell? ⟨gb231, 1, none⟩ = some (.int .i64 0) := (kc_ BK231.out 1).trans rfl
               have hfz39_0 := kf_ BK231.out 0
               have hfz39_1 := kf_ BK231.out 1
               try go_wp2_with (first | ((with_reducible refine gate_callee (f := 8) rfl ?_); refine goesL_ (some 58) rfl rfl Try.func8 (by kernel_rfl) rfl #[.agg #[.int .i64 t228, .int .i64 t229]] rfl (by (try simp only [lm_, lq_, lx_]); first | done | rfl | (simp only [ld_, lt_]; rfl)) ?_; (with_reducible refine (neumeref28_Ideal.calls k2 t228 t229 t232 t233 _ A19.out).mono ?_); rintro e w40 ⟨rfl, hb⟩; refine ⟨_, rfl, ?_⟩; have n0_ := sd_ (Kd.R_below (by (with_reducible repeat (first | apply Kd.R_alloc | apply Kd.R_drewN | apply Kd.R_drew)); exact (Kd.R_mono (Kd.R_far (p := ⟨gb231, 1, none⟩) (Kd.R_far (p := ⟨gb231, 0, none⟩) (Kd.R_types HO_8.out BK231.out (by decide)) (fun _ hk => hk.2) (.int .i64 t228)) (fun _ hk => hk.2) (.int .i64 t229)) (fun _ h_ => h_.1))) hb); have n1_ := sd_ (blk_below (g := gb231) (o := .cells #[.int .i64 t228, .int .i64 t229] 23 (0, 0)) (by (with_reducible repeat (first | refine kn_ ?_ _ | refine kd_ ?_ | refine ka_ ?_ _)); refine blk_put (cs := #[.int .i64 t228, .int .i64 0]) ?_ 1 _ rfl; (with_reducible repeat (first | refine kn_ ?_ _ | refine kd_ ?_ | refine ka_ ?_ _)); refine blk_put (cs := #[.int .i64 0, .int .i64 0]) ?_ 0 _ rfl; (with_reducible repeat (first | refine kn_ ?_ _ | refine kd_ ?_ | refine ka_ ?_ _)); exact BK231.out) hb); have n2_ := sd_ (bt_ (by repeat first | exact HB.out | apply ba_ | apply pd_ | apply d1_ | refine bs_ ?_ GE231.out) hb); clear HO_8; clear BK231; clear HB; have HO_8 := n0_; have BK231 := n1_; have HB := n2_; clear n0_ n1_ n2_; (try clear hb); (try clear hb2); (try clear hk); (try clear hi)) | ((with_reducible refine gate_builtin (b := .append) (xs := #[.tmp 67, .tmp 69]) rfl ?_); (try (refine gate_guard (by rfl) ?_; dsimp only)); at_builtin; refine Kd.R_append (Kd.int .i64) (w0 := w) w.heap.size rfl (.tmp 67) (.tmp 69) 31 3 (.int .i64 0) 8 rfl Try.underlying31 info3 rfl (by decide) (by omega) u8 x8_2 600 [.int .i64 600] (fun _ => True) (fun _ => False) rfl rfl ?aP (fun _ hk => hk.elim) ?aF ?aO ?aB ?aS ?aL ?_; (case aP => exact rfl); (case aB => exact (by repeat first | exact HB.out | apply ba_ | apply pd_ | apply d1_ | refine bs_ ?_ GE231.out)); (case aF => exact (fun _ _ => trivial)); (case aO => exact (by (with_reducible repeat (first | apply Kd.R_alloc | apply Kd.R_drewN | apply Kd.R_drew)); exact HO_8.out)); (case aS => exact (bz_ (by repeat first | exact HB.out | apply ba_ | apply pd_ | apply d1_ | refine bs_ ?_ GE231.out))); (case aL => have := LMc32.out; omega); intro v238 w41 ho hb hg hat; rw [← Ny237.out] at ho; have n0_ := sd_ (blk_grown (g := gb231) (o := .cells #[.int .i64 t228, .int .i64 t229] 23 (0, 0)) (by (with_reducible repeat (first | refine kn_ ?_ _ | refine kd_ ?_ | refine ka_ ?_ _)); exact BK231.out) hg (Kd.R_ne HO_8.out BK231.out (by decide))); have n1_ := sd_ (hb); have n2_ := sd_ (ho); clear BK231; clear HB; clear HO_8; have BK231 := n0_; have HB := n1_; have HO239 := n2_; clear n0_ n1_ n2_; clear ho hb hg hat))
               go_roundg k2
               case measure => have := HJ3.out; have := HK2.out; omega
               case rel => exact ⟨(y237), (ji15), (by first | rfl | (simp; done) | (simp only [← hji15] <;> (first | rfl | simp)) | (simp [*]; done)), H', ⟨by have := HJ3.out; have := HK2.out; omega⟩, ⟨by (with_reducible repeat (first | apply Kd.R_alloc | apply Kd.R_drewN | apply Kd.R_drew)); exact HO239.out⟩, ⟨by repeat first | exact HB.out | apply ba_ | apply pd_ | apply d1_ | refine bs_ ?_ GE231.out⟩⟩
              ·rw [if_neg c32] at H
               exact absurd H (by simp)
            ·rw [if_neg c20] at H
             have c20b0 : (t230 == 0) = false := beq_eq_false_iff_ne.mpr c20
             have c20b1 : (t230 != 0) = true := bne_iff_ne.mpr c20
             by_cases c42 : x8_2.length < 17592186044416
             ·rw [if_pos c42] at H
              have LMc42 := sd_ c42
              clear c42
              obtain ⟨y240, hy240⟩ : ∃ y_ : List Int, y_ = (x8_2 ++ [600]) := ⟨_, rfl⟩
              replace H : (neumeref28_Springs.l0 k2 l0 a2 y240 ji15) = some (r1, r2) := by first | (rw [hy240]; with_reducible exact H) | (have H2_ := (Option.bind_some _ _).symm.trans H; rw [hy240]; with_reducible exact H2_) | (have H2_ := (Option.bind_some _ _).symm.trans H; with_reducible exact H2_) | with_reducible exact H | (rw [hy240]; exact H) | exact H
              have Ny240 := sd_ hy240
              clear hy240
              have H' := sd_ H
              clear H
              have p222 : 0 ≤ (x9_2 : Int) := od_ (by first | (with_reducible assumption) | assumption)
              have q222 : x9_2 < (l0.length : Int) := od_ (by first | (with_reducible assumption) | assumption)
              obtain ⟨ad222, A222_4, c222_4, e222, hx222_0, hx222_1, hx222_2, hx222_3, hx222_4, hl222_4, hi222_4⟩ := at_T48 HR0.out x9_2 p222 q222
              (try rw [← Nbq11.out] at hx222_0)
              cases e222
              replace hx222_0 := (HB.out.cell (wb_ w _ hx222_0)).trans hx222_0
              replace hx222_1 := (HB.out.cell (wb_ w _ hx222_1)).trans hx222_1
              replace hx222_2 := (HB.out.cell (wb_ w _ hx222_2)).trans hx222_2
              replace hx222_3 := (HB.out.cell (wb_ w _ hx222_3)).trans hx222_3
              replace hx222_4 := (HB.out.cell (wb_ w _ hx222_4)).trans hx222_4
              have HR222_4 := sd_ hi222_4
              have HC222_4 := sd_ hl222_4
              clear hi222_4 hl222_4
              replace p222 := eq_true p222
              replace q222 := eq_true q222
              try go_wp2
              have n0_ := sd_ (Kd.R_drew HO_8.out)
              have n1_ := sd_ (d1_ HB.out)
              clear HO_8
              clear HB
              have HO_8 := n0_
              have HB := n1_
              clear n0_ n1_
              have p226 : 0 ≤ ((ji15) : Int) := od_ (by first | (with_reducible assumption) | assumption)
              have q226 : (ji15) < (l0.length : Int) := od_ (by first | (with_reducible assumption) | assumption)
              obtain ⟨ad226, A226_4, c226_4, e226, hx226_0, hx226_1, hx226_2, hx226_3, hx226_4, hl226_4, hi226_4⟩ := at_T48 HR0.out (ji15) p226 q226
              (try rw [← Nbq11.out] at hx226_0)
              have hw226_4 := hx226_4
              have hw226_3 := hx226_3
              have hw226_2 := hx226_2
              have hw226_1 := hx226_1
              have hw226_0 := hx226_0
              obtain rfl : ad222 = ad226 := (by injection e226)
              replace hx226_0 := (HB.out.cell (wb_ w _ hx226_0)).trans hx226_0
              replace hx226_1 := (HB.out.cell (wb_ w _ hx226_1)).trans hx226_1
              replace hx226_2 := (HB.out.cell (wb_ w _ hx226_2)).trans hx226_2
              replace hx226_3 := (HB.out.cell (wb_ w _ hx226_3)).trans hx226_3
              replace hx226_4 := (HB.out.cell (wb_ w _ hx226_4)).trans hx226_4
              have HR226_4 := sd_ hi226_4
              have HC226_4 := sd_ hl226_4
              clear hi226_4 hl226_4
              replace p226 := eq_true p226
              replace q226 := eq_true q226
              have p227 : 0 ≤ (x9_2 : Int) := od_ (by first | (with_reducible assumption) | assumption)
              have q227 : x9_2 < (l0.length : Int) := od_ (by first | (with_reducible assumption) | assumption)
              obtain ⟨ad227, A227_4, c227_4, e227, hx227_0, hx227_1, hx227_2, hx227_3, hx227_4, hl227_4, hi227_4⟩ := at_T48 HR0.out x9_2 p227 q227
              (try rw [← Nbq11.out] at hx227_0)
              have hw227_4 := hx227_4
              have hw227_3 := hx227_3
              have hw227_2 := hx227_2
              have hw227_1 := hx227_1
              have hw227_0 := hx227_0
              obtain rfl : ad222 = ad227 := (by injection e227)
              replace hx227_0 := (HB.out.cell (wb_ w _ hx227_0)).trans hx227_0
              replace hx227_1 := (HB.out.cell (wb_ w _ hx227_1)).trans hx227_1
              replace hx227_2 := (HB.out.cell (wb_ w _ hx227_2)).trans hx227_2
              replace hx227_3 := (HB.out.cell (wb_ w _ hx227_3)).trans hx227_3
              replace hx227_4 := (HB.out.cell (wb_ w _ hx227_4)).trans hx227_4
              have HR227_4 := sd_ hi227_4
              have HC227_4 := sd_ hl227_4
              clear hi227_4 hl227_4
              replace p227 := eq_true p227
              replace q227 := eq_true q227
              refine start_ (n := 18) (S := fun w' => w'.cell? (ad222.add (((ji15)).toNat * 5)) = some (.bool ((rd_T48 l0 (ji15)).f0)) ∧ w'.cell? ⟨(ad222.add (((ji15)).toNat * 5)).block, (ad222.add (((ji15)).toNat * 5)).off + 1, none⟩ = some (.int .i64 ((rd_T48 l0 (ji15)).f1.f0)) ∧ w'.cell? ⟨(ad222.add (((ji15)).toNat * 5)).block, (ad222.add (((ji15)).toNat * 5)).off + 2, none⟩ = some (.int .i64 ((rd_T48 l0 (ji15)).f1.f1)) ∧ w'.cell? ⟨(ad222.add (((ji15)).toNat * 5)).block, (ad222.add (((ji15)).toNat * 5)).off + 3, none⟩ = some (.int .i64 ((rd_T48 l0 (ji15)).f2)) ∧ w'.cell? ⟨(ad222.add (((ji15)).toNat * 5)).block, (ad222.add (((ji15)).toNat * 5)).off + 4, none⟩ = some (.slice A226_4 ((rd_T48 l0 (ji15)).f3).length c226_4) ∧ w'.cell? (ad222.add ((x9_2).toNat * 5)) = some (.bool (false)) ∧ w'.cell? ⟨(ad222.add ((x9_2).toNat * 5)).block, (ad222.add ((x9_2).toNat * 5)).off + 1, none⟩ = some (.int .i64 ((rd_T48 l0 x9_2).f1.f0)) ∧ w'.cell? ⟨(ad222.add ((x9_2).toNat * 5)).block, (ad222.add ((x9_2).toNat * 5)).off + 2, none⟩ = some (.int .i64 ((rd_T48 l0 x9_2).f1.f1)) ∧ w'.cell? ⟨(ad222.add ((x9_2).toNat * 5)).block, (ad222.add ((x9_2).toNat * 5)).off + 3, none⟩ = some (.int .i64 ((rd_T48 l0 x9_2).f2)) ∧ w'.cell? ⟨(ad222.add ((x9_2).toNat * 5)).block, (ad222.add ((x9_2).toNat * 5)).off + 4, none⟩ = some (.slice A227_4 ((rd_T48 l0 x9_2).f3).length c227_4)) (ds := []) #[false, false, false, false, false, false, false, false, false, false, false, false, false, false, false, false, false, false] (by kernel_rfl) rfl rfl ⟨((HB.out.cell (wb_ w _ hw226_0)).trans hw226_0), ((HB.out.cell (wb_ w _ hw226_1)).trans hw226_1), ((HB.out.cell (wb_ w _ hw226_2)).trans hw226_2), ((HB.out.cell (wb_ w _ hw226_3)).trans hw226_3), ((HB.out.cell (wb_ w _ hw226_4)).trans hw226_4), ((HB.out.cell (wb_ w _ hw227_0)).trans hw227_0), ((HB.out.cell (wb_ w _ hw227_1)).trans hw227_1), ((HB.out.cell (wb_ w _ hw227_2)).trans hw227_2), ((HB.out.cell (wb_ w _ hw227_3)).trans hw227_3), ((HB.out.cell (wb_ w _ hw227_4)).trans hw227_4)⟩ (fun hHeld => ?_); refine with_tabW neumeref28_Springs.tab9 neumeref28_Springs.bits9 (fun HT_ HW_ => ?_)
              generalize wr.drew = w43 at HO_8 HB HR226_4 HR227_4 hx226_0 hx226_1 hx226_2 hx226_3 hx226_4 hx227_0 hx227_1 hx227_2 hx227_3 hx227_4 hHeld ⊢
              refine pure_ (i := 0) (N := some 42) (v := ?_) (a' := ?_) #[true, false, false, false, false, false, false, false, false, false, false, false, false, false, false, false, false, false] rfl rfl (any_of HT_.out (by kernel_rfl)) (fun _ _ _ h => h) (Or.inl ⟨by rfl, ?_⟩) ?_ ?_
              rotate_left; (intro w'; go_simp; with_reducible rfl); rotate_left; (simp only [Act.put, ls_, lz_, lc_, i64_w, i32_w]; rfl)
              refine pure_ (i := 1) (N := some 43) (v := ?_) (a' := ?_) #[true, true, false, false, false, false, false, false, false, false, false, false, false, false, false, false, false, false] rfl rfl (any_of HT_.out (by kernel_rfl)) (fun _ _ _ h => h) (Or.inl ⟨by rfl, ?_⟩) ?_ ?_
              rotate_left; (intro w'; go_simp; with_reducible rfl); rotate_left; (simp only [Act.put, ls_, lz_, lc_, i64_w, i32_w]; rfl)
              refine pure_ (i := 2) (N := some 44) (v := ?_) (a' := ?_) #[true, true, true, false, false, false, false, false, false, false, false, false, false, false, false, false, false, false] rfl rfl (any_of HT_.out (by kernel_rfl)) (fun _ _ _ h => h) (Or.inl ⟨by rfl, ?_⟩) ?_ ?_
              rotate_left; (intro w'; go_simp; with_reducible rfl); rotate_left; (simp only [Act.put, ls_, lz_, lc_, i64_w, i32_w]; rfl)
              refine pure_ (i := 3) (N := some 45) (v := ?_) (a' := ?_) #[true, true, true, true, false, false, false, false, false, false, false, false, false, false, false, false, false, false] rfl rfl (any_of HT_.out (by kernel_rfl)) (fun _ _ _ h => h) (Or.inl ⟨by rfl, ?_⟩) ?_ ?_
              rotate_left; (intro w'; go_simp; with_reducible rfl); rotate_left; (simp only [Act.put, ls_, lz_, lc_, i64_w, i32_w]; rfl)
              refine pure_ (i := 4) (N := some 46) (v := ?_) (a' := ?_) #[true, true, true, true, true, false, false, false, false, false, false, false, false, false, false, false, false, false] rfl rfl (any_of HT_.out (by kernel_rfl)) (fun _ _ _ h => h) (Or.inl ⟨by rfl, ?_⟩) ?_ ?_
              rotate_left; (intro w'; go_simp; with_reducible rfl); rotate_left; (simp only [Act.put, ls_, lz_, lc_, i64_w, i32_w]; rfl)
              refine pure_ (i := 6) (N := some 48) (v := ?_) (a' := ?_) #[true, true, true, true, true, false, true, false, false, false, false, false, false, false, false, false, false, false] rfl rfl (any_of HT_.out (by kernel_rfl)) (fun _ _ _ h => h) (Or.inl ⟨by rfl, ?_⟩) ?_ ?_
              rotate_left; (intro w'; go_simp; with_reducible rfl); rotate_left; (simp only [Act.put, ls_, lz_, lc_, i64_w, i32_w]; rfl)
              refine pure_ (i := 7) (N := some 49) (v := ?_) (a' := ?_) #[true, true, true, true, true, false, true, true, false, false, false, false, false, false, false, false, false, false] rfl rfl (any_of HT_.out (by kernel_rfl)) (fun _ _ _ h => h) (Or.inl ⟨by rfl, ?_⟩) ?_ ?_
              rotate_left; (intro w'; go_simp; with_reducible rfl); rotate_left; (simp only [Act.put, ls_, lz_, lc_, i64_w, i32_w]; rfl)
              refine pure_ (i := 8) (N := some 50) (v := ?_) (a' := ?_) #[true, true, true, true, true, false, true, true, true, false, false, false, false, false, false, false, false, false] rfl rfl (any_of HT_.out (by kernel_rfl)) (fun _ _ _ h => h) (Or.inl ⟨by rfl, ?_⟩) ?_ ?_
              rotate_left; (intro w'; go_simp; with_reducible rfl); rotate_left; (simp only [Act.put, ls_, lz_, lc_, i64_w, i32_w]; rfl)
              refine pure_ (i := 9) (N := some 51) (v := ?_) (a' := ?_) #[true, true, true, true, true, false, true, true, true, true, false, false, false, false, false, false, false, false] rfl rfl (any_of HT_.out (by kernel_rfl)) (fun _ _ _ h => h) (Or.inl ⟨by rfl, ?_⟩) ?_ ?_
              rotate_left; (intro w'; go_simp; with_reducible rfl); rotate_left; (simp only [Act.put, ls_, lz_, lc_, i64_w, i32_w]; rfl)
              refine take_ (i := 5) (N := some 47) (v := ?_) (a' := ?_) #[true, true, true, true, true, true, true, true, true, true, false, false, false, false, false, false, false, false] rfl rfl (take_ofW HT_.out HW_.out (by kernel_rfl)) (fun _ _ _ h => h) (Or.inl ⟨by rfl, ?_⟩) hHeld ?_ ?_
              rotate_left
              ·rintro w' ⟨s0, s1, s2, s3, s4, s5, s6, s7, s8, s9⟩
               go_simp
               with_reducible rfl
              rotate_left
              ·simp only [Act.put, ls_, lz_, lc_, i64_w, i32_w]
               rfl
              refine take_ (i := 10) (N := some 52) (v := ?_) (a' := ?_) #[true, true, true, true, true, true, true, true, true, true, true, false, false, false, false, false, false, false] rfl rfl (take_ofW HT_.out HW_.out (by kernel_rfl)) (fun _ _ _ h => h) (Or.inl ⟨by rfl, ?_⟩) hHeld ?_ ?_
              rotate_left
              ·rintro w' ⟨s0, s1, s2, s3, s4, s5, s6, s7, s8, s9⟩
               go_simp
               with_reducible rfl
              rotate_left
              ·simp only [Act.put, ls_, lz_, lc_, i64_w, i32_w]
               rfl
              refine join_ (σ := Nat) 2 #[true, true, true, true, true, true, true, true, true, true, true, true, true, true, true, true, false, false] (fun s_ => [(53, .tuple #[.agg #[.int .i64 t228, .int .i64 t229], .int .i64 t230]), (10, .pointer (some ⟨s_, 0, none⟩)), (41, .tuple #[.agg #[.int .i64 t228, .int .i64 t229], .int .i64 t230]), (54, .agg #[.int .i64 t228, .int .i64 t229]), (55, .int .i64 t230)]) (fun s_ w' => (w'.cell? (ad222.add (((ji15)).toNat * 5)) = some (.bool ((rd_T48 l0 (ji15)).f0)) ∧ w'.cell? ⟨(ad222.add (((ji15)).toNat * 5)).block, (ad222.add (((ji15)).toNat * 5)).off + 1, none⟩ = some (.int .i64 ((rd_T48 l0 (ji15)).f1.f0)) ∧ w'.cell? ⟨(ad222.add (((ji15)).toNat * 5)).block, (ad222.add (((ji15)).toNat * 5)).off + 2, none⟩ = some (.int .i64 ((rd_T48 l0 (ji15)).f1.f1)) ∧ w'.cell? ⟨(ad222.add (((ji15)).toNat * 5)).block, (ad222.add (((ji15)).toNat * 5)).off + 3, none⟩ = some (.int .i64 ((rd_T48 l0 (ji15)).f2)) ∧ w'.cell? ⟨(ad222.add (((ji15)).toNat * 5)).block, (ad222.add (((ji15)).toNat * 5)).off + 4, none⟩ = some (.slice A226_4 ((rd_T48 l0 (ji15)).f3).length c226_4) ∧ w'.cell? (ad222.add ((x9_2).toNat * 5)) = some (.bool (false)) ∧ w'.cell? ⟨(ad222.add ((x9_2).toNat * 5)).block, (ad222.add ((x9_2).toNat * 5)).off + 1, none⟩ = some (.int .i64 ((rd_T48 l0 x9_2).f1.f0)) ∧ w'.cell? ⟨(ad222.add ((x9_2).toNat * 5)).block, (ad222.add ((x9_2).toNat * 5)).off + 2, none⟩ = some (.int .i64 ((rd_T48 l0 x9_2).f1.f1)) ∧ w'.cell? ⟨(ad222.add ((x9_2).toNat * 5)).block, (ad222.add ((x9_2).toNat * 5)).off + 3, none⟩ = some (.int .i64 ((rd_T48 l0 x9_2).f2)) ∧ w'.cell? ⟨(ad222.add ((x9_2).toNat * 5)).block, (ad222.add ((x9_2).toNat * 5)).off + 4, none⟩ = some (.slice A227_4 ((rd_T48 l0 x9_2).f3).length c227_4)) ∧ (Kd.R (Kd.int .i64) 3 w' w.heap.size (fun _ => True) u8 x8_2) ∧ (w'.heap[s_]? = some (.cells #[.int .i64 0, .int .i64 0] 23 (0, 0))) ∧ (w.heap.size ≤ s_) ∧ (w.heap.size ≤ s_) ∧ (Below w.heap.size w w')) ?_ ?_
              rotate_left
              ·intro hCont
               refine two_ (i := 11) (j := 15) (Ni := some 53) (Nj := some 10) #[true, true, true, true, true, true, true, true, true, true, true, true, false, false, false, false, false, false] #[true, true, true, true, true, true, true, true, true, true, true, false, false, false, false, true, false, false] rfl rfl rfl rfl (two_of HT_.out (by kernel_rfl)) (by decide) (by decide) (fun K hK => ?_) (fun K hK => ?_)
               ·skip
                refine goes_ Try.func22 (by kernel_rfl) rfl #[.agg #[.int .i64 ((rd_T48 l0 (ji15)).f1.f0), .int .i64 ((rd_T48 l0 (ji15)).f1.f1)], .agg #[.int .i64 ((rd_T48 l0 x9_2).f1.f0), .int .i64 ((rd_T48 l0 x9_2).f1.f1)]] (by rfl) rfl rfl (by (try simp only [lm_, lq_, lx_]); first | done | (simp only [hji15]; rfl) | rfl | (simp only [ld_, lt_]; rfl)) ?_
                with_reducible refine (neumeref02_Sub.calls k2 ((rd_T48 l0 (ji15)).f1.f0) ((rd_T48 l0 (ji15)).f1.f1) ((rd_T48 l0 x9_2).f1.f0) ((rd_T48 l0 x9_2).f1.f1) t228 t229 t230 _ A18.out).mono ?_
                rintro e w44 ⟨rfl, hb⟩
                refine ⟨_, rfl, ?_⟩
                have n0_ := sd_ (Kd.R_below (by (with_reducible repeat (first | apply Kd.R_alloc | apply Kd.R_drewN | apply Kd.R_drew)); exact HO_8.out) hb)
                have n1_ := sd_ (bt_ (by repeat first | exact HB.out | apply ba_ | apply pd_ | apply d1_) hb)
                clear HO_8
                clear HB
                have HO_8 := n0_
                have HB := n1_
                clear n0_ n1_
                (try clear hb)
                (try clear hb2)
                (try clear hk)
                (try clear hi)
                refine hK.out _ _ ⟨((HB.out.cell (wb_ w _ hw226_0)).trans hw226_0), ((HB.out.cell (wb_ w _ hw226_1)).trans hw226_1), ((HB.out.cell (wb_ w _ hw226_2)).trans hw226_2), ((HB.out.cell (wb_ w _ hw226_3)).trans hw226_3), ((HB.out.cell (wb_ w _ hw226_4)).trans hw226_4), ((HB.out.cell (wb_ w _ hw227_0)).trans hw227_0), ((HB.out.cell (wb_ w _ hw227_1)).trans hw227_1), ((HB.out.cell (wb_ w _ hw227_2)).trans hw227_2), ((HB.out.cell (wb_ w _ hw227_3)).trans hw227_3), ((HB.out.cell (wb_ w _ hw227_4)).trans hw227_4)⟩ (fun hHeld => ?_)
                clear hK K
                refine norm_ (a' := ?_) ?_ ?_
                rotate_left
                ·show Act.put _ (some 53) _ = _
                 simp only [Act.put, ls_, lz_, lc_, i64_w, i32_w]
                 rfl
                refine pure_ (i := 12) (N := some 41) (v := ?_) (a' := ?_) #[true, true, true, true, true, true, true, true, true, true, true, true, true, false, false, false, false, false] rfl rfl (any_of HT_.out (by kernel_rfl)) (fun _ _ _ h => h) (Or.inl ⟨by rfl, ?_⟩) ?_ ?_
                rotate_left; (intro w'; go_simp; with_reducible rfl); rotate_left; (simp only [Act.put, ls_, lz_, lc_, i64_w, i32_w]; rfl)
                refine pure_ (i := 13) (N := some 54) (v := ?_) (a' := ?_) #[true, true, true, true, true, true, true, true, true, true, true, true, true, true, false, false, false, false] rfl rfl (any_of HT_.out (by kernel_rfl)) (fun _ _ _ h => h) (Or.inl ⟨by rfl, ?_⟩) ?_ ?_
                rotate_left; (intro w'; go_simp; with_reducible rfl); rotate_left; (simp only [Act.put, ls_, lz_, lc_, i64_w, i32_w]; rfl)
                refine pure_ (i := 14) (N := some 55) (v := ?_) (a' := ?_) #[true, true, true, true, true, true, true, true, true, true, true, true, true, true, true, false, false, false] rfl rfl (any_of HT_.out (by kernel_rfl)) (fun _ _ _ h => h) (Or.inl ⟨by rfl, ?_⟩) ?_ ?_
                rotate_left; (intro w'; go_simp; with_reducible rfl); rotate_left; (simp only [Act.put, ls_, lz_, lc_, i64_w, i32_w]; rfl)
                refine one_ (i := 15) (N := some 10) #[true, true, true, true, true, true, true, true, true, true, true, true, true, true, true, true, false, false] rfl rfl (one_of HT_.out (by kernel_rfl)) (by decide) (fun K hK => ?_)
                refine box_step ?hg (N := 10) ?hd (cs := #[.int .i64 0, .int .i64 0]) (t := 23) ?hr ?_; (case hd => rfl); (case hg => rfl); (case hr => first | (go_simp; done) | (go_simp; rfl))
                intro gb231 hg w45 hbox hb
                have n0_ := sd_ (Kd.R_below (by (with_reducible repeat (first | apply Kd.R_alloc | apply Kd.R_drewN | apply Kd.R_drew)); exact HO_8.out) hb)
                have n1_ := sd_ (bt_ (by repeat first | exact HB.out | apply ba_ | apply pd_ | apply d1_) hb)
                have n2_ := sd_ (hbox)
                have n3_ := sd_ ((by rw [hg]; exact (bz_ (by repeat first | exact HB.out | apply ba_ | apply pd_ | apply d1_)) : w.heap.size ≤ gb231))
                have n4_ := sd_ ((by rw [hg]; exact (bz_ (by repeat first | exact HB.out | apply ba_ | apply pd_ | apply d1_)) : w.heap.size ≤ gb231))
                clear HO_8
                clear HB
                have HO_8 := n0_
                have HB := n1_
                have BK231 := n2_
                have GW231 := n3_
                have GE231 := n4_
                clear n0_ n1_ n2_ n3_ n4_
                clear hb hbox hg
                refine hK.out _ _ ⟨((HB.out.cell (wb_ w _ hw226_0)).trans hw226_0), ((HB.out.cell (wb_ w _ hw226_1)).trans hw226_1), ((HB.out.cell (wb_ w _ hw226_2)).trans hw226_2), ((HB.out.cell (wb_ w _ hw226_3)).trans hw226_3), ((HB.out.cell (wb_ w _ hw226_4)).trans hw226_4), ((HB.out.cell (wb_ w _ hw227_0)).trans hw227_0), ((HB.out.cell (wb_ w _ hw227_1)).trans hw227_1), ((HB.out.cell (wb_ w _ hw227_2)).trans hw227_2), ((HB.out.cell (wb_ w _ hw227_3)).trans hw227_3), ((HB.out.cell (wb_ w _ hw227_4)).trans hw227_4)⟩ (fun hHeld => ?_)
                clear hK K
                refine norm_ (a' := ?_) ?_ ?_
                rotate_left
                ·show Act.put _ (some 10) _ = _
                 simp only [Act.put, ls_, lz_, lc_, i64_w, i32_w]
                 rfl
                exact norm_ (by simp only [putAll, Act.put, ls_, lz_, lc_]) (hCont (gb231) _ ⟨hHeld, (by (with_reducible repeat (first | apply Kd.R_alloc | apply Kd.R_drewN | apply Kd.R_drew)); exact HO_8.out), (by (with_reducible repeat (first | refine kn_ ?_ _ | refine kd_ ?_ | refine ka_ ?_ _)); exact BK231.out), GW231.out, GE231.out, (by repeat first | exact HB.out | apply ba_ | apply pd_ | apply d1_ | refine bs_ ?_ GE231.out)⟩)
               ·skip
                refine box_step ?hg (N := 10) ?hd (cs := #[.int .i64 0, .int .i64 0]) (t := 23) ?hr ?_; (case hd => rfl); (case hg => rfl); (case hr => first | (go_simp; done) | (go_simp; rfl))
                intro gb231 hg w44 hbox hb
                have n0_ := sd_ (Kd.R_below (by (with_reducible repeat (first | apply Kd.R_alloc | apply Kd.R_drewN | apply Kd.R_drew)); exact HO_8.out) hb)
                have n1_ := sd_ (bt_ (by repeat first | exact HB.out | apply ba_ | apply pd_ | apply d1_) hb)
                have n2_ := sd_ (hbox)
                have n3_ := sd_ ((by rw [hg]; exact (bz_ (by repeat first | exact HB.out | apply ba_ | apply pd_ | apply d1_)) : w.heap.size ≤ gb231))
                have n4_ := sd_ ((by rw [hg]; exact (bz_ (by repeat first | exact HB.out | apply ba_ | apply pd_ | apply d1_)) : w.heap.size ≤ gb231))
                clear HO_8
                clear HB
                have HO_8 := n0_
                have HB := n1_
                have BK231 := n2_
                have GW231 := n3_
                have GE231 := n4_
                clear n0_ n1_ n2_ n3_ n4_
                clear hb hbox hg
                refine hK.out _ _ ⟨((HB.out.cell (wb_ w _ hw226_0)).trans hw226_0), ((HB.out.cell (wb_ w _ hw226_1)).trans hw226_1), ((HB.out.cell (wb_ w _ hw226_2)).trans hw226_2), ((HB.out.cell (wb_ w _ hw226_3)).trans hw226_3), ((HB.out.cell (wb_ w _ hw226_4)).trans hw226_4), ((HB.out.cell (wb_ w _ hw227_0)).trans hw227_0), ((HB.out.cell (wb_ w _ hw227_1)).trans hw227_1), ((HB.out.cell (wb_ w _ hw227_2)).trans hw227_2), ((HB.out.cell (wb_ w _ hw227_3)).trans hw227_3), ((HB.out.cell (wb_ w _ hw227_4)).trans hw227_4)⟩ (fun hHeld => ?_)
                clear hK K
                refine norm_ (a' := ?_) ?_ ?_
                rotate_left
                ·show Act.put _ (some 10) _ = _
                 simp only [Act.put, ls_, lz_, lc_, i64_w, i32_w]
                 rfl
                refine one_ (i := 11) (N := some 53) #[true, true, true, true, true, true, true, true, true, true, true, true, false, false, false, true, false, false] rfl rfl (one_of HT_.out (by kernel_rfl)) (by decide) (fun K hK => ?_)
                refine goes_ Try.func22 (by kernel_rfl) rfl #[.agg #[.int .i64 ((rd_T48 l0 (ji15)).f1.f0), .int .i64 ((rd_T48 l0 (ji15)).f1.f1)], .agg #[.int .i64 ((rd_T48 l0 x9_2).f1.f0), .int .i64 ((rd_T48 l0 x9_2).f1.f1)]] (by rfl) rfl rfl (by (try simp only [lm_, lq_, lx_]); first | done | (simp only [hji15]; rfl) | rfl | (simp only [ld_, lt_]; rfl)) ?_
                with_reducible refine (neumeref02_Sub.calls k2 ((rd_T48 l0 (ji15)).f1.f0) ((rd_T48 l0 (ji15)).f1.f1) ((rd_T48 l0 x9_2).f1.f0) ((rd_T48 l0 x9_2).f1.f1) t228 t229 t230 _ A18.out).mono ?_
                rintro e w45 ⟨rfl, hb⟩
                refine ⟨_, rfl, ?_⟩
                have n0_ := sd_ (Kd.R_below (by (with_reducible repeat (first | apply Kd.R_alloc | apply Kd.R_drewN | apply Kd.R_drew)); exact HO_8.out) hb)
                have n1_ := sd_ (blk_below (g := gb231) (o := .cells #[.int .i64 0, .int .i64 0] 23 (0, 0)) (by (with_reducible repeat (first | refine kn_ ?_ _ | refine kd_ ?_ | refine ka_ ?_ _)); exact BK231.out) hb)
                have n2_ := sd_ (bt_ (by repeat first | exact HB.out | apply ba_ | apply pd_ | apply d1_ | refine bs_ ?_ GE231.out) hb)
                clear HO_8
                clear BK231
                clear HB
                have HO_8 := n0_
                have BK231 := n1_
                have HB := n2_
                clear n0_ n1_ n2_
                (try clear hb)
                (try clear hb2)
                (try clear hk)
                (try clear hi)
                refine hK.out _ _ ⟨((HB.out.cell (wb_ w _ hw226_0)).trans hw226_0), ((HB.out.cell (wb_ w _ hw226_1)).trans hw226_1), ((HB.out.cell (wb_ w _ hw226_2)).trans hw226_2), ((HB.out.cell (wb_ w _ hw226_3)).trans hw226_3), ((HB.out.cell (wb_ w _ hw226_4)).trans hw226_4), ((HB.out.cell (wb_ w _ hw227_0)).trans hw227_0), ((HB.out.cell (wb_ w _ hw227_1)).trans hw227_1), ((HB.out.cell (wb_ w _ hw227_2)).trans hw227_2), ((HB.out.cell (wb_ w _ hw227_3)).trans hw227_3), ((HB.out.cell (wb_ w _ hw227_4)).trans hw227_4)⟩ (fun hHeld => ?_)
                clear hK K
                refine norm_ (a' := ?_) ?_ ?_
                rotate_left
                ·show Act.put _ (some 53) _ = _
                 simp only [Act.put, ls_, lz_, lc_, i64_w, i32_w]
                 rfl
                refine pure_ (i := 12) (N := some 41) (v := ?_) (a' := ?_) #[true, true, true, true, true, true, true, true, true, true, true, true, true, false, false, true, false, false] rfl rfl (any_of HT_.out (by kernel_rfl)) (fun _ _ _ h => h) (Or.inl ⟨by rfl, ?_⟩) ?_ ?_
                rotate_left; (intro w'; go_simp; with_reducible rfl); rotate_left; (simp only [Act.put, ls_, lz_, lc_, i64_w, i32_w]; rfl)
                refine pure_ (i := 13) (N := some 54) (v := ?_) (a' := ?_) #[true, true, true, true, true, true, true, true, true, true, true, true, true, true, false, true, false, false] rfl rfl (any_of HT_.out (by kernel_rfl)) (fun _ _ _ h => h) (Or.inl ⟨by rfl, ?_⟩) ?_ ?_
                rotate_left; (intro w'; go_simp; with_reducible rfl); rotate_left; (simp only [Act.put, ls_, lz_, lc_, i64_w, i32_w]; rfl)
                refine pure_ (i := 14) (N := some 55) (v := ?_) (a' := ?_) #[true, true, true, true, true, true, true, true, true, true, true, true, true, true, true, true, false, false] rfl rfl (any_of HT_.out (by kernel_rfl)) (fun _ _ _ h => h) (Or.inl ⟨by rfl, ?_⟩) ?_ ?_
                rotate_left; (intro w'; go_simp; with_reducible rfl); rotate_left; (simp only [Act.put, ls_, lz_, lc_, i64_w, i32_w]; rfl)
                exact norm_ (by simp only [putAll, Act.put, ls_, lz_, lc_]) (hCont (gb231) _ ⟨hHeld, (by (with_reducible repeat (first | apply Kd.R_alloc | apply Kd.R_drewN | apply Kd.R_drew)); exact HO_8.out), (by (with_reducible repeat (first | refine kn_ ?_ _ | refine kd_ ?_ | refine ka_ ?_ _)); exact BK231.out), GW231.out, GE231.out, (by repeat first | exact HB.out | apply ba_ | apply pd_ | apply d1_ | refine bs_ ?_ GE231.out)⟩)
              rintro gb231 w46 ⟨hS_, h0_, h1_, h2_, h3_, h4_⟩
              have n0_ : Aside0 (Kd.R (Kd.int .i64) 3 w46 w.heap.size (fun _ => True) u8 x8_2) := ⟨h0_⟩
              have n1_ : Aside0 (w46.heap[gb231]? = some (.cells #[.int .i64 0, .int .i64 0] 23 (0, 0))) := ⟨h1_⟩
              have n2_ : Aside0 (w.heap.size ≤ gb231) := ⟨h2_⟩
              have n3_ : Aside0 (w.heap.size ≤ gb231) := ⟨h3_⟩
              have n4_ : Aside0 (Below w.heap.size w w46) := ⟨h4_⟩
              clear HO_8
              clear HB
              clear h0_ h1_ h2_ h3_ h4_
              have HO_8 := n0_
              have BK231 := n1_
              have GW231 := n2_
              have GE231 := n3_
              have HB := n4_
              clear n0_ n1_ n2_ n3_ n4_
              have hHeld : w46.cell? (ad222.add (((ji15)).toNat * 5)) = some (.bool ((rd_T48 l0 (ji15)).f0)) ∧ w46.cell? ⟨(ad222.add (((ji15)).toNat * 5)).block, (ad222.add (((ji15)).toNat * 5)).off + 1, none⟩ = some (.int .i64 ((rd_T48 l0 (ji15)).f1.f0)) ∧ w46.cell? ⟨(ad222.add (((ji15)).toNat * 5)).block, (ad222.add (((ji15)).toNat * 5)).off + 2, none⟩ = some (.int .i64 ((rd_T48 l0 (ji15)).f1.f1)) ∧ w46.cell? ⟨(ad222.add (((ji15)).toNat * 5)).block, (ad222.add (((ji15)).toNat * 5)).off + 3, none⟩ = some (.int .i64 ((rd_T48 l0 (ji15)).f2)) ∧ w46.cell? ⟨(ad222.add (((ji15)).toNat * 5)).block, (ad222.add (((ji15)).toNat * 5)).off + 4, none⟩ = some (.slice A226_4 ((rd_T48 l0 (ji15)).f3).length c226_4) ∧ w46.cell? (ad222.add ((x9_2).toNat * 5)) = some (.bool (false)) ∧ w46.cell? ⟨(ad222.add ((x9_2).toNat * 5)).block, (ad222.add ((x9_2).toNat * 5)).off + 1, none⟩ = some (.int .i64 ((rd_T48 l0 x9_2).f1.f0)) ∧ w46.cell? ⟨(ad222.add ((x9_2).toNat * 5)).block, (ad222.add ((x9_2).toNat * 5)).off + 2, none⟩ = some (.int .i64 ((rd_T48 l0 x9_2).f1.f1)) ∧ w46.cell? ⟨(ad222.add ((x9_2).toNat * 5)).block, (ad222.add ((x9_2).toNat * 5)).off + 3, none⟩ = some (.int .i64 ((rd_T48 l0 x9_2).f2)) ∧ w46.cell? ⟨(ad222.add ((x9_2).toNat * 5)).block, (ad222.add ((x9_2).toNat * 5)).off + 4, none⟩ = some (.slice A227_4 ((rd_T48 l0 x9_2).f3).length c227_4) := hS_
              refine norm_ (a' := ?_) ?_ ?_
              rotate_left
              ·simp only [putAll, Act.put, ls_, lz_, lc_]
               rfl
              refine one_ (i := 16) (N := none) #[true, true, true, true, true, true, true, true, true, true, true, true, true, true, true, true, true, false] rfl rfl (one_of HT_.out (by kernel_rfl)) (by decide) (fun K hK => ?_)
              have hs47 : w46.cell? ⟨gb231, 0, none⟩ = some (.int .i64 0) := (kc_ BK231.out 0).trans rfl
              have hfs47 := kf_ BK231.out 0
              have hs48 : w46.cell? ⟨gb231, 1, none⟩ = some (.int .i64 0) := (kc_ BK231.out 1).trans rfl
              have hfs48 := kf_ BK231.out 1
              refine skip_ (w1 := ?_) (by rfl) rfl ?_ ?_
              rotate_left
              ·go_simp
               rfl
              refine hK.out _ _ ⟨((cell_far (p := ⟨gb231, _, none⟩) (by first | exact nn_ (nl_ (by have := wb_ _ _ hw226_0; first | rwa [ak_] at this | exact this) GW231.out) | (rw [ak_]; exact nn_ (nl_ (by have := wb_ _ _ hw226_0; first | rwa [ak_] at this | exact this) GW231.out)) | (show (Addr.add _ _).block ≠ _; rw [ak_]; exact nn_ (nl_ (by have := wb_ _ _ hw226_0; first | rwa [ak_] at this | exact this) GW231.out)) | (dsimp only; exact nn_ (nl_ (by have := wb_ _ _ hw226_0; first | rwa [ak_] at this | exact this) GW231.out))) _).trans (((cell_far (p := ⟨gb231, _, none⟩) (by first | exact nn_ (nl_ (by have := wb_ _ _ hw226_0; first | rwa [ak_] at this | exact this) GW231.out) | (rw [ak_]; exact nn_ (nl_ (by have := wb_ _ _ hw226_0; first | rwa [ak_] at this | exact this) GW231.out)) | (show (Addr.add _ _).block ≠ _; rw [ak_]; exact nn_ (nl_ (by have := wb_ _ _ hw226_0; first | rwa [ak_] at this | exact this) GW231.out)) | (dsimp only; exact nn_ (nl_ (by have := wb_ _ _ hw226_0; first | rwa [ak_] at this | exact this) GW231.out))) _).trans (hHeld.1)))), ((cell_far (p := ⟨gb231, _, none⟩) (by first | exact nn_ (nl_ (by have := wb_ _ _ hw226_1; first | rwa [ak_] at this | exact this) GW231.out) | (rw [ak_]; exact nn_ (nl_ (by have := wb_ _ _ hw226_1; first | rwa [ak_] at this | exact this) GW231.out)) | (show (Addr.add _ _).block ≠ _; rw [ak_]; exact nn_ (nl_ (by have := wb_ _ _ hw226_1; first | rwa [ak_] at this | exact this) GW231.out)) | (dsimp only; exact nn_ (nl_ (by have := wb_ _ _ hw226_1; first | rwa [ak_] at this | exact this) GW231.out))) _).trans (((cell_far (p := ⟨gb231, _, none⟩) (by first | exact nn_ (nl_ (by have := wb_ _ _ hw226_1; first | rwa [ak_] at this | exact this) GW231.out) | (rw [ak_]; exact nn_ (nl_ (by have := wb_ _ _ hw226_1; first | rwa [ak_] at this | exact this) GW231.out)) | (show (Addr.add _ _).block ≠ _; rw [ak_]; exact nn_ (nl_ (by have := wb_ _ _ hw226_1; first | rwa [ak_] at this | exact this) GW231.out)) | (dsimp only; exact nn_ (nl_ (by have := wb_ _ _ hw226_1; first | rwa [ak_] at this | exact this) GW231.out))) _).trans (hHeld.2.1)))), ((cell_far (p := ⟨gb231, _, none⟩) (by first | exact nn_ (nl_ (by have := wb_ _ _ hw226_2; first | rwa [ak_] at this | exact this) GW231.out) | (rw [ak_]; exact nn_ (nl_ (by have := wb_ _ _ hw226_2; first | rwa [ak_] at this | exact this) GW231.out)) | (show (Addr.add _ _).block ≠ _; rw [ak_]; exact nn_ (nl_ (by have := wb_ _ _ hw226_2; first | rwa [ak_] at this | exact this) GW231.out)) | (dsimp only; exact nn_ (nl_ (by have := wb_ _ _ hw226_2; first | rwa [ak_] at this | exact this) GW231.out))) _).trans (((cell_far (p := ⟨gb231, _, none⟩) (by first | exact nn_ (nl_ (by have := wb_ _ _ hw226_2; first | rwa [ak_] at this | exact this) GW231.out) | (rw [ak_]; exact nn_ (nl_ (by have := wb_ _ _ hw226_2; first | rwa [ak_] at this | exact this) GW231.out)) | (show (Addr.add _ _).block ≠ _; rw [ak_]; exact nn_ (nl_ (by have := wb_ _ _ hw226_2; first | rwa [ak_] at this | exact this) GW231.out)) | (dsimp only; exact nn_ (nl_ (by have := wb_ _ _ hw226_2; first | rwa [ak_] at this | exact this) GW231.out))) _).trans (hHeld.2.2.1)))), ((cell_far (p := ⟨gb231, _, none⟩) (by first | exact nn_ (nl_ (by have := wb_ _ _ hw226_3; first | rwa [ak_] at this | exact this) GW231.out) | (rw [ak_]; exact nn_ (nl_ (by have := wb_ _ _ hw226_3; first | rwa [ak_] at this | exact this) GW231.out)) | (show (Addr.add _ _).block ≠ _; rw [ak_]; exact nn_ (nl_ (by have := wb_ _ _ hw226_3; first | rwa [ak_] at this | exact this) GW231.out)) | (dsimp only; exact nn_ (nl_ (by have := wb_ _ _ hw226_3; first | rwa [ak_] at this | exact this) GW231.out))) _).trans (((cell_far (p := ⟨gb231, _, none⟩) (by first | exact nn_ (nl_ (by have := wb_ _ _ hw226_3; first | rwa [ak_] at this | exact this) GW231.out) | (rw [ak_]; exact nn_ (nl_ (by have := wb_ _ _ hw226_3; first | rwa [ak_] at this | exact this) GW231.out)) | (show (Addr.add _ _).block ≠ _; rw [ak_]; exact nn_ (nl_ (by have := wb_ _ _ hw226_3; first | rwa [ak_] at this | exact this) GW231.out)) | (dsimp only; exact nn_ (nl_ (by have := wb_ _ _ hw226_3; first | rwa [ak_] at this | exact this) GW231.out))) _).trans (hHeld.2.2.2.1)))), ((cell_far (p := ⟨gb231, _, none⟩) (by first | exact nn_ (nl_ (by have := wb_ _ _ hw226_4; first | rwa [ak_] at this | exact this) GW231.out) | (rw [ak_]; exact nn_ (nl_ (by have := wb_ _ _ hw226_4; first | rwa [ak_] at this | exact this) GW231.out)) | (show (Addr.add _ _).block ≠ _; rw [ak_]; exact nn_ (nl_ (by have := wb_ _ _ hw226_4; first | rwa [ak_] at this | exact this) GW231.out)) | (dsimp only; exact nn_ (nl_ (by have := wb_ _ _ hw226_4; first | rwa [ak_] at this | exact this) GW231.out))) _).trans (((cell_far (p := ⟨gb231, _, none⟩) (by first | exact nn_ (nl_ (by have := wb_ _ _ hw226_4; first | rwa [ak_] at this | exact this) GW231.out) | (rw [ak_]; exact nn_ (nl_ (by have := wb_ _ _ hw226_4; first | rwa [ak_] at this | exact this) GW231.out)) | (show (Addr.add _ _).block ≠ _; rw [ak_]; exact nn_ (nl_ (by have := wb_ _ _ hw226_4; first | rwa [ak_] at this | exact this) GW231.out)) | (dsimp only; exact nn_ (nl_ (by have := wb_ _ _ hw226_4; first | rwa [ak_] at this | exact this) GW231.out))) _).trans (hHeld.2.2.2.2.1)))), ((cell_far (p := ⟨gb231, _, none⟩) (by first | exact nn_ (nl_ (by have := wb_ _ _ hw227_0; first | rwa [ak_] at this | exact this) GW231.out) | (rw [ak_]; exact nn_ (nl_ (by have := wb_ _ _ hw227_0; first | rwa [ak_] at this | exact this) GW231.out)) | (show (Addr.add _ _).block ≠ _; rw [ak_]; exact nn_ (nl_ (by have := wb_ _ _ hw227_0; first | rwa [ak_] at this | exact this) GW231.out)) | (dsimp only; exact nn_ (nl_ (by have := wb_ _ _ hw227_0; first | rwa [ak_] at this | exact this) GW231.out))) _).trans (((cell_far (p := ⟨gb231, _, none⟩) (by first | exact nn_ (nl_ (by have := wb_ _ _ hw227_0; first | rwa [ak_] at this | exact this) GW231.out) | (rw [ak_]; exact nn_ (nl_ (by have := wb_ _ _ hw227_0; first | rwa [ak_] at this | exact this) GW231.out)) | (show (Addr.add _ _).block ≠ _; rw [ak_]; exact nn_ (nl_ (by have := wb_ _ _ hw227_0; first | rwa [ak_] at this | exact this) GW231.out)) | (dsimp only; exact nn_ (nl_ (by have := wb_ _ _ hw227_0; first | rwa [ak_] at this | exact this) GW231.out))) _).trans (hHeld.2.2.2.2.2.1)))), ((cell_far (p := ⟨gb231, _, none⟩) (by first | exact nn_ (nl_ (by have := wb_ _ _ hw227_1; first | rwa [ak_] at this | exact this) GW231.out) | (rw [ak_]; exact nn_ (nl_ (by have := wb_ _ _ hw227_1; first | rwa [ak_] at this | exact this) GW231.out)) | (show (Addr.add _ _).block ≠ _; rw [ak_]; exact nn_ (nl_ (by have := wb_ _ _ hw227_1; first | rwa [ak_] at this | exact this) GW231.out)) | (dsimp only; exact nn_ (nl_ (by have := wb_ _ _ hw227_1; first | rwa [ak_] at this | exact this) GW231.out))) _).trans (((cell_far (p := ⟨gb231, _, none⟩) (by first | exact nn_ (nl_ (by have := wb_ _ _ hw227_1; first | rwa [ak_] at this | exact this) GW231.out) | (rw [ak_]; exact nn_ (nl_ (by have := wb_ _ _ hw227_1; first | rwa [ak_] at this | exact this) GW231.out)) | (show (Addr.add _ _).block ≠ _; rw [ak_]; exact nn_ (nl_ (by have := wb_ _ _ hw227_1; first | rwa [ak_] at this | exact this) GW231.out)) | (dsimp only; exact nn_ (nl_ (by have := wb_ _ _ hw227_1; first | rwa [ak_] at this | exact this) GW231.out))) _).trans (hHeld.2.2.2.2.2.2.1)))), ((cell_far (p := ⟨gb231, _, none⟩) (by first | exact nn_ (nl_ (by have := wb_ _ _ hw227_2; first | rwa [ak_] at this | exact this) GW231.out) | (rw [ak_]; exact nn_ (nl_ (by have := wb_ _ _ hw227_2; first | rwa [ak_] at this | exact this) GW231.out)) | (show (Addr.add _ _).block ≠ _; rw [ak_]; exact nn_ (nl_ (by have := wb_ _ _ hw227_2; first | rwa [ak_] at this | exact this) GW231.out)) | (dsimp only; exact nn_ (nl_ (by have := wb_ _ _ hw227_2; first | rwa [ak_] at this | exact this) GW231.out))) _).trans (((cell_far (p := ⟨gb231, _, none⟩) (by first | exact nn_ (nl_ (by have := wb_ _ _ hw227_2; first | rwa [ak_] at this | exact this) GW231.out) | (rw [ak_]; exact nn_ (nl_ (by have := wb_ _ _ hw227_2; first | rwa [ak_] at this | exact this) GW231.out)) | (show (Addr.add _ _).block ≠ _; rw [ak_]; exact nn_ (nl_ (by have := wb_ _ _ hw227_2; first | rwa [ak_] at this | exact this) GW231.out)) | (dsimp only; exact nn_ (nl_ (by have := wb_ _ _ hw227_2; first | rwa [ak_] at this | exact this) GW231.out))) _).trans (hHeld.2.2.2.2.2.2.2.1)))), ((cell_far (p := ⟨gb231, _, none⟩) (by first | exact nn_ (nl_ (by have := wb_ _ _ hw227_3; first | rwa [ak_] at this | exact this) GW231.out) | (rw [ak_]; exact nn_ (nl_ (by have := wb_ _ _ hw227_3; first | rwa [ak_] at this | exact this) GW231.out)) | (show (Addr.add _ _).block ≠ _; rw [ak_]; exact nn_ (nl_ (by have := wb_ _ _ hw227_3; first | rwa [ak_] at this | exact this) GW231.out)) | (dsimp only; exact nn_ (nl_ (by have := wb_ _ _ hw227_3; first | rwa [ak_] at this | exact this) GW231.out))) _).trans (((cell_far (p := ⟨gb231, _, none⟩) (by first | exact nn_ (nl_ (by have := wb_ _ _ hw227_3; first | rwa [ak_] at this | exact this) GW231.out) | (rw [ak_]; exact nn_ (nl_ (by have := wb_ _ _ hw227_3; first | rwa [ak_] at this | exact this) GW231.out)) | (show (Addr.add _ _).block ≠ _; rw [ak_]; exact nn_ (nl_ (by have := wb_ _ _ hw227_3; first | rwa [ak_] at this | exact this) GW231.out)) | (dsimp only; exact nn_ (nl_ (by have := wb_ _ _ hw227_3; first | rwa [ak_] at this | exact this) GW231.out))) _).trans (hHeld.2.2.2.2.2.2.2.2.1)))), ((cell_far (p := ⟨gb231, _, none⟩) (by first | exact nn_ (nl_ (by have := wb_ _ _ hw227_4; first | rwa [ak_] at this | exact this) GW231.out) | (rw [ak_]; exact nn_ (nl_ (by have := wb_ _ _ hw227_4; first | rwa [ak_] at this | exact this) GW231.out)) | (show (Addr.add _ _).block ≠ _; rw [ak_]; exact nn_ (nl_ (by have := wb_ _ _ hw227_4; first | rwa [ak_] at this | exact this) GW231.out)) | (dsimp only; exact nn_ (nl_ (by have := wb_ _ _ hw227_4; first | rwa [ak_] at this | exact this) GW231.out))) _).trans (((cell_far (p := ⟨gb231, _, none⟩) (by first | exact nn_ (nl_ (by have := wb_ _ _ hw227_4; first | rwa [ak_] at this | exact this) GW231.out) | (rw [ak_]; exact nn_ (nl_ (by have := wb_ _ _ hw227_4; first | rwa [ak_] at this | exact this) GW231.out)) | (show (Addr.add _ _).block ≠ _; rw [ak_]; exact nn_ (nl_ (by have := wb_ _ _ hw227_4; first | rwa [ak_] at this | exact this) GW231.out)) | (dsimp only; exact nn_ (nl_ (by have := wb_ _ _ hw227_4; first | rwa [ak_] at this | exact this) GW231.out))) _).trans (hHeld.2.2.2.2.2.2.2.2.2))))⟩ (fun hHeld => ?_)
              clear hK K
              refine pure_ (i := 17) (N := some 11) (v := ?_) (a' := ?_) #[true, true, true, true, true, true, true, true, true, true, true, true, true, true, true, true, true, true] rfl rfl (any_of HT_.out (by kernel_rfl)) (fun _ _ _ h => h) (Or.inl ⟨by rfl, ?_⟩) ?_ ?_
              rotate_left; (intro w'; go_simp; with_reducible rfl); rotate_left; (simp only [Act.put, ls_, lz_, lc_, i64_w, i32_w]; rfl)
              refine done_ (done_of HT_.out (by kernel_rfl)) ?_
              have hcz49_0 : w46.cell? ⟨gb231, 0, none⟩ = some (.int .i64 0) := (kc_ BK231.out 0).trans rfl
              have hcz49_1 : w46.cell? ⟨gb231, 1, none⟩ = some (.int .i64 0) := (kc_ BK231.out 1).trans rfl
              have hfz49_0 := kf_ BK231.out 0
              have hfz49_1 := kf_ BK231.out 1
              try go_wp2_with (first | ((with_reducible refine gate_callee (f := 8) rfl ?_); refine goesL_ (some 58) rfl rfl Try.func8 (by kernel_rfl) rfl #[.agg #[.int .i64 t228, .int .i64 t229]] rfl (by (try simp only [lm_, lq_, lx_]); first | done | rfl | (simp only [ld_, lt_]; rfl)) ?_; (with_reducible refine (neumeref28_Ideal.calls k2 t228 t229 t232 t233 _ A19.out).mono ?_); rintro e w50 ⟨rfl, hb⟩; refine ⟨_, rfl, ?_⟩; have n0_ := sd_ (Kd.R_below (by (with_reducible repeat (first | apply Kd.R_alloc | apply Kd.R_drewN | apply Kd.R_drew)); exact (Kd.R_mono (Kd.R_far (p := ⟨gb231, 1, none⟩) (Kd.R_far (p := ⟨gb231, 0, none⟩) (Kd.R_types HO_8.out BK231.out (by decide)) (fun _ hk => hk.2) (.int .i64 t228)) (fun _ hk => hk.2) (.int .i64 t229)) (fun _ h_ => h_.1))) hb); have n1_ := sd_ (blk_below (g := gb231) (o := .cells #[.int .i64 t228, .int .i64 t229] 23 (0, 0)) (by (with_reducible repeat (first | refine kn_ ?_ _ | refine kd_ ?_ | refine ka_ ?_ _)); refine blk_put (cs := #[.int .i64 t228, .int .i64 0]) ?_ 1 _ rfl; (with_reducible repeat (first | refine kn_ ?_ _ | refine kd_ ?_ | refine ka_ ?_ _)); refine blk_put (cs := #[.int .i64 0, .int .i64 0]) ?_ 0 _ rfl; (with_reducible repeat (first | refine kn_ ?_ _ | refine kd_ ?_ | refine ka_ ?_ _)); exact BK231.out) hb); have n2_ := sd_ (bt_ (by repeat first | exact HB.out | apply ba_ | apply pd_ | apply d1_ | refine bs_ ?_ GE231.out) hb); clear HO_8; clear BK231; clear HB; have HO_8 := n0_; have BK231 := n1_; have HB := n2_; clear n0_ n1_ n2_; (try clear hb); (try clear hb2); (try clear hk); (try clear hi)) | ((with_reducible refine gate_builtin (b := .append) (xs := #[.tmp 67, .tmp 69]) rfl ?_); (try (refine gate_guard (by rfl) ?_; dsimp only)); at_builtin; refine Kd.R_append (Kd.int .i64) (w0 := w) w.heap.size rfl (.tmp 67) (.tmp 69) 31 3 (.int .i64 0) 8 rfl Try.underlying31 info3 rfl (by decide) (by omega) u8 x8_2 600 [.int .i64 600] (fun _ => True) (fun _ => False) rfl rfl ?aP (fun _ hk => hk.elim) ?aF ?aO ?aB ?aS ?aL ?_; (case aP => exact rfl); (case aB => exact (by repeat first | exact HB.out | apply ba_ | apply pd_ | apply d1_ | refine bs_ ?_ GE231.out)); (case aF => exact (fun _ _ => trivial)); (case aO => exact (by (with_reducible repeat (first | apply Kd.R_alloc | apply Kd.R_drewN | apply Kd.R_drew)); exact HO_8.out)); (case aS => exact (bz_ (by repeat first | exact HB.out | apply ba_ | apply pd_ | apply d1_ | refine bs_ ?_ GE231.out))); (case aL => have := LMc42.out; omega); intro v241 w51 ho hb hg hat; rw [← Ny240.out] at ho; have n0_ := sd_ (blk_grown (g := gb231) (o := .cells #[.int .i64 t228, .int .i64 t229] 23 (0, 0)) (by (with_reducible repeat (first | refine kn_ ?_ _ | refine kd_ ?_ | refine ka_ ?_ _)); exact BK231.out) hg (Kd.R_ne HO_8.out BK231.out (by decide))); have n1_ := sd_ (hb); have n2_ := sd_ (ho); clear BK231; clear HB; clear HO_8; have BK231 := n0_; have HB := n1_; have HO242 := n2_; clear n0_ n1_ n2_; clear ho hb hg hat))
              go_roundg k2
              case measure => have := HJ3.out; have := HK2.out; omega
              case rel => exact ⟨(y240), (ji15), (by first | rfl | (simp; done) | (simp only [← hji15] <;> (first | rfl | simp)) | (simp [*]; done)), H', ⟨by have := HJ3.out; have := HK2.out; omega⟩, ⟨by (with_reducible repeat (first | apply Kd.R_alloc | apply Kd.R_drewN | apply Kd.R_drew)); exact HO242.out⟩, ⟨by repeat first | exact HB.out | apply ba_ | apply pd_ | apply d1_ | refine bs_ ?_ GE231.out⟩⟩
             ·rw [if_neg c42] at H
              exact absurd H (by simp)
           ·rw [if_neg c17] at H
            exact absurd H (by simp)
          ·rw [if_neg c16] at H
           exact absurd H (by simp)
        ·rw [if_neg c10] at H
         exact absurd H (by simp)
       ·rw [if_neg c9] at H
        exact absurd H (by simp)
      ·rw [if_neg c8] at H
       have c8b0 : decide (x9_2 < a2) = false := df_ c8
       clear c8
       simp only [Option.some.injEq, Prod.mk.injEq] at H
       obtain ⟨rfl, rfl⟩ := H
       go_wp2
       go_ret2
       exact ⟨_, by first | rfl | (simp [errW_none, errW_some] <;> rfl) | (simp [*, errW_none, errW_some] <;> rfl), by (with_reducible repeat (first | apply Kd.R_alloc | apply Kd.R_drewN | apply Kd.R_drew)); exact HO_8.out, by repeat first | exact HB.out | apply ba_ | apply pd_ | apply d1_⟩

end Go.Proofs.Ytcbeibmoblgaeaa.P
