-- Written by a program of this session (wip/tools/xprint.py, over the kit's print): Lean checks it.
import Derived.Test.YtchmcljinkemaaaPx0
import Derived.Test.YtchmcljinkemaaaPx5
namespace Go.Proofs.Ytchmcljinkemaaa.P
open Go.RowKit Go.Proofs.YtchmcljinkemaaaW.PrintWords Go.Proofs.YtchmcljinkemaaaW.PrintLast Go.Proofs.YtchmcljinkemaaaW.PrintMore
attribute [local go_sem] max2_int min2_int max_two min_two max_three min_three max_four min_four   -- for this text's walks alone
set_option linter.unusedVariables false
set_option linter.unusedSimpArgs false

/-! ### neumelaw24_moved: function 17 -/
def neumelaw24_moved.l0 : Nat → List (S45) → Int → List (S45) → Int → Option ((List (S45)))
 | 0, _, _, _, _ => none
 | k + 1, x0, x1, x5, x6 => if x6 < (x0.length : Int) then (if 0 ≤ x6 then (if x5.length < 4398046511104 then (neumelaw24_moved.l0 k x0 x1 (x5 ++ [(⟨wrap64 (((rd_T45 x0 x6).f0) + x1), (rd_T45 x0 x6).f1, wrap64 (((rd_T45 x0 x6).f2) + x1), (rd_T45 x0 x6).f3⟩ : S45)]) (wrap64 (x6 + 1))) else (none)) else (none)) else (some x5)
def neumelaw24_moved.f (k : Nat) (l0 : List (S45)) (a1 : Int) : Option ((List (S45))) := neumelaw24_moved.l0 k l0 a1 ([] : List (S45)) 0
theorem neumelaw24_moved.mono_l : ∀ k, (∀ y0 y1 y2 y3, LeO (neumelaw24_moved.l0 k y0 y1 y2 y3) (neumelaw24_moved.l0 (k + 1) y0 y1 y2 y3))
 | 0 => fun _ _ _ _ r h => by simp [neumelaw24_moved.l0] at h
 | k + 1 => by
  have ih0 := neumelaw24_moved.mono_l k
  ·intro y0 y1 y2 y3
   unfold neumelaw24_moved.l0
   repeat' first
   | (with_reducible exact ih0 _ _ _ _)
   | (with_reducible exact LeO.refl _)
   | (with_reducible exact LeO.none _)
   | (with_reducible refine LeO.ite ?_ ?_)
   | (with_reducible refine LeO.bind ?_ (fun _ => ?_))
   | exact ih0 _ _ _ _
   | exact LeO.none _
   | refine LeO.ite ?_ ?_
   | refine LeO.bind ?_ (fun _ => ?_)
theorem neumelaw24_moved.mono : ∀ a0 a1 k, LeO (neumelaw24_moved.f k a0 a1) (neumelaw24_moved.f (k + 1) a0 a1) := by
 intro a0 a1 k
 have ih0 := neumelaw24_moved.mono_l k
 unfold neumelaw24_moved.f
 repeat' first
   | (with_reducible exact ih0 _ _ _ _)
   | (with_reducible exact LeO.refl _)
   | (with_reducible exact LeO.none _)
   | (with_reducible refine LeO.ite ?_ ?_)
   | (with_reducible refine LeO.bind ?_ (fun _ => ?_))
   | exact ih0 _ _ _ _
   | exact LeO.none _
   | refine LeO.ite ?_ ?_
   | refine LeO.bind ?_ (fun _ => ?_)
def neumelaw24_moved.T5 : Bool × List (List Nat × List Nat) := (true, [([], []), ([], []), ([], []), ([1, 2], [1, 2]), ([3], [3]), ([4], [4]), ([], []), ([5, 6], [5, 6]), ([], []), ([], []), ([8, 9], [8, 9]), ([10], [10]), ([11], [11]), ([], []), ([], []), ([13, 14], [13, 14]), ([15], [15]), ([16], [16]), ([], []), ([17, 18], [17, 18]), ([], []), ([], []), ([20, 21], [20, 21]), ([22], [22]), ([23], [23]), ([7, 12, 19, 24], [7, 12, 19, 24]), ([25], [25]), ([0, 26], [0, 26]), ([27, 27, 0, 1, 2, 3, 4, 5, 6, 7, 8, 9, 10, 11, 12, 13, 14, 15, 16, 17, 18, 19, 20, 21, 22, 23, 24, 25, 26, 27], [0, 27])])
def neumelaw24_moved.B5 : List Nat := [0, 0, 0, 6, 14, 30, 0, 126, 0, 0, 768, 1792, 3840, 0, 0, 24576, 57344, 122880, 0, 516096, 0, 0, 3145728, 7340032, 15728640, 33554430, 67108862, 134217727, 268435455]
theorem neumelaw24_moved.tab5 : rtab .any (opsOf Try.f17 5) = neumelaw24_moved.T5 := by kernel_rfl
theorem neumelaw24_moved.bits5 : waitsOk neumelaw24_moved.T5.2 neumelaw24_moved.B5 = true := by kernel_rfl
set_option maxHeartbeats 8000000 in
set_option maxRecDepth 100000 in
theorem neumelaw24_moved.calls (k : Nat) (A0 : Option Addr) (c0 : Nat) (l0 : List (S45)) (a1 : Int) (r : List (S45)) (w : World) (hr0 : Kd.C k45 w A0 l0.length l0) (hc0 : l0.length ≤ c0) (h : neumelaw24_moved.f k l0 a1 = some r) :
  Calls Try.prog 17 #[.slice A0 l0.length c0, .int .i64 a1] w fun e w' => ∃ v0_ : Value, e = .returned (v0_) ∧ Kd.R k45 45 w' w.heap.size (fun _ => True) v0_ r ∧ Below w.heap.size w w' := by
 have hu45 := Try.underlying45
 have HR0 := sd_ hr0
 have HC0 := sd_ hc0
 clear hr0 hc0
 have HB := sd_ (Below.refl w.heap.size w)
 have H : (neumelaw24_moved.l0 k l0 a1 ([] : List (S45)) 0) = some r := h
 clear h
 have H' := sd_ H
 clear H
 go_enter Try.func17, Try.ntmps17
 go_wp2
 go_loopg [5, 6] k (fun kq v5 v6 w' => ∃ (x5_1 : List (S45)) (x6_1 : Int), v6 = .int .i64 x6_1 ∧ Aside0 (neumelaw24_moved.l0 kq l0 a1 x5_1 x6_1 = some r) ∧ Aside0 (kq ≤ k) ∧ Aside0 (Kd.R k45 45 w' w.heap.size (fun _ => True) v5 x5_1) ∧ Aside0 (Below w.heap.size w w'))
 case atStart => exact ⟨(([] : List (S45))), (0), (by first | rfl | (simp; done) | (simp [*]; done) | (simp [bne]; done)), H', ⟨Nat.le_refl _⟩, ⟨by first | exact Kd.R_nil _ _ _ _ _ | exact Kd.N_nil _ _ _ _ _ | exact Kd.V_nil _ _ _ _ _ | exact Kd.Q_nil _ _ _ _ _ | exact Kd.S_nil _ _ _ _ _⟩, ⟨by repeat (first | (with_reducible first | exact HB.out | apply ba_ | apply pd_ | apply d1_) | exact HB.out)⟩⟩
 case round =>
  clear H'
  try clear c1; try clear p2
  obtain ⟨x5_1, x6_1, rfl, HA, HK1, HO_5, HB⟩ := hrel
  cases gk with
  | zero => exact absurd HA.out (by simp [neumelaw24_moved.l0])
  | succ k1 =>
   have H := HA.out
   clear HA
   simp only [neumelaw24_moved.l0] at H
   by_cases c3 : x6_1 < (l0.length : Int)
   ·rw [if_pos c3] at H
    have c3b0 : decide (x6_1 < (l0.length : Int)) = true := dt_ c3
    clear c3
    by_cases c4 : 0 ≤ x6_1
    ·rw [if_pos c4] at H
     have c4b0 : decide (0 ≤ x6_1) = true := dt_ c4
     clear c4
     by_cases c5 : x5_1.length < 4398046511104
     ·rw [if_pos c5] at H
      have LMc5 := sd_ c5
      clear c5
      obtain ⟨y331, hy331⟩ : ∃ y_ : List (S45), y_ = (x5_1 ++ [(⟨wrap64 (((rd_T45 l0 x6_1).f0) + a1), (rd_T45 l0 x6_1).f1, wrap64 (((rd_T45 l0 x6_1).f2) + a1), (rd_T45 l0 x6_1).f3⟩ : S45)]) := ⟨_, rfl⟩
      replace H : (neumelaw24_moved.l0 k1 l0 a1 y331 (wrap64 (x6_1 + 1))) = some r := by first | (rw [hy331]; with_reducible exact H) | (have H2_ := (Option.bind_some _ _).symm.trans H; rw [hy331]; with_reducible exact H2_) | (have H2_ := (Option.bind_some _ _).symm.trans H; with_reducible exact H2_) | with_reducible exact H | (rw [hy331]; exact H) | exact H
      have Ny331 := sd_ hy331
      clear hy331
      have H' := sd_ H
      clear H
      try go_wp2
      replace HO_5 := sd_ (Kd.R_drew HO_5.out)
      replace HB := sd_ (d1_ HB.out)
      have p327 : 0 ≤ (x6_1 : Int) := od_ (by first | (with_reducible assumption) | assumption)
      have q327 : x6_1 < (l0.length : Int) := od_ (by first | (with_reducible assumption) | assumption)
      obtain ⟨ad327, e327, hx327_0, hx327_1, hx327_2, hx327_3⟩ := at_T45 HR0.out x6_1 p327 q327
      have hw327_3 := hx327_3
      have hw327_2 := hx327_2
      have hw327_1 := hx327_1
      have hw327_0 := hx327_0
      cases e327
      replace hx327_0 := (HB.out.cell (wb_ w _ hx327_0)).trans hx327_0
      replace hx327_1 := (HB.out.cell (wb_ w _ hx327_1)).trans hx327_1
      replace hx327_2 := (HB.out.cell (wb_ w _ hx327_2)).trans hx327_2
      replace hx327_3 := (HB.out.cell (wb_ w _ hx327_3)).trans hx327_3
      replace p327 := eq_true p327
      replace q327 := eq_true q327
      have p328 : 0 ≤ (x6_1 : Int) := od_ (by first | (with_reducible assumption) | assumption)
      have q328 : x6_1 < (l0.length : Int) := od_ (by first | (with_reducible assumption) | assumption)
      obtain ⟨ad328, e328, hx328_0, hx328_1, hx328_2, hx328_3⟩ := at_T45 HR0.out x6_1 p328 q328
      have hw328_3 := hx328_3
      have hw328_2 := hx328_2
      have hw328_1 := hx328_1
      have hw328_0 := hx328_0
      obtain rfl : ad327 = ad328 := (by injection e328)
      replace hx328_0 := (HB.out.cell (wb_ w _ hx328_0)).trans hx328_0
      replace hx328_1 := (HB.out.cell (wb_ w _ hx328_1)).trans hx328_1
      replace hx328_2 := (HB.out.cell (wb_ w _ hx328_2)).trans hx328_2
      replace hx328_3 := (HB.out.cell (wb_ w _ hx328_3)).trans hx328_3
      replace p328 := eq_true p328
      replace q328 := eq_true q328
      have p329 : 0 ≤ (x6_1 : Int) := od_ (by first | (with_reducible assumption) | assumption)
      have q329 : x6_1 < (l0.length : Int) := od_ (by first | (with_reducible assumption) | assumption)
      obtain ⟨ad329, e329, hx329_0, hx329_1, hx329_2, hx329_3⟩ := at_T45 HR0.out x6_1 p329 q329
      have hw329_3 := hx329_3
      have hw329_2 := hx329_2
      have hw329_1 := hx329_1
      have hw329_0 := hx329_0
      obtain rfl : ad327 = ad329 := (by injection e329)
      replace hx329_0 := (HB.out.cell (wb_ w _ hx329_0)).trans hx329_0
      replace hx329_1 := (HB.out.cell (wb_ w _ hx329_1)).trans hx329_1
      replace hx329_2 := (HB.out.cell (wb_ w _ hx329_2)).trans hx329_2
      replace hx329_3 := (HB.out.cell (wb_ w _ hx329_3)).trans hx329_3
      replace p329 := eq_true p329
      replace q329 := eq_true q329
      have p330 : 0 ≤ (x6_1 : Int) := od_ (by first | (with_reducible assumption) | assumption)
      have q330 : x6_1 < (l0.length : Int) := od_ (by first | (with_reducible assumption) | assumption)
      obtain ⟨ad330, e330, hx330_0, hx330_1, hx330_2, hx330_3⟩ := at_T45 HR0.out x6_1 p330 q330
      have hw330_3 := hx330_3
      have hw330_2 := hx330_2
      have hw330_1 := hx330_1
      have hw330_0 := hx330_0
      obtain rfl : ad327 = ad330 := (by injection e330)
      replace hx330_0 := (HB.out.cell (wb_ w _ hx330_0)).trans hx330_0
      replace hx330_1 := (HB.out.cell (wb_ w _ hx330_1)).trans hx330_1
      replace hx330_2 := (HB.out.cell (wb_ w _ hx330_2)).trans hx330_2
      replace hx330_3 := (HB.out.cell (wb_ w _ hx330_3)).trans hx330_3
      replace p330 := eq_true p330
      replace q330 := eq_true q330
      refine start_ (n := 29) (S := fun w' => w'.cell? (ad327.add ((x6_1).toNat * 4)) = some (.int .i64 ((rd_T45 l0 x6_1).f0)) ∧ w'.cell? ⟨(ad327.add ((x6_1).toNat * 4)).block, (ad327.add ((x6_1).toNat * 4)).off + 1, none⟩ = some (.int .i64 ((rd_T45 l0 x6_1).f1)) ∧ w'.cell? ⟨(ad327.add ((x6_1).toNat * 4)).block, (ad327.add ((x6_1).toNat * 4)).off + 2, none⟩ = some (.int .i64 ((rd_T45 l0 x6_1).f2)) ∧ w'.cell? ⟨(ad327.add ((x6_1).toNat * 4)).block, (ad327.add ((x6_1).toNat * 4)).off + 3, none⟩ = some (.int .i64 ((rd_T45 l0 x6_1).f3)) ∧ w'.cell? (ad327.add ((x6_1).toNat * 4)) = some (.int .i64 ((rd_T45 l0 x6_1).f0)) ∧ w'.cell? ⟨(ad327.add ((x6_1).toNat * 4)).block, (ad327.add ((x6_1).toNat * 4)).off + 1, none⟩ = some (.int .i64 ((rd_T45 l0 x6_1).f1)) ∧ w'.cell? ⟨(ad327.add ((x6_1).toNat * 4)).block, (ad327.add ((x6_1).toNat * 4)).off + 2, none⟩ = some (.int .i64 ((rd_T45 l0 x6_1).f2)) ∧ w'.cell? ⟨(ad327.add ((x6_1).toNat * 4)).block, (ad327.add ((x6_1).toNat * 4)).off + 3, none⟩ = some (.int .i64 ((rd_T45 l0 x6_1).f3)) ∧ w'.cell? (ad327.add ((x6_1).toNat * 4)) = some (.int .i64 ((rd_T45 l0 x6_1).f0)) ∧ w'.cell? ⟨(ad327.add ((x6_1).toNat * 4)).block, (ad327.add ((x6_1).toNat * 4)).off + 1, none⟩ = some (.int .i64 ((rd_T45 l0 x6_1).f1)) ∧ w'.cell? ⟨(ad327.add ((x6_1).toNat * 4)).block, (ad327.add ((x6_1).toNat * 4)).off + 2, none⟩ = some (.int .i64 ((rd_T45 l0 x6_1).f2)) ∧ w'.cell? ⟨(ad327.add ((x6_1).toNat * 4)).block, (ad327.add ((x6_1).toNat * 4)).off + 3, none⟩ = some (.int .i64 ((rd_T45 l0 x6_1).f3)) ∧ w'.cell? (ad327.add ((x6_1).toNat * 4)) = some (.int .i64 ((rd_T45 l0 x6_1).f0)) ∧ w'.cell? ⟨(ad327.add ((x6_1).toNat * 4)).block, (ad327.add ((x6_1).toNat * 4)).off + 1, none⟩ = some (.int .i64 ((rd_T45 l0 x6_1).f1)) ∧ w'.cell? ⟨(ad327.add ((x6_1).toNat * 4)).block, (ad327.add ((x6_1).toNat * 4)).off + 2, none⟩ = some (.int .i64 ((rd_T45 l0 x6_1).f2)) ∧ w'.cell? ⟨(ad327.add ((x6_1).toNat * 4)).block, (ad327.add ((x6_1).toNat * 4)).off + 3, none⟩ = some (.int .i64 ((rd_T45 l0 x6_1).f3))) (ds := []) (Array.replicate 29 false) (by kernel_rfl) rfl rfl ⟨((HB.out.cell (wb_ w _ hw327_0)).trans hw327_0), ((HB.out.cell (wb_ w _ hw327_1)).trans hw327_1), ((HB.out.cell (wb_ w _ hw327_2)).trans hw327_2), ((HB.out.cell (wb_ w _ hw327_3)).trans hw327_3), ((HB.out.cell (wb_ w _ hw328_0)).trans hw328_0), ((HB.out.cell (wb_ w _ hw328_1)).trans hw328_1), ((HB.out.cell (wb_ w _ hw328_2)).trans hw328_2), ((HB.out.cell (wb_ w _ hw328_3)).trans hw328_3), ((HB.out.cell (wb_ w _ hw329_0)).trans hw329_0), ((HB.out.cell (wb_ w _ hw329_1)).trans hw329_1), ((HB.out.cell (wb_ w _ hw329_2)).trans hw329_2), ((HB.out.cell (wb_ w _ hw329_3)).trans hw329_3), ((HB.out.cell (wb_ w _ hw330_0)).trans hw330_0), ((HB.out.cell (wb_ w _ hw330_1)).trans hw330_1), ((HB.out.cell (wb_ w _ hw330_2)).trans hw330_2), ((HB.out.cell (wb_ w _ hw330_3)).trans hw330_3)⟩ (fun hHeld => ?_); refine with_tabW neumelaw24_moved.tab5 neumelaw24_moved.bits5 (fun HT_ HW_ => ?_)
      generalize wr.drew = w6 at HO_5 HB hx327_0 hx327_1 hx327_2 hx327_3 hx328_0 hx328_1 hx328_2 hx328_3 hx329_0 hx329_1 hx329_2 hx329_3 hx330_0 hx330_1 hx330_2 hx330_3 hHeld ⊢
      refine pu_ (v := ?_) (a' := ?_) 0 13 (bz 29 1) rfl rfl HT_ (by kernel_rfl) (fun _ _ _ h => h) (by rfl) ?_ ?_ ?_
      rotate_left; (intro w'; go_simp; with_reducible rfl); rotate_left; (simp only [Act.put, ls_, lz_, lc_, i64_w, i32_w]; rfl)
      refine pu_ (v := ?_) (a' := ?_) 1 14 (bz 29 3) rfl rfl HT_ (by kernel_rfl) (fun _ _ _ h => h) (by rfl) ?_ ?_ ?_
      rotate_left; (intro w'; go_simp; with_reducible rfl); rotate_left; (simp only [Act.put, ls_, lz_, lc_, i64_w, i32_w]; rfl)
      refine pu_ (v := ?_) (a' := ?_) 2 15 (bz 29 7) rfl rfl HT_ (by kernel_rfl) (fun _ _ _ h => h) (by rfl) ?_ ?_ ?_
      rotate_left; (intro w'; go_simp; with_reducible rfl); rotate_left; (simp only [Act.put, ls_, lz_, lc_, i64_w, i32_w]; rfl)
      refine pu_ (v := ?_) (a' := ?_) 3 16 (bz 29 15) rfl rfl HT_ (by kernel_rfl) (fun _ _ _ h => h) (by rfl) ?_ ?_ ?_
      rotate_left; (intro w'; go_simp; with_reducible rfl); rotate_left; (simp only [Act.put, ls_, lz_, lc_, i64_w, i32_w]; rfl)
      refine pu_ (v := ?_) (a' := ?_) 4 17 (bz 29 31) rfl rfl HT_ (by kernel_rfl) (fun _ _ _ h => h) (by rfl) ?_ ?_ ?_
      rotate_left; (intro w'; go_simp; with_reducible rfl); rotate_left; (simp only [Act.put, ls_, lz_, lc_, i64_w, i32_w]; rfl)
      refine pu_ (v := ?_) (a' := ?_) 6 19 (bz 29 95) rfl rfl HT_ (by kernel_rfl) (fun _ _ _ h => h) (by rfl) ?_ ?_ ?_
      rotate_left; (intro w'; go_simp; with_reducible rfl); rotate_left; (simp only [Act.put, ls_, lz_, lc_, i64_w, i32_w]; rfl)
      refine pu_ (v := ?_) (a' := ?_) 8 21 (bz 29 351) rfl rfl HT_ (by kernel_rfl) (fun _ _ _ h => h) (by rfl) ?_ ?_ ?_
      rotate_left; (intro w'; go_simp; with_reducible rfl); rotate_left; (simp only [Act.put, ls_, lz_, lc_, i64_w, i32_w]; rfl)
      refine pu_ (v := ?_) (a' := ?_) 9 22 (bz 29 863) rfl rfl HT_ (by kernel_rfl) (fun _ _ _ h => h) (by rfl) ?_ ?_ ?_
      rotate_left; (intro w'; go_simp; with_reducible rfl); rotate_left; (simp only [Act.put, ls_, lz_, lc_, i64_w, i32_w]; rfl)
      refine pu_ (v := ?_) (a' := ?_) 10 23 (bz 29 1887) rfl rfl HT_ (by kernel_rfl) (fun _ _ _ h => h) (by rfl) ?_ ?_ ?_
      rotate_left; (intro w'; go_simp; with_reducible rfl); rotate_left; (simp only [Act.put, ls_, lz_, lc_, i64_w, i32_w]; rfl)
      refine pu_ (v := ?_) (a' := ?_) 11 24 (bz 29 3935) rfl rfl HT_ (by kernel_rfl) (fun _ _ _ h => h) (by rfl) ?_ ?_ ?_
      rotate_left; (intro w'; go_simp; with_reducible rfl); rotate_left; (simp only [Act.put, ls_, lz_, lc_, i64_w, i32_w]; rfl)
      refine pu_ (v := ?_) (a' := ?_) 13 26 (bz 29 12127) rfl rfl HT_ (by kernel_rfl) (fun _ _ _ h => h) (by rfl) ?_ ?_ ?_
      rotate_left; (intro w'; go_simp; with_reducible rfl); rotate_left; (simp only [Act.put, ls_, lz_, lc_, i64_w, i32_w]; rfl)
      refine pu_ (v := ?_) (a' := ?_) 14 27 (bz 29 28511) rfl rfl HT_ (by kernel_rfl) (fun _ _ _ h => h) (by rfl) ?_ ?_ ?_
      rotate_left; (intro w'; go_simp; with_reducible rfl); rotate_left; (simp only [Act.put, ls_, lz_, lc_, i64_w, i32_w]; rfl)
      refine pu_ (v := ?_) (a' := ?_) 15 28 (bz 29 61279) rfl rfl HT_ (by kernel_rfl) (fun _ _ _ h => h) (by rfl) ?_ ?_ ?_
      rotate_left; (intro w'; go_simp; with_reducible rfl); rotate_left; (simp only [Act.put, ls_, lz_, lc_, i64_w, i32_w]; rfl)
      refine pu_ (v := ?_) (a' := ?_) 16 29 (bz 29 126815) rfl rfl HT_ (by kernel_rfl) (fun _ _ _ h => h) (by rfl) ?_ ?_ ?_
      rotate_left; (intro w'; go_simp; with_reducible rfl); rotate_left; (simp only [Act.put, ls_, lz_, lc_, i64_w, i32_w]; rfl)
      refine pu_ (v := ?_) (a' := ?_) 18 31 (bz 29 388959) rfl rfl HT_ (by kernel_rfl) (fun _ _ _ h => h) (by rfl) ?_ ?_ ?_
      rotate_left; (intro w'; go_simp; with_reducible rfl); rotate_left; (simp only [Act.put, ls_, lz_, lc_, i64_w, i32_w]; rfl)
      refine pu_ (v := ?_) (a' := ?_) 20 33 (bz 29 1437535) rfl rfl HT_ (by kernel_rfl) (fun _ _ _ h => h) (by rfl) ?_ ?_ ?_
      rotate_left; (intro w'; go_simp; with_reducible rfl); rotate_left; (simp only [Act.put, ls_, lz_, lc_, i64_w, i32_w]; rfl)
      refine pu_ (v := ?_) (a' := ?_) 21 34 (bz 29 3534687) rfl rfl HT_ (by kernel_rfl) (fun _ _ _ h => h) (by rfl) ?_ ?_ ?_
      rotate_left; (intro w'; go_simp; with_reducible rfl); rotate_left; (simp only [Act.put, ls_, lz_, lc_, i64_w, i32_w]; rfl)
      refine pu_ (v := ?_) (a' := ?_) 22 35 (bz 29 7728991) rfl rfl HT_ (by kernel_rfl) (fun _ _ _ h => h) (by rfl) ?_ ?_ ?_
      rotate_left; (intro w'; go_simp; with_reducible rfl); rotate_left; (simp only [Act.put, ls_, lz_, lc_, i64_w, i32_w]; rfl)
      refine pu_ (v := ?_) (a' := ?_) 23 36 (bz 29 16117599) rfl rfl HT_ (by kernel_rfl) (fun _ _ _ h => h) (by rfl) ?_ ?_ ?_
      rotate_left; (intro w'; go_simp; with_reducible rfl); rotate_left; (simp only [Act.put, ls_, lz_, lc_, i64_w, i32_w]; rfl)
      refine ta_ (v := ?_) (a' := ?_) 5 18 (bz 29 16117631) rfl rfl HT_ HW_ (by kernel_rfl) (fun _ _ _ h => h) (by rfl) ?_ hHeld ?_ ?_
      rotate_left
      ·rintro w' ⟨s0, s1, s2, s3, s4, s5, s6, s7, s8, s9, s10, s11, s12, s13, s14, s15⟩
       go_simp
       with_reducible rfl
      rotate_left
      ·simp only [Act.put, ls_, lz_, lc_, i64_w, i32_w]
       rfl
      refine pu_ (v := ?_) (a' := ?_) 7 20 (bz 29 16117759) rfl rfl HT_ (by kernel_rfl) (fun _ _ _ h => h) (by rfl) ?_ ?_ ?_
      rotate_left; (intro w'; go_simp; with_reducible rfl); rotate_left; (simp only [Act.put, ls_, lz_, lc_, i64_w, i32_w]; rfl)
      refine ta_ (v := ?_) (a' := ?_) 12 25 (bz 29 16121855) rfl rfl HT_ HW_ (by kernel_rfl) (fun _ _ _ h => h) (by rfl) ?_ hHeld ?_ ?_
      rotate_left
      ·rintro w' ⟨s0, s1, s2, s3, s4, s5, s6, s7, s8, s9, s10, s11, s12, s13, s14, s15⟩
       go_simp
       with_reducible rfl
      rotate_left
      ·simp only [Act.put, ls_, lz_, lc_, i64_w, i32_w]
       rfl
      refine ta_ (v := ?_) (a' := ?_) 17 30 (bz 29 16252927) rfl rfl HT_ HW_ (by kernel_rfl) (fun _ _ _ h => h) (by rfl) ?_ hHeld ?_ ?_
      rotate_left
      ·rintro w' ⟨s0, s1, s2, s3, s4, s5, s6, s7, s8, s9, s10, s11, s12, s13, s14, s15⟩
       go_simp
       with_reducible rfl
      rotate_left
      ·simp only [Act.put, ls_, lz_, lc_, i64_w, i32_w]
       rfl
      refine pu_ (v := ?_) (a' := ?_) 19 32 (bz 29 16777215) rfl rfl HT_ (by kernel_rfl) (fun _ _ _ h => h) (by rfl) ?_ ?_ ?_
      rotate_left; (intro w'; go_simp; with_reducible rfl); rotate_left; (simp only [Act.put, ls_, lz_, lc_, i64_w, i32_w]; rfl)
      refine ta_ (v := ?_) (a' := ?_) 24 37 (bz 29 33554431) rfl rfl HT_ HW_ (by kernel_rfl) (fun _ _ _ h => h) (by rfl) ?_ hHeld ?_ ?_
      rotate_left
      ·rintro w' ⟨s0, s1, s2, s3, s4, s5, s6, s7, s8, s9, s10, s11, s12, s13, s14, s15⟩
       go_simp
       with_reducible rfl
      rotate_left
      ·simp only [Act.put, ls_, lz_, lc_, i64_w, i32_w]
       rfl
      refine pu_ (v := ?_) (a' := ?_) 25 38 (bz 29 67108863) rfl rfl HT_ (by kernel_rfl) (fun _ _ _ h => h) (by rfl) ?_ ?_ ?_
      rotate_left; (intro w'; go_simp; with_reducible rfl); rotate_left; (simp only [Act.put, ls_, lz_, lc_, i64_w, i32_w]; rfl)
      refine on_ (N := some 39) 26 (bz 29 134217727) rfl rfl HT_ (by kernel_rfl) (by decide) (fun K hK => ?_)
      refine value_ (w1 := ?_) (v := ?_) (by rfl) rfl ?_ ?_
      rotate_left 2
      ·go_simp
       constructor
       ·rfl
       ·rfl
      refine hK.out _ _ ⟨(World.cell?_alloc_lt _ _ _ (wb_ _ _ (((HB.out.cell (wb_ w _ hw327_0)).trans hw327_0)))).trans (((HB.out.cell (wb_ w _ hw327_0)).trans hw327_0)), (World.cell?_alloc_lt _ _ _ (wb_ _ _ (((HB.out.cell (wb_ w _ hw327_1)).trans hw327_1)))).trans (((HB.out.cell (wb_ w _ hw327_1)).trans hw327_1)), (World.cell?_alloc_lt _ _ _ (wb_ _ _ (((HB.out.cell (wb_ w _ hw327_2)).trans hw327_2)))).trans (((HB.out.cell (wb_ w _ hw327_2)).trans hw327_2)), (World.cell?_alloc_lt _ _ _ (wb_ _ _ (((HB.out.cell (wb_ w _ hw327_3)).trans hw327_3)))).trans (((HB.out.cell (wb_ w _ hw327_3)).trans hw327_3)), (World.cell?_alloc_lt _ _ _ (wb_ _ _ (((HB.out.cell (wb_ w _ hw328_0)).trans hw328_0)))).trans (((HB.out.cell (wb_ w _ hw328_0)).trans hw328_0)), (World.cell?_alloc_lt _ _ _ (wb_ _ _ (((HB.out.cell (wb_ w _ hw328_1)).trans hw328_1)))).trans (((HB.out.cell (wb_ w _ hw328_1)).trans hw328_1)), (World.cell?_alloc_lt _ _ _ (wb_ _ _ (((HB.out.cell (wb_ w _ hw328_2)).trans hw328_2)))).trans (((HB.out.cell (wb_ w _ hw328_2)).trans hw328_2)), (World.cell?_alloc_lt _ _ _ (wb_ _ _ (((HB.out.cell (wb_ w _ hw328_3)).trans hw328_3)))).trans (((HB.out.cell (wb_ w _ hw328_3)).trans hw328_3)), (World.cell?_alloc_lt _ _ _ (wb_ _ _ (((HB.out.cell (wb_ w _ hw329_0)).trans hw329_0)))).trans (((HB.out.cell (wb_ w _ hw329_0)).trans hw329_0)), (World.cell?_alloc_lt _ _ _ (wb_ _ _ (((HB.out.cell (wb_ w _ hw329_1)).trans hw329_1)))).trans (((HB.out.cell (wb_ w _ hw329_1)).trans hw329_1)), (World.cell?_alloc_lt _ _ _ (wb_ _ _ (((HB.out.cell (wb_ w _ hw329_2)).trans hw329_2)))).trans (((HB.out.cell (wb_ w _ hw329_2)).trans hw329_2)), (World.cell?_alloc_lt _ _ _ (wb_ _ _ (((HB.out.cell (wb_ w _ hw329_3)).trans hw329_3)))).trans (((HB.out.cell (wb_ w _ hw329_3)).trans hw329_3)), (World.cell?_alloc_lt _ _ _ (wb_ _ _ (((HB.out.cell (wb_ w _ hw330_0)).trans hw330_0)))).trans (((HB.out.cell (wb_ w _ hw330_0)).trans hw330_0)), (World.cell?_alloc_lt _ _ _ (wb_ _ _ (((HB.out.cell (wb_ w _ hw330_1)).trans hw330_1)))).trans (((HB.out.cell (wb_ w _ hw330_1)).trans hw330_1)), (World.cell?_alloc_lt _ _ _ (wb_ _ _ (((HB.out.cell (wb_ w _ hw330_2)).trans hw330_2)))).trans (((HB.out.cell (wb_ w _ hw330_2)).trans hw330_2)), (World.cell?_alloc_lt _ _ _ (wb_ _ _ (((HB.out.cell (wb_ w _ hw330_3)).trans hw330_3)))).trans (((HB.out.cell (wb_ w _ hw330_3)).trans hw330_3))⟩ (fun hHeld => ?_)
      clear hK K
      refine norm_ (a' := ?_) ?_ ?_
      rotate_left
      ·show Act.put _ (some 39) _ = _
       simp only [Act.put, ls_, lz_, lc_, i64_w, i32_w]
       rfl
      refine on_ (N := some 40) 27 (bz 29 268435455) rfl rfl HT_ (by kernel_rfl) (by decide) (fun K hK => ?_)
      refine Kd.R_append_step k45 (w0 := w) w.heap.size (by rfl) (.tmp 13) (.tmp 39) 22 45 (.agg #[(.int .i64 0), (.int .i64 0), (.int .i64 0), (.int .i64 0)]) 32 rfl Try.underlying22 info45 rfl (by decide) (by omega) u5 x5_1 (⟨wrap64 (((rd_T45 l0 x6_1).f0) + a1), (rd_T45 l0 x6_1).f1, wrap64 (((rd_T45 l0 x6_1).f2) + a1), (rd_T45 l0 x6_1).f3⟩ : S45) [.int .i64 (wrap64 (((rd_T45 l0 x6_1).f0) + a1)), .int .i64 ((rd_T45 l0 x6_1).f1), .int .i64 (wrap64 (((rd_T45 l0 x6_1).f2) + a1)), .int .i64 ((rd_T45 l0 x6_1).f3)] (fun _ => True) (fun _ => False) rfl rfl ?aP (fun _ hk => hk.elim) ?aF ?aO ?aB ?aS ?aL ?_
      (case aP => exact k45_mkM _ _ _ (⟨wrap64 (((rd_T45 l0 x6_1).f0) + a1), (rd_T45 l0 x6_1).f1, wrap64 (((rd_T45 l0 x6_1).f2) + a1), (rd_T45 l0 x6_1).f3⟩ : S45))
      (case aB => exact (bb_ HB.out e0_))
      (case aF => exact (fun _ _ => trivial))
      (case aO => exact (by (with_reducible repeat (first | apply Kd.R_alloc | apply Kd.R_drewN | apply Kd.R_drew)); exact HO_5.out))
      (case aS => exact (bz_ (bb_ HB.out e0_)))
      (case aL => have := LMc5.out; omega)
      intro v332 w7 ho hb hg hat
      rw [← Ny331.out] at ho
      have HO333 := sd_ (ho)
      replace HB := sd_ (hb)
      clear HO_5
      clear ho hb hg hat
      refine hK.out _ _ ⟨((HB.out.cell (wb_ w _ hw327_0)).trans hw327_0), ((HB.out.cell (wb_ w _ hw327_1)).trans hw327_1), ((HB.out.cell (wb_ w _ hw327_2)).trans hw327_2), ((HB.out.cell (wb_ w _ hw327_3)).trans hw327_3), ((HB.out.cell (wb_ w _ hw328_0)).trans hw328_0), ((HB.out.cell (wb_ w _ hw328_1)).trans hw328_1), ((HB.out.cell (wb_ w _ hw328_2)).trans hw328_2), ((HB.out.cell (wb_ w _ hw328_3)).trans hw328_3), ((HB.out.cell (wb_ w _ hw329_0)).trans hw329_0), ((HB.out.cell (wb_ w _ hw329_1)).trans hw329_1), ((HB.out.cell (wb_ w _ hw329_2)).trans hw329_2), ((HB.out.cell (wb_ w _ hw329_3)).trans hw329_3), ((HB.out.cell (wb_ w _ hw330_0)).trans hw330_0), ((HB.out.cell (wb_ w _ hw330_1)).trans hw330_1), ((HB.out.cell (wb_ w _ hw330_2)).trans hw330_2), ((HB.out.cell (wb_ w _ hw330_3)).trans hw330_3)⟩ (fun hHeld => ?_)
      clear hK K
      refine norm_ (a' := ?_) ?_ ?_
      rotate_left
      ·show Act.put _ (some 40) _ = _
       simp only [Act.put, ls_, lz_, lc_, i64_w, i32_w]
       rfl
      refine pu_ (v := ?_) (a' := ?_) 28 5 (bz 29 536870911) rfl rfl HT_ (by kernel_rfl) (fun _ _ _ h => h) (by rfl) ?_ ?_ ?_
      rotate_left; (intro w'; go_simp; with_reducible rfl); rotate_left; (simp only [Act.put, ls_, lz_, lc_, i64_w, i32_w]; rfl)
      refine done_ (done_of HT_.out (by kernel_rfl)) ?_
      try go_wp2
      go_roundg k1
      case measure => have := HK1.out; omega
      case rel => exact ⟨(y331), (wrap64 (x6_1 + 1)), (by first | rfl | (simp; done) | (simp [*]; done) | (simp [bne]; done)), H', ⟨by have := HK1.out; omega⟩, ⟨by (with_reducible repeat (first | apply Kd.R_alloc | apply Kd.R_drewN | apply Kd.R_drew)); exact HO333.out⟩, ⟨by repeat (first | (with_reducible first | exact HB.out | apply ba_ | apply pd_ | apply d1_) | exact HB.out)⟩⟩
     ·rw [if_neg c5] at H
      exact absurd H (by simp)
    ·rw [if_neg c4] at H
     exact absurd H (by simp)
   ·rw [if_neg c3] at H
    have c3b0 : decide (x6_1 < (l0.length : Int)) = false := df_ c3
    clear c3
    obtain rfl := Option.some.inj H
    go_wp2
    go_ret
    exact ⟨_, by first | rfl | (simp [errW_none, errW_some] <;> rfl) | (simp [*, errW_none, errW_some] <;> rfl), by (with_reducible repeat (first | apply Kd.R_alloc | apply Kd.R_drewN | apply Kd.R_drew)); exact HO_5.out, by repeat (first | (with_reducible first | exact HB.out | apply ba_ | apply pd_ | apply d1_) | exact HB.out)⟩

/-! ### neumelaw24_meet: function 18 -/
mutual
def neumelaw24_meet.l0 : Nat → List (S45) → List (S45) → Int → Option (Bool)
 | 0, _, _, _ => none
 | k + 1, x0, x1, x5 => if x5 < (x0.length : Int) then (neumelaw24_meet.l1 k x0 x1 x5 0) else (some false)
def neumelaw24_meet.l1 : Nat → List (S45) → List (S45) → Int → Int → Option (Bool)
 | 0, _, _, _, _ => none
 | k + 1, x0, x1, x5, x6 => if x6 < (x1.length : Int) then (if 0 ≤ x5 then (if x5 < (x0.length : Int) then (if 0 ≤ x6 then ((neumeref03_Meet.f ((rd_T45 x0 x5).f0) ((rd_T45 x0 x5).f1) ((rd_T45 x0 x5).f2) ((rd_T45 x0 x5).f3) ((rd_T45 x1 x6).f0) ((rd_T45 x1 x6).f1) ((rd_T45 x1 x6).f2) ((rd_T45 x1 x6).f3)).bind fun t336 => (if t336 = true then (some true) else (neumelaw24_meet.l1 k x0 x1 x5 (wrap64 (x6 + 1))))) else (none)) else (none)) else (none)) else (neumelaw24_meet.l0 k x0 x1 (wrap64 (x5 + 1)))
end
def neumelaw24_meet.f (k : Nat) (l0 : List (S45)) (l1 : List (S45)) : Option (Bool) := neumelaw24_meet.l0 k l0 l1 0
theorem neumelaw24_meet.mono_l : ∀ k, (∀ y0 y1 y2, LeO (neumelaw24_meet.l0 k y0 y1 y2) (neumelaw24_meet.l0 (k + 1) y0 y1 y2)) ∧ (∀ y0 y1 y2 y3, LeO (neumelaw24_meet.l1 k y0 y1 y2 y3) (neumelaw24_meet.l1 (k + 1) y0 y1 y2 y3))
 | 0 => ⟨fun _ _ _ r h => by simp [neumelaw24_meet.l0] at h, fun _ _ _ _ r h => by simp [neumelaw24_meet.l1] at h⟩
 | k + 1 => by
  obtain ⟨ih0, ih1⟩ := neumelaw24_meet.mono_l k
  refine ⟨?_, ?_⟩
  ·intro y0 y1 y2
   unfold neumelaw24_meet.l0
   repeat' first
   | (with_reducible exact ih0 _ _ _)
   | (with_reducible exact ih1 _ _ _ _)
   | (with_reducible exact LeO.refl _)
   | (with_reducible exact LeO.none _)
   | (with_reducible refine LeO.ite ?_ ?_)
   | (with_reducible refine LeO.bind ?_ (fun _ => ?_))
   | exact ih0 _ _ _
   | exact ih1 _ _ _ _
   | exact LeO.none _
   | refine LeO.ite ?_ ?_
   | refine LeO.bind ?_ (fun _ => ?_)
  ·intro y0 y1 y2 y3
   unfold neumelaw24_meet.l1
   repeat' first
   | (with_reducible exact ih0 _ _ _)
   | (with_reducible exact ih1 _ _ _ _)
   | (with_reducible exact LeO.refl _)
   | (with_reducible exact LeO.none _)
   | (with_reducible refine LeO.ite ?_ ?_)
   | (with_reducible refine LeO.bind ?_ (fun _ => ?_))
   | exact ih0 _ _ _
   | exact ih1 _ _ _ _
   | exact LeO.none _
   | refine LeO.ite ?_ ?_
   | refine LeO.bind ?_ (fun _ => ?_)
theorem neumelaw24_meet.mono : ∀ a0 a1 k, LeO (neumelaw24_meet.f k a0 a1) (neumelaw24_meet.f (k + 1) a0 a1) := by
 intro a0 a1 k
 obtain ⟨ih0, ih1⟩ := neumelaw24_meet.mono_l k
 unfold neumelaw24_meet.f
 repeat' first
   | (with_reducible exact ih0 _ _ _)
   | (with_reducible exact ih1 _ _ _ _)
   | (with_reducible exact LeO.refl _)
   | (with_reducible exact LeO.none _)
   | (with_reducible refine LeO.ite ?_ ?_)
   | (with_reducible refine LeO.bind ?_ (fun _ => ?_))
   | exact ih0 _ _ _
   | exact ih1 _ _ _ _
   | exact LeO.none _
   | refine LeO.ite ?_ ?_
   | refine LeO.bind ?_ (fun _ => ?_)
def neumelaw24_meet.T7 : Bool × List (List Nat × List Nat) := (true, [([], []), ([], []), ([0, 1], [0, 1]), ([2], [2]), ([], []), ([], []), ([4, 5], [4, 5]), ([6], [6]), ([3, 7], [3, 7])])
def neumelaw24_meet.B7 : List Nat := [0, 0, 3, 7, 0, 0, 48, 112, 255]
theorem neumelaw24_meet.tab7 : rtab .any (opsOf Try.f18 7) = neumelaw24_meet.T7 := by kernel_rfl
theorem neumelaw24_meet.bits7 : waitsOk neumelaw24_meet.T7.2 neumelaw24_meet.B7 = true := by kernel_rfl
set_option maxHeartbeats 8000000 in
set_option maxRecDepth 100000 in
theorem neumelaw24_meet.calls (k : Nat) (A0 : Option Addr) (c0 : Nat) (l0 : List (S45)) (A1 : Option Addr) (c1 : Nat) (l1 : List (S45)) (r : Bool) (w : World) (hr0 : Kd.C k45 w A0 l0.length l0) (hc0 : l0.length ≤ c0) (hr1 : Kd.C k45 w A1 l1.length l1) (hc1 : l1.length ≤ c1) (h : neumelaw24_meet.f k l0 l1 = some r) :
  Calls Try.prog 18 #[.slice A0 l0.length c0, .slice A1 l1.length c1] w fun e w' => e = .returned (.bool r) ∧ Below w.heap.size w w' := by
 have hu45 := Try.underlying45
 have HR0 := sd_ hr0
 have HC0 := sd_ hc0
 clear hr0 hc0
 have HR1 := sd_ hr1
 have HC1 := sd_ hc1
 clear hr1 hc1
 have HB := sd_ (Below.refl w.heap.size w)
 have H : (neumelaw24_meet.l0 k l0 l1 0) = some r := h
 clear h
 have H' := sd_ H
 clear H
 go_enter Try.func18, Try.ntmps18
 go_wp2
 go_loopg [5] k (fun kq v5 w' => ∃ (x5_1 : Int), v5 = .int .i64 x5_1 ∧ Aside0 (neumelaw24_meet.l0 kq l0 l1 x5_1 = some r) ∧ Aside0 (kq ≤ k) ∧ Aside0 (Below w.heap.size w w'))
 case atStart => exact ⟨(0), (by first | rfl | (simp; done) | (simp [*]; done) | (simp [bne]; done)), H', ⟨Nat.le_refl _⟩, ⟨by repeat (first | (with_reducible first | exact HB.out | apply ba_ | apply pd_ | apply d1_) | exact HB.out)⟩⟩
 case round =>
  clear H'
  try clear c1; try clear p2
  obtain ⟨x5_1, rfl, HA, HK1, HB⟩ := hrel
  cases gk with
  | zero => exact absurd HA.out (by simp [neumelaw24_meet.l0])
  | succ k1 =>
   have H := HA.out
   clear HA
   simp only [neumelaw24_meet.l0] at H
   by_cases c3 : x5_1 < (l0.length : Int)
   ·rw [if_pos c3] at H
    have c3b0 : decide (x5_1 < (l0.length : Int)) = true := dt_ c3
    clear c3
    have H' := sd_ H
    clear H
    go_wp2
    go_loopg [6] k1 (fun kq v6 w' => ∃ (x6_2 : Int), v6 = .int .i64 x6_2 ∧ Aside0 (neumelaw24_meet.l1 kq l0 l1 x5_1 x6_2 = some r) ∧ Aside0 (kq ≤ k1) ∧ Aside0 (Below w.heap.size w w'))
    case atStart => exact ⟨(0), (by first | rfl | (simp; done) | (simp [*]; done) | (simp [bne]; done)), H', ⟨Nat.le_refl _⟩, ⟨by repeat (first | (with_reducible first | exact HB.out | apply ba_ | apply pd_ | apply d1_) | exact HB.out)⟩⟩
    case round =>
     clear H'
     try clear c1; try clear p2; try clear c3; try clear c3b0; try clear p2
     obtain ⟨x6_2, rfl, HA, HK2, HB⟩ := hrel
     cases gk with
     | zero => exact absurd HA.out (by simp [neumelaw24_meet.l1])
     | succ k2 =>
      have H := HA.out
      clear HA
      simp only [neumelaw24_meet.l1] at H
      by_cases c4 : x6_2 < (l1.length : Int)
      ·rw [if_pos c4] at H
       have c4b0 : decide (x6_2 < (l1.length : Int)) = true := dt_ c4
       clear c4
       by_cases c5 : 0 ≤ x5_1
       ·rw [if_pos c5] at H
        have c5b0 : decide (0 ≤ x5_1) = true := dt_ c5
        clear c5
        by_cases c6 : x5_1 < (l0.length : Int)
        ·rw [if_pos c6] at H
         have c6b0 : decide (x5_1 < (l0.length : Int)) = true := dt_ c6
         clear c6
         by_cases c7 : 0 ≤ x6_2
         ·rw [if_pos c7] at H
          have c7b0 : decide (0 ≤ x6_2) = true := dt_ c7
          clear c7
          replace H := ob_ H
          obtain ⟨t336, A80, H⟩ := H
          replace H : (if t336 = true then (some true) else (neumelaw24_meet.l1 k2 l0 l1 x5_1 (wrap64 (x6_2 + 1)))) = some r := H
          have A8 := sd_ A80
          clear A80
          by_cases c9 : t336 = true
          ·subst c9
           have H1 : (some true) = some r := by rw [if_pos rfl] at H; exact H
           clear H; have H := H1; clear H1
           obtain rfl := Option.some.inj H
           try go_wp2
           replace HB := sd_ (d1_ HB.out)
           have p334 : 0 ≤ (x5_1 : Int) := od_ (by first | (with_reducible assumption) | assumption)
           have q334 : x5_1 < (l0.length : Int) := od_ (by first | (with_reducible assumption) | assumption)
           obtain ⟨ad334, e334, hx334_0, hx334_1, hx334_2, hx334_3⟩ := at_T45 HR0.out x5_1 p334 q334
           have hw334_3 := hx334_3
           have hw334_2 := hx334_2
           have hw334_1 := hx334_1
           have hw334_0 := hx334_0
           cases e334
           replace hx334_0 := (HB.out.cell (wb_ w _ hx334_0)).trans hx334_0
           replace hx334_1 := (HB.out.cell (wb_ w _ hx334_1)).trans hx334_1
           replace hx334_2 := (HB.out.cell (wb_ w _ hx334_2)).trans hx334_2
           replace hx334_3 := (HB.out.cell (wb_ w _ hx334_3)).trans hx334_3
           replace p334 := eq_true p334
           replace q334 := eq_true q334
           have p335 : 0 ≤ (x6_2 : Int) := od_ (by first | (with_reducible assumption) | assumption)
           have q335 : x6_2 < (l1.length : Int) := od_ (by first | (with_reducible assumption) | assumption)
           obtain ⟨ad335, e335, hx335_0, hx335_1, hx335_2, hx335_3⟩ := at_T45 HR1.out x6_2 p335 q335
           have hw335_3 := hx335_3
           have hw335_2 := hx335_2
           have hw335_1 := hx335_1
           have hw335_0 := hx335_0
           cases e335
           replace hx335_0 := (HB.out.cell (wb_ w _ hx335_0)).trans hx335_0
           replace hx335_1 := (HB.out.cell (wb_ w _ hx335_1)).trans hx335_1
           replace hx335_2 := (HB.out.cell (wb_ w _ hx335_2)).trans hx335_2
           replace hx335_3 := (HB.out.cell (wb_ w _ hx335_3)).trans hx335_3
           replace p335 := eq_true p335
           replace q335 := eq_true q335
           refine start_ (n := 9) (S := fun w' => w'.cell? (ad334.add ((x5_1).toNat * 4)) = some (.int .i64 ((rd_T45 l0 x5_1).f0)) ∧ w'.cell? ⟨(ad334.add ((x5_1).toNat * 4)).block, (ad334.add ((x5_1).toNat * 4)).off + 1, none⟩ = some (.int .i64 ((rd_T45 l0 x5_1).f1)) ∧ w'.cell? ⟨(ad334.add ((x5_1).toNat * 4)).block, (ad334.add ((x5_1).toNat * 4)).off + 2, none⟩ = some (.int .i64 ((rd_T45 l0 x5_1).f2)) ∧ w'.cell? ⟨(ad334.add ((x5_1).toNat * 4)).block, (ad334.add ((x5_1).toNat * 4)).off + 3, none⟩ = some (.int .i64 ((rd_T45 l0 x5_1).f3)) ∧ w'.cell? (ad335.add ((x6_2).toNat * 4)) = some (.int .i64 ((rd_T45 l1 x6_2).f0)) ∧ w'.cell? ⟨(ad335.add ((x6_2).toNat * 4)).block, (ad335.add ((x6_2).toNat * 4)).off + 1, none⟩ = some (.int .i64 ((rd_T45 l1 x6_2).f1)) ∧ w'.cell? ⟨(ad335.add ((x6_2).toNat * 4)).block, (ad335.add ((x6_2).toNat * 4)).off + 2, none⟩ = some (.int .i64 ((rd_T45 l1 x6_2).f2)) ∧ w'.cell? ⟨(ad335.add ((x6_2).toNat * 4)).block, (ad335.add ((x6_2).toNat * 4)).off + 3, none⟩ = some (.int .i64 ((rd_T45 l1 x6_2).f3))) (ds := []) (Array.replicate 9 false) (by kernel_rfl) rfl rfl ⟨((HB.out.cell (wb_ w _ hw334_0)).trans hw334_0), ((HB.out.cell (wb_ w _ hw334_1)).trans hw334_1), ((HB.out.cell (wb_ w _ hw334_2)).trans hw334_2), ((HB.out.cell (wb_ w _ hw334_3)).trans hw334_3), ((HB.out.cell (wb_ w _ hw335_0)).trans hw335_0), ((HB.out.cell (wb_ w _ hw335_1)).trans hw335_1), ((HB.out.cell (wb_ w _ hw335_2)).trans hw335_2), ((HB.out.cell (wb_ w _ hw335_3)).trans hw335_3)⟩ (fun hHeld => ?_); refine with_tabW neumelaw24_meet.tab7 neumelaw24_meet.bits7 (fun HT_ HW_ => ?_)
           generalize wr.drew = w10 at HB hx334_0 hx334_1 hx334_2 hx334_3 hx335_0 hx335_1 hx335_2 hx335_3 hHeld ⊢
           refine pu_ (v := ?_) (a' := ?_) 0 19 (bz 9 1) rfl rfl HT_ (by kernel_rfl) (fun _ _ _ h => h) (by rfl) ?_ ?_ ?_
           rotate_left; (intro w'; go_simp; with_reducible rfl); rotate_left; (simp only [Act.put, ls_, lz_, lc_, i64_w, i32_w]; rfl)
           refine pu_ (v := ?_) (a' := ?_) 1 20 (bz 9 3) rfl rfl HT_ (by kernel_rfl) (fun _ _ _ h => h) (by rfl) ?_ ?_ ?_
           rotate_left; (intro w'; go_simp; with_reducible rfl); rotate_left; (simp only [Act.put, ls_, lz_, lc_, i64_w, i32_w]; rfl)
           refine pu_ (v := ?_) (a' := ?_) 2 21 (bz 9 7) rfl rfl HT_ (by kernel_rfl) (fun _ _ _ h => h) (by rfl) ?_ ?_ ?_
           rotate_left; (intro w'; go_simp; with_reducible rfl); rotate_left; (simp only [Act.put, ls_, lz_, lc_, i64_w, i32_w]; rfl)
           refine pu_ (v := ?_) (a' := ?_) 4 23 (bz 9 23) rfl rfl HT_ (by kernel_rfl) (fun _ _ _ h => h) (by rfl) ?_ ?_ ?_
           rotate_left; (intro w'; go_simp; with_reducible rfl); rotate_left; (simp only [Act.put, ls_, lz_, lc_, i64_w, i32_w]; rfl)
           refine pu_ (v := ?_) (a' := ?_) 5 24 (bz 9 55) rfl rfl HT_ (by kernel_rfl) (fun _ _ _ h => h) (by rfl) ?_ ?_ ?_
           rotate_left; (intro w'; go_simp; with_reducible rfl); rotate_left; (simp only [Act.put, ls_, lz_, lc_, i64_w, i32_w]; rfl)
           refine pu_ (v := ?_) (a' := ?_) 6 25 (bz 9 119) rfl rfl HT_ (by kernel_rfl) (fun _ _ _ h => h) (by rfl) ?_ ?_ ?_
           rotate_left; (intro w'; go_simp; with_reducible rfl); rotate_left; (simp only [Act.put, ls_, lz_, lc_, i64_w, i32_w]; rfl)
           refine ta_ (v := ?_) (a' := ?_) 3 22 (bz 9 127) rfl rfl HT_ HW_ (by kernel_rfl) (fun _ _ _ h => h) (by rfl) ?_ hHeld ?_ ?_
           rotate_left
           ·rintro w' ⟨s0, s1, s2, s3, s4, s5, s6, s7⟩
            go_simp
            with_reducible rfl
           rotate_left
           ·simp only [Act.put, ls_, lz_, lc_, i64_w, i32_w]
            rfl
           refine ta_ (v := ?_) (a' := ?_) 7 26 (bz 9 255) rfl rfl HT_ HW_ (by kernel_rfl) (fun _ _ _ h => h) (by rfl) ?_ hHeld ?_ ?_
           rotate_left
           ·rintro w' ⟨s0, s1, s2, s3, s4, s5, s6, s7⟩
            go_simp
            with_reducible rfl
           rotate_left
           ·simp only [Act.put, ls_, lz_, lc_, i64_w, i32_w]
            rfl
           refine on_ (N := some 27) 8 (bz 9 511) rfl rfl HT_ (by kernel_rfl) (by decide) (fun K hK => ?_)
           refine goes_ Try.func31 (by kernel_rfl) rfl #[.agg #[.int .i64 ((rd_T45 l0 x5_1).f0), .int .i64 ((rd_T45 l0 x5_1).f1), .int .i64 ((rd_T45 l0 x5_1).f2), .int .i64 ((rd_T45 l0 x5_1).f3)], .agg #[.int .i64 ((rd_T45 l1 x6_2).f0), .int .i64 ((rd_T45 l1 x6_2).f1), .int .i64 ((rd_T45 l1 x6_2).f2), .int .i64 ((rd_T45 l1 x6_2).f3)]] (by rfl) rfl rfl (by (try simp only [lm_, lq_, lx_]); first | done | rfl | (simp only [ld_, lt_]; rfl)) ?_
           with_reducible refine (neumeref03_Meet.calls ((rd_T45 l0 x5_1).f0) ((rd_T45 l0 x5_1).f1) ((rd_T45 l0 x5_1).f2) ((rd_T45 l0 x5_1).f3) ((rd_T45 l1 x6_2).f0) ((rd_T45 l1 x6_2).f1) ((rd_T45 l1 x6_2).f2) ((rd_T45 l1 x6_2).f3) true _ A8.out).mono ?_
           rintro e w11 ⟨rfl, hb⟩
           refine ⟨_, rfl, ?_⟩
           replace HB := hb_ HB e0_ hb
           (try clear hb)
           (try clear hb2)
           (try clear hk)
           (try clear hi)
           refine hK.out _ _ ⟨((HB.out.cell (wb_ w _ hw334_0)).trans hw334_0), ((HB.out.cell (wb_ w _ hw334_1)).trans hw334_1), ((HB.out.cell (wb_ w _ hw334_2)).trans hw334_2), ((HB.out.cell (wb_ w _ hw334_3)).trans hw334_3), ((HB.out.cell (wb_ w _ hw335_0)).trans hw335_0), ((HB.out.cell (wb_ w _ hw335_1)).trans hw335_1), ((HB.out.cell (wb_ w _ hw335_2)).trans hw335_2), ((HB.out.cell (wb_ w _ hw335_3)).trans hw335_3)⟩ (fun hHeld => ?_)
           clear hK K
           refine norm_ (a' := ?_) ?_ ?_
           rotate_left
           ·show Act.put _ (some 27) _ = _
            simp only [Act.put, ls_, lz_, lc_, i64_w, i32_w]
            rfl
           refine done_ (done_of HT_.out (by kernel_rfl)) ?_
           try go_wp2
           go_ret
           exact ⟨by first | rfl | (simp [errW_none, errW_some] <;> rfl) | (simp [*, errW_none, errW_some] <;> rfl), by repeat (first | (with_reducible first | exact HB.out | apply ba_ | apply pd_ | apply d1_) | exact HB.out)⟩
          ·replace c9 := bf_ c9
           subst c9
           have H1 : (neumelaw24_meet.l1 k2 l0 l1 x5_1 (wrap64 (x6_2 + 1))) = some r := by rw [if_neg (show ¬ (false = true) by decide)] at H; exact H
           clear H; have H := H1; clear H1
           have H' := sd_ H
           clear H
           try go_wp2
           replace HB := sd_ (d1_ HB.out)
           have p334 : 0 ≤ (x5_1 : Int) := od_ (by first | (with_reducible assumption) | assumption)
           have q334 : x5_1 < (l0.length : Int) := od_ (by first | (with_reducible assumption) | assumption)
           obtain ⟨ad334, e334, hx334_0, hx334_1, hx334_2, hx334_3⟩ := at_T45 HR0.out x5_1 p334 q334
           have hw334_3 := hx334_3
           have hw334_2 := hx334_2
           have hw334_1 := hx334_1
           have hw334_0 := hx334_0
           cases e334
           replace hx334_0 := (HB.out.cell (wb_ w _ hx334_0)).trans hx334_0
           replace hx334_1 := (HB.out.cell (wb_ w _ hx334_1)).trans hx334_1
           replace hx334_2 := (HB.out.cell (wb_ w _ hx334_2)).trans hx334_2
           replace hx334_3 := (HB.out.cell (wb_ w _ hx334_3)).trans hx334_3
           replace p334 := eq_true p334
           replace q334 := eq_true q334
           have p335 : 0 ≤ (x6_2 : Int) := od_ (by first | (with_reducible assumption) | assumption)
           have q335 : x6_2 < (l1.length : Int) := od_ (by first | (with_reducible assumption) | assumption)
           obtain ⟨ad335, e335, hx335_0, hx335_1, hx335_2, hx335_3⟩ := at_T45 HR1.out x6_2 p335 q335
           have hw335_3 := hx335_3
           have hw335_2 := hx335_2
           have hw335_1 := hx335_1
           have hw335_0 := hx335_0
           cases e335
           replace hx335_0 := (HB.out.cell (wb_ w _ hx335_0)).trans hx335_0
           replace hx335_1 := (HB.out.cell (wb_ w _ hx335_1)).trans hx335_1
           replace hx335_2 := (HB.out.cell (wb_ w _ hx335_2)).trans hx335_2
           replace hx335_3 := (HB.out.cell (wb_ w _ hx335_3)).trans hx335_3
           replace p335 := eq_true p335
           replace q335 := eq_true q335
           refine start_ (n := 9) (S := fun w' => w'.cell? (ad334.add ((x5_1).toNat * 4)) = some (.int .i64 ((rd_T45 l0 x5_1).f0)) ∧ w'.cell? ⟨(ad334.add ((x5_1).toNat * 4)).block, (ad334.add ((x5_1).toNat * 4)).off + 1, none⟩ = some (.int .i64 ((rd_T45 l0 x5_1).f1)) ∧ w'.cell? ⟨(ad334.add ((x5_1).toNat * 4)).block, (ad334.add ((x5_1).toNat * 4)).off + 2, none⟩ = some (.int .i64 ((rd_T45 l0 x5_1).f2)) ∧ w'.cell? ⟨(ad334.add ((x5_1).toNat * 4)).block, (ad334.add ((x5_1).toNat * 4)).off + 3, none⟩ = some (.int .i64 ((rd_T45 l0 x5_1).f3)) ∧ w'.cell? (ad335.add ((x6_2).toNat * 4)) = some (.int .i64 ((rd_T45 l1 x6_2).f0)) ∧ w'.cell? ⟨(ad335.add ((x6_2).toNat * 4)).block, (ad335.add ((x6_2).toNat * 4)).off + 1, none⟩ = some (.int .i64 ((rd_T45 l1 x6_2).f1)) ∧ w'.cell? ⟨(ad335.add ((x6_2).toNat * 4)).block, (ad335.add ((x6_2).toNat * 4)).off + 2, none⟩ = some (.int .i64 ((rd_T45 l1 x6_2).f2)) ∧ w'.cell? ⟨(ad335.add ((x6_2).toNat * 4)).block, (ad335.add ((x6_2).toNat * 4)).off + 3, none⟩ = some (.int .i64 ((rd_T45 l1 x6_2).f3))) (ds := []) (Array.replicate 9 false) (by kernel_rfl) rfl rfl ⟨((HB.out.cell (wb_ w _ hw334_0)).trans hw334_0), ((HB.out.cell (wb_ w _ hw334_1)).trans hw334_1), ((HB.out.cell (wb_ w _ hw334_2)).trans hw334_2), ((HB.out.cell (wb_ w _ hw334_3)).trans hw334_3), ((HB.out.cell (wb_ w _ hw335_0)).trans hw335_0), ((HB.out.cell (wb_ w _ hw335_1)).trans hw335_1), ((HB.out.cell (wb_ w _ hw335_2)).trans hw335_2), ((HB.out.cell (wb_ w _ hw335_3)).trans hw335_3)⟩ (fun hHeld => ?_); refine with_tabW neumelaw24_meet.tab7 neumelaw24_meet.bits7 (fun HT_ HW_ => ?_)
           generalize wr.drew = w12 at HB hx334_0 hx334_1 hx334_2 hx334_3 hx335_0 hx335_1 hx335_2 hx335_3 hHeld ⊢
           refine pu_ (v := ?_) (a' := ?_) 0 19 (bz 9 1) rfl rfl HT_ (by kernel_rfl) (fun _ _ _ h => h) (by rfl) ?_ ?_ ?_
           rotate_left; (intro w'; go_simp; with_reducible rfl); rotate_left; (simp only [Act.put, ls_, lz_, lc_, i64_w, i32_w]; rfl)
           refine pu_ (v := ?_) (a' := ?_) 1 20 (bz 9 3) rfl rfl HT_ (by kernel_rfl) (fun _ _ _ h => h) (by rfl) ?_ ?_ ?_
           rotate_left; (intro w'; go_simp; with_reducible rfl); rotate_left; (simp only [Act.put, ls_, lz_, lc_, i64_w, i32_w]; rfl)
           refine pu_ (v := ?_) (a' := ?_) 2 21 (bz 9 7) rfl rfl HT_ (by kernel_rfl) (fun _ _ _ h => h) (by rfl) ?_ ?_ ?_
           rotate_left; (intro w'; go_simp; with_reducible rfl); rotate_left; (simp only [Act.put, ls_, lz_, lc_, i64_w, i32_w]; rfl)
           refine pu_ (v := ?_) (a' := ?_) 4 23 (bz 9 23) rfl rfl HT_ (by kernel_rfl) (fun _ _ _ h => h) (by rfl) ?_ ?_ ?_
           rotate_left; (intro w'; go_simp; with_reducible rfl); rotate_left; (simp only [Act.put, ls_, lz_, lc_, i64_w, i32_w]; rfl)
           refine pu_ (v := ?_) (a' := ?_) 5 24 (bz 9 55) rfl rfl HT_ (by kernel_rfl) (fun _ _ _ h => h) (by rfl) ?_ ?_ ?_
           rotate_left; (intro w'; go_simp; with_reducible rfl); rotate_left; (simp only [Act.put, ls_, lz_, lc_, i64_w, i32_w]; rfl)
           refine pu_ (v := ?_) (a' := ?_) 6 25 (bz 9 119) rfl rfl HT_ (by kernel_rfl) (fun _ _ _ h => h) (by rfl) ?_ ?_ ?_
           rotate_left; (intro w'; go_simp; with_reducible rfl); rotate_left; (simp only [Act.put, ls_, lz_, lc_, i64_w, i32_w]; rfl)
           refine ta_ (v := ?_) (a' := ?_) 3 22 (bz 9 127) rfl rfl HT_ HW_ (by kernel_rfl) (fun _ _ _ h => h) (by rfl) ?_ hHeld ?_ ?_
           rotate_left
           ·rintro w' ⟨s0, s1, s2, s3, s4, s5, s6, s7⟩
            go_simp
            with_reducible rfl
           rotate_left
           ·simp only [Act.put, ls_, lz_, lc_, i64_w, i32_w]
            rfl
           refine ta_ (v := ?_) (a' := ?_) 7 26 (bz 9 255) rfl rfl HT_ HW_ (by kernel_rfl) (fun _ _ _ h => h) (by rfl) ?_ hHeld ?_ ?_
           rotate_left
           ·rintro w' ⟨s0, s1, s2, s3, s4, s5, s6, s7⟩
            go_simp
            with_reducible rfl
           rotate_left
           ·simp only [Act.put, ls_, lz_, lc_, i64_w, i32_w]
            rfl
           refine on_ (N := some 27) 8 (bz 9 511) rfl rfl HT_ (by kernel_rfl) (by decide) (fun K hK => ?_)
           refine goes_ Try.func31 (by kernel_rfl) rfl #[.agg #[.int .i64 ((rd_T45 l0 x5_1).f0), .int .i64 ((rd_T45 l0 x5_1).f1), .int .i64 ((rd_T45 l0 x5_1).f2), .int .i64 ((rd_T45 l0 x5_1).f3)], .agg #[.int .i64 ((rd_T45 l1 x6_2).f0), .int .i64 ((rd_T45 l1 x6_2).f1), .int .i64 ((rd_T45 l1 x6_2).f2), .int .i64 ((rd_T45 l1 x6_2).f3)]] (by rfl) rfl rfl (by (try simp only [lm_, lq_, lx_]); first | done | rfl | (simp only [ld_, lt_]; rfl)) ?_
           with_reducible refine (neumeref03_Meet.calls ((rd_T45 l0 x5_1).f0) ((rd_T45 l0 x5_1).f1) ((rd_T45 l0 x5_1).f2) ((rd_T45 l0 x5_1).f3) ((rd_T45 l1 x6_2).f0) ((rd_T45 l1 x6_2).f1) ((rd_T45 l1 x6_2).f2) ((rd_T45 l1 x6_2).f3) false _ A8.out).mono ?_
           rintro e w13 ⟨rfl, hb⟩
           refine ⟨_, rfl, ?_⟩
           replace HB := hb_ HB e0_ hb
           (try clear hb)
           (try clear hb2)
           (try clear hk)
           (try clear hi)
           refine hK.out _ _ ⟨((HB.out.cell (wb_ w _ hw334_0)).trans hw334_0), ((HB.out.cell (wb_ w _ hw334_1)).trans hw334_1), ((HB.out.cell (wb_ w _ hw334_2)).trans hw334_2), ((HB.out.cell (wb_ w _ hw334_3)).trans hw334_3), ((HB.out.cell (wb_ w _ hw335_0)).trans hw335_0), ((HB.out.cell (wb_ w _ hw335_1)).trans hw335_1), ((HB.out.cell (wb_ w _ hw335_2)).trans hw335_2), ((HB.out.cell (wb_ w _ hw335_3)).trans hw335_3)⟩ (fun hHeld => ?_)
           clear hK K
           refine norm_ (a' := ?_) ?_ ?_
           rotate_left
           ·show Act.put _ (some 27) _ = _
            simp only [Act.put, ls_, lz_, lc_, i64_w, i32_w]
            rfl
           refine done_ (done_of HT_.out (by kernel_rfl)) ?_
           try go_wp2
           go_roundg k2
           case measure => have := HK1.out; have := HK2.out; omega
           case rel => exact ⟨(wrap64 (x6_2 + 1)), (by first | rfl | (simp; done) | (simp [*]; done) | (simp [bne]; done)), H', ⟨by have := HK1.out; have := HK2.out; omega⟩, ⟨by repeat (first | (with_reducible first | exact HB.out | apply ba_ | apply pd_ | apply d1_) | exact HB.out)⟩⟩
         ·rw [if_neg c7] at H
          exact absurd H (by simp)
        ·rw [if_neg c6] at H
         exact absurd H (by simp)
       ·rw [if_neg c5] at H
        exact absurd H (by simp)
      ·rw [if_neg c4] at H
       have c4b0 : decide (x6_2 < (l1.length : Int)) = false := df_ c4
       clear c4
       have H' := sd_ H
       clear H
       go_wp2
       go_roundg k2
       case measure => have := HK1.out; have := HK2.out; omega
       case rel => exact ⟨(wrap64 (x5_1 + 1)), (by first | rfl | (simp; done) | (simp [*]; done) | (simp [bne]; done)), H', ⟨by have := HK1.out; have := HK2.out; omega⟩, ⟨by repeat (first | (with_reducible first | exact HB.out | apply ba_ | apply pd_ | apply d1_) | exact HB.out)⟩⟩
   ·rw [if_neg c3] at H
    have c3b0 : decide (x5_1 < (l0.length : Int)) = false := df_ c3
    clear c3
    obtain rfl := Option.some.inj H
    go_wp2
    go_ret
    exact ⟨by first | rfl | (simp [errW_none, errW_some] <;> rfl) | (simp [*, errW_none, errW_some] <;> rfl), by repeat (first | (with_reducible first | exact HB.out | apply ba_ | apply pd_ | apply d1_) | exact HB.out)⟩

end Go.Proofs.Ytchmcljinkemaaa.P
