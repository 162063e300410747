-- Written by a program of this session (wip/tools/xprint.py, over the kit's print): Lean checks it.
import Derived.Test.YtcokemaiploejaaDoorPx0
import Derived.Test.YtcokemaiploejaaDoorPx2
import Derived.Test.YtcokemaiploejaaDoorPx4
import Derived.Test.YtcokemaiploejaaDoorPx13
import Derived.Test.YtcokemaiploejaaDoorPx14
namespace Go.Proofs.YtcokemaiploejaaDoor.P
open Go.RowKit Go.Proofs.YtcokemaiploejaaDoorW.PrintWords Go.Proofs.YtcokemaiploejaaDoorW.PrintLast Go.Proofs.YtcokemaiploejaaDoorW.PrintMore
attribute [local go_sem] max2_int min2_int max_two min_two max_three min_three max_four min_four   -- for this text's walks alone
set_option linter.unusedVariables false
set_option linter.unusedSimpArgs false

/-! ### chord_Spots: function 10 -/
mutual
def chord_Spots.j0 : Nat → Int → Bool → Bool → List Int → Bool → Option (List Int × Int)
 | 0, _, _, _, _, _ => none
 | k + 1, x1, x2, x3, x10, x25 => if x25 = true then (some (([] : List Int), 2)) else (chord_Spots.l0 k x1 x2 x3 x10 (x10.length : Int) 0)
def chord_Spots.l0 : Nat → Int → Bool → Bool → List Int → Int → Int → Option (List Int × Int)
 | 0, _, _, _, _, _, _ => none
 | k + 1, x1, x2, x3, x10, x27, x28 => if x28 < x27 then (if 0 ≤ x28 then (if x28 < (x10.length : Int) then ((chord_wide.f x1 x3).bind fun t161 => ((some (x10.set (x28 : Int).toNat (wrap64 ((rd x10 x28) * t161)) : List Int)).bind fun y162 => (if x2 = true then (chord_Spots.l0 k x1 x2 x3 y162 x27 (wrap64 (x28 + 1))) else (chord_Spots.l0 k x1 x2 x3 (y162.set (x28 : Int).toNat (wrap64 (-(wrap64 ((rd x10 x28) * t161))))) x27 (wrap64 (x28 + 1)))))) else (none)) else (none)) else (some (x10, 0))
end
def chord_Spots.f (k : Nat) (l0 : List Int) (a1 : Int) (a2 : Bool) (a3 : Bool) : Option (List Int × Int) := (chord_Sides.f k l0 a2).bind fun bt155 => (if bt155.2 = 0 then ((chord_head.f a1).bind fun t159 => (chord_Spots.j0 k a1 a2 a3 bt155.1 (!t159))) else (chord_Spots.j0 k a1 a2 a3 bt155.1 true))
theorem chord_Spots.mono_l : ∀ k, (∀ y0 y1 y2 y3 y4, LeO (chord_Spots.j0 k y0 y1 y2 y3 y4) (chord_Spots.j0 (k + 1) y0 y1 y2 y3 y4)) ∧ (∀ y0 y1 y2 y3 y4 y5, LeO (chord_Spots.l0 k y0 y1 y2 y3 y4 y5) (chord_Spots.l0 (k + 1) y0 y1 y2 y3 y4 y5))
 | 0 => ⟨fun _ _ _ _ _ r h => by simp [chord_Spots.j0] at h, fun _ _ _ _ _ _ r h => by simp [chord_Spots.l0] at h⟩
 | k + 1 => by
  obtain ⟨ih0, ih1⟩ := chord_Spots.mono_l k
  refine ⟨?_, ?_⟩
  ·intro y0 y1 y2 y3 y4
   unfold chord_Spots.j0
   repeat' first
   | (with_reducible exact ih0 _ _ _ _ _)
   | (with_reducible exact ih1 _ _ _ _ _ _)
   | (with_reducible exact chord_Sides.mono _ _ _)
   | (with_reducible exact LeO.refl _)
   | (with_reducible exact LeO.none _)
   | (with_reducible refine LeO.ite ?_ ?_)
   | (with_reducible refine LeO.bind ?_ (fun _ => ?_))
   | exact ih0 _ _ _ _ _
   | exact ih1 _ _ _ _ _ _
   | exact chord_Sides.mono _ _ _
   | exact LeO.none _
   | refine LeO.ite ?_ ?_
   | refine LeO.bind ?_ (fun _ => ?_)
  ·intro y0 y1 y2 y3 y4 y5
   unfold chord_Spots.l0
   repeat' first
   | (with_reducible exact ih0 _ _ _ _ _)
   | (with_reducible exact ih1 _ _ _ _ _ _)
   | (with_reducible exact chord_Sides.mono _ _ _)
   | (with_reducible exact LeO.refl _)
   | (with_reducible exact LeO.none _)
   | (with_reducible refine LeO.ite ?_ ?_)
   | (with_reducible refine LeO.bind ?_ (fun _ => ?_))
   | exact ih0 _ _ _ _ _
   | exact ih1 _ _ _ _ _ _
   | exact chord_Sides.mono _ _ _
   | exact LeO.none _
   | refine LeO.ite ?_ ?_
   | refine LeO.bind ?_ (fun _ => ?_)
theorem chord_Spots.mono : ∀ a0 a1 a2 a3 k, LeO (chord_Spots.f k a0 a1 a2 a3) (chord_Spots.f (k + 1) a0 a1 a2 a3) := by
 intro a0 a1 a2 a3 k
 obtain ⟨ih0, ih1⟩ := chord_Spots.mono_l k
 unfold chord_Spots.f
 repeat' first
   | (with_reducible exact ih0 _ _ _ _ _)
   | (with_reducible exact ih1 _ _ _ _ _ _)
   | (with_reducible exact chord_Sides.mono _ _ _)
   | (with_reducible exact LeO.refl _)
   | (with_reducible exact LeO.none _)
   | (with_reducible refine LeO.ite ?_ ?_)
   | (with_reducible refine LeO.bind ?_ (fun _ => ?_))
   | exact ih0 _ _ _ _ _
   | exact ih1 _ _ _ _ _ _
   | exact chord_Sides.mono _ _ _
   | exact LeO.none _
   | refine LeO.ite ?_ ?_
   | refine LeO.bind ?_ (fun _ => ?_)
def chord_Spots.T7 : Bool × List (List Nat × List Nat) := (true, [([], []), ([], []), ([0, 1], [0, 1]), ([2], [2]), ([], []), ([], []), ([4, 5], [4, 5]), ([3, 6], [3, 6]), ([0, 1, 0, 1, 2, 3, 4, 5, 6, 7], [0, 1]), ([8, 7, 6, 0, 1, 2, 3, 4, 5, 6, 7], [7, 8])])
def chord_Spots.B7 : List Nat := [0, 0, 3, 7, 0, 0, 48, 127, 255, 511]
theorem chord_Spots.tab7 : rtab .any (opsOf Tryd.f10 7) = chord_Spots.T7 := by kernel_rfl
theorem chord_Spots.bits7 : waitsOk chord_Spots.T7.2 chord_Spots.B7 = true := by kernel_rfl
set_option maxHeartbeats 8000000 in
set_option maxRecDepth 100000 in
theorem chord_Spots.calls (k : Nat) (A0 : Option Addr) (c0 : Nat) (l0 : List Int) (a1 : Int) (a2 : Bool) (a3 : Bool) (r1 : List Int) (r2 : Int) (w : World) (hr0 : Kd.C (Kd.int .i64) w A0 l0.length l0) (hc0 : l0.length ≤ c0) (hE : Aside0 (LaidE w)) (h : chord_Spots.f k l0 a1 a2 a3 = some (r1, r2)) :
  Calls Tryd.prog 10 #[.slice A0 l0.length c0, .int .i64 a1, .bool a2, .bool a3] w fun e w' => ∃ v0_ : Value, e = .returned (.tuple #[v0_, .int .i64 r2]) ∧ Kd.R (Kd.int .i64) 3 w' w.heap.size (fun _ => True) v0_ r1 ∧ Below w.heap.size w w' := by
 have HR0 := sd_ hr0
 have HC0 := sd_ hc0
 clear hr0 hc0
 have HB := sd_ (Below.refl w.heap.size w)
 have H : ((chord_Sides.f k l0 a2).bind fun bt155 => (if bt155.2 = 0 then ((chord_head.f a1).bind fun t159 => (chord_Spots.j0 k a1 a2 a3 bt155.1 (!t159))) else (chord_Spots.j0 k a1 a2 a3 bt155.1 true))) = some (r1, r2) := h
 clear h
 replace H := ob_ H
 obtain ⟨⟨t155, t156⟩, A50, H⟩ := H
 replace H : (if t156 = 0 then ((chord_head.f a1).bind fun t159 => (chord_Spots.j0 k a1 a2 a3 t155 (!t159))) else (chord_Spots.j0 k a1 a2 a3 t155 true)) = some (r1, r2) := H
 have A5 := sd_ A50
 clear A50
 have HC6 := sd_ H
 clear H
 go_enter Tryd.func10, Tryd.ntmps10
 go_upto_region 2 with (first | ((with_reducible refine gate_callee (f := 8) rfl ?_); refine goesL_ (some 16) rfl rfl Tryd.func8 (by kernel_rfl) rfl #[.slice A0 l0.length c0, .bool a2] rfl (by (try simp only [lm_, lq_, lx_]); first | done | rfl | (simp only [ld_, lt_]; rfl)) ?_; (with_reducible refine (chord_Sides.calls k _ _ l0 a2 t155 t156 _ ?side1 ?side2 A5.out).mono ?_); (case side1 => repeat (first | exact HR0.out | (with_reducible refine Kd.C_alloc ?_ _) | (with_reducible refine Kd.C_drewN ?_ _) | (with_reducible refine Kd.C_drew ?_))); (case side2 => exact HC0.out); rintro e w7 ⟨v157, rfl, ho0, hb⟩; refine ⟨_, rfl, ?_⟩; have HO158 := sd_ (Kd.R_lower ho0 (bz_ (bb_ HB.out e0_))); replace HB := hb_ HB e0_ hb; (try clear hb); (try clear hb2); (try clear hk); (try clear hi); (try clear ho0)))
 (try simp only [Act.put, ls_, lz_, lc_])
 go_cut [25] (fun v25 wc => ∃ (kq : Nat) (x25_5 : Bool), v25 = .bool x25_5 ∧ Aside0 (chord_Spots.j0 kq a1 a2 a3 t155 x25_5 = some (r1, r2)) ∧ Aside0 (kq ≤ k) ∧ Aside0 (Kd.R (Kd.int .i64) 3 wc w.heap.size (fun _ => True) v157 t155) ∧ Aside0 (Below w.heap.size w wc))
 case first =>
  have H := HC6.out
  clear HC6
  by_cases c8 : t156 = 0
  ·rw [if_pos c8] at H
   have c8b0 : (t156 == 0) = true := beq_iff_eq.mpr c8
   have c8b1 : (t156 != 0) = false := bne_eq_false_iff_eq.mpr c8
   clear c8
   (first | rw [c8b0] | (simp only [i64_w, i32_w]; rw [c8b0]) | skip)
   replace H := ob_ H
   obtain ⟨t159, A90, H⟩ := H
   replace H : (chord_Spots.j0 k a1 a2 a3 t155 (!t159)) = some (r1, r2) := H
   have A9 := sd_ A90
   clear A90
   have H' := sd_ H
   clear H
   go_wp2_with (first | (go_at_call 24; (with_reducible refine (chord_head.calls a1 t159 _ A9.out).mono ?_); rintro e w' ⟨rfl, ⟨nd, rfl⟩⟩))
   go_meet
   case rel => exact ⟨_, (!t159), (by first | rfl | (simp; done) | (simp [*]; done) | (simp [bne]; done)), H', ⟨by first | omega | exact Nat.le_refl _⟩, ⟨by (with_reducible repeat (first | apply Kd.R_alloc | apply Kd.R_drewN | apply Kd.R_drew)); exact HO158.out⟩, ⟨by repeat (first | (with_reducible first | exact HB.out | apply ba_ | apply pd_ | apply d1_) | exact HB.out)⟩⟩
  ·rw [if_neg c8] at H
   have c8b0 : (t156 == 0) = false := beq_eq_false_iff_ne.mpr c8
   have c8b1 : (t156 != 0) = true := bne_iff_ne.mpr c8
   (first | rw [c8b0] | (simp only [i64_w, i32_w]; rw [c8b0]) | skip)
   have H' := sd_ H
   clear H
   go_wp2
   go_meet
   case rel => exact ⟨_, (true), (by first | rfl | (simp; done) | (simp [*]; done) | (simp [bne]; done)), H', ⟨by first | omega | exact Nat.le_refl _⟩, ⟨by (with_reducible repeat (first | apply Kd.R_alloc | apply Kd.R_drewN | apply Kd.R_drew)); exact HO158.out⟩, ⟨by repeat (first | (with_reducible first | exact HB.out | apply ba_ | apply pd_ | apply d1_) | exact HB.out)⟩⟩
 case rest =>
  clear HC6
  try clear c1; try clear p2; try clear c8; try clear c8b0; try clear c8b1
  obtain ⟨kq, x25_5, rfl, HA, HJ5, HO_10, HB⟩ := hcut
  cases kq with
  | zero => exact absurd HA.out (by simp [chord_Spots.j0])
  | succ kj5 =>
   have H := HA.out
   clear HA
   simp only [chord_Spots.j0] at H
   by_cases c10 : x25_5 = true
   ·subst c10
    have H1 : (some (([] : List Int), 2)) = some (r1, r2) := by rw [if_pos rfl] at H; exact H
    clear H; have H := H1; clear H1
    simp only [Option.some.injEq, Prod.mk.injEq] at H
    obtain ⟨rfl, rfl⟩ := H
    go_wp2
    go_ret2
    exact ⟨_, by first | rfl | (simp [errW_none, errW_some] <;> rfl) | (simp [*, errW_none, errW_some] <;> rfl), by first | exact Kd.R_nil _ _ _ _ _ | exact Kd.N_nil _ _ _ _ _ | exact Kd.V_nil _ _ _ _ _ | exact Kd.Q_nil _ _ _ _ _ | exact Kd.S_nil _ _ _ _ _, by repeat (first | (with_reducible first | exact HB.out | apply ba_ | apply pd_ | apply d1_) | exact HB.out)⟩
   ·replace c10 := bf_ c10
    subst c10
    have H1 : (chord_Spots.l0 kj5 a1 a2 a3 t155 (t155.length : Int) 0) = some (r1, r2) := by rw [if_neg (show ¬ (false = true) by decide)] at H; exact H
    clear H; have H := H1; clear H1
    have H' := sd_ H
    clear H
    obtain ⟨Ao11, co11, eo11⟩ := Kd.R_slice HO_10.out
    subst eo11
    go_wp2
    go_loopg [28] kj5 (fun kq v28 w' => ∃ (x10_2 : List Int) (x28_2 : Int), v28 = .int .i64 x28_2 ∧ Aside0 (chord_Spots.l0 kq a1 a2 a3 x10_2 (t155.length : Int) x28_2 = some (r1, r2)) ∧ Aside0 (kq ≤ kj5) ∧ Aside0 (Kd.R (Kd.int .i64) 3 w' w.heap.size (fun _ => True) (.slice Ao11 t155.length co11) x10_2) ∧ Aside0 (Below w.heap.size w w'))
    case atStart => exact ⟨(t155), (0), (by first | rfl | (simp; done) | (simp [*]; done) | (simp [bne]; done)), H', ⟨Nat.le_refl _⟩, ⟨by (with_reducible repeat (first | apply Kd.R_alloc | apply Kd.R_drewN | apply Kd.R_drew)); exact HO_10.out⟩, ⟨by repeat (first | (with_reducible first | exact HB.out | apply ba_ | apply pd_ | apply d1_) | exact HB.out)⟩⟩
    case round =>
     clear H'
     try clear c1; try clear p2; try clear c8; try clear c8b0; try clear c8b1; try clear c10; try clear p2
     obtain ⟨x10_2, x28_2, rfl, HA, HK2, HO_10, HB⟩ := hrel
     have hl10_2 := (Kd.R_reads' HO_10.out).1
     rw [hl10_2] at HO_10
     (try simp only [hl10_2])
     cases gk with
     | zero => exact absurd HA.out (by simp [chord_Spots.l0])
     | succ k2 =>
      have H := HA.out
      clear HA
      simp only [chord_Spots.l0] at H
      by_cases c12 : x28_2 < (t155.length : Int)
      ·rw [if_pos c12] at H
       have c12b0 : decide (x28_2 < (t155.length : Int)) = true := dt_ c12
       clear c12
       by_cases c13 : 0 ≤ x28_2
       ·rw [if_pos c13] at H
        have c13b0 : decide (0 ≤ x28_2) = true := dt_ c13
        clear c13
        by_cases c14 : x28_2 < (x10_2.length : Int)
        ·rw [if_pos c14] at H
         have c14b0 : decide (x28_2 < (x10_2.length : Int)) = true := dt_ c14
         clear c14
         replace H := ob_ H
         obtain ⟨t161, A150, H⟩ := H
         replace H : ((some (x10_2.set (x28_2 : Int).toNat (wrap64 ((rd x10_2 x28_2) * t161)) : List Int)).bind fun y162 => (if a2 = true then (chord_Spots.l0 k2 a1 a2 a3 y162 (t155.length : Int) (wrap64 (x28_2 + 1))) else (chord_Spots.l0 k2 a1 a2 a3 (y162.set (x28_2 : Int).toNat (wrap64 (-(wrap64 ((rd x10_2 x28_2) * t161))))) (t155.length : Int) (wrap64 (x28_2 + 1))))) = some (r1, r2) := H
         have A15 := sd_ A150
         clear A150
         obtain ⟨y162, hy162⟩ : ∃ y_ : List Int, y_ = (x10_2.set (x28_2 : Int).toNat (wrap64 ((rd x10_2 x28_2) * t161))) := ⟨_, rfl⟩
         replace H : (if a2 = true then (chord_Spots.l0 k2 a1 a2 a3 y162 (t155.length : Int) (wrap64 (x28_2 + 1))) else (chord_Spots.l0 k2 a1 a2 a3 (y162.set (x28_2 : Int).toNat (wrap64 (-(wrap64 ((rd x10_2 x28_2) * t161))))) (t155.length : Int) (wrap64 (x28_2 + 1)))) = some (r1, r2) := by first | (rw [hy162]; with_reducible exact H) | (have H2_ := (Option.bind_some _ _).symm.trans H; rw [hy162]; with_reducible exact H2_) | (have H2_ := (Option.bind_some _ _).symm.trans H; with_reducible exact H2_) | with_reducible exact H | (rw [hy162]; exact H) | exact H
         have Ny162 := sd_ hy162
         clear hy162
         by_cases c17 : a2 = true
         ·subst c17
          have H1 : (chord_Spots.l0 k2 a1 true a3 y162 (t155.length : Int) (wrap64 (x28_2 + 1))) = some (r1, r2) := by rw [if_pos rfl] at H; exact H
          clear H; have H := H1; clear H1
          have H' := sd_ H
          clear H
          try go_wp2
          replace HO_10 := sd_ (Kd.R_drew HO_10.out)
          replace HB := sd_ (d1_ HB.out)
          have p160 : 0 ≤ (x28_2 : Int) := od_ (by first | (with_reducible assumption) | assumption)
          have q160 : x28_2 < (x10_2.length : Int) := od_ (by first | (with_reducible assumption) | assumption)
          obtain ⟨ad160, e160, hx160_0⟩ := Kd.at_int (Kd.R_reads' HO_10.out).2.2 x28_2 p160 q160
          cases e160
          replace p160 := eq_true p160
          replace q160 := eq_true q160
          refine start_ (n := 10) (S := fun w' => w'.cell? (ad160.add (x28_2).toNat) = some (.int .i64 (rd x10_2 x28_2))) (ds := [9]) (Array.replicate 10 false) (by kernel_rfl) rfl rfl (hx160_0) (fun hHeld => ?_); refine with_tabW chord_Spots.tab7 chord_Spots.bits7 (fun HT_ HW_ => ?_)
          generalize wr.drew = w18 at HO_10 HB hx160_0 hHeld ⊢
          refine pu_ (v := ?_) (a' := ?_) 0 31 (bz 10 1) rfl rfl HT_ (by kernel_rfl) (fun _ _ _ h => h) (by rfl) ?_ ?_ ?_
          rotate_left; (intro w'; go_simp; with_reducible rfl); rotate_left; (simp only [Act.put, ls_, lz_, lc_, i64_w, i32_w]; rfl)
          refine pu_ (v := ?_) (a' := ?_) 1 32 (bz 10 3) rfl rfl HT_ (by kernel_rfl) (fun _ _ _ h => h) (by rfl) ?_ ?_ ?_
          rotate_left; (intro w'; go_simp; with_reducible rfl); rotate_left; (simp only [Act.put, ls_, lz_, lc_, i64_w, i32_w]; rfl)
          refine pu_ (v := ?_) (a' := ?_) 2 33 (bz 10 7) rfl rfl HT_ (by kernel_rfl) (fun _ _ _ h => h) (by rfl) ?_ ?_ ?_
          rotate_left; (intro w'; go_simp; with_reducible rfl); rotate_left; (simp only [Act.put, ls_, lz_, lc_, i64_w, i32_w]; rfl)
          refine pu_ (v := ?_) (a' := ?_) 4 35 (bz 10 23) rfl rfl HT_ (by kernel_rfl) (fun _ _ _ h => h) (by rfl) ?_ ?_ ?_
          rotate_left; (intro w'; go_simp; with_reducible rfl); rotate_left; (simp only [Act.put, ls_, lz_, lc_, i64_w, i32_w]; rfl)
          refine pu_ (v := ?_) (a' := ?_) 5 36 (bz 10 55) rfl rfl HT_ (by kernel_rfl) (fun _ _ _ h => h) (by rfl) ?_ ?_ ?_
          rotate_left; (intro w'; go_simp; with_reducible rfl); rotate_left; (simp only [Act.put, ls_, lz_, lc_, i64_w, i32_w]; rfl)
          refine ta_ (v := ?_) (a' := ?_) 3 34 (bz 10 63) rfl rfl HT_ HW_ (by kernel_rfl) (fun _ _ _ h => h) (by rfl) ?_ hHeld ?_ ?_
          rotate_left
          ·intro w' s0
           go_simp
           with_reducible rfl
          rotate_left
          ·simp only [Act.put, ls_, lz_, lc_, i64_w, i32_w]
           rfl
          refine on_ (N := some 37) 6 (bz 10 127) rfl rfl HT_ (by kernel_rfl) (by decide) (fun K hK => ?_)
          refine goes_ Tryd.func25 (by kernel_rfl) rfl #[.int .i64 a1, .bool a3] (by rfl) rfl rfl (by (try simp only [lm_, lq_, lx_]); first | done | rfl | (simp only [ld_, lt_]; rfl)) ?_
          with_reducible refine (chord_wide.calls a1 a3 t161 _ ?side1 A15.out).mono ?_
          (case side1 => first | (with_reducible exact hE) | exact sd_ (LaidE.below hE.out (bb_ HB.out e0_)))
          rintro e w19 ⟨rfl, hb⟩
          have HS0_ := (hb.cell (wb_ _ _ (hHeld))).trans (hHeld)
          refine ⟨_, rfl, ?_⟩
          replace HO_10 := sd_ (Kd.R_below (by (with_reducible repeat (first | apply Kd.R_alloc | apply Kd.R_drewN | apply Kd.R_drew)); exact HO_10.out) hb)
          replace HB := hb_ HB e0_ hb
          (try clear hb)
          (try clear hb2)
          (try clear hk)
          (try clear hi)
          have p16 : 0 ≤ (x28_2 : Int) := od_ (by first | (with_reducible assumption) | assumption)
          have q16 : (x28_2 : Int) < ((x10_2.length : Int) : Int) := od_ (by first | (with_reducible assumption) | assumption)
          obtain ⟨go16, co16, eo16, gb16, gl16, cl16, HG16⟩ := Kd.R_form HO_10.out (by omega)
          (first | cases eo16 | (injection eo16 with ea_ en_ ec_; (first | subst ea_ | (injection ea_ with ea_; subst ea_)); subst ec_; clear en_))
          have GB16 := sd_ gb16
          have GG16 := sd_ HG16
          clear gb16 gl16 HG16
          (first | simp only [add_plain] at hx160_0 | skip)
          obtain ⟨hx16_0, hf16_0⟩ := Kd.R_celln 0 HO_10.out (x28_2 : Int) p16 q16
          replace p16 := eq_true p16
          replace q16 := eq_true q16
          have HP20 := Kd.R_putn HO_10.out (x28_2 : Int) (wrap64 ((rd x10_2 x28_2) * t161))
          rw [← Ny162.out] at HP20
          have HQ20 := sd_ HP20
          clear HP20
          refine hK.out _ _ (HS0_) (fun hHeld => ?_)
          clear hK K
          refine norm_ (a' := ?_) ?_ ?_
          rotate_left
          ·show Act.put _ (some 37) _ = _
           simp only [Act.put, ls_, lz_, lc_, i64_w, i32_w]
           rfl
          refine pu_ (v := ?_) (a' := ?_) 7 38 (bz 10 255) rfl rfl HT_ (by kernel_rfl) (fun _ _ _ h => h) (by rfl) ?_ ?_ ?_
          rotate_left; (intro w'; go_simp; with_reducible rfl); rotate_left; (simp only [Act.put, ls_, lz_, lc_, i64_w, i32_w]; rfl)
          refine pu_ (v := ?_) (a' := ?_) 8 39 (bz 10 511) rfl rfl HT_ (by kernel_rfl) (fun _ _ _ h => h) (by rfl) ?_ ?_ ?_
          rotate_left; (intro w'; go_simp; with_reducible rfl); rotate_left; (simp only [Act.put, ls_, lz_, lc_, i64_w, i32_w]; rfl)
          refine last_ (i := 9) (N := none) (bz 10 1023) rfl rfl (one_of HT_.out (by kernel_rfl)) (by decide) (fun K hK => ?_)
          refine skip_ (w1 := ?_) (by rfl) rfl ?_ ?_
          rotate_left
          ·go_simp
           rfl
          refine hK.out _ _ ?_
          clear hK K
          refine done_ (done_of HT_.out (by kernel_rfl)) ?_
          try go_wp2
          (try simp only [← hl10_2])
          go_roundg k2
          case measure => have := HJ5.out; have := HK2.out; omega
          case rel => exact ⟨(y162), (wrap64 (x28_2 + 1)), (by first | rfl | (simp; done) | (simp [*]; done) | (simp [bne]; done)), H', ⟨by have := HJ5.out; have := HK2.out; omega⟩, ⟨by (try simp only [hl10_2]); (with_reducible repeat (first | apply Kd.R_alloc | apply Kd.R_drewN | apply Kd.R_drew)); exact HQ20.out⟩, ⟨by repeat (first | (with_reducible first | exact HB.out | apply ba_ | apply pd_ | apply d1_ | refine bs_ ?_ GB16.out) | exact HB.out)⟩⟩
         ·replace c17 := bf_ c17
          subst c17
          have H1 : (chord_Spots.l0 k2 a1 false a3 (y162.set (x28_2 : Int).toNat (wrap64 (-(wrap64 ((rd x10_2 x28_2) * t161))))) (t155.length : Int) (wrap64 (x28_2 + 1))) = some (r1, r2) := by rw [if_neg (show ¬ (false = true) by decide)] at H; exact H
          clear H; have H := H1; clear H1
          obtain ⟨y164, hy164⟩ : ∃ y_ : List Int, y_ = (y162.set (x28_2 : Int).toNat (wrap64 (-(wrap64 ((rd x10_2 x28_2) * t161))))) := ⟨_, rfl⟩
          replace H : (chord_Spots.l0 k2 a1 false a3 y164 (t155.length : Int) (wrap64 (x28_2 + 1))) = some (r1, r2) := by first | (rw [hy164]; with_reducible exact H) | (have H2_ := (Option.bind_some _ _).symm.trans H; rw [hy164]; with_reducible exact H2_) | (have H2_ := (Option.bind_some _ _).symm.trans H; with_reducible exact H2_) | with_reducible exact H | (rw [hy164]; exact H) | exact H
          have Ny164 := sd_ hy164
          clear hy164
          have H' := sd_ H
          clear H
          try go_wp2
          replace HO_10 := sd_ (Kd.R_drew HO_10.out)
          replace HB := sd_ (d1_ HB.out)
          have p160 : 0 ≤ (x28_2 : Int) := od_ (by first | (with_reducible assumption) | assumption)
          have q160 : x28_2 < (x10_2.length : Int) := od_ (by first | (with_reducible assumption) | assumption)
          obtain ⟨ad160, e160, hx160_0⟩ := Kd.at_int (Kd.R_reads' HO_10.out).2.2 x28_2 p160 q160
          cases e160
          replace p160 := eq_true p160
          replace q160 := eq_true q160
          refine start_ (n := 10) (S := fun w' => w'.cell? (ad160.add (x28_2).toNat) = some (.int .i64 (rd x10_2 x28_2))) (ds := [9]) (Array.replicate 10 false) (by kernel_rfl) rfl rfl (hx160_0) (fun hHeld => ?_); refine with_tabW chord_Spots.tab7 chord_Spots.bits7 (fun HT_ HW_ => ?_)
          generalize wr.drew = w23 at HO_10 HB hx160_0 hHeld ⊢
          refine pu_ (v := ?_) (a' := ?_) 0 31 (bz 10 1) rfl rfl HT_ (by kernel_rfl) (fun _ _ _ h => h) (by rfl) ?_ ?_ ?_
          rotate_left; (intro w'; go_simp; with_reducible rfl); rotate_left; (simp only [Act.put, ls_, lz_, lc_, i64_w, i32_w]; rfl)
          refine pu_ (v := ?_) (a' := ?_) 1 32 (bz 10 3) rfl rfl HT_ (by kernel_rfl) (fun _ _ _ h => h) (by rfl) ?_ ?_ ?_
          rotate_left; (intro w'; go_simp; with_reducible rfl); rotate_left; (simp only [Act.put, ls_, lz_, lc_, i64_w, i32_w]; rfl)
          refine pu_ (v := ?_) (a' := ?_) 2 33 (bz 10 7) rfl rfl HT_ (by kernel_rfl) (fun _ _ _ h => h) (by rfl) ?_ ?_ ?_
          rotate_left; (intro w'; go_simp; with_reducible rfl); rotate_left; (simp only [Act.put, ls_, lz_, lc_, i64_w, i32_w]; rfl)
          refine pu_ (v := ?_) (a' := ?_) 4 35 (bz 10 23) rfl rfl HT_ (by kernel_rfl) (fun _ _ _ h => h) (by rfl) ?_ ?_ ?_
          rotate_left; (intro w'; go_simp; with_reducible rfl); rotate_left; (simp only [Act.put, ls_, lz_, lc_, i64_w, i32_w]; rfl)
          refine pu_ (v := ?_) (a' := ?_) 5 36 (bz 10 55) rfl rfl HT_ (by kernel_rfl) (fun _ _ _ h => h) (by rfl) ?_ ?_ ?_
          rotate_left; (intro w'; go_simp; with_reducible rfl); rotate_left; (simp only [Act.put, ls_, lz_, lc_, i64_w, i32_w]; rfl)
          refine ta_ (v := ?_) (a' := ?_) 3 34 (bz 10 63) rfl rfl HT_ HW_ (by kernel_rfl) (fun _ _ _ h => h) (by rfl) ?_ hHeld ?_ ?_
          rotate_left
          ·intro w' s0
           go_simp
           with_reducible rfl
          rotate_left
          ·simp only [Act.put, ls_, lz_, lc_, i64_w, i32_w]
           rfl
          refine on_ (N := some 37) 6 (bz 10 127) rfl rfl HT_ (by kernel_rfl) (by decide) (fun K hK => ?_)
          refine goes_ Tryd.func25 (by kernel_rfl) rfl #[.int .i64 a1, .bool a3] (by rfl) rfl rfl (by (try simp only [lm_, lq_, lx_]); first | done | rfl | (simp only [ld_, lt_]; rfl)) ?_
          with_reducible refine (chord_wide.calls a1 a3 t161 _ ?side1 A15.out).mono ?_
          (case side1 => first | (with_reducible exact hE) | exact sd_ (LaidE.below hE.out (bb_ HB.out e0_)))
          rintro e w24 ⟨rfl, hb⟩
          have HS0_ := (hb.cell (wb_ _ _ (hHeld))).trans (hHeld)
          refine ⟨_, rfl, ?_⟩
          replace HO_10 := sd_ (Kd.R_below (by (with_reducible repeat (first | apply Kd.R_alloc | apply Kd.R_drewN | apply Kd.R_drew)); exact HO_10.out) hb)
          replace HB := hb_ HB e0_ hb
          (try clear hb)
          (try clear hb2)
          (try clear hk)
          (try clear hi)
          have p16 : 0 ≤ (x28_2 : Int) := od_ (by first | (with_reducible assumption) | assumption)
          have q16 : (x28_2 : Int) < ((x10_2.length : Int) : Int) := od_ (by first | (with_reducible assumption) | assumption)
          obtain ⟨go16, co16, eo16, gb16, gl16, cl16, HG16⟩ := Kd.R_form HO_10.out (by omega)
          (first | cases eo16 | (injection eo16 with ea_ en_ ec_; (first | subst ea_ | (injection ea_ with ea_; subst ea_)); subst ec_; clear en_))
          have GB16 := sd_ gb16
          have GG16 := sd_ HG16
          clear gb16 gl16 HG16
          (first | simp only [add_plain] at hx160_0 | skip)
          obtain ⟨hx16_0, hf16_0⟩ := Kd.R_celln 0 HO_10.out (x28_2 : Int) p16 q16
          replace p16 := eq_true p16
          replace q16 := eq_true q16
          have HP25 := Kd.R_putn HO_10.out (x28_2 : Int) (wrap64 ((rd x10_2 x28_2) * t161))
          rw [← Ny162.out] at HP25
          have HQ25 := sd_ HP25
          clear HP25
          refine hK.out _ _ (HS0_) (fun hHeld => ?_)
          clear hK K
          refine norm_ (a' := ?_) ?_ ?_
          rotate_left
          ·show Act.put _ (some 37) _ = _
           simp only [Act.put, ls_, lz_, lc_, i64_w, i32_w]
           rfl
          refine pu_ (v := ?_) (a' := ?_) 7 38 (bz 10 255) rfl rfl HT_ (by kernel_rfl) (fun _ _ _ h => h) (by rfl) ?_ ?_ ?_
          rotate_left; (intro w'; go_simp; with_reducible rfl); rotate_left; (simp only [Act.put, ls_, lz_, lc_, i64_w, i32_w]; rfl)
          refine pu_ (v := ?_) (a' := ?_) 8 39 (bz 10 511) rfl rfl HT_ (by kernel_rfl) (fun _ _ _ h => h) (by rfl) ?_ ?_ ?_
          rotate_left; (intro w'; go_simp; with_reducible rfl); rotate_left; (simp only [Act.put, ls_, lz_, lc_, i64_w, i32_w]; rfl)
          refine last_ (i := 9) (N := none) (bz 10 1023) rfl rfl (one_of HT_.out (by kernel_rfl)) (by decide) (fun K hK => ?_)
          refine skip_ (w1 := ?_) (by rfl) rfl ?_ ?_
          rotate_left
          ·go_simp
           rfl
          refine hK.out _ _ ?_
          clear hK K
          refine done_ (done_of HT_.out (by kernel_rfl)) ?_
          have n0_ : Aside0 (Kd.R (Kd.int .i64) 3 (w24.setCell ⟨go16, (x28_2 : Int).toNat, none⟩ (.int .i64 (wrap64 ((rd x10_2 x28_2) * t161)))) w.heap.size (fun _ => True) (.slice (some ⟨go16, 0, none⟩) x10_2.length co11) y162) := ⟨by (with_reducible repeat (first | apply Kd.R_alloc | apply Kd.R_drewN | apply Kd.R_drew)); exact HQ25.out⟩
          have n1_ : Aside0 (Below w.heap.size w (w24.setCell ⟨go16, (x28_2 : Int).toNat, none⟩ (.int .i64 (wrap64 ((rd x10_2 x28_2) * t161))))) := ⟨by repeat (first | (with_reducible first | exact HB.out | apply ba_ | apply pd_ | apply d1_ | refine bs_ ?_ GB16.out) | exact HB.out)⟩
          (try clear HO_10)
          (try clear HB)
          generalize (w24.setCell ⟨go16, (x28_2 : Int).toNat, none⟩ (.int .i64 (wrap64 ((rd x10_2 x28_2) * t161)))) = w26 at n0_ n1_ ⊢
          have HO_10 := n0_
          have HB := n1_
          clear n0_ n1_
          have p21 : 0 ≤ (x28_2 : Int) := od_ (by first | (with_reducible assumption) | assumption)
          have q21 : (x28_2 : Int) < ((x10_2.length : Int) : Int) := od_ (by first | (with_reducible assumption) | assumption)
          replace p21 := eq_true p21
          replace q21 := eq_true q21
          have p22 : 0 ≤ (x28_2 : Int) := od_ (by first | (with_reducible assumption) | assumption)
          have q22 : (x28_2 : Int) < ((x10_2.length : Int) : Int) := od_ (by first | (with_reducible assumption) | assumption)
          replace p22 := eq_true p22
          replace q22 := eq_true q22
          obtain ⟨hy27_, hz27_⟩ := Kd.R_celln 0 HO_10.out (x28_2 : Int) (od_ (by first | (with_reducible assumption) | assumption)) (od_ (by first | (with_reducible assumption) | assumption))
          (try (have hs_ := (congrArg (fun q => rdOf 0 q (x28_2 : Int)) Ny162.out).trans (rdset_ (of_eq_true p22) (of_eq_true q22) _); rw [hs_] at hy27_))
          have HP27 := Kd.R_putg HO_10.out (x28_2 : Int) (wrap64 (-(wrap64 ((rd x10_2 x28_2) * t161))))
          try go_wp2_with (first | ((with_reducible refine gate_store (t := 3) (p := 49) rfl ?_); refine store_event (t := 3) (p := 49) (v := ?vo_w28) (w1 := (w26.setCell ⟨go16, (x28_2 : Int).toNat, none⟩ (.int .i64 (wrap64 (-(wrap64 ((rd x10_2 x28_2) * t161))))))) ?hg ?ho ?hn ?hr ?_; (case ho => rfl); (case hg => rfl); (case hn => rfl); (case hr => first | (go_simp; done) | (go_simp; rfl)); intro w28 hw; have hg : w26.grownBy w28 (some go16) := (by rw [hw]; exact HP27.2); have hp_ : Kd.R (Kd.int .i64) 3 w28 w.heap.size (fun _ => True) (.slice (some ⟨go16, 0, none⟩) x10_2.length co11) y164 := (by rw [hw, Ny164.out]; exact HP27.1); clear HP27; replace HO_10 := sd_ (hp_); replace HB := sd_ ((by rw [hw]; exact bs_ (HB.out) GB16.out : Below w.heap.size w w28)); clear hg hw hp_))
          (try simp only [← hl10_2])
          go_roundg k2
          case measure => have := HJ5.out; have := HK2.out; omega
          case rel => exact ⟨(y164), (wrap64 (x28_2 + 1)), (by first | rfl | (simp; done) | (simp [*]; done) | (simp [bne]; done)), H', ⟨by have := HJ5.out; have := HK2.out; omega⟩, ⟨by (try simp only [hl10_2]); (with_reducible repeat (first | apply Kd.R_alloc | apply Kd.R_drewN | apply Kd.R_drew)); exact HO_10.out⟩, ⟨by repeat (first | (with_reducible first | exact HB.out | apply ba_ | apply pd_ | apply d1_) | exact HB.out)⟩⟩
        ·rw [if_neg c14] at H
         exact absurd H (by simp)
       ·rw [if_neg c13] at H
        exact absurd H (by simp)
      ·rw [if_neg c12] at H
       have c12b0 : decide (x28_2 < (t155.length : Int)) = false := df_ c12
       (try (have c12b09 := c12b0; rw [hl10_2] at c12b09))
       clear c12
       simp only [Option.some.injEq, Prod.mk.injEq] at H
       obtain ⟨rfl, rfl⟩ := H
       go_wp2
       go_ret2
       exact ⟨_, by first | rfl | (simp [errW_none, errW_some] <;> rfl) | (simp [*, errW_none, errW_some] <;> rfl), by (with_reducible repeat (first | apply Kd.R_alloc | apply Kd.R_drewN | apply Kd.R_drew)); exact HO_10.out, by repeat (first | (with_reducible first | exact HB.out | apply ba_ | apply pd_ | apply d1_) | exact HB.out)⟩

/-! ### chord_Stem: function 12 -/
def chord_Stem.f (a0 : Int) (a1 a2 : Bool) : Option (Int × Int) := if a0 = 3 ∨ a0 = 4 then (chord_wide.f a0 a2).bind fun x => some (if a1 = true then x else 0, 0) else some (0, 2)
set_option maxHeartbeats 8000000 in
set_option maxRecDepth 100000 in
theorem chord_Stem.calls (a0 : Int) (a1 a2 : Bool) (r1 r2 : Int) (w : World) (hE : Aside0 (LaidE w)) (h : chord_Stem.f a0 a1 a2 = some (r1, r2)) :
  Calls Tryd.prog 12 #[.int .i64 a0, .bool a1, .bool a2] w fun e w' => e = .returned (.tuple #[.int .i64 r1, .int .i64 r2]) ∧ Below w.heap.size w w' := by
 unfold chord_Stem.f at h
 by_cases c : a0 = 3 ∨ a0 = 4
 rotate_left
 ·rw [if_neg c] at h
  obtain ⟨rfl, rfl⟩ : 0 = r1 ∧ 2 = r2 := by simpa using h
  have c3 : (a0 != 3) = true := bne_iff_ne.2 (fun q => c (.inl q))
  have c4 : (a0 != 4) = true := bne_iff_ne.2 (fun q => c (.inr q))
  clear h c
  go_enter Tryd.func12, Tryd.ntmps12
  go_wp2
  go_ret2
  exact ⟨rfl, Below.refl _ _⟩
 ·rw [if_pos c] at h
  obtain ⟨x, hx, h⟩ := ob_ h
  have HX := sd_ hx
  clear hx
  have hc : (a0 != 3) = false ∨ ((a0 != 3) = true ∧ (a0 != 4) = false) := by
   rcases c with rfl | rfl
   ·exact .inl rfl
   ·exact .inr ⟨rfl, rfl⟩
  cases a1
  ·obtain ⟨rfl, rfl⟩ : 0 = r1 ∧ 0 = r2 := by simpa using h
   clear h c
   rcases hc with c3 | ⟨c3, c4⟩
   all_goals
    go_enter Tryd.func12, Tryd.ntmps12
    go_wp2_with (go_at_call 25; refine (chord_wide.calls a0 a2 x _ hE HX.out).mono ?_; rintro e w1 ⟨rfl, hb⟩)
    go_ret2
    exact ⟨rfl, ba_ hb _⟩
  ·obtain ⟨rfl, rfl⟩ : x = r1 ∧ 0 = r2 := by simpa using h
   clear h c
   rcases hc with c3 | ⟨c3, c4⟩
   all_goals
    go_enter Tryd.func12, Tryd.ntmps12
    go_wp2_with (go_at_call 25; refine (chord_wide.calls a0 a2 x _ hE HX.out).mono ?_; rintro e w1 ⟨rfl, hb⟩)
    go_ret2
    exact ⟨rfl, ba_ hb _⟩

/-! ### fix_Add: function 52 -/
theorem fx_all2 {a b : Int} (h : fx_ok a = true) (h' : fx_ok b = true) : [a, b].all fx_ok = true := by simp [h, h']
theorem fx_bad2 {a b : Int} (h : ¬ (fx_ok a = true ∧ fx_ok b = true)) : [a, b].all fx_ok = false := by
 cases ha : fx_ok a <;> cases hb : fx_ok b <;> simp_all
theorem fx_bd {a : Int} (h : fx_ok a = true) : -1099511627776 ≤ a ∧ a ≤ 1099511627776 := od_ h
def fix_Add.f (a b : Int) : Option (Int × Int) := if fx_ok a = true ∧ fx_ok b = true then fix_out.f (a + b) else some (0, 3)
theorem fix_Add.calls (a b r1 r2 : Int) (w : World) (hE : Aside0 (LaidE w)) (h : fix_Add.f a b = some (r1, r2)) :
  Calls Tryd.prog 52 #[.int .i64 a, .int .i64 b] w fun e w' => e = .returned (.tuple #[.int .i64 r1, .int .i64 r2]) ∧ Below w.heap.size w w' := by
 have hC : Kd.C (Kd.int .i64) (w.alloc (.cells #[.int .i64 a, .int .i64 b] 3)) (some ⟨w.heap.size, 0, none⟩) 2 [a, b] := fx_C w [a, b] (by simp)
 have hb1 : Below w.heap.size w (w.alloc (.cells #[.int .i64 a, .int .i64 b] 3)) := ba_ (Below.refl _ _) _
 unfold fix_Add.f at h
 by_cases c : fx_ok a = true ∧ fx_ok b = true
 ·rw [if_pos c] at h
  have HA := sd_ (fix_all_ok _ 2 [a, b] _ hC (fx_all2 c.1 c.2))
  have HO := sd_ (fix_out_nil (a + b) r1 r2 _ (hE.out.below hb1) h)
  have HB1 := sd_ hb1
  obtain ⟨b1, b2⟩ := fx_bd c.1
  obtain ⟨b3, b4⟩ := fx_bd c.2
  clear h hC hE hb1 c
  go_enter Tryd.func52, Tryd.ntmps52
  go_wp2_with (first | (go_at_call 58; refine HA.out.mono ?_; rintro e w' ⟨rfl, rfl⟩) | (go_at_call 59; refine HO.out.mono ?_; rintro e w' ⟨rfl, hb⟩; have HB := sd_ (below_then HB1.out HB1.out.size hb); clear hb))
  go_ret2
  exact ⟨rfl, HB.out⟩
 ·rw [if_neg c] at h
  obtain ⟨rfl, rfl⟩ : 0 = r1 ∧ 3 = r2 := by simpa using h
  have hb2 : Below w.heap.size w ((w.alloc (.cells #[.int .i64 a, .int .i64 b] 3)).alloc (.cells #[.int .i64 3] 88)) := ba_ hb1 _
  have HA := sd_ (fix_all_bad _ 2 [a, b] _ hC (fx_bad2 c))
  have HO := sd_ (fix_out_err 0 (w.heap.size + 1) 3 _ (hE.out.below hb2) (by simp))
  have HB1 := sd_ hb2
  clear h hC hE hb1 hb2 c
  go_enter Tryd.func52, Tryd.ntmps52
  go_wp2_with (first | (go_at_call 58; refine HA.out.mono ?_; rintro e w' ⟨rfl, rfl⟩) | (go_at_call 59; refine HO.out.mono ?_; rintro e w' ⟨rfl, hb⟩; have HB := sd_ (below_then HB1.out HB1.out.size hb); clear hb))
  go_ret2
  exact ⟨rfl, HB.out⟩

-- NOT PRINTED: function 51 (box_shifted_1)

end Go.Proofs.YtcokemaiploejaaDoor.P
