-- Written by a program of this session (wip/tools/xprint.py, over the kit's print): Lean checks it.
import Derived.Test.YtcokemaiploejaaDoorPx0
import Derived.Test.YtcokemaiploejaaDoorPx2
import Derived.Test.YtcokemaiploejaaDoorPx13
import Derived.Test.YtcokemaiploejaaDoorPx14
import Derived.Test.YtcokemaiploejaaDoorPx16
namespace Go.Proofs.YtcokemaiploejaaDoor.P
open Go.RowKit Go.Proofs.YtcokemaiploejaaDoorW.PrintWords Go.Proofs.YtcokemaiploejaaDoorW.PrintLast Go.Proofs.YtcokemaiploejaaDoorW.PrintMore
attribute [local go_sem] max2_int min2_int max_two min_two max_three min_three max_four min_four   -- for this text's walks alone
set_option linter.unusedVariables false
set_option linter.unusedSimpArgs false

/-! ### chord_Boxes: function 14 -/
mutual
def chord_Boxes.j0 : Nat → List Int → List Int → Int → Bool → Bool → Option ((List (S46)) × Int)
 | 0, _, _, _, _, _ => none
 | k + 1, x0, x1, x2, x3, x31 => if x31 = true then (some (([] : List (S46)), 2)) else ((glyph_Extent.f x2 x3).bind fun bt175 => (chord_Boxes.l0 k x1 ([] : List (S46)) x0 (x0.length : Int) 0 bt175.1 bt175.2.1 bt175.2.2.1 bt175.2.2.2.1))
def chord_Boxes.l0 : Nat → List Int → List (S46) → List Int → Int → Int → Int → Int → Int → Int → Option ((List (S46)) × Int)
 | 0, _, _, _, _, _, _, _, _, _ => none
 | k + 1, x1, x12, x38, x39, x40, x181000, x181001, x181002, x181003 => if x40 < x39 then (if 0 ≤ x40 then (if x40 < (x38.length : Int) then (if x40 < (x1.length : Int) then (if (rd x1 x40) < (-1073741824) then (chord_Boxes.j2 k x1 x12 x40 (rd x38 x40) x38 x39 x40 true x181000 x181001 x181002 x181003) else (chord_Boxes.j2 k x1 x12 x40 (rd x38 x40) x38 x39 x40 (decide ((rd x1 x40) > 1073741824)) x181000 x181001 x181002 x181003)) else (none)) else (none)) else (none)) else (some (x12, 0))
def chord_Boxes.j2 : Nat → List Int → List (S46) → Int → Int → List Int → Int → Int → Bool → Int → Int → Int → Int → Option ((List (S46)) × Int)
 | 0, _, _, _, _, _, _, _, _, _, _, _, _ => none
 | k + 1, x1, x12, x13, x14, x38, x39, x40, x56, x181000, x181001, x181002, x181003 => if x56 = true then (some (([] : List (S46)), 2)) else (if 0 ≤ x13 then (if x13 < (x1.length : Int) then ((box_Move.f x181000 x181001 x181002 x181003 (rd x1 x13) (wrap64 (512 * x14))).bind fun bt185 => (if bt185.2.2.2.2 = 0 then (if x12.length < 4398046511104 then (chord_Boxes.l0 k x1 (x12 ++ [(⟨bt185.1, bt185.2.1, bt185.2.2.1, bt185.2.2.2.1⟩ : S46)]) x38 x39 (wrap64 (x40 + 1)) x181000 x181001 x181002 x181003) else (none)) else (some (([] : List (S46)), 2)))) else (none)) else (none))
end
def chord_Boxes.f (k : Nat) (l0 : List Int) (l1 : List Int) (a2 : Int) (a3 : Bool) : Option ((List (S46)) × Int) := (chord_fits.f k l0).bind fun t173 => (if t173 = true then ((chord_head.f a2).bind fun t174 => (if t174 = true then (chord_Boxes.j0 k l0 l1 a2 a3 ((l1.length : Int) != (l0.length : Int))) else (chord_Boxes.j0 k l0 l1 a2 a3 true))) else (chord_Boxes.j0 k l0 l1 a2 a3 true))
theorem chord_Boxes.mono_l : ∀ k, (∀ y0 y1 y2 y3 y4, LeO (chord_Boxes.j0 k y0 y1 y2 y3 y4) (chord_Boxes.j0 (k + 1) y0 y1 y2 y3 y4)) ∧ (∀ y0 y1 y2 y3 y4 y5 y6 y7 y8, LeO (chord_Boxes.l0 k y0 y1 y2 y3 y4 y5 y6 y7 y8) (chord_Boxes.l0 (k + 1) y0 y1 y2 y3 y4 y5 y6 y7 y8)) ∧ (∀ y0 y1 y2 y3 y4 y5 y6 y7 y8 y9 y10 y11, LeO (chord_Boxes.j2 k y0 y1 y2 y3 y4 y5 y6 y7 y8 y9 y10 y11) (chord_Boxes.j2 (k + 1) y0 y1 y2 y3 y4 y5 y6 y7 y8 y9 y10 y11))
 | 0 => ⟨fun _ _ _ _ _ r h => by simp [chord_Boxes.j0] at h, fun _ _ _ _ _ _ _ _ _ r h => by simp [chord_Boxes.l0] at h, fun _ _ _ _ _ _ _ _ _ _ _ _ r h => by simp [chord_Boxes.j2] at h⟩
 | k + 1 => by
  obtain ⟨ih0, ih1, ih2⟩ := chord_Boxes.mono_l k
  refine ⟨?_, ?_, ?_⟩
  ·intro y0 y1 y2 y3 y4
   unfold chord_Boxes.j0
   repeat' first
   | (with_reducible exact ih0 _ _ _ _ _)
   | (with_reducible exact ih1 _ _ _ _ _ _ _ _ _)
   | (with_reducible exact ih2 _ _ _ _ _ _ _ _ _ _ _ _)
   | (with_reducible exact chord_fits.mono _ _)
   | (with_reducible exact LeO.refl _)
   | (with_reducible exact LeO.none _)
   | (with_reducible refine LeO.ite ?_ ?_)
   | (with_reducible refine LeO.bind ?_ (fun _ => ?_))
   | exact ih0 _ _ _ _ _
   | exact ih1 _ _ _ _ _ _ _ _ _
   | exact ih2 _ _ _ _ _ _ _ _ _ _ _ _
   | exact chord_fits.mono _ _
   | exact LeO.none _
   | refine LeO.ite ?_ ?_
   | refine LeO.bind ?_ (fun _ => ?_)
  ·intro y0 y1 y2 y3 y4 y5 y6 y7 y8
   unfold chord_Boxes.l0
   repeat' first
   | (with_reducible exact ih0 _ _ _ _ _)
   | (with_reducible exact ih1 _ _ _ _ _ _ _ _ _)
   | (with_reducible exact ih2 _ _ _ _ _ _ _ _ _ _ _ _)
   | (with_reducible exact chord_fits.mono _ _)
   | (with_reducible exact LeO.refl _)
   | (with_reducible exact LeO.none _)
   | (with_reducible refine LeO.ite ?_ ?_)
   | (with_reducible refine LeO.bind ?_ (fun _ => ?_))
   | exact ih0 _ _ _ _ _
   | exact ih1 _ _ _ _ _ _ _ _ _
   | exact ih2 _ _ _ _ _ _ _ _ _ _ _ _
   | exact chord_fits.mono _ _
   | exact LeO.none _
   | refine LeO.ite ?_ ?_
   | refine LeO.bind ?_ (fun _ => ?_)
  ·intro y0 y1 y2 y3 y4 y5 y6 y7 y8 y9 y10 y11
   unfold chord_Boxes.j2
   repeat' first
   | (with_reducible exact ih0 _ _ _ _ _)
   | (with_reducible exact ih1 _ _ _ _ _ _ _ _ _)
   | (with_reducible exact ih2 _ _ _ _ _ _ _ _ _ _ _ _)
   | (with_reducible exact chord_fits.mono _ _)
   | (with_reducible exact LeO.refl _)
   | (with_reducible exact LeO.none _)
   | (with_reducible refine LeO.ite ?_ ?_)
   | (with_reducible refine LeO.bind ?_ (fun _ => ?_))
   | exact ih0 _ _ _ _ _
   | exact ih1 _ _ _ _ _ _ _ _ _
   | exact ih2 _ _ _ _ _ _ _ _ _ _ _ _
   | exact chord_fits.mono _ _
   | exact LeO.none _
   | refine LeO.ite ?_ ?_
   | refine LeO.bind ?_ (fun _ => ?_)
theorem chord_Boxes.mono : ∀ a0 a1 a2 a3 k, LeO (chord_Boxes.f k a0 a1 a2 a3) (chord_Boxes.f (k + 1) a0 a1 a2 a3) := by
 intro a0 a1 a2 a3 k
 obtain ⟨ih0, ih1, ih2⟩ := chord_Boxes.mono_l k
 unfold chord_Boxes.f
 repeat' first
   | (with_reducible exact ih0 _ _ _ _ _)
   | (with_reducible exact ih1 _ _ _ _ _ _ _ _ _)
   | (with_reducible exact ih2 _ _ _ _ _ _ _ _ _ _ _ _)
   | (with_reducible exact chord_fits.mono _ _)
   | (with_reducible exact LeO.refl _)
   | (with_reducible exact LeO.none _)
   | (with_reducible refine LeO.ite ?_ ?_)
   | (with_reducible refine LeO.bind ?_ (fun _ => ?_))
   | exact ih0 _ _ _ _ _
   | exact ih1 _ _ _ _ _ _ _ _ _
   | exact ih2 _ _ _ _ _ _ _ _ _ _ _ _
   | exact chord_fits.mono _ _
   | exact LeO.none _
   | refine LeO.ite ?_ ?_
   | refine LeO.bind ?_ (fun _ => ?_)
def chord_Boxes.T10 : Bool × List (List Nat × List Nat) := (true, [([], []), ([], []), ([], []), ([1, 2], [1, 2]), ([3], [3]), ([], []), ([5], [5]), ([0, 4, 6], [0, 4, 6]), ([7], [7]), ([8], [8]), ([8], [8]), ([], []), ([11, 9, 7, 0, 1, 2, 3, 4, 5, 6, 7, 8, 9, 11], [9, 11]), ([10, 12, 0, 1, 2, 3, 4, 5, 6, 7, 8, 9, 10, 11, 12], [10])])
def chord_Boxes.B10 : List Nat := [0, 0, 0, 6, 14, 0, 32, 127, 255, 511, 511, 0, 3071, 8191]
theorem chord_Boxes.tab10 : rtab .any (opsOf Tryd.f14 10) = chord_Boxes.T10 := by kernel_rfl
theorem chord_Boxes.bits10 : waitsOk chord_Boxes.T10.2 chord_Boxes.B10 = true := by kernel_rfl
set_option maxHeartbeats 8000000 in
set_option maxRecDepth 100000 in
theorem chord_Boxes.calls (k : Nat) (A0 : Option Addr) (c0 : Nat) (l0 : List Int) (A1 : Option Addr) (c1 : Nat) (l1 : List Int) (a2 : Int) (a3 : Bool) (r1 : List (S46)) (r2 : Int) (w : World) (hr0 : Kd.C (Kd.int .i64) w A0 l0.length l0) (hc0 : l0.length ≤ c0) (hr1 : Kd.C (Kd.int .i64) w A1 l1.length l1) (hc1 : l1.length ≤ c1) (hE : Aside0 (LaidE w)) (h : chord_Boxes.f k l0 l1 a2 a3 = some (r1, r2)) :
  Calls Tryd.prog 14 #[.slice A0 l0.length c0, .slice A1 l1.length c1, .int .i64 a2, .bool a3] w fun e w' => ∃ v0_ : Value, e = .returned (.tuple #[v0_, .int .i64 r2]) ∧ Kd.R k46 46 w' w.heap.size (fun _ => True) v0_ r1 ∧ Below w.heap.size w w' := by
 have hu46 := Tryd.underlying46
 have HR0 := sd_ hr0
 have HC0 := sd_ hc0
 clear hr0 hc0
 have HR1 := sd_ hr1
 have HC1 := sd_ hc1
 clear hr1 hc1
 have HB := sd_ (Below.refl w.heap.size w)
 have H : ((chord_fits.f k l0).bind fun t173 => (if t173 = true then ((chord_head.f a2).bind fun t174 => (if t174 = true then (chord_Boxes.j0 k l0 l1 a2 a3 ((l1.length : Int) != (l0.length : Int))) else (chord_Boxes.j0 k l0 l1 a2 a3 true))) else (chord_Boxes.j0 k l0 l1 a2 a3 true))) = some (r1, r2) := h
 clear h
 have HC5 := sd_ H
 clear H
 go_enter Tryd.func14, Tryd.ntmps14
 go_upto_region 1 with (fail)
 go_cut [31] (fun v31 wc => ∃ (kq : Nat) (x31_4 : Bool), v31 = .bool x31_4 ∧ Aside0 (chord_Boxes.j0 kq l0 l1 a2 a3 x31_4 = some (r1, r2)) ∧ Aside0 (kq ≤ k) ∧ Aside0 (Below w.heap.size w wc))
 case first =>
  have H := HC5.out
  clear HC5
  replace H := ob_ H
  obtain ⟨t173, A60, H⟩ := H
  replace H : (if t173 = true then ((chord_head.f a2).bind fun t174 => (if t174 = true then (chord_Boxes.j0 k l0 l1 a2 a3 ((l1.length : Int) != (l0.length : Int))) else (chord_Boxes.j0 k l0 l1 a2 a3 true))) else (chord_Boxes.j0 k l0 l1 a2 a3 true)) = some (r1, r2) := H
  have A6 := sd_ A60
  clear A60
  by_cases c7 : t173 = true
  ·subst c7
   have H1 : ((chord_head.f a2).bind fun t174 => (if t174 = true then (chord_Boxes.j0 k l0 l1 a2 a3 ((l1.length : Int) != (l0.length : Int))) else (chord_Boxes.j0 k l0 l1 a2 a3 true))) = some (r1, r2) := by rw [if_pos rfl] at H; exact H
   clear H; have H := H1; clear H1
   replace H := ob_ H
   obtain ⟨t174, A80, H⟩ := H
   replace H : (if t174 = true then (chord_Boxes.j0 k l0 l1 a2 a3 ((l1.length : Int) != (l0.length : Int))) else (chord_Boxes.j0 k l0 l1 a2 a3 true)) = some (r1, r2) := H
   have A8 := sd_ A80
   clear A80
   by_cases c9 : t174 = true
   ·subst c9
    have H1 : (chord_Boxes.j0 k l0 l1 a2 a3 ((l1.length : Int) != (l0.length : Int))) = some (r1, r2) := by rw [if_pos rfl] at H; exact H
    clear H; have H := H1; clear H1
    have H' := sd_ H
    clear H
    go_wp2_with (first | ((with_reducible refine gate_callee (f := 19) rfl ?_); refine goesL_ (some 18) rfl rfl Tryd.func19 (by kernel_rfl) rfl #[.slice A0 l0.length c0] rfl (by (try simp only [lm_, lq_, lx_]); first | done | rfl | (simp only [ld_, lt_]; rfl)) ?_; (with_reducible refine (chord_fits.calls k _ _ l0 true _ ?side1 ?side2 A6.out).mono ?_); (case side1 => repeat (first | exact (Kd.C_below HR0.out HB.out) | (with_reducible refine Kd.C_alloc ?_ _) | (with_reducible refine Kd.C_drewN ?_ _) | (with_reducible refine Kd.C_drew ?_))); (case side2 => exact HC0.out); rintro e w' ⟨rfl, ⟨nd, rfl⟩⟩; refine ⟨_, rfl, ?_⟩) | (go_at_call 24; (with_reducible refine (chord_head.calls a2 true _ A8.out).mono ?_); rintro e w' ⟨rfl, ⟨nd, rfl⟩⟩))
    go_meet
    case rel => exact ⟨_, (((l1.length : Int) != (l0.length : Int))), (by first | rfl | (simp; done) | (simp [*]; done) | (simp [bne]; done)), H', ⟨by first | omega | exact Nat.le_refl _⟩, ⟨by repeat (first | (with_reducible first | exact HB.out | apply ba_ | apply pd_ | apply d1_) | exact HB.out)⟩⟩
   ·replace c9 := bf_ c9
    subst c9
    have H1 : (chord_Boxes.j0 k l0 l1 a2 a3 true) = some (r1, r2) := by rw [if_neg (show ¬ (false = true) by decide)] at H; exact H
    clear H; have H := H1; clear H1
    have H' := sd_ H
    clear H
    go_wp2_with (first | ((with_reducible refine gate_callee (f := 19) rfl ?_); refine goesL_ (some 18) rfl rfl Tryd.func19 (by kernel_rfl) rfl #[.slice A0 l0.length c0] rfl (by (try simp only [lm_, lq_, lx_]); first | done | rfl | (simp only [ld_, lt_]; rfl)) ?_; (with_reducible refine (chord_fits.calls k _ _ l0 true _ ?side1 ?side2 A6.out).mono ?_); (case side1 => repeat (first | exact (Kd.C_below HR0.out HB.out) | (with_reducible refine Kd.C_alloc ?_ _) | (with_reducible refine Kd.C_drewN ?_ _) | (with_reducible refine Kd.C_drew ?_))); (case side2 => exact HC0.out); rintro e w' ⟨rfl, ⟨nd, rfl⟩⟩; refine ⟨_, rfl, ?_⟩) | (go_at_call 24; (with_reducible refine (chord_head.calls a2 false _ A8.out).mono ?_); rintro e w' ⟨rfl, ⟨nd, rfl⟩⟩))
    go_meet
    case rel => exact ⟨_, (true), (by first | rfl | (simp; done) | (simp [*]; done) | (simp [bne]; done)), H', ⟨by first | omega | exact Nat.le_refl _⟩, ⟨by repeat (first | (with_reducible first | exact HB.out | apply ba_ | apply pd_ | apply d1_) | exact HB.out)⟩⟩
  ·replace c7 := bf_ c7
   subst c7
   have H1 : (chord_Boxes.j0 k l0 l1 a2 a3 true) = some (r1, r2) := by rw [if_neg (show ¬ (false = true) by decide)] at H; exact H
   clear H; have H := H1; clear H1
   have H' := sd_ H
   clear H
   go_wp2_with (first | ((with_reducible refine gate_callee (f := 19) rfl ?_); refine goesL_ (some 18) rfl rfl Tryd.func19 (by kernel_rfl) rfl #[.slice A0 l0.length c0] rfl (by (try simp only [lm_, lq_, lx_]); first | done | rfl | (simp only [ld_, lt_]; rfl)) ?_; (with_reducible refine (chord_fits.calls k _ _ l0 false _ ?side1 ?side2 A6.out).mono ?_); (case side1 => repeat (first | exact (Kd.C_below HR0.out HB.out) | (with_reducible refine Kd.C_alloc ?_ _) | (with_reducible refine Kd.C_drewN ?_ _) | (with_reducible refine Kd.C_drew ?_))); (case side2 => exact HC0.out); rintro e w' ⟨rfl, ⟨nd, rfl⟩⟩; refine ⟨_, rfl, ?_⟩))
   go_meet
   case rel => exact ⟨_, (true), (by first | rfl | (simp; done) | (simp [*]; done) | (simp [bne]; done)), H', ⟨by first | omega | exact Nat.le_refl _⟩, ⟨by repeat (first | (with_reducible first | exact HB.out | apply ba_ | apply pd_ | apply d1_) | exact HB.out)⟩⟩
 case rest =>
  clear HC5
  try clear c1; try clear p2; try clear c7; try clear c9
  obtain ⟨kq, x31_4, rfl, HA, HJ4, HB⟩ := hcut
  cases kq with
  | zero => exact absurd HA.out (by simp [chord_Boxes.j0])
  | succ kj4 =>
   have H := HA.out
   clear HA
   simp only [chord_Boxes.j0] at H
   by_cases c10 : x31_4 = true
   ·subst c10
    have H1 : (some (([] : List (S46)), 2)) = some (r1, r2) := by rw [if_pos rfl] at H; exact H
    clear H; have H := H1; clear H1
    simp only [Option.some.injEq, Prod.mk.injEq] at H
    obtain ⟨rfl, rfl⟩ := H
    go_wp2
    go_ret2
    exact ⟨_, by first | rfl | (simp [errW_none, errW_some] <;> rfl) | (simp [*, errW_none, errW_some] <;> rfl), by first | exact Kd.R_nil _ _ _ _ _ | exact Kd.N_nil _ _ _ _ _ | exact Kd.V_nil _ _ _ _ _ | exact Kd.Q_nil _ _ _ _ _ | exact Kd.S_nil _ _ _ _ _, by repeat (first | (with_reducible first | exact HB.out | apply ba_ | apply pd_ | apply d1_) | exact HB.out)⟩
   ·replace c10 := bf_ c10
    subst c10
    have H1 : ((glyph_Extent.f a2 a3).bind fun bt175 => (chord_Boxes.l0 kj4 l1 ([] : List (S46)) l0 (l0.length : Int) 0 bt175.1 bt175.2.1 bt175.2.2.1 bt175.2.2.2.1)) = some (r1, r2) := by rw [if_neg (show ¬ (false = true) by decide)] at H; exact H
    clear H; have H := H1; clear H1
    replace H := ob_ H
    obtain ⟨⟨t175, t176, t177, t178, t179⟩, A110, H⟩ := H
    replace H : (chord_Boxes.l0 kj4 l1 ([] : List (S46)) l0 (l0.length : Int) 0 t175 t176 t177 t178) = some (r1, r2) := H
    have A11 := sd_ A110
    clear A110
    have H' := sd_ H
    clear H
    go_wp2_with (first | ((with_reducible refine gate_callee (f := 28) rfl ?_); refine goesL_ (some 35) rfl rfl Tryd.func28 (by kernel_rfl) rfl #[.int .i64 a2, .bool a3] rfl (by (try simp only [lm_, lq_, lx_]); first | done | rfl | (simp only [ld_, lt_]; rfl)) ?_; (with_reducible refine (glyph_Extent.calls a2 a3 t175 t176 t177 t178 t179 _ ?side1 A11.out).mono ?_); (case side1 => first | (with_reducible exact hE) | exact sd_ (LaidE.below hE.out (bb_ HB.out e0_))); rintro e w12 ⟨rfl, hb⟩; refine ⟨_, rfl, ?_⟩; replace HB := hb_ HB e0_ hb; (try clear hb); (try clear hb2); (try clear hk); (try clear hi)) | ((with_reducible refine gate_dst (N := 10) rfl ?_); (try (refine gate_guard (by rfl) ?_; dsimp only)); refine box_event ?hg (N := 10) ?hd (cs := #[.int .i64 0, .int .i64 0, .int .i64 0, .int .i64 0]) (t := 46) ?hr ?_; (case hd => rfl); (case hg => rfl); (case hr => first | (go_simp; done) | (go_simp; rfl)); intro gb180 hg w13 hbox hb; have BK180 := sd_ hbox; have GW180 := gw_ HB e0_ hg; have GE180 := GW180; replace HB := hb_ HB e0_ hb; clear hb hbox hg; have hcz14_0 : w13.cell? ⟨gb180, 0, none⟩ = some (.int .i64 0) := (kc_ BK180.out 0).trans rfl; have hcz14_1 : w13.cell? ⟨gb180, 1, none⟩ = some (.int .i64 0) := (kc_ BK180.out 1).trans rfl; have hcz14_2 : w13.cell? ⟨gb180, 2, none⟩ = some (.int .i64 0) := (kc_ BK180.out 2).trans rfl; have hcz14_3 : w13.cell? ⟨gb180, 3, none⟩ = some (.int .i64 0) := (kc_ BK180.out 3).trans rfl; have hfz14_0 := kf_ BK180.out 0; have hfz14_1 := kf_ BK180.out 1; have hfz14_2 := kf_ BK180.out 2; have hfz14_3 := kf_ BK180.out 3))
    go_loopg [12, 40] kj4 (fun kq v12 v40 w' => ∃ (x12_2 : List (S46)) (x40_2 : Int), v40 = .int .i64 x40_2 ∧ Aside0 (chord_Boxes.l0 kq l1 x12_2 l0 (l0.length : Int) x40_2 t175 t176 t177 t178 = some (r1, r2)) ∧ Aside0 (kq ≤ kj4) ∧ Aside0 (Kd.R k46 46 w' w.heap.size (fun k_ => k_ ≠ gb180) v12 x12_2) ∧ Aside0 (w'.heap[gb180]? = some (.cells #[.int .i64 t175, .int .i64 t176, .int .i64 t177, .int .i64 t178] 46 (0, 0))) ∧ Aside0 (Below w.heap.size w w'))
    case atStart => exact ⟨(([] : List (S46))), (0), (by first | rfl | (simp; done) | (simp [*]; done) | (simp [bne]; done)), H', ⟨Nat.le_refl _⟩, ⟨by first | exact Kd.R_nil _ _ _ _ _ | exact Kd.N_nil _ _ _ _ _ | exact Kd.V_nil _ _ _ _ _ | exact Kd.Q_nil _ _ _ _ _ | exact Kd.S_nil _ _ _ _ _⟩, ⟨by (with_reducible repeat first | apply kn_ | apply kd_ | apply ka_); refine blk_put (cs := #[.int .i64 t175, .int .i64 t176, .int .i64 t177, .int .i64 0]) ?_ 3 _ rfl; (with_reducible repeat first | apply kn_ | apply kd_ | apply ka_); refine blk_put (cs := #[.int .i64 t175, .int .i64 t176, .int .i64 0, .int .i64 0]) ?_ 2 _ rfl; (with_reducible repeat first | apply kn_ | apply kd_ | apply ka_); refine blk_put (cs := #[.int .i64 t175, .int .i64 0, .int .i64 0, .int .i64 0]) ?_ 1 _ rfl; (with_reducible repeat first | apply kn_ | apply kd_ | apply ka_); refine blk_put (cs := #[.int .i64 0, .int .i64 0, .int .i64 0, .int .i64 0]) ?_ 0 _ rfl; (with_reducible repeat first | apply kn_ | apply kd_ | apply ka_); exact BK180.out⟩, ⟨by repeat (first | (with_reducible first | exact HB.out | apply ba_ | apply pd_ | apply d1_ | refine bs_ ?_ GE180.out) | exact HB.out)⟩⟩
    case round =>
     clear H'
     try clear c1; try clear c2; try clear p2; try clear c7; try clear c9; try clear c10; try clear c14; try clear hcz14_0; try clear hcz14_1; try clear hcz14_2; try clear hcz14_3; try clear hfz14_0; try clear hfz14_1; try clear hfz14_2; try clear hfz14_3; try clear p2
     obtain ⟨x12_2, x40_2, rfl, HA, HK2, HO_12, BK180, HB⟩ := hrel
     cases gk with
     | zero => exact absurd HA.out (by simp [chord_Boxes.l0])
     | succ k2 =>
      have H := HA.out
      clear HA
      simp only [chord_Boxes.l0] at H
      by_cases c15 : x40_2 < (l0.length : Int)
      ·rw [if_pos c15] at H
       have c15b0 : decide (x40_2 < (l0.length : Int)) = true := dt_ c15
       clear c15
       by_cases c16 : 0 ≤ x40_2
       ·rw [if_pos c16] at H
        have c16b0 : decide (0 ≤ x40_2) = true := dt_ c16
        clear c16
        by_cases c17 : x40_2 < (l0.length : Int)
        ·rw [if_pos c17] at H
         have c17b0 : decide (x40_2 < (l0.length : Int)) = true := dt_ c17
         clear c17
         have HC18 := sd_ H
         clear H
         have p181 : 0 ≤ (x40_2 : Int) := od_ (by first | (with_reducible assumption) | assumption)
         have q181 : x40_2 < (l0.length : Int) := od_ (by first | (with_reducible assumption) | assumption)
         obtain ⟨ad181, e181, hx181_0⟩ := Kd.at_int HR0.out x40_2 p181 q181
         cases e181
         replace hx181_0 := (HB.out.cell (wb_ w _ hx181_0)).trans hx181_0
         replace p181 := eq_true p181
         replace q181 := eq_true q181
         go_upto_region 8 with (fail)
         go_cut [56] (fun v56 wc => ∃ (kq : Nat) (x56_17 : Bool), v56 = .bool x56_17 ∧ Aside0 (chord_Boxes.j2 kq l1 x12_2 x40_2 (rd l0 x40_2) l0 (l0.length : Int) x40_2 x56_17 t175 t176 t177 t178 = some (r1, r2)) ∧ Aside0 (kq ≤ k2) ∧ Aside0 (Kd.R k46 46 wc w.heap.size (fun k_ => k_ ≠ gb180) u12 x12_2) ∧ Aside0 (wc.heap[gb180]? = some (.cells #[.int .i64 t175, .int .i64 t176, .int .i64 t177, .int .i64 t178] 46 (0, 0))) ∧ Aside0 (Below w.heap.size w wc))
         case first =>
          have H := HC18.out
          clear HC18
          by_cases c19 : x40_2 < (l1.length : Int)
          ·rw [if_pos c19] at H
           have c19b0 : decide (x40_2 < (l1.length : Int)) = true := dt_ c19
           clear c19
           (first | rw [c19b0] | (simp only [i64_w, i32_w]; rw [c19b0]) | skip)
           by_cases c20 : (rd l1 x40_2) < (-1073741824)
           ·rw [if_pos c20] at H
            have c20b0 : decide ((rd l1 x40_2) < (-1073741824)) = true := dt_ c20
            clear c20
            have H' := sd_ H
            clear H
            have p182 : 0 ≤ (x40_2 : Int) := od_ (by first | (with_reducible assumption) | assumption)
            have q182 : x40_2 < (l1.length : Int) := od_ (by first | (with_reducible assumption) | assumption)
            obtain ⟨ad182, e182, hx182_0⟩ := Kd.at_int HR1.out x40_2 p182 q182
            cases e182
            replace hx182_0 := (HB.out.cell (wb_ w _ hx182_0)).trans hx182_0
            replace p182 := eq_true p182
            replace q182 := eq_true q182
            go_wp2
            go_meet
            case rel => exact ⟨_, (true), (by first | rfl | (simp; done) | (simp [*]; done) | (simp [bne]; done)), H', ⟨by have := HJ4.out; have := HK2.out; first | omega | exact Nat.le_refl _⟩, ⟨by (with_reducible repeat (first | apply Kd.R_alloc | apply Kd.R_drewN | apply Kd.R_drew)); exact HO_12.out⟩, ⟨by (with_reducible repeat first | apply kn_ | apply kd_ | apply ka_); exact BK180.out⟩, ⟨by repeat (first | (with_reducible first | exact HB.out | apply ba_ | apply pd_ | apply d1_ | refine bs_ ?_ GE180.out) | exact HB.out)⟩⟩
           ·rw [if_neg c20] at H
            have c20b0 : decide ((rd l1 x40_2) < (-1073741824)) = false := df_ c20
            clear c20
            have H' := sd_ H
            clear H
            have p182 : 0 ≤ (x40_2 : Int) := od_ (by first | (with_reducible assumption) | assumption)
            have q182 : x40_2 < (l1.length : Int) := od_ (by first | (with_reducible assumption) | assumption)
            obtain ⟨ad182, e182, hx182_0⟩ := Kd.at_int HR1.out x40_2 p182 q182
            cases e182
            replace hx182_0 := (HB.out.cell (wb_ w _ hx182_0)).trans hx182_0
            replace p182 := eq_true p182
            replace q182 := eq_true q182
            have p183 : 0 ≤ (x40_2 : Int) := od_ (by first | (with_reducible assumption) | assumption)
            have q183 : x40_2 < (l1.length : Int) := od_ (by first | (with_reducible assumption) | assumption)
            obtain ⟨ad183, e183, hx183_0⟩ := Kd.at_int HR1.out x40_2 p183 q183
            obtain rfl : ad182 = ad183 := (by injection e183)
            replace hx183_0 := (HB.out.cell (wb_ w _ hx183_0)).trans hx183_0
            replace p183 := eq_true p183
            replace q183 := eq_true q183
            go_wp2
            go_meet
            case rel => exact ⟨_, (decide ((rd l1 x40_2) > 1073741824)), (by first | rfl | (simp; done) | (simp [*]; done) | (simp [bne]; done)), H', ⟨by have := HJ4.out; have := HK2.out; first | omega | exact Nat.le_refl _⟩, ⟨by (with_reducible repeat (first | apply Kd.R_alloc | apply Kd.R_drewN | apply Kd.R_drew)); exact HO_12.out⟩, ⟨by (with_reducible repeat first | apply kn_ | apply kd_ | apply ka_); exact BK180.out⟩, ⟨by repeat (first | (with_reducible first | exact HB.out | apply ba_ | apply pd_ | apply d1_ | refine bs_ ?_ GE180.out) | exact HB.out)⟩⟩
          ·rw [if_neg c19] at H
           exact absurd H (by simp)
         case rest =>
          clear HC18
          try clear c1; try clear p1; try clear q1; try clear hx1; try clear c2; try clear p2; try clear c7; try clear c9; try clear c10; try clear c14; try clear c15; try clear c15b0; try clear c16; try clear c16b0; try clear c17; try clear c17b0; try clear p18; try clear q18; try clear hx18; try clear c19; try clear c19b0; try clear c20; try clear c20b0; try clear hcz14_0; try clear hcz14_1; try clear hcz14_2; try clear hcz14_3; try clear hfz14_0; try clear hfz14_1; try clear hfz14_2; try clear hfz14_3; try clear hx181_0; try clear hx182_0; try clear hx183_0; try clear p181; try clear p182; try clear p183; try clear p2; try clear q181; try clear q182; try clear q183
          obtain ⟨kq, x56_17, rfl, HA, HJ17, HO_12, BK180, HB⟩ := hcut
          cases kq with
          | zero => exact absurd HA.out (by simp [chord_Boxes.j2])
          | succ kj17 =>
           have H := HA.out
           clear HA
           simp only [chord_Boxes.j2] at H
           by_cases c21 : x56_17 = true
           ·subst c21
            have H1 : (some (([] : List (S46)), 2)) = some (r1, r2) := by rw [if_pos rfl] at H; exact H
            clear H; have H := H1; clear H1
            simp only [Option.some.injEq, Prod.mk.injEq] at H
            obtain ⟨rfl, rfl⟩ := H
            go_wp2
            go_ret2
            exact ⟨_, by first | rfl | (simp [errW_none, errW_some] <;> rfl) | (simp [*, errW_none, errW_some] <;> rfl), by first | exact Kd.R_nil _ _ _ _ _ | exact Kd.N_nil _ _ _ _ _ | exact Kd.V_nil _ _ _ _ _ | exact Kd.Q_nil _ _ _ _ _ | exact Kd.S_nil _ _ _ _ _, by repeat (first | (with_reducible first | exact HB.out | apply ba_ | apply pd_ | apply d1_ | refine bs_ ?_ GE180.out) | exact HB.out)⟩
           ·replace c21 := bf_ c21
            subst c21
            have H1 : (if 0 ≤ x40_2 then (if x40_2 < (l1.length : Int) then ((box_Move.f t175 t176 t177 t178 (rd l1 x40_2) (wrap64 (512 * (rd l0 x40_2)))).bind fun bt185 => (if bt185.2.2.2.2 = 0 then (if x12_2.length < 4398046511104 then (chord_Boxes.l0 kj17 l1 (x12_2 ++ [(⟨bt185.1, bt185.2.1, bt185.2.2.1, bt185.2.2.2.1⟩ : S46)]) l0 (l0.length : Int) (wrap64 (x40_2 + 1)) t175 t176 t177 t178) else (none)) else (some (([] : List (S46)), 2)))) else (none)) else (none)) = some (r1, r2) := by rw [if_neg (show ¬ (false = true) by decide)] at H; exact H
            clear H; have H := H1; clear H1
            by_cases c22 : 0 ≤ x40_2
            ·rw [if_pos c22] at H
             have c22b0 : decide (0 ≤ x40_2) = true := dt_ c22
             clear c22
             by_cases c23 : x40_2 < (l1.length : Int)
             ·rw [if_pos c23] at H
              have c23b0 : decide (x40_2 < (l1.length : Int)) = true := dt_ c23
              clear c23
              replace H := ob_ H
              obtain ⟨⟨t185, t186, t187, t188, t189⟩, A240, H⟩ := H
              replace H : (if t189 = 0 then (if x12_2.length < 4398046511104 then (chord_Boxes.l0 kj17 l1 (x12_2 ++ [(⟨t185, t186, t187, t188⟩ : S46)]) l0 (l0.length : Int) (wrap64 (x40_2 + 1)) t175 t176 t177 t178) else (none)) else (some (([] : List (S46)), 2))) = some (r1, r2) := H
              have A24 := sd_ A240
              clear A240
              by_cases c25 : t189 = 0
              ·rw [if_pos c25] at H
               have c25b0 : (t189 == 0) = true := beq_iff_eq.mpr c25
               have c25b1 : (t189 != 0) = false := bne_eq_false_iff_eq.mpr c25
               clear c25
               by_cases c26 : x12_2.length < 4398046511104
               ·rw [if_pos c26] at H
                have LMc26 := sd_ c26
                clear c26
                obtain ⟨y191, hy191⟩ : ∃ y_ : List (S46), y_ = (x12_2 ++ [(⟨t185, t186, t187, t188⟩ : S46)]) := ⟨_, rfl⟩
                replace H : (chord_Boxes.l0 kj17 l1 y191 l0 (l0.length : Int) (wrap64 (x40_2 + 1)) t175 t176 t177 t178) = some (r1, r2) := by first | (rw [hy191]; with_reducible exact H) | (have H2_ := (Option.bind_some _ _).symm.trans H; rw [hy191]; with_reducible exact H2_) | (have H2_ := (Option.bind_some _ _).symm.trans H; with_reducible exact H2_) | with_reducible exact H | (rw [hy191]; exact H) | exact H
                have Ny191 := sd_ hy191
                clear hy191
                have H' := sd_ H
                clear H
                try go_wp2
                replace HO_12 := sd_ (Kd.R_drew HO_12.out)
                replace BK180 := sd_ (kd_ BK180.out)
                replace HB := sd_ (d1_ HB.out)
                have p184 : 0 ≤ (x40_2 : Int) := od_ (by first | (with_reducible assumption) | assumption)
                have q184 : x40_2 < (l1.length : Int) := od_ (by first | (with_reducible assumption) | assumption)
                obtain ⟨ad184, e184, hx184_0⟩ := Kd.at_int HR1.out x40_2 p184 q184
                have hw184_0 := hx184_0
                cases e184
                replace hx184_0 := (HB.out.cell (wb_ w _ hx184_0)).trans hx184_0
                replace p184 := eq_true p184
                replace q184 := eq_true q184
                refine start_ (n := 14) (S := fun w' => w'.cell? ⟨gb180, 0, none⟩ = some (.int .i64 t175) ∧ w'.cell? ⟨gb180, 1, none⟩ = some (.int .i64 t176) ∧ w'.cell? ⟨gb180, 2, none⟩ = some (.int .i64 t177) ∧ w'.cell? ⟨gb180, 3, none⟩ = some (.int .i64 t178) ∧ w'.cell? (ad184.add (x40_2).toNat) = some (.int .i64 (rd l1 x40_2))) (ds := []) (Array.replicate 14 false) (by kernel_rfl) rfl rfl ⟨(kc_ BK180.out 0).trans rfl, (kc_ BK180.out 1).trans rfl, (kc_ BK180.out 2).trans rfl, (kc_ BK180.out 3).trans rfl, ((HB.out.cell (wb_ w _ hw184_0)).trans hw184_0)⟩ (fun hHeld => ?_); refine with_tabW chord_Boxes.tab10 chord_Boxes.bits10 (fun HT_ HW_ => ?_)
                generalize wc.drew = w27 at HO_12 BK180 HB hx184_0 hHeld ⊢
                refine pu_ (v := ?_) (a' := ?_) 1 59 (bz 14 2) rfl rfl HT_ (by kernel_rfl) (fun _ _ _ h => h) (by rfl) ?_ ?_ ?_
                rotate_left; (intro w'; go_simp; with_reducible rfl); rotate_left; (simp only [Act.put, ls_, lz_, lc_, i64_w, i32_w]; rfl)
                refine pu_ (v := ?_) (a' := ?_) 2 60 (bz 14 6) rfl rfl HT_ (by kernel_rfl) (fun _ _ _ h => h) (by rfl) ?_ ?_ ?_
                rotate_left; (intro w'; go_simp; with_reducible rfl); rotate_left; (simp only [Act.put, ls_, lz_, lc_, i64_w, i32_w]; rfl)
                refine pu_ (v := ?_) (a' := ?_) 3 61 (bz 14 14) rfl rfl HT_ (by kernel_rfl) (fun _ _ _ h => h) (by rfl) ?_ ?_ ?_
                rotate_left; (intro w'; go_simp; with_reducible rfl); rotate_left; (simp only [Act.put, ls_, lz_, lc_, i64_w, i32_w]; rfl)
                refine pu_ (v := ?_) (a' := ?_) 5 63 (bz 14 46) rfl rfl HT_ (by kernel_rfl) (fun _ _ _ h => h) (by rfl) ?_ ?_ ?_
                rotate_left; (intro w'; go_simp; with_reducible rfl); rotate_left; (simp only [Act.put, ls_, lz_, lc_, i64_w, i32_w]; rfl)
                refine pu_ (v := ?_) (a' := ?_) 6 64 (bz 14 110) rfl rfl HT_ (by kernel_rfl) (fun _ _ _ h => h) (by rfl) ?_ ?_ ?_
                rotate_left; (intro w'; go_simp; with_reducible rfl); rotate_left; (simp only [Act.put, ls_, lz_, lc_, i64_w, i32_w]; rfl)
                refine ta_ (v := ?_) (a' := ?_) 0 58 (bz 14 111) rfl rfl HT_ HW_ (by kernel_rfl) (fun _ _ _ h => h) (by rfl) ?_ hHeld ?_ ?_
                rotate_left
                ·rintro w' ⟨s0, s1, s2, s3, s4⟩
                 go_simp
                 with_reducible rfl
                rotate_left
                ·simp only [Act.put, ls_, lz_, lc_, i64_w, i32_w]
                 rfl
                refine ta_ (v := ?_) (a' := ?_) 4 62 (bz 14 127) rfl rfl HT_ HW_ (by kernel_rfl) (fun _ _ _ h => h) (by rfl) ?_ hHeld ?_ ?_
                rotate_left
                ·rintro w' ⟨s0, s1, s2, s3, s4⟩
                 go_simp
                 with_reducible rfl
                rotate_left
                ·simp only [Act.put, ls_, lz_, lc_, i64_w, i32_w]
                 rfl
                refine join_ (σ := Nat) 2 (bz 14 4095) (fun s_ => [(65, .tuple #[.agg #[.int .i64 t185, .int .i64 t186, .int .i64 t187, .int .i64 t188], .int .i64 t189]), (15, .pointer (some ⟨s_, 0, none⟩)), (57, .tuple #[.agg #[.int .i64 t185, .int .i64 t186, .int .i64 t187, .int .i64 t188], .int .i64 t189]), (66, .agg #[.int .i64 t185, .int .i64 t186, .int .i64 t187, .int .i64 t188]), (67, .int .i64 t189)]) (fun s_ w' => (w'.cell? ⟨gb180, 0, none⟩ = some (.int .i64 t175) ∧ w'.cell? ⟨gb180, 1, none⟩ = some (.int .i64 t176) ∧ w'.cell? ⟨gb180, 2, none⟩ = some (.int .i64 t177) ∧ w'.cell? ⟨gb180, 3, none⟩ = some (.int .i64 t178) ∧ w'.cell? (ad184.add (x40_2).toNat) = some (.int .i64 (rd l1 x40_2))) ∧ (Kd.R k46 46 w' w.heap.size (fun k_ => k_ ≠ gb180 ∧ k_ ≠ s_) u12 x12_2) ∧ (w'.heap[gb180]? = some (.cells #[.int .i64 t175, .int .i64 t176, .int .i64 t177, .int .i64 t178] 46 (0, 0))) ∧ (w'.heap[s_]? = some (.cells #[.int .i64 0, .int .i64 0, .int .i64 0, .int .i64 0] 46 (0, 0))) ∧ (w.heap.size ≤ s_) ∧ (w.heap.size ≤ s_) ∧ (gb180 ≠ s_) ∧ (s_ ≠ gb180) ∧ (Below w.heap.size w w')) ?_ ?_
                rotate_left
                ·intro hCont
                 refine two_ (i := 7) (j := 11) (Ni := some 65) (Nj := some 15) (bz 14 255) (bz 14 2175) rfl rfl rfl rfl (two_of HT_.out (by kernel_rfl)) (by decide) (by decide) (fun K hK => ?_) (fun K hK => ?_)
                 ·skip
                  refine goes_ Tryd.func29 (by kernel_rfl) rfl #[.agg #[.int .i64 t175, .int .i64 t176, .int .i64 t177, .int .i64 t178], .int .i64 (rd l1 x40_2), .int .i64 (wrap64 (512 * (rd l0 x40_2)))] (by rfl) rfl rfl (by (try simp only [lm_, lq_, lx_]); first | done | rfl | (simp only [ld_, lt_]; rfl)) ?_
                  with_reducible refine (box_Move.calls t175 t176 t177 t178 (rd l1 x40_2) (wrap64 (512 * (rd l0 x40_2))) t185 t186 t187 t188 t189 _ ?side1 A24.out).mono ?_
                  (case side1 => first | (with_reducible exact hE) | exact sd_ (LaidE.below hE.out (bb_ HB.out (e_ GE180 e0_))))
                  rintro e w28 ⟨rfl, hb⟩
                  refine ⟨_, rfl, ?_⟩
                  replace HO_12 := sd_ (Kd.R_below (by (with_reducible repeat (first | apply Kd.R_alloc | apply Kd.R_drewN | apply Kd.R_drew)); exact HO_12.out) hb)
                  replace BK180 := kb_ BK180 hb
                  replace HB := hb_ HB (e_ GE180 e0_) hb
                  (try clear hb)
                  (try clear hb2)
                  (try clear hk)
                  (try clear hi)
                  refine hK.out _ _ ⟨(kc_ BK180.out 0).trans rfl, (kc_ BK180.out 1).trans rfl, (kc_ BK180.out 2).trans rfl, (kc_ BK180.out 3).trans rfl, ((HB.out.cell (wb_ w _ hw184_0)).trans hw184_0)⟩ (fun hHeld => ?_)
                  clear hK K
                  refine norm_ (a' := ?_) ?_ ?_
                  rotate_left
                  ·show Act.put _ (some 65) _ = _
                   simp only [Act.put, ls_, lz_, lc_, i64_w, i32_w]
                   rfl
                  refine pu_ (v := ?_) (a' := ?_) 8 57 (bz 14 511) rfl rfl HT_ (by kernel_rfl) (fun _ _ _ h => h) (by rfl) ?_ ?_ ?_
                  rotate_left; (intro w'; go_simp; with_reducible rfl); rotate_left; (simp only [Act.put, ls_, lz_, lc_, i64_w, i32_w]; rfl)
                  refine pu_ (v := ?_) (a' := ?_) 9 66 (bz 14 1023) rfl rfl HT_ (by kernel_rfl) (fun _ _ _ h => h) (by rfl) ?_ ?_ ?_
                  rotate_left; (intro w'; go_simp; with_reducible rfl); rotate_left; (simp only [Act.put, ls_, lz_, lc_, i64_w, i32_w]; rfl)
                  refine pu_ (v := ?_) (a' := ?_) 10 67 (bz 14 2047) rfl rfl HT_ (by kernel_rfl) (fun _ _ _ h => h) (by rfl) ?_ ?_ ?_
                  rotate_left; (intro w'; go_simp; with_reducible rfl); rotate_left; (simp only [Act.put, ls_, lz_, lc_, i64_w, i32_w]; rfl)
                  refine on_ (N := some 15) 11 (bz 14 4095) rfl rfl HT_ (by kernel_rfl) (by decide) (fun K hK => ?_)
                  refine box_step ?hg (N := 15) ?hd (cs := #[.int .i64 0, .int .i64 0, .int .i64 0, .int .i64 0]) (t := 46) ?hr ?_; (case hd => rfl); (case hg => rfl); (case hr => first | (go_simp; done) | (go_simp; rfl))
                  intro gb190 hg w29 hbox hb
                  have BK190 := sd_ hbox
                  have GW190 := gw_ HB (e_ GE180 e0_) hg
                  have GE190 := GW190
                  have NB180_190 := nb_ BK180 hg
                  have NB190_180 := sy_ NB180_190
                  replace HO_12 := sd_ (Kd.R_below (Kd.R_elderB (by (with_reducible repeat (first | apply Kd.R_alloc | apply Kd.R_drewN | apply Kd.R_drew)); exact HO_12.out) gb190 (Nat.le_of_eq hg.symm)) hb)
                  replace BK180 := kb_ BK180 hb
                  replace HB := hb_ HB (e_ GE180 e0_) hb
                  clear hb hbox hg
                  refine hK.out _ _ ⟨(kc_ BK180.out 0).trans rfl, (kc_ BK180.out 1).trans rfl, (kc_ BK180.out 2).trans rfl, (kc_ BK180.out 3).trans rfl, ((HB.out.cell (wb_ w _ hw184_0)).trans hw184_0)⟩ (fun hHeld => ?_)
                  clear hK K
                  refine norm_ (a' := ?_) ?_ ?_
                  rotate_left
                  ·show Act.put _ (some 15) _ = _
                   simp only [Act.put, ls_, lz_, lc_, i64_w, i32_w]
                   rfl
                  exact norm_ (by simp only [putAll, Act.put, ls_, lz_, lc_]) (hCont (gb190) _ ⟨hHeld, (by (with_reducible repeat (first | apply Kd.R_alloc | apply Kd.R_drewN | apply Kd.R_drew)); exact HO_12.out), (kk_ BK180.out), (kk_ BK190.out), GW190.out, GE190.out, NB180_190.out, NB190_180.out, (bb_ HB.out (e_ GE180 (e_ GE190 e0_)))⟩)
                 ·skip
                  refine box_step ?hg (N := 15) ?hd (cs := #[.int .i64 0, .int .i64 0, .int .i64 0, .int .i64 0]) (t := 46) ?hr ?_; (case hd => rfl); (case hg => rfl); (case hr => first | (go_simp; done) | (go_simp; rfl))
                  intro gb190 hg w28 hbox hb
                  have BK190 := sd_ hbox
                  have GW190 := gw_ HB (e_ GE180 e0_) hg
                  have GE190 := GW190
                  have NB180_190 := nb_ BK180 hg
                  have NB190_180 := sy_ NB180_190
                  replace HO_12 := sd_ (Kd.R_below (Kd.R_elderB (by (with_reducible repeat (first | apply Kd.R_alloc | apply Kd.R_drewN | apply Kd.R_drew)); exact HO_12.out) gb190 (Nat.le_of_eq hg.symm)) hb)
                  replace BK180 := kb_ BK180 hb
                  replace HB := hb_ HB (e_ GE180 e0_) hb
                  clear hb hbox hg
                  refine hK.out _ _ ⟨(kc_ BK180.out 0).trans rfl, (kc_ BK180.out 1).trans rfl, (kc_ BK180.out 2).trans rfl, (kc_ BK180.out 3).trans rfl, ((HB.out.cell (wb_ w _ hw184_0)).trans hw184_0)⟩ (fun hHeld => ?_)
                  clear hK K
                  refine norm_ (a' := ?_) ?_ ?_
                  rotate_left
                  ·show Act.put _ (some 15) _ = _
                   simp only [Act.put, ls_, lz_, lc_, i64_w, i32_w]
                   rfl
                  refine on_ (N := some 65) 7 (bz 14 2303) rfl rfl HT_ (by kernel_rfl) (by decide) (fun K hK => ?_)
                  refine goes_ Tryd.func29 (by kernel_rfl) rfl #[.agg #[.int .i64 t175, .int .i64 t176, .int .i64 t177, .int .i64 t178], .int .i64 (rd l1 x40_2), .int .i64 (wrap64 (512 * (rd l0 x40_2)))] (by rfl) rfl rfl (by (try simp only [lm_, lq_, lx_]); first | done | rfl | (simp only [ld_, lt_]; rfl)) ?_
                  with_reducible refine (box_Move.calls t175 t176 t177 t178 (rd l1 x40_2) (wrap64 (512 * (rd l0 x40_2))) t185 t186 t187 t188 t189 _ ?side1 A24.out).mono ?_
                  (case side1 => first | (with_reducible exact hE) | exact sd_ (LaidE.below hE.out (bb_ HB.out (e_ GE180 (e_ GE190 e0_)))))
                  rintro e w29 ⟨rfl, hb⟩
                  refine ⟨_, rfl, ?_⟩
                  replace HO_12 := sd_ (Kd.R_below (by (with_reducible repeat (first | apply Kd.R_alloc | apply Kd.R_drewN | apply Kd.R_drew)); exact HO_12.out) hb)
                  replace BK180 := kb_ BK180 hb
                  replace BK190 := kb_ BK190 hb
                  replace HB := hb_ HB (e_ GE180 (e_ GE190 e0_)) hb
                  (try clear hb)
                  (try clear hb2)
                  (try clear hk)
                  (try clear hi)
                  refine hK.out _ _ ⟨(kc_ BK180.out 0).trans rfl, (kc_ BK180.out 1).trans rfl, (kc_ BK180.out 2).trans rfl, (kc_ BK180.out 3).trans rfl, ((HB.out.cell (wb_ w _ hw184_0)).trans hw184_0)⟩ (fun hHeld => ?_)
                  clear hK K
                  refine norm_ (a' := ?_) ?_ ?_
                  rotate_left
                  ·show Act.put _ (some 65) _ = _
                   simp only [Act.put, ls_, lz_, lc_, i64_w, i32_w]
                   rfl
                  refine pu_ (v := ?_) (a' := ?_) 8 57 (bz 14 2559) rfl rfl HT_ (by kernel_rfl) (fun _ _ _ h => h) (by rfl) ?_ ?_ ?_
                  rotate_left; (intro w'; go_simp; with_reducible rfl); rotate_left; (simp only [Act.put, ls_, lz_, lc_, i64_w, i32_w]; rfl)
                  refine pu_ (v := ?_) (a' := ?_) 9 66 (bz 14 3071) rfl rfl HT_ (by kernel_rfl) (fun _ _ _ h => h) (by rfl) ?_ ?_ ?_
                  rotate_left; (intro w'; go_simp; with_reducible rfl); rotate_left; (simp only [Act.put, ls_, lz_, lc_, i64_w, i32_w]; rfl)
                  refine pu_ (v := ?_) (a' := ?_) 10 67 (bz 14 4095) rfl rfl HT_ (by kernel_rfl) (fun _ _ _ h => h) (by rfl) ?_ ?_ ?_
                  rotate_left; (intro w'; go_simp; with_reducible rfl); rotate_left; (simp only [Act.put, ls_, lz_, lc_, i64_w, i32_w]; rfl)
                  exact norm_ (by simp only [putAll, Act.put, ls_, lz_, lc_]) (hCont (gb190) _ ⟨hHeld, (by (with_reducible repeat (first | apply Kd.R_alloc | apply Kd.R_drewN | apply Kd.R_drew)); exact HO_12.out), (kk_ BK180.out), (kk_ BK190.out), GW190.out, GE190.out, NB180_190.out, NB190_180.out, (bb_ HB.out (e_ GE180 (e_ GE190 e0_)))⟩)
                rintro gb190 w30 ⟨hS_, h0_, h1_, h2_, h3_, h4_, h5_, h6_, h7_⟩
                have n0_ : Aside0 (Kd.R k46 46 w30 w.heap.size (fun k_ => k_ ≠ gb180 ∧ k_ ≠ gb190) u12 x12_2) := ⟨h0_⟩
                have n1_ : Aside0 (w30.heap[gb180]? = some (.cells #[.int .i64 t175, .int .i64 t176, .int .i64 t177, .int .i64 t178] 46 (0, 0))) := ⟨h1_⟩
                have n2_ : Aside0 (w30.heap[gb190]? = some (.cells #[.int .i64 0, .int .i64 0, .int .i64 0, .int .i64 0] 46 (0, 0))) := ⟨h2_⟩
                have n3_ : Aside0 (w.heap.size ≤ gb190) := ⟨h3_⟩
                have n4_ : Aside0 (w.heap.size ≤ gb190) := ⟨h4_⟩
                have n5_ : Aside0 (gb180 ≠ gb190) := ⟨h5_⟩
                have n6_ : Aside0 (gb190 ≠ gb180) := ⟨h6_⟩
                have n7_ : Aside0 (Below w.heap.size w w30) := ⟨h7_⟩
                clear HO_12
                clear BK180
                clear HB
                clear h0_ h1_ h2_ h3_ h4_ h5_ h6_ h7_
                have HO_12 := n0_
                have BK180 := n1_
                have BK190 := n2_
                have GW190 := n3_
                have GE190 := n4_
                have NB180_190 := n5_
                have NB190_180 := n6_
                have HB := n7_
                clear n0_ n1_ n2_ n3_ n4_ n5_ n6_ n7_
                have hHeld : w30.cell? ⟨gb180, 0, none⟩ = some (.int .i64 t175) ∧ w30.cell? ⟨gb180, 1, none⟩ = some (.int .i64 t176) ∧ w30.cell? ⟨gb180, 2, none⟩ = some (.int .i64 t177) ∧ w30.cell? ⟨gb180, 3, none⟩ = some (.int .i64 t178) ∧ w30.cell? (ad184.add (x40_2).toNat) = some (.int .i64 (rd l1 x40_2)) := hS_
                refine norm_ (a' := ?_) ?_ ?_
                rotate_left
                ·simp only [putAll, Act.put, ls_, lz_, lc_]
                 rfl
                refine on_ (N := none) 12 (bz 14 8191) rfl rfl HT_ (by kernel_rfl) (by decide) (fun K hK => ?_)
                have hs31 : w30.cell? ⟨gb190, 0, none⟩ = some (.int .i64 0) := (kc_ BK190.out 0).trans rfl
                have hfs31 := kf_ BK190.out 0
                have hns31_0 := NB180_190.out
                have hms31_0 := NB190_180.out
                have hs32 : w30.cell? ⟨gb190, 1, none⟩ = some (.int .i64 0) := (kc_ BK190.out 1).trans rfl
                have hfs32 := kf_ BK190.out 1
                have hns32_0 := NB180_190.out
                have hms32_0 := NB190_180.out
                have hs33 : w30.cell? ⟨gb190, 2, none⟩ = some (.int .i64 0) := (kc_ BK190.out 2).trans rfl
                have hfs33 := kf_ BK190.out 2
                have hns33_0 := NB180_190.out
                have hms33_0 := NB190_180.out
                have hs34 : w30.cell? ⟨gb190, 3, none⟩ = some (.int .i64 0) := (kc_ BK190.out 3).trans rfl
                have hfs34 := kf_ BK190.out 3
                have hns34_0 := NB180_190.out
                have hms34_0 := NB190_180.out
                refine skip_ (w1 := ?_) (by rfl) rfl ?_ ?_
                rotate_left
                ·go_simp
                 rfl
                refine hK.out _ _ ⟨((cell_far (p := ⟨gb190, _, none⟩) NB180_190.out _).trans (((cell_far (p := ⟨gb190, _, none⟩) NB180_190.out _).trans (((cell_far (p := ⟨gb190, _, none⟩) NB180_190.out _).trans (((cell_far (p := ⟨gb190, _, none⟩) NB180_190.out _).trans (hHeld.1)))))))), ((cell_far (p := ⟨gb190, _, none⟩) NB180_190.out _).trans (((cell_far (p := ⟨gb190, _, none⟩) NB180_190.out _).trans (((cell_far (p := ⟨gb190, _, none⟩) NB180_190.out _).trans (((cell_far (p := ⟨gb190, _, none⟩) NB180_190.out _).trans (hHeld.2.1)))))))), ((cell_far (p := ⟨gb190, _, none⟩) NB180_190.out _).trans (((cell_far (p := ⟨gb190, _, none⟩) NB180_190.out _).trans (((cell_far (p := ⟨gb190, _, none⟩) NB180_190.out _).trans (((cell_far (p := ⟨gb190, _, none⟩) NB180_190.out _).trans (hHeld.2.2.1)))))))), ((cell_far (p := ⟨gb190, _, none⟩) NB180_190.out _).trans (((cell_far (p := ⟨gb190, _, none⟩) NB180_190.out _).trans (((cell_far (p := ⟨gb190, _, none⟩) NB180_190.out _).trans (((cell_far (p := ⟨gb190, _, none⟩) NB180_190.out _).trans (hHeld.2.2.2.1)))))))), ((cell_far (p := ⟨gb190, _, none⟩) (by first | exact nn_ (nl_ (by have := wb_ _ _ hw184_0; first | rwa [ak_] at this | exact this) GW190.out) | (rw [ak_]; exact nn_ (nl_ (by have := wb_ _ _ hw184_0; first | rwa [ak_] at this | exact this) GW190.out)) | (show (Addr.add _ _).block ≠ _; rw [ak_]; exact nn_ (nl_ (by have := wb_ _ _ hw184_0; first | rwa [ak_] at this | exact this) GW190.out)) | (dsimp only; exact nn_ (nl_ (by have := wb_ _ _ hw184_0; first | rwa [ak_] at this | exact this) GW190.out))) _).trans (((cell_far (p := ⟨gb190, _, none⟩) (by first | exact nn_ (nl_ (by have := wb_ _ _ hw184_0; first | rwa [ak_] at this | exact this) GW190.out) | (rw [ak_]; exact nn_ (nl_ (by have := wb_ _ _ hw184_0; first | rwa [ak_] at this | exact this) GW190.out)) | (show (Addr.add _ _).block ≠ _; rw [ak_]; exact nn_ (nl_ (by have := wb_ _ _ hw184_0; first | rwa [ak_] at this | exact this) GW190.out)) | (dsimp only; exact nn_ (nl_ (by have := wb_ _ _ hw184_0; first | rwa [ak_] at this | exact this) GW190.out))) _).trans (((cell_far (p := ⟨gb190, _, none⟩) (by first | exact nn_ (nl_ (by have := wb_ _ _ hw184_0; first | rwa [ak_] at this | exact this) GW190.out) | (rw [ak_]; exact nn_ (nl_ (by have := wb_ _ _ hw184_0; first | rwa [ak_] at this | exact this) GW190.out)) | (show (Addr.add _ _).block ≠ _; rw [ak_]; exact nn_ (nl_ (by have := wb_ _ _ hw184_0; first | rwa [ak_] at this | exact this) GW190.out)) | (dsimp only; exact nn_ (nl_ (by have := wb_ _ _ hw184_0; first | rwa [ak_] at this | exact this) GW190.out))) _).trans (((cell_far (p := ⟨gb190, _, none⟩) (by first | exact nn_ (nl_ (by have := wb_ _ _ hw184_0; first | rwa [ak_] at this | exact this) GW190.out) | (rw [ak_]; exact nn_ (nl_ (by have := wb_ _ _ hw184_0; first | rwa [ak_] at this | exact this) GW190.out)) | (show (Addr.add _ _).block ≠ _; rw [ak_]; exact nn_ (nl_ (by have := wb_ _ _ hw184_0; first | rwa [ak_] at this | exact this) GW190.out)) | (dsimp only; exact nn_ (nl_ (by have := wb_ _ _ hw184_0; first | rwa [ak_] at this | exact this) GW190.out))) _).trans (hHeld.2.2.2.2))))))))⟩ (fun hHeld => ?_)
                clear hK K
                refine pu_ (v := ?_) (a' := ?_) 13 16 (bz 14 16383) rfl rfl HT_ (by kernel_rfl) (fun _ _ _ h => h) (by rfl) ?_ ?_ ?_
                rotate_left; (intro w'; go_simp; with_reducible rfl); rotate_left; (simp only [Act.put, ls_, lz_, lc_, i64_w, i32_w]; rfl)
                refine done_ (done_of HT_.out (by kernel_rfl)) ?_
                have hnb35 := NB190_180.out
                have hnc35 := NB180_190.out
                have hcz36_0 : w30.cell? ⟨gb190, 0, none⟩ = some (.int .i64 0) := (kc_ BK190.out 0).trans rfl
                have hcz36_1 : w30.cell? ⟨gb190, 1, none⟩ = some (.int .i64 0) := (kc_ BK190.out 1).trans rfl
                have hcz36_2 : w30.cell? ⟨gb190, 2, none⟩ = some (.int .i64 0) := (kc_ BK190.out 2).trans rfl
                have hcz36_3 : w30.cell? ⟨gb190, 3, none⟩ = some (.int .i64 0) := (kc_ BK190.out 3).trans rfl
                have hfz36_0 := kf_ BK190.out 0
                have hfz36_1 := kf_ BK190.out 1
                have hfz36_2 := kf_ BK190.out 2
                have hfz36_3 := kf_ BK190.out 3
                try go_wp2_with (first | ((with_reducible refine gate_builtin (b := .append) (xs := #[.tmp 70, .tmp 72]) rfl ?_); (try (refine gate_guard (by rfl) ?_; dsimp only)); at_builtin; refine Kd.R_append k46 (w0 := w) w.heap.size rfl (.tmp 70) (.tmp 72) 36 46 (.agg #[(.int .i64 0), (.int .i64 0), (.int .i64 0), (.int .i64 0)]) 32 rfl Tryd.underlying36 info46 rfl (by decide) (by omega) u12 x12_2 (⟨t185, t186, t187, t188⟩ : S46) [.int .i64 t185, .int .i64 t186, .int .i64 t187, .int .i64 t188] (fun k_ => k_ ≠ gb180 ∧ k_ ≠ gb190) (fun _ => False) rfl (by first | (go_simp; done) | (go_simp; rfl)) ?aP (fun _ hk => hk.elim) ?aF ?aO ?aB ?aS ?aL ?_; (case aP => exact k46_mkM _ _ _ (⟨t185, t186, t187, t188⟩ : S46)); (case aB => exact (bb_ HB.out (e_ GE180 (e_ GE190 e0_)))); (case aF => exact (fun k_ hk => ⟨Kd.freshB (g := gb180) (o := .cells #[.int .i64 t175, .int .i64 t176, .int .i64 t177, .int .i64 t178] 46 (0, 0)) (by (with_reducible repeat first | apply kn_ | apply kd_ | apply ka_); refine blk_far ?_ NB180_190.out _; (with_reducible repeat first | apply kn_ | apply kd_ | apply ka_); refine blk_far ?_ NB180_190.out _; (with_reducible repeat first | apply kn_ | apply kd_ | apply ka_); refine blk_far ?_ NB180_190.out _; (with_reducible repeat first | apply kn_ | apply kd_ | apply ka_); refine blk_far ?_ NB180_190.out _; (with_reducible repeat first | apply kn_ | apply kd_ | apply ka_); exact BK180.out) k_ hk, Kd.freshB (g := gb190) (o := .cells #[.int .i64 t185, .int .i64 t186, .int .i64 t187, .int .i64 t188] 46 (0, 0)) (by (with_reducible repeat first | apply kn_ | apply kd_ | apply ka_); refine blk_put (cs := #[.int .i64 t185, .int .i64 t186, .int .i64 t187, .int .i64 0]) ?_ 3 _ rfl; (with_reducible repeat first | apply kn_ | apply kd_ | apply ka_); refine blk_put (cs := #[.int .i64 t185, .int .i64 t186, .int .i64 0, .int .i64 0]) ?_ 2 _ rfl; (with_reducible repeat first | apply kn_ | apply kd_ | apply ka_); refine blk_put (cs := #[.int .i64 t185, .int .i64 0, .int .i64 0, .int .i64 0]) ?_ 1 _ rfl; (with_reducible repeat first | apply kn_ | apply kd_ | apply ka_); refine blk_put (cs := #[.int .i64 0, .int .i64 0, .int .i64 0, .int .i64 0]) ?_ 0 _ rfl; (with_reducible repeat first | apply kn_ | apply kd_ | apply ka_); exact BK190.out) k_ hk⟩)); (case aO => exact (by (with_reducible repeat (first | apply Kd.R_alloc | apply Kd.R_drewN | apply Kd.R_drew)); exact Kd.R_mono (Kd.R_far (p := ⟨gb190, 3, none⟩) (Kd.R_far (p := ⟨gb190, 2, none⟩) (Kd.R_far (p := ⟨gb190, 1, none⟩) (Kd.R_far (p := ⟨gb190, 0, none⟩) (Kd.R_mono HO_12.out (fun k_ hk => (⟨hk, hk.2⟩ : _ ∧ k_ ≠ gb190))) (fun _ hk => hk.2) (.int .i64 t185)) (fun _ hk => hk.2) (.int .i64 t186)) (fun _ hk => hk.2) (.int .i64 t187)) (fun _ hk => hk.2) (.int .i64 t188)) (fun _ hk => ⟨hk.1.1, hk.1.2⟩))); (case aS => exact (bz_ (bb_ HB.out (e_ GE180 (e_ GE190 e0_))))); (case aL => have := LMc26.out; omega); intro v192 w37 ho hb hg hat; rw [← Ny191.out] at ho; have n0_ := sd_ (blk_grown (g := gb180) (o := .cells #[.int .i64 t175, .int .i64 t176, .int .i64 t177, .int .i64 t178] 46 (0, 0)) (by (with_reducible repeat first | apply kn_ | apply kd_ | apply ka_); refine blk_far ?_ NB180_190.out _; (with_reducible repeat first | apply kn_ | apply kd_ | apply ka_); refine blk_far ?_ NB180_190.out _; (with_reducible repeat first | apply kn_ | apply kd_ | apply ka_); refine blk_far ?_ NB180_190.out _; (with_reducible repeat first | apply kn_ | apply kd_ | apply ka_); refine blk_far ?_ NB180_190.out _; (with_reducible repeat first | apply kn_ | apply kd_ | apply ka_); exact BK180.out) hg (Kd.R_away HO_12.out (fun _ hk => hk.1))); have n1_ := sd_ (blk_grown (g := gb190) (o := .cells #[.int .i64 t185, .int .i64 t186, .int .i64 t187, .int .i64 t188] 46 (0, 0)) (by (with_reducible repeat first | apply kn_ | apply kd_ | apply ka_); refine blk_put (cs := #[.int .i64 t185, .int .i64 t186, .int .i64 t187, .int .i64 0]) ?_ 3 _ rfl; (with_reducible repeat first | apply kn_ | apply kd_ | apply ka_); refine blk_put (cs := #[.int .i64 t185, .int .i64 t186, .int .i64 0, .int .i64 0]) ?_ 2 _ rfl; (with_reducible repeat first | apply kn_ | apply kd_ | apply ka_); refine blk_put (cs := #[.int .i64 t185, .int .i64 0, .int .i64 0, .int .i64 0]) ?_ 1 _ rfl; (with_reducible repeat first | apply kn_ | apply kd_ | apply ka_); refine blk_put (cs := #[.int .i64 0, .int .i64 0, .int .i64 0, .int .i64 0]) ?_ 0 _ rfl; (with_reducible repeat first | apply kn_ | apply kd_ | apply ka_); exact BK190.out) hg (Kd.R_away HO_12.out (fun _ hk => hk.2))); have n2_ := sd_ (hb); have n3_ := sd_ (ho); clear BK180; clear BK190; clear HB; clear HO_12; have BK180 := n0_; have BK190 := n1_; have HB := n2_; have HO193 := n3_; clear n0_ n1_ n2_ n3_; clear ho hb hg hat))
                go_roundg kj17
                case measure => have := HJ4.out; have := HK2.out; have := HJ17.out; omega
                case rel => exact ⟨(y191), (wrap64 (x40_2 + 1)), (by first | rfl | (simp; done) | (simp [*]; done) | (simp [bne]; done)), H', ⟨by have := HJ4.out; have := HK2.out; have := HJ17.out; omega⟩, ⟨by (with_reducible repeat (first | apply Kd.R_alloc | apply Kd.R_drewN | apply Kd.R_drew)); exact Kd.R_mono HO193.out (fun _ hk => hk.1)⟩, ⟨by (with_reducible repeat first | apply kn_ | apply kd_ | apply ka_); exact BK180.out⟩, ⟨by repeat (first | (with_reducible first | exact HB.out | apply ba_ | apply pd_ | apply d1_ | refine bs_ ?_ GE180.out | refine bs_ ?_ GE190.out) | exact HB.out)⟩⟩
               ·rw [if_neg c26] at H
                exact absurd H (by simp)
              ·rw [if_neg c25] at H
               have c25b0 : (t189 == 0) = false := beq_eq_false_iff_ne.mpr c25
               have c25b1 : (t189 != 0) = true := bne_iff_ne.mpr c25
               simp only [Option.some.injEq, Prod.mk.injEq] at H
               obtain ⟨rfl, rfl⟩ := H
               try go_wp2
               replace HO_12 := sd_ (Kd.R_drew HO_12.out)
               replace BK180 := sd_ (kd_ BK180.out)
               replace HB := sd_ (d1_ HB.out)
               have p184 : 0 ≤ (x40_2 : Int) := od_ (by first | (with_reducible assumption) | assumption)
               have q184 : x40_2 < (l1.length : Int) := od_ (by first | (with_reducible assumption) | assumption)
               obtain ⟨ad184, e184, hx184_0⟩ := Kd.at_int HR1.out x40_2 p184 q184
               have hw184_0 := hx184_0
               cases e184
               replace hx184_0 := (HB.out.cell (wb_ w _ hx184_0)).trans hx184_0
               replace p184 := eq_true p184
               replace q184 := eq_true q184
               refine start_ (n := 14) (S := fun w' => w'.cell? ⟨gb180, 0, none⟩ = some (.int .i64 t175) ∧ w'.cell? ⟨gb180, 1, none⟩ = some (.int .i64 t176) ∧ w'.cell? ⟨gb180, 2, none⟩ = some (.int .i64 t177) ∧ w'.cell? ⟨gb180, 3, none⟩ = some (.int .i64 t178) ∧ w'.cell? (ad184.add (x40_2).toNat) = some (.int .i64 (rd l1 x40_2))) (ds := []) (Array.replicate 14 false) (by kernel_rfl) rfl rfl ⟨(kc_ BK180.out 0).trans rfl, (kc_ BK180.out 1).trans rfl, (kc_ BK180.out 2).trans rfl, (kc_ BK180.out 3).trans rfl, ((HB.out.cell (wb_ w _ hw184_0)).trans hw184_0)⟩ (fun hHeld => ?_); refine with_tabW chord_Boxes.tab10 chord_Boxes.bits10 (fun HT_ HW_ => ?_)
               generalize wc.drew = w38 at HO_12 BK180 HB hx184_0 hHeld ⊢
               refine pu_ (v := ?_) (a' := ?_) 1 59 (bz 14 2) rfl rfl HT_ (by kernel_rfl) (fun _ _ _ h => h) (by rfl) ?_ ?_ ?_
               rotate_left; (intro w'; go_simp; with_reducible rfl); rotate_left; (simp only [Act.put, ls_, lz_, lc_, i64_w, i32_w]; rfl)
               refine pu_ (v := ?_) (a' := ?_) 2 60 (bz 14 6) rfl rfl HT_ (by kernel_rfl) (fun _ _ _ h => h) (by rfl) ?_ ?_ ?_
               rotate_left; (intro w'; go_simp; with_reducible rfl); rotate_left; (simp only [Act.put, ls_, lz_, lc_, i64_w, i32_w]; rfl)
               refine pu_ (v := ?_) (a' := ?_) 3 61 (bz 14 14) rfl rfl HT_ (by kernel_rfl) (fun _ _ _ h => h) (by rfl) ?_ ?_ ?_
               rotate_left; (intro w'; go_simp; with_reducible rfl); rotate_left; (simp only [Act.put, ls_, lz_, lc_, i64_w, i32_w]; rfl)
               refine pu_ (v := ?_) (a' := ?_) 5 63 (bz 14 46) rfl rfl HT_ (by kernel_rfl) (fun _ _ _ h => h) (by rfl) ?_ ?_ ?_
               rotate_left; (intro w'; go_simp; with_reducible rfl); rotate_left; (simp only [Act.put, ls_, lz_, lc_, i64_w, i32_w]; rfl)
               refine pu_ (v := ?_) (a' := ?_) 6 64 (bz 14 110) rfl rfl HT_ (by kernel_rfl) (fun _ _ _ h => h) (by rfl) ?_ ?_ ?_
               rotate_left; (intro w'; go_simp; with_reducible rfl); rotate_left; (simp only [Act.put, ls_, lz_, lc_, i64_w, i32_w]; rfl)
               refine ta_ (v := ?_) (a' := ?_) 0 58 (bz 14 111) rfl rfl HT_ HW_ (by kernel_rfl) (fun _ _ _ h => h) (by rfl) ?_ hHeld ?_ ?_
               rotate_left
               ·rintro w' ⟨s0, s1, s2, s3, s4⟩
                go_simp
                with_reducible rfl
               rotate_left
               ·simp only [Act.put, ls_, lz_, lc_, i64_w, i32_w]
                rfl
               refine ta_ (v := ?_) (a' := ?_) 4 62 (bz 14 127) rfl rfl HT_ HW_ (by kernel_rfl) (fun _ _ _ h => h) (by rfl) ?_ hHeld ?_ ?_
               rotate_left
               ·rintro w' ⟨s0, s1, s2, s3, s4⟩
                go_simp
                with_reducible rfl
               rotate_left
               ·simp only [Act.put, ls_, lz_, lc_, i64_w, i32_w]
                rfl
               refine join_ (σ := Nat) 2 (bz 14 4095) (fun s_ => [(65, .tuple #[.agg #[.int .i64 t185, .int .i64 t186, .int .i64 t187, .int .i64 t188], .int .i64 t189]), (15, .pointer (some ⟨s_, 0, none⟩)), (57, .tuple #[.agg #[.int .i64 t185, .int .i64 t186, .int .i64 t187, .int .i64 t188], .int .i64 t189]), (66, .agg #[.int .i64 t185, .int .i64 t186, .int .i64 t187, .int .i64 t188]), (67, .int .i64 t189)]) (fun s_ w' => (w'.cell? ⟨gb180, 0, none⟩ = some (.int .i64 t175) ∧ w'.cell? ⟨gb180, 1, none⟩ = some (.int .i64 t176) ∧ w'.cell? ⟨gb180, 2, none⟩ = some (.int .i64 t177) ∧ w'.cell? ⟨gb180, 3, none⟩ = some (.int .i64 t178) ∧ w'.cell? (ad184.add (x40_2).toNat) = some (.int .i64 (rd l1 x40_2))) ∧ (Kd.R k46 46 w' w.heap.size (fun k_ => k_ ≠ gb180 ∧ k_ ≠ s_) u12 x12_2) ∧ (w'.heap[gb180]? = some (.cells #[.int .i64 t175, .int .i64 t176, .int .i64 t177, .int .i64 t178] 46 (0, 0))) ∧ (w'.heap[s_]? = some (.cells #[.int .i64 0, .int .i64 0, .int .i64 0, .int .i64 0] 46 (0, 0))) ∧ (w.heap.size ≤ s_) ∧ (w.heap.size ≤ s_) ∧ (gb180 ≠ s_) ∧ (s_ ≠ gb180) ∧ (Below w.heap.size w w')) ?_ ?_
               rotate_left
               ·intro hCont
                refine two_ (i := 7) (j := 11) (Ni := some 65) (Nj := some 15) (bz 14 255) (bz 14 2175) rfl rfl rfl rfl (two_of HT_.out (by kernel_rfl)) (by decide) (by decide) (fun K hK => ?_) (fun K hK => ?_)
                ·skip
                 refine goes_ Tryd.func29 (by kernel_rfl) rfl #[.agg #[.int .i64 t175, .int .i64 t176, .int .i64 t177, .int .i64 t178], .int .i64 (rd l1 x40_2), .int .i64 (wrap64 (512 * (rd l0 x40_2)))] (by rfl) rfl rfl (by (try simp only [lm_, lq_, lx_]); first | done | rfl | (simp only [ld_, lt_]; rfl)) ?_
                 with_reducible refine (box_Move.calls t175 t176 t177 t178 (rd l1 x40_2) (wrap64 (512 * (rd l0 x40_2))) t185 t186 t187 t188 t189 _ ?side1 A24.out).mono ?_
                 (case side1 => first | (with_reducible exact hE) | exact sd_ (LaidE.below hE.out (bb_ HB.out (e_ GE180 e0_))))
                 rintro e w39 ⟨rfl, hb⟩
                 refine ⟨_, rfl, ?_⟩
                 replace HO_12 := sd_ (Kd.R_below (by (with_reducible repeat (first | apply Kd.R_alloc | apply Kd.R_drewN | apply Kd.R_drew)); exact HO_12.out) hb)
                 replace BK180 := kb_ BK180 hb
                 replace HB := hb_ HB (e_ GE180 e0_) hb
                 (try clear hb)
                 (try clear hb2)
                 (try clear hk)
                 (try clear hi)
                 refine hK.out _ _ ⟨(kc_ BK180.out 0).trans rfl, (kc_ BK180.out 1).trans rfl, (kc_ BK180.out 2).trans rfl, (kc_ BK180.out 3).trans rfl, ((HB.out.cell (wb_ w _ hw184_0)).trans hw184_0)⟩ (fun hHeld => ?_)
                 clear hK K
                 refine norm_ (a' := ?_) ?_ ?_
                 rotate_left
                 ·show Act.put _ (some 65) _ = _
                  simp only [Act.put, ls_, lz_, lc_, i64_w, i32_w]
                  rfl
                 refine pu_ (v := ?_) (a' := ?_) 8 57 (bz 14 511) rfl rfl HT_ (by kernel_rfl) (fun _ _ _ h => h) (by rfl) ?_ ?_ ?_
                 rotate_left; (intro w'; go_simp; with_reducible rfl); rotate_left; (simp only [Act.put, ls_, lz_, lc_, i64_w, i32_w]; rfl)
                 refine pu_ (v := ?_) (a' := ?_) 9 66 (bz 14 1023) rfl rfl HT_ (by kernel_rfl) (fun _ _ _ h => h) (by rfl) ?_ ?_ ?_
                 rotate_left; (intro w'; go_simp; with_reducible rfl); rotate_left; (simp only [Act.put, ls_, lz_, lc_, i64_w, i32_w]; rfl)
                 refine pu_ (v := ?_) (a' := ?_) 10 67 (bz 14 2047) rfl rfl HT_ (by kernel_rfl) (fun _ _ _ h => h) (by rfl) ?_ ?_ ?_
                 rotate_left; (intro w'; go_simp; with_reducible rfl); rotate_left; (simp only [Act.put, ls_, lz_, lc_, i64_w, i32_w]; rfl)
                 refine on_ (N := some 15) 11 (bz 14 4095) rfl rfl HT_ (by kernel_rfl) (by decide) (fun K hK => ?_)
                 refine box_step ?hg (N := 15) ?hd (cs := #[.int .i64 0, .int .i64 0, .int .i64 0, .int .i64 0]) (t := 46) ?hr ?_; (case hd => rfl); (case hg => rfl); (case hr => first | (go_simp; done) | (go_simp; rfl))
                 intro gb190 hg w40 hbox hb
                 have BK190 := sd_ hbox
                 have GW190 := gw_ HB (e_ GE180 e0_) hg
                 have GE190 := GW190
                 have NB180_190 := nb_ BK180 hg
                 have NB190_180 := sy_ NB180_190
                 replace HO_12 := sd_ (Kd.R_below (Kd.R_elderB (by (with_reducible repeat (first | apply Kd.R_alloc | apply Kd.R_drewN | apply Kd.R_drew)); exact HO_12.out) gb190 (Nat.le_of_eq hg.symm)) hb)
                 replace BK180 := kb_ BK180 hb
                 replace HB := hb_ HB (e_ GE180 e0_) hb
                 clear hb hbox hg
                 refine hK.out _ _ ⟨(kc_ BK180.out 0).trans rfl, (kc_ BK180.out 1).trans rfl, (kc_ BK180.out 2).trans rfl, (kc_ BK180.out 3).trans rfl, ((HB.out.cell (wb_ w _ hw184_0)).trans hw184_0)⟩ (fun hHeld => ?_)
                 clear hK K
                 refine norm_ (a' := ?_) ?_ ?_
                 rotate_left
                 ·show Act.put _ (some 15) _ = _
                  simp only [Act.put, ls_, lz_, lc_, i64_w, i32_w]
                  rfl
                 exact norm_ (by simp only [putAll, Act.put, ls_, lz_, lc_]) (hCont (gb190) _ ⟨hHeld, (by (with_reducible repeat (first | apply Kd.R_alloc | apply Kd.R_drewN | apply Kd.R_drew)); exact HO_12.out), (kk_ BK180.out), (kk_ BK190.out), GW190.out, GE190.out, NB180_190.out, NB190_180.out, (bb_ HB.out (e_ GE180 (e_ GE190 e0_)))⟩)
                ·skip
                 refine box_step ?hg (N := 15) ?hd (cs := #[.int .i64 0, .int .i64 0, .int .i64 0, .int .i64 0]) (t := 46) ?hr ?_; (case hd => rfl); (case hg => rfl); (case hr => first | (go_simp; done) | (go_simp; rfl))
                 intro gb190 hg w39 hbox hb
                 have BK190 := sd_ hbox
                 have GW190 := gw_ HB (e_ GE180 e0_) hg
                 have GE190 := GW190
                 have NB180_190 := nb_ BK180 hg
                 have NB190_180 := sy_ NB180_190
                 replace HO_12 := sd_ (Kd.R_below (Kd.R_elderB (by (with_reducible repeat (first | apply Kd.R_alloc | apply Kd.R_drewN | apply Kd.R_drew)); exact HO_12.out) gb190 (Nat.le_of_eq hg.symm)) hb)
                 replace BK180 := kb_ BK180 hb
                 replace HB := hb_ HB (e_ GE180 e0_) hb
                 clear hb hbox hg
                 refine hK.out _ _ ⟨(kc_ BK180.out 0).trans rfl, (kc_ BK180.out 1).trans rfl, (kc_ BK180.out 2).trans rfl, (kc_ BK180.out 3).trans rfl, ((HB.out.cell (wb_ w _ hw184_0)).trans hw184_0)⟩ (fun hHeld => ?_)
                 clear hK K
                 refine norm_ (a' := ?_) ?_ ?_
                 rotate_left
                 ·show Act.put _ (some 15) _ = _
                  simp only [Act.put, ls_, lz_, lc_, i64_w, i32_w]
                  rfl
                 refine on_ (N := some 65) 7 (bz 14 2303) rfl rfl HT_ (by kernel_rfl) (by decide) (fun K hK => ?_)
                 refine goes_ Tryd.func29 (by kernel_rfl) rfl #[.agg #[.int .i64 t175, .int .i64 t176, .int .i64 t177, .int .i64 t178], .int .i64 (rd l1 x40_2), .int .i64 (wrap64 (512 * (rd l0 x40_2)))] (by rfl) rfl rfl (by (try simp only [lm_, lq_, lx_]); first | done | rfl | (simp only [ld_, lt_]; rfl)) ?_
                 with_reducible refine (box_Move.calls t175 t176 t177 t178 (rd l1 x40_2) (wrap64 (512 * (rd l0 x40_2))) t185 t186 t187 t188 t189 _ ?side1 A24.out).mono ?_
                 (case side1 => first | (with_reducible exact hE) | exact sd_ (LaidE.below hE.out (bb_ HB.out (e_ GE180 (e_ GE190 e0_)))))
                 rintro e w40 ⟨rfl, hb⟩
                 refine ⟨_, rfl, ?_⟩
                 replace HO_12 := sd_ (Kd.R_below (by (with_reducible repeat (first | apply Kd.R_alloc | apply Kd.R_drewN | apply Kd.R_drew)); exact HO_12.out) hb)
                 replace BK180 := kb_ BK180 hb
                 replace BK190 := kb_ BK190 hb
                 replace HB := hb_ HB (e_ GE180 (e_ GE190 e0_)) hb
                 (try clear hb)
                 (try clear hb2)
                 (try clear hk)
                 (try clear hi)
                 refine hK.out _ _ ⟨(kc_ BK180.out 0).trans rfl, (kc_ BK180.out 1).trans rfl, (kc_ BK180.out 2).trans rfl, (kc_ BK180.out 3).trans rfl, ((HB.out.cell (wb_ w _ hw184_0)).trans hw184_0)⟩ (fun hHeld => ?_)
                 clear hK K
                 refine norm_ (a' := ?_) ?_ ?_
                 rotate_left
                 ·show Act.put _ (some 65) _ = _
                  simp only [Act.put, ls_, lz_, lc_, i64_w, i32_w]
                  rfl
                 refine pu_ (v := ?_) (a' := ?_) 8 57 (bz 14 2559) rfl rfl HT_ (by kernel_rfl) (fun _ _ _ h => h) (by rfl) ?_ ?_ ?_
                 rotate_left; (intro w'; go_simp; with_reducible rfl); rotate_left; (simp only [Act.put, ls_, lz_, lc_, i64_w, i32_w]; rfl)
                 refine pu_ (v := ?_) (a' := ?_) 9 66 (bz 14 3071) rfl rfl HT_ (by kernel_rfl) (fun _ _ _ h => h) (by rfl) ?_ ?_ ?_
                 rotate_left; (intro w'; go_simp; with_reducible rfl); rotate_left; (simp only [Act.put, ls_, lz_, lc_, i64_w, i32_w]; rfl)
                 refine pu_ (v := ?_) (a' := ?_) 10 67 (bz 14 4095) rfl rfl HT_ (by kernel_rfl) (fun _ _ _ h => h) (by rfl) ?_ ?_ ?_
                 rotate_left; (intro w'; go_simp; with_reducible rfl); rotate_left; (simp only [Act.put, ls_, lz_, lc_, i64_w, i32_w]; rfl)
                 exact norm_ (by simp only [putAll, Act.put, ls_, lz_, lc_]) (hCont (gb190) _ ⟨hHeld, (by (with_reducible repeat (first | apply Kd.R_alloc | apply Kd.R_drewN | apply Kd.R_drew)); exact HO_12.out), (kk_ BK180.out), (kk_ BK190.out), GW190.out, GE190.out, NB180_190.out, NB190_180.out, (bb_ HB.out (e_ GE180 (e_ GE190 e0_)))⟩)
               rintro gb190 w41 ⟨hS_, h0_, h1_, h2_, h3_, h4_, h5_, h6_, h7_⟩
               have n0_ : Aside0 (Kd.R k46 46 w41 w.heap.size (fun k_ => k_ ≠ gb180 ∧ k_ ≠ gb190) u12 x12_2) := ⟨h0_⟩
               have n1_ : Aside0 (w41.heap[gb180]? = some (.cells #[.int .i64 t175, .int .i64 t176, .int .i64 t177, .int .i64 t178] 46 (0, 0))) := ⟨h1_⟩
               have n2_ : Aside0 (w41.heap[gb190]? = some (.cells #[.int .i64 0, .int .i64 0, .int .i64 0, .int .i64 0] 46 (0, 0))) := ⟨h2_⟩
               have n3_ : Aside0 (w.heap.size ≤ gb190) := ⟨h3_⟩
               have n4_ : Aside0 (w.heap.size ≤ gb190) := ⟨h4_⟩
               have n5_ : Aside0 (gb180 ≠ gb190) := ⟨h5_⟩
               have n6_ : Aside0 (gb190 ≠ gb180) := ⟨h6_⟩
               have n7_ : Aside0 (Below w.heap.size w w41) := ⟨h7_⟩
               clear HO_12
               clear BK180
               clear HB
               clear h0_ h1_ h2_ h3_ h4_ h5_ h6_ h7_
               have HO_12 := n0_
               have BK180 := n1_
               have BK190 := n2_
               have GW190 := n3_
               have GE190 := n4_
               have NB180_190 := n5_
               have NB190_180 := n6_
               have HB := n7_
               clear n0_ n1_ n2_ n3_ n4_ n5_ n6_ n7_
               have hHeld : w41.cell? ⟨gb180, 0, none⟩ = some (.int .i64 t175) ∧ w41.cell? ⟨gb180, 1, none⟩ = some (.int .i64 t176) ∧ w41.cell? ⟨gb180, 2, none⟩ = some (.int .i64 t177) ∧ w41.cell? ⟨gb180, 3, none⟩ = some (.int .i64 t178) ∧ w41.cell? (ad184.add (x40_2).toNat) = some (.int .i64 (rd l1 x40_2)) := hS_
               refine norm_ (a' := ?_) ?_ ?_
               rotate_left
               ·simp only [putAll, Act.put, ls_, lz_, lc_]
                rfl
               refine on_ (N := none) 12 (bz 14 8191) rfl rfl HT_ (by kernel_rfl) (by decide) (fun K hK => ?_)
               have hs42 : w41.cell? ⟨gb190, 0, none⟩ = some (.int .i64 0) := (kc_ BK190.out 0).trans rfl
               have hfs42 := kf_ BK190.out 0
               have hns42_0 := NB180_190.out
               have hms42_0 := NB190_180.out
               have hs43 : w41.cell? ⟨gb190, 1, none⟩ = some (.int .i64 0) := (kc_ BK190.out 1).trans rfl
               have hfs43 := kf_ BK190.out 1
               have hns43_0 := NB180_190.out
               have hms43_0 := NB190_180.out
               have hs44 : w41.cell? ⟨gb190, 2, none⟩ = some (.int .i64 0) := (kc_ BK190.out 2).trans rfl
               have hfs44 := kf_ BK190.out 2
               have hns44_0 := NB180_190.out
               have hms44_0 := NB190_180.out
               have hs45 : w41.cell? ⟨gb190, 3, none⟩ = some (.int .i64 0) := (kc_ BK190.out 3).trans rfl
               have hfs45 := kf_ BK190.out 3
               have hns45_0 := NB180_190.out
               have hms45_0 := NB190_180.out
               refine skip_ (w1 := ?_) (by rfl) rfl ?_ ?_
               rotate_left
               ·go_simp
                rfl
               refine hK.out _ _ ⟨((cell_far (p := ⟨gb190, _, none⟩) NB180_190.out _).trans (((cell_far (p := ⟨gb190, _, none⟩) NB180_190.out _).trans (((cell_far (p := ⟨gb190, _, none⟩) NB180_190.out _).trans (((cell_far (p := ⟨gb190, _, none⟩) NB180_190.out _).trans (hHeld.1)))))))), ((cell_far (p := ⟨gb190, _, none⟩) NB180_190.out _).trans (((cell_far (p := ⟨gb190, _, none⟩) NB180_190.out _).trans (((cell_far (p := ⟨gb190, _, none⟩) NB180_190.out _).trans (((cell_far (p := ⟨gb190, _, none⟩) NB180_190.out _).trans (hHeld.2.1)))))))), ((cell_far (p := ⟨gb190, _, none⟩) NB180_190.out _).trans (((cell_far (p := ⟨gb190, _, none⟩) NB180_190.out _).trans (((cell_far (p := ⟨gb190, _, none⟩) NB180_190.out _).trans (((cell_far (p := ⟨gb190, _, none⟩) NB180_190.out _).trans (hHeld.2.2.1)))))))), ((cell_far (p := ⟨gb190, _, none⟩) NB180_190.out _).trans (((cell_far (p := ⟨gb190, _, none⟩) NB180_190.out _).trans (((cell_far (p := ⟨gb190, _, none⟩) NB180_190.out _).trans (((cell_far (p := ⟨gb190, _, none⟩) NB180_190.out _).trans (hHeld.2.2.2.1)))))))), ((cell_far (p := ⟨gb190, _, none⟩) (by first | exact nn_ (nl_ (by have := wb_ _ _ hw184_0; first | rwa [ak_] at this | exact this) GW190.out) | (rw [ak_]; exact nn_ (nl_ (by have := wb_ _ _ hw184_0; first | rwa [ak_] at this | exact this) GW190.out)) | (show (Addr.add _ _).block ≠ _; rw [ak_]; exact nn_ (nl_ (by have := wb_ _ _ hw184_0; first | rwa [ak_] at this | exact this) GW190.out)) | (dsimp only; exact nn_ (nl_ (by have := wb_ _ _ hw184_0; first | rwa [ak_] at this | exact this) GW190.out))) _).trans (((cell_far (p := ⟨gb190, _, none⟩) (by first | exact nn_ (nl_ (by have := wb_ _ _ hw184_0; first | rwa [ak_] at this | exact this) GW190.out) | (rw [ak_]; exact nn_ (nl_ (by have := wb_ _ _ hw184_0; first | rwa [ak_] at this | exact this) GW190.out)) | (show (Addr.add _ _).block ≠ _; rw [ak_]; exact nn_ (nl_ (by have := wb_ _ _ hw184_0; first | rwa [ak_] at this | exact this) GW190.out)) | (dsimp only; exact nn_ (nl_ (by have := wb_ _ _ hw184_0; first | rwa [ak_] at this | exact this) GW190.out))) _).trans (((cell_far (p := ⟨gb190, _, none⟩) (by first | exact nn_ (nl_ (by have := wb_ _ _ hw184_0; first | rwa [ak_] at this | exact this) GW190.out) | (rw [ak_]; exact nn_ (nl_ (by have := wb_ _ _ hw184_0; first | rwa [ak_] at this | exact this) GW190.out)) | (show (Addr.add _ _).block ≠ _; rw [ak_]; exact nn_ (nl_ (by have := wb_ _ _ hw184_0; first | rwa [ak_] at this | exact this) GW190.out)) | (dsimp only; exact nn_ (nl_ (by have := wb_ _ _ hw184_0; first | rwa [ak_] at this | exact this) GW190.out))) _).trans (((cell_far (p := ⟨gb190, _, none⟩) (by first | exact nn_ (nl_ (by have := wb_ _ _ hw184_0; first | rwa [ak_] at this | exact this) GW190.out) | (rw [ak_]; exact nn_ (nl_ (by have := wb_ _ _ hw184_0; first | rwa [ak_] at this | exact this) GW190.out)) | (show (Addr.add _ _).block ≠ _; rw [ak_]; exact nn_ (nl_ (by have := wb_ _ _ hw184_0; first | rwa [ak_] at this | exact this) GW190.out)) | (dsimp only; exact nn_ (nl_ (by have := wb_ _ _ hw184_0; first | rwa [ak_] at this | exact this) GW190.out))) _).trans (hHeld.2.2.2.2))))))))⟩ (fun hHeld => ?_)
               clear hK K
               refine pu_ (v := ?_) (a' := ?_) 13 16 (bz 14 16383) rfl rfl HT_ (by kernel_rfl) (fun _ _ _ h => h) (by rfl) ?_ ?_ ?_
               rotate_left; (intro w'; go_simp; with_reducible rfl); rotate_left; (simp only [Act.put, ls_, lz_, lc_, i64_w, i32_w]; rfl)
               refine done_ (done_of HT_.out (by kernel_rfl)) ?_
               try go_wp2
               go_ret2
               exact ⟨_, by first | rfl | (simp [errW_none, errW_some] <;> rfl) | (simp [*, errW_none, errW_some] <;> rfl), by first | exact Kd.R_nil _ _ _ _ _ | exact Kd.N_nil _ _ _ _ _ | exact Kd.V_nil _ _ _ _ _ | exact Kd.Q_nil _ _ _ _ _ | exact Kd.S_nil _ _ _ _ _, by repeat (first | (with_reducible first | exact HB.out | apply ba_ | apply pd_ | apply d1_ | refine bs_ ?_ GE180.out | refine bs_ ?_ GE190.out) | exact HB.out)⟩
             ·rw [if_neg c23] at H
              exact absurd H (by simp)
            ·rw [if_neg c22] at H
             exact absurd H (by simp)
        ·rw [if_neg c17] at H
         exact absurd H (by simp)
       ·rw [if_neg c16] at H
        exact absurd H (by simp)
      ·rw [if_neg c15] at H
       have c15b0 : decide (x40_2 < (l0.length : Int)) = false := df_ c15
       clear c15
       simp only [Option.some.injEq, Prod.mk.injEq] at H
       obtain ⟨rfl, rfl⟩ := H
       go_wp2
       go_ret2
       exact ⟨_, by first | rfl | (simp [errW_none, errW_some] <;> rfl) | (simp [*, errW_none, errW_some] <;> rfl), by (with_reducible repeat (first | apply Kd.R_alloc | apply Kd.R_drewN | apply Kd.R_drew)); exact Kd.R_mono HO_12.out (fun _ hk => trivial), by repeat (first | (with_reducible first | exact HB.out | apply ba_ | apply pd_ | apply d1_ | refine bs_ ?_ GE180.out) | exact HB.out)⟩

end Go.Proofs.YtcokemaiploejaaDoor.P
