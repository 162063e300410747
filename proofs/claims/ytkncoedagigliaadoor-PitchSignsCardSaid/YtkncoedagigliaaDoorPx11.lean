-- Written by a program of this session (wip/tools/xprint.py, over the kit's print): Lean checks it.
import Derived.Test.YtkncoedagigliaaDoorPx0
import Derived.Test.YtkncoedagigliaaDoorPx2
import Derived.Test.YtkncoedagigliaaDoorPx4
import Derived.Test.YtkncoedagigliaaDoorPx5
namespace Go.Proofs.YtkncoedagigliaaDoor.P
open Go.RowKit Go.Proofs.YtkncoedagigliaaDoorW.PrintWords Go.Proofs.YtkncoedagigliaaDoorW.PrintLast Go.Proofs.YtkncoedagigliaaDoorW.PrintMore
attribute [local go_sem] max2_int min2_int max_two min_two max_three min_three max_four min_four   -- for this text's walks alone
set_option linter.unusedVariables false
set_option linter.unusedSimpArgs false

/-! ### neumelaw06_PitchSigns: function 6 -/
mutual
def neumelaw06_PitchSigns.j0 : Nat → Int → Int → List Int → List Int → Bool → Option (Bool)
 | 0, _, _, _, _, _ => none
 | k + 1, x0, x1, x5, x7, x36 => if x36 = true then (if (x5.length : Int) = 0 then ((neumelaw06_heads.f k).bind fun t320 => (some t320)) else (some false)) else (neumelaw06_PitchSigns.l0 k x0 x1 x5 x7 0 0)
def neumelaw06_PitchSigns.l0 : Nat → Int → Int → List Int → List Int → Int → Int → Option (Bool)
 | 0, _, _, _, _, _, _ => none
 | k + 1, x0, x1, x5, x7, x9, x10 => if x10 < 7 then (if 0 ≤ x10 then (if x10 < (x7.length : Int) then (if (rd x7 x10) = 0 then (neumelaw06_PitchSigns.l0 k x0 x1 x5 x7 x9 (wrap64 (x10 + 1))) else (if ((decide ((rd x7 x10) > 0)) != (decide (x0 > 0))) = true then (some false) else (neumelaw06_PitchSigns.l0 k x0 x1 x5 x7 (wrap64 (x9 + 1)) (wrap64 (x10 + 1))))) else (none)) else (none)) else (if 7 ≤ 281474976710656 then (neumelaw06_PitchSigns.l1 k x0 x1 x5 x7 x9 (List.replicate 7 false) 0) else (none))
def neumelaw06_PitchSigns.l1 : Nat → Int → Int → List Int → List Int → Int → List Bool → Int → Option (Bool)
 | 0, _, _, _, _, _, _, _ => none
 | k + 1, x0, x1, x5, x7, x9, x11, x12 => if x12 < (x5.length : Int) then (if 0 ≤ x12 then ((pitch_At.f (rd x5 x12) x1).bind fun bt329 => (if bt329.2.2.2 = 0 then (if bt329.1 < 0 then (some false) else (if bt329.1 > 6 then (some false) else (if 0 ≤ bt329.1 then (if bt329.1 < (x11.length : Int) then (if rdOf false x11 bt329.1 = true then (some false) else (if bt329.1 < (x7.length : Int) then (if (rd x7 bt329.1) = 0 then (some false) else (if (rd x5 x12) < (-5) then (some false) else (if (rd x5 x12) > 5 then (some false) else (neumelaw06_PitchSigns.l1 k x0 x1 x5 x7 x9 (x11.set (bt329.1 : Int).toNat true) (wrap64 (x12 + 1)))))) else (none))) else (none)) else (none)))) else (some false))) else (none)) else (if x9 = (x5.length : Int) then (if x9 = (mx x0 (wrap64 (-x0))) then ((neumelaw06_heads.f k).bind fun t339 => (some t339)) else (some false)) else (some false))
end
def neumelaw06_PitchSigns.f (k : Nat) (a0 : Int) (a1 : Int) : Option (Bool) := (pitch_Signature.f k a0 a1).bind fun bt312 => ((pitch_Key.f k a0).bind fun bt316 => (if bt312.2 = 0 then (if bt316.2 = 0 then (neumelaw06_PitchSigns.j0 k a0 a1 bt312.1 bt316.1 ((bt316.1.length : Int) != 7)) else (neumelaw06_PitchSigns.j0 k a0 a1 bt312.1 bt316.1 true)) else (neumelaw06_PitchSigns.j0 k a0 a1 bt312.1 bt316.1 true)))
theorem neumelaw06_PitchSigns.mono_l : ∀ k, (∀ y0 y1 y2 y3 y4, LeO (neumelaw06_PitchSigns.j0 k y0 y1 y2 y3 y4) (neumelaw06_PitchSigns.j0 (k + 1) y0 y1 y2 y3 y4)) ∧ (∀ y0 y1 y2 y3 y4 y5, LeO (neumelaw06_PitchSigns.l0 k y0 y1 y2 y3 y4 y5) (neumelaw06_PitchSigns.l0 (k + 1) y0 y1 y2 y3 y4 y5)) ∧ (∀ y0 y1 y2 y3 y4 y5 y6, LeO (neumelaw06_PitchSigns.l1 k y0 y1 y2 y3 y4 y5 y6) (neumelaw06_PitchSigns.l1 (k + 1) y0 y1 y2 y3 y4 y5 y6))
 | 0 => ⟨fun _ _ _ _ _ r h => by simp [neumelaw06_PitchSigns.j0] at h, fun _ _ _ _ _ _ r h => by simp [neumelaw06_PitchSigns.l0] at h, fun _ _ _ _ _ _ _ r h => by simp [neumelaw06_PitchSigns.l1] at h⟩
 | k + 1 => by
  obtain ⟨ih0, ih1, ih2⟩ := neumelaw06_PitchSigns.mono_l k
  refine ⟨?_, ?_, ?_⟩
  ·intro y0 y1 y2 y3 y4
   unfold neumelaw06_PitchSigns.j0
   repeat' first
   | (with_reducible exact ih0 _ _ _ _ _)
   | (with_reducible exact ih1 _ _ _ _ _ _)
   | (with_reducible exact ih2 _ _ _ _ _ _ _)
   | (with_reducible exact neumelaw06_heads.mono _)
   | (with_reducible exact pitch_Key.mono _ _)
   | (with_reducible exact pitch_Signature.mono _ _ _)
   | (with_reducible exact LeO.refl _)
   | (with_reducible exact LeO.none _)
   | (with_reducible refine LeO.ite ?_ ?_)
   | (with_reducible refine LeO.bind ?_ (fun _ => ?_))
   | exact ih0 _ _ _ _ _
   | exact ih1 _ _ _ _ _ _
   | exact ih2 _ _ _ _ _ _ _
   | exact neumelaw06_heads.mono _
   | exact pitch_Key.mono _ _
   | exact pitch_Signature.mono _ _ _
   | exact LeO.none _
   | refine LeO.ite ?_ ?_
   | refine LeO.bind ?_ (fun _ => ?_)
  ·intro y0 y1 y2 y3 y4 y5
   unfold neumelaw06_PitchSigns.l0
   repeat' first
   | (with_reducible exact ih0 _ _ _ _ _)
   | (with_reducible exact ih1 _ _ _ _ _ _)
   | (with_reducible exact ih2 _ _ _ _ _ _ _)
   | (with_reducible exact neumelaw06_heads.mono _)
   | (with_reducible exact pitch_Key.mono _ _)
   | (with_reducible exact pitch_Signature.mono _ _ _)
   | (with_reducible exact LeO.refl _)
   | (with_reducible exact LeO.none _)
   | (with_reducible refine LeO.ite ?_ ?_)
   | (with_reducible refine LeO.bind ?_ (fun _ => ?_))
   | exact ih0 _ _ _ _ _
   | exact ih1 _ _ _ _ _ _
   | exact ih2 _ _ _ _ _ _ _
   | exact neumelaw06_heads.mono _
   | exact pitch_Key.mono _ _
   | exact pitch_Signature.mono _ _ _
   | exact LeO.none _
   | refine LeO.ite ?_ ?_
   | refine LeO.bind ?_ (fun _ => ?_)
  ·intro y0 y1 y2 y3 y4 y5 y6
   unfold neumelaw06_PitchSigns.l1
   repeat' first
   | (with_reducible exact ih0 _ _ _ _ _)
   | (with_reducible exact ih1 _ _ _ _ _ _)
   | (with_reducible exact ih2 _ _ _ _ _ _ _)
   | (with_reducible exact neumelaw06_heads.mono _)
   | (with_reducible exact pitch_Key.mono _ _)
   | (with_reducible exact pitch_Signature.mono _ _ _)
   | (with_reducible exact LeO.refl _)
   | (with_reducible exact LeO.none _)
   | (with_reducible refine LeO.ite ?_ ?_)
   | (with_reducible refine LeO.bind ?_ (fun _ => ?_))
   | exact ih0 _ _ _ _ _
   | exact ih1 _ _ _ _ _ _
   | exact ih2 _ _ _ _ _ _ _
   | exact neumelaw06_heads.mono _
   | exact pitch_Key.mono _ _
   | exact pitch_Signature.mono _ _ _
   | exact LeO.none _
   | refine LeO.ite ?_ ?_
   | refine LeO.bind ?_ (fun _ => ?_)
theorem neumelaw06_PitchSigns.mono : ∀ a0 a1 k, LeO (neumelaw06_PitchSigns.f k a0 a1) (neumelaw06_PitchSigns.f (k + 1) a0 a1) := by
 intro a0 a1 k
 obtain ⟨ih0, ih1, ih2⟩ := neumelaw06_PitchSigns.mono_l k
 unfold neumelaw06_PitchSigns.f
 repeat' first
   | (with_reducible exact ih0 _ _ _ _ _)
   | (with_reducible exact ih1 _ _ _ _ _ _)
   | (with_reducible exact ih2 _ _ _ _ _ _ _)
   | (with_reducible exact neumelaw06_heads.mono _)
   | (with_reducible exact pitch_Key.mono _ _)
   | (with_reducible exact pitch_Signature.mono _ _ _)
   | (with_reducible exact LeO.refl _)
   | (with_reducible exact LeO.none _)
   | (with_reducible refine LeO.ite ?_ ?_)
   | (with_reducible refine LeO.bind ?_ (fun _ => ?_))
   | exact ih0 _ _ _ _ _
   | exact ih1 _ _ _ _ _ _
   | exact ih2 _ _ _ _ _ _ _
   | exact neumelaw06_heads.mono _
   | exact pitch_Key.mono _ _
   | exact pitch_Signature.mono _ _ _
   | exact LeO.none _
   | refine LeO.ite ?_ ?_
   | refine LeO.bind ?_ (fun _ => ?_)
set_option maxHeartbeats 8000000 in
set_option maxRecDepth 100000 in
theorem neumelaw06_PitchSigns.calls (k : Nat) (a0 : Int) (a1 : Int) (r : Bool) (w : World) (hE : Aside0 (LaidE w)) (hxt : Aside0 (r = true)) (h : neumelaw06_PitchSigns.f k a0 a1 = some r) :
  Calls Tryd.prog 6 #[.int .i64 a0, .int .i64 a1] w fun e w' => e = .returned (.bool r) ∧ Below w.heap.size w w' := by
 have hu23 := Tryd.underlying23
 have HB := sd_ (Below.refl w.heap.size w)
 have H : ((pitch_Signature.f k a0 a1).bind fun bt312 => ((pitch_Key.f k a0).bind fun bt316 => (if bt312.2 = 0 then (if bt316.2 = 0 then (neumelaw06_PitchSigns.j0 k a0 a1 bt312.1 bt316.1 ((bt316.1.length : Int) != 7)) else (neumelaw06_PitchSigns.j0 k a0 a1 bt312.1 bt316.1 true)) else (neumelaw06_PitchSigns.j0 k a0 a1 bt312.1 bt316.1 true)))) = some r := h
 clear h
 replace H := ob_ H
 obtain ⟨⟨t312, t313⟩, A30, H⟩ := H
 replace H : ((pitch_Key.f k a0).bind fun bt316 => (if t313 = 0 then (if bt316.2 = 0 then (neumelaw06_PitchSigns.j0 k a0 a1 t312 bt316.1 ((bt316.1.length : Int) != 7)) else (neumelaw06_PitchSigns.j0 k a0 a1 t312 bt316.1 true)) else (neumelaw06_PitchSigns.j0 k a0 a1 t312 bt316.1 true))) = some r := H
 have A3 := sd_ A30
 clear A30
 replace H := ob_ H
 obtain ⟨⟨t316, t317⟩, A40, H⟩ := H
 replace H : (if t313 = 0 then (if t317 = 0 then (neumelaw06_PitchSigns.j0 k a0 a1 t312 t316 ((t316.length : Int) != 7)) else (neumelaw06_PitchSigns.j0 k a0 a1 t312 t316 true)) else (neumelaw06_PitchSigns.j0 k a0 a1 t312 t316 true)) = some r := H
 have A4 := sd_ A40
 clear A40
 have HC5 := sd_ H
 clear H
 go_enter Tryd.func6, Tryd.ntmps6
 go_upto_region 3 with (first | ((with_reducible refine gate_callee (f := 23) rfl ?_); refine goesL_ (some 18) rfl rfl Tryd.func23 (by kernel_rfl) rfl #[.int .i64 a0, .int .i64 a1] rfl (by (try simp only [lm_, lq_, lx_]); first | done | rfl | (simp only [ld_, lt_]; rfl)) ?_; (with_reducible refine (pitch_Signature.calls k a0 a1 t312 t313 _ A3.out).mono ?_); rintro e w6 ⟨v314, rfl, ho0, hb⟩; refine ⟨_, rfl, ?_⟩; have HO315 := sd_ (Kd.R_lower ho0 (bz_ (bb_ HB.out e0_))); replace HB := hb_ HB e0_ hb; (try clear hb); (try clear hb2); (try clear hk); (try clear hi); (try clear ho0)) | ((with_reducible refine gate_callee (f := 24) rfl ?_); refine goesL_ (some 23) rfl rfl Tryd.func24 (by kernel_rfl) rfl #[.int .i64 a0] rfl (by (try simp only [lm_, lq_, lx_]); first | done | rfl | (simp only [ld_, lt_]; rfl)) ?_; (with_reducible refine (pitch_Key.calls k a0 t316 t317 _ A4.out).mono ?_); rintro e w7 ⟨v318, rfl, ho0, hb⟩; refine ⟨_, rfl, ?_⟩; have HO319 := sd_ (Kd.R_lower (Kd.R_new' ho0 (Kd.R_lt (by (with_reducible repeat (first | apply Kd.R_alloc | apply Kd.R_drewN | apply Kd.R_drew)); exact HO315.out))) (bz_ (bb_ HB.out e0_))); replace HO315 := sd_ (Kd.R_elder' (by (with_reducible repeat (first | apply Kd.R_alloc | apply Kd.R_drewN | apply Kd.R_drew)); exact HO315.out) (Kd.R_base ho0) hb); replace HB := hb_ HB e0_ hb; (try clear hb); (try clear hb2); (try clear hk); (try clear hi); (try clear ho0)))
 (try simp only [Act.put, ls_, lz_, lc_])
 go_cut [36] (fun v36 wc => ∃ (kq : Nat) (x36_4 : Bool), v36 = .bool x36_4 ∧ Aside0 (neumelaw06_PitchSigns.j0 kq a0 a1 t312 t316 x36_4 = some r) ∧ Aside0 (kq ≤ k) ∧ Aside0 (Kd.R (Kd.int .i64) 3 wc w.heap.size (fun k_ => some k_ ≠ (v318 : Value).ownBlock) v314 t312) ∧ Aside0 (Kd.R (Kd.int .i64) 3 wc w.heap.size (fun k_ => some k_ ≠ (v314 : Value).ownBlock) v318 t316) ∧ Aside0 (Below w.heap.size w wc))
 case first =>
  have H := HC5.out
  clear HC5
  by_cases c8 : t313 = 0
  ·rw [if_pos c8] at H
   have c8b0 : (t313 == 0) = true := beq_iff_eq.mpr c8
   have c8b1 : (t313 != 0) = false := bne_eq_false_iff_eq.mpr c8
   clear c8
   (first | rw [c8b0] | (simp only [i64_w, i32_w]; rw [c8b0]) | skip)
   by_cases c9 : t317 = 0
   ·rw [if_pos c9] at H
    have c9b0 : (t317 == 0) = true := beq_iff_eq.mpr c9
    have c9b1 : (t317 != 0) = false := bne_eq_false_iff_eq.mpr c9
    clear c9
    have H' := sd_ H
    clear H
    obtain ⟨Ao10, co10, eo10⟩ := Kd.R_slice HO319.out
    subst eo10
    go_wp2
    go_meet
    case rel => exact ⟨_, (((t316.length : Int) != 7)), (by first | rfl | (simp; done) | (simp [*]; done) | (simp [bne]; done)), H', ⟨by first | omega | exact Nat.le_refl _⟩, ⟨by (with_reducible repeat (first | apply Kd.R_alloc | apply Kd.R_drewN | apply Kd.R_drew)); exact Kd.R_mono HO315.out (fun _ hk => hk.2)⟩, ⟨by (with_reducible repeat (first | apply Kd.R_alloc | apply Kd.R_drewN | apply Kd.R_drew)); exact Kd.R_mono HO319.out (fun _ hk => hk.2)⟩, ⟨by repeat (first | (with_reducible first | exact HB.out | apply ba_ | apply pd_ | apply d1_) | exact HB.out)⟩⟩
   ·rw [if_neg c9] at H
    have c9b0 : (t317 == 0) = false := beq_eq_false_iff_ne.mpr c9
    have c9b1 : (t317 != 0) = true := bne_iff_ne.mpr c9
    have H' := sd_ H
    clear H
    go_wp2
    go_meet
    case rel => exact ⟨_, (true), (by first | rfl | (simp; done) | (simp [*]; done) | (simp [bne]; done)), H', ⟨by first | omega | exact Nat.le_refl _⟩, ⟨by (with_reducible repeat (first | apply Kd.R_alloc | apply Kd.R_drewN | apply Kd.R_drew)); exact Kd.R_mono HO315.out (fun _ hk => hk.2)⟩, ⟨by (with_reducible repeat (first | apply Kd.R_alloc | apply Kd.R_drewN | apply Kd.R_drew)); exact Kd.R_mono HO319.out (fun _ hk => hk.2)⟩, ⟨by repeat (first | (with_reducible first | exact HB.out | apply ba_ | apply pd_ | apply d1_) | exact HB.out)⟩⟩
  ·rw [if_neg c8] at H
   have c8b0 : (t313 == 0) = false := beq_eq_false_iff_ne.mpr c8
   have c8b1 : (t313 != 0) = true := bne_iff_ne.mpr c8
   (first | rw [c8b0] | (simp only [i64_w, i32_w]; rw [c8b0]) | skip)
   have H' := sd_ H
   clear H
   go_wp2
   go_meet
   case rel => exact ⟨_, (true), (by first | rfl | (simp; done) | (simp [*]; done) | (simp [bne]; done)), H', ⟨by first | omega | exact Nat.le_refl _⟩, ⟨by (with_reducible repeat (first | apply Kd.R_alloc | apply Kd.R_drewN | apply Kd.R_drew)); exact Kd.R_mono HO315.out (fun _ hk => hk.2)⟩, ⟨by (with_reducible repeat (first | apply Kd.R_alloc | apply Kd.R_drewN | apply Kd.R_drew)); exact Kd.R_mono HO319.out (fun _ hk => hk.2)⟩, ⟨by repeat (first | (with_reducible first | exact HB.out | apply ba_ | apply pd_ | apply d1_) | exact HB.out)⟩⟩
 case rest =>
  clear HC5
  try clear c2; try clear p2; try clear c6; try clear c8; try clear c8b0; try clear c8b1; try clear c9; try clear c9b0; try clear c9b1
  obtain ⟨kq, x36_4, rfl, HA, HJ4, HO_5, HO_7, HB⟩ := hcut
  cases kq with
  | zero => exact absurd HA.out (by simp [neumelaw06_PitchSigns.j0])
  | succ kj4 =>
   have H := HA.out
   clear HA
   simp only [neumelaw06_PitchSigns.j0] at H
   by_cases c11 : x36_4 = true
   ·subst c11
    have H1 : (if (t312.length : Int) = 0 then ((neumelaw06_heads.f kj4).bind fun t320 => (some t320)) else (some false)) = some r := by rw [if_pos rfl] at H; exact H
    clear H; have H := H1; clear H1
    by_cases c12 : (t312.length : Int) = 0
    ·rw [if_pos c12] at H
     have c12b0 : ((t312.length : Int) == 0) = true := beq_iff_eq.mpr c12
     have c12b1 : ((t312.length : Int) != 0) = false := bne_eq_false_iff_eq.mpr c12
     clear c12
     replace H := ob_ H
     obtain ⟨t320, A130, H⟩ := H
     replace H : (some t320) = some r := H
     have A13 := sd_ A130
     clear A130
     obtain rfl := Option.some.inj H
     obtain ⟨Ao14, co14, eo14⟩ := Kd.R_slice HO_5.out
     subst eo14
     go_wp2_with (first | (go_at_call 7; (with_reducible refine (neumelaw06_heads.calls kj4  t320 _ ?side1 A13.out).mono ?_); (case side1 => first | (with_reducible exact hE) | exact sd_ (LaidE.below hE.out (bb_ HB.out e0_))); rintro e w15 ⟨rfl, hb⟩; replace HO_5 := sd_ (Kd.R_below (by (with_reducible repeat (first | apply Kd.R_alloc | apply Kd.R_drewN | apply Kd.R_drew)); exact HO_5.out) hb); replace HO_7 := sd_ (Kd.R_below (by (with_reducible repeat (first | apply Kd.R_alloc | apply Kd.R_drewN | apply Kd.R_drew)); exact HO_7.out) hb); replace HB := hb_ HB e0_ hb; (try clear hb); (try clear hb2); (try clear hk); (try clear hi)))
     go_ret
     exact ⟨by first | rfl | (simp [errW_none, errW_some] <;> rfl) | (simp [*, errW_none, errW_some] <;> rfl), by repeat (first | (with_reducible first | exact HB.out | apply ba_ | apply pd_ | apply d1_) | exact HB.out)⟩
    ·rw [if_neg c12] at H
     have c12b0 : ((t312.length : Int) == 0) = false := beq_eq_false_iff_ne.mpr c12
     have c12b1 : ((t312.length : Int) != 0) = true := bne_iff_ne.mpr c12
     have c12b2 : ¬ (t312 = []) := fun h_ => c12 (by rw [h_]; rfl)
     exact absurd ((Option.some.inj H).trans hxt.out) (by decide)
   ·replace c11 := bf_ c11
    subst c11
    have H1 : (neumelaw06_PitchSigns.l0 kj4 a0 a1 t312 t316 0 0) = some r := by rw [if_neg (show ¬ (false = true) by decide)] at H; exact H
    clear H; have H := H1; clear H1
    have H' := sd_ H
    clear H
    go_wp2
    go_loopg [9, 10] kj4 (fun kq v9 v10 w' => ∃ (x9_2 : Int) (x10_2 : Int), v9 = .int .i64 x9_2 ∧ v10 = .int .i64 x10_2 ∧ Aside0 (neumelaw06_PitchSigns.l0 kq a0 a1 t312 t316 x9_2 x10_2 = some r) ∧ Aside0 (kq ≤ kj4) ∧ Aside0 (Kd.R (Kd.int .i64) 3 w' w.heap.size (fun k_ => some k_ ≠ (v318 : Value).ownBlock) v314 t312) ∧ Aside0 (Kd.R (Kd.int .i64) 3 w' w.heap.size (fun k_ => some k_ ≠ (v314 : Value).ownBlock) v318 t316) ∧ Aside0 (Below w.heap.size w w'))
    case atStart => exact ⟨(0), (0), (by first | rfl | (simp; done) | (simp [*]; done) | (simp [bne]; done)), (by first | rfl | (simp; done) | (simp [*]; done) | (simp [bne]; done)), H', ⟨Nat.le_refl _⟩, ⟨by (with_reducible repeat (first | apply Kd.R_alloc | apply Kd.R_drewN | apply Kd.R_drew)); exact HO_5.out⟩, ⟨by (with_reducible repeat (first | apply Kd.R_alloc | apply Kd.R_drewN | apply Kd.R_drew)); exact HO_7.out⟩, ⟨by repeat (first | (with_reducible first | exact HB.out | apply ba_ | apply pd_ | apply d1_) | exact HB.out)⟩⟩
    case round =>
     clear H'
     try clear c1; try clear c2; try clear p2; try clear c6; try clear c8; try clear c8b0; try clear c8b1; try clear c9; try clear c9b0; try clear c9b1; try clear c11; try clear c12; try clear c12b0; try clear c12b1; try clear c12b2; try clear p2
     obtain ⟨x9_2, x10_2, rfl, rfl, HA, HK2, HO_5, HO_7, HB⟩ := hrel
     cases gk with
     | zero => exact absurd HA.out (by simp [neumelaw06_PitchSigns.l0])
     | succ k2 =>
      have H := HA.out
      clear HA
      simp only [neumelaw06_PitchSigns.l0] at H
      by_cases c16 : x10_2 < 7
      ·rw [if_pos c16] at H
       have c16b0 : decide (x10_2 < 7) = true := dt_ c16
       clear c16
       by_cases c17 : 0 ≤ x10_2
       ·rw [if_pos c17] at H
        have c17b0 : decide (0 ≤ x10_2) = true := dt_ c17
        clear c17
        by_cases c18 : x10_2 < (t316.length : Int)
        ·rw [if_pos c18] at H
         have c18b0 : decide (x10_2 < (t316.length : Int)) = true := dt_ c18
         clear c18
         by_cases c19 : (rd t316 x10_2) = 0
         ·rw [if_pos c19] at H
          have c19b0 : ((rd t316 x10_2) == 0) = true := beq_iff_eq.mpr c19
          have c19b1 : ((rd t316 x10_2) != 0) = false := bne_eq_false_iff_eq.mpr c19
          clear c19
          have H' := sd_ H
          clear H
          obtain ⟨Ao20, co20, eo20⟩ := Kd.R_slice HO_7.out
          subst eo20
          have p321 : 0 ≤ (x10_2 : Int) := od_ (by first | (with_reducible assumption) | assumption)
          have q321 : x10_2 < (t316.length : Int) := od_ (by first | (with_reducible assumption) | assumption)
          obtain ⟨ad321, e321, hx321_0⟩ := Kd.at_int (Kd.R_reads' HO_7.out).2.2 x10_2 p321 q321
          cases e321
          replace p321 := eq_true p321
          replace q321 := eq_true q321
          have p322 : 0 ≤ (x10_2 : Int) := od_ (by first | (with_reducible assumption) | assumption)
          have q322 : x10_2 < (t316.length : Int) := od_ (by first | (with_reducible assumption) | assumption)
          obtain ⟨ad322, e322, hx322_0⟩ := Kd.at_int (Kd.R_reads' HO_7.out).2.2 x10_2 p322 q322
          obtain rfl : ad321 = ad322 := (by injection e322)
          replace p322 := eq_true p322
          replace q322 := eq_true q322
          go_wp2
          go_roundg k2
          case measure => have := HJ4.out; have := HK2.out; omega
          case rel => exact ⟨(x9_2), (wrap64 (x10_2 + 1)), (by first | rfl | (simp; done) | (simp [*]; done) | (simp [bne]; done)), (by first | rfl | (simp; done) | (simp [*]; done) | (simp [bne]; done)), H', ⟨by have := HJ4.out; have := HK2.out; omega⟩, ⟨by (with_reducible repeat (first | apply Kd.R_alloc | apply Kd.R_drewN | apply Kd.R_drew)); exact HO_5.out⟩, ⟨by (with_reducible repeat (first | apply Kd.R_alloc | apply Kd.R_drewN | apply Kd.R_drew)); exact HO_7.out⟩, ⟨by repeat (first | (with_reducible first | exact HB.out | apply ba_ | apply pd_ | apply d1_) | exact HB.out)⟩⟩
         ·rw [if_neg c19] at H
          have c19b0 : ((rd t316 x10_2) == 0) = false := beq_eq_false_iff_ne.mpr c19
          have c19b1 : ((rd t316 x10_2) != 0) = true := bne_iff_ne.mpr c19
          by_cases c21 : ((decide ((rd t316 x10_2) > 0)) != (decide (a0 > 0))) = true
          ·rw [if_pos c21] at H
           have c21b0 : ((decide ((rd t316 x10_2) > 0)) != (decide (a0 > 0))) = true := c21
           (try (have c21b1 : decide ((decide ((rd t316 x10_2) > 0)) = (decide (a0 > 0))) = false := by simpa using c21))
           (try (have c21b2 : ((decide ((rd t316 x10_2) > 0)) == (decide (a0 > 0))) = false := by simpa using c21))
           (try (have c21b3 : ¬ ((decide ((rd t316 x10_2) > 0)) = (decide (a0 > 0))) := by simpa using c21))
           clear c21
           exact absurd ((Option.some.inj H).trans hxt.out) (by decide)
          ·rw [if_neg c21] at H
           have c21b0 : ((decide ((rd t316 x10_2) > 0)) != (decide (a0 > 0))) = false := by simpa using c21
           (try (have c21b1 : decide ((decide ((rd t316 x10_2) > 0)) = (decide (a0 > 0))) = true := by simpa using c21))
           (try (have c21b2 : ((decide ((rd t316 x10_2) > 0)) == (decide (a0 > 0))) = true := by simpa using c21))
           clear c21
           have H' := sd_ H
           clear H
           obtain ⟨Ao22, co22, eo22⟩ := Kd.R_slice HO_7.out
           subst eo22
           have p321 : 0 ≤ (x10_2 : Int) := od_ (by first | (with_reducible assumption) | assumption)
           have q321 : x10_2 < (t316.length : Int) := od_ (by first | (with_reducible assumption) | assumption)
           obtain ⟨ad321, e321, hx321_0⟩ := Kd.at_int (Kd.R_reads' HO_7.out).2.2 x10_2 p321 q321
           cases e321
           replace p321 := eq_true p321
           replace q321 := eq_true q321
           have p323 : 0 ≤ (x10_2 : Int) := od_ (by first | (with_reducible assumption) | assumption)
           have q323 : x10_2 < (t316.length : Int) := od_ (by first | (with_reducible assumption) | assumption)
           obtain ⟨ad323, e323, hx323_0⟩ := Kd.at_int (Kd.R_reads' HO_7.out).2.2 x10_2 p323 q323
           obtain rfl : ad321 = ad323 := (by injection e323)
           replace p323 := eq_true p323
           replace q323 := eq_true q323
           have p324 : 0 ≤ (x10_2 : Int) := od_ (by first | (with_reducible assumption) | assumption)
           have q324 : x10_2 < (t316.length : Int) := od_ (by first | (with_reducible assumption) | assumption)
           obtain ⟨ad324, e324, hx324_0⟩ := Kd.at_int (Kd.R_reads' HO_7.out).2.2 x10_2 p324 q324
           obtain rfl : ad321 = ad324 := (by injection e324)
           replace p324 := eq_true p324
           replace q324 := eq_true q324
           go_wp2
           go_roundg k2
           case measure => have := HJ4.out; have := HK2.out; omega
           case rel => exact ⟨(wrap64 (x9_2 + 1)), (wrap64 (x10_2 + 1)), (by first | rfl | (simp; done) | (simp [*]; done) | (simp [bne]; done)), (by first | rfl | (simp; done) | (simp [*]; done) | (simp [bne]; done)), H', ⟨by have := HJ4.out; have := HK2.out; omega⟩, ⟨by (with_reducible repeat (first | apply Kd.R_alloc | apply Kd.R_drewN | apply Kd.R_drew)); exact HO_5.out⟩, ⟨by (with_reducible repeat (first | apply Kd.R_alloc | apply Kd.R_drewN | apply Kd.R_drew)); exact HO_7.out⟩, ⟨by repeat (first | (with_reducible first | exact HB.out | apply ba_ | apply pd_ | apply d1_) | exact HB.out)⟩⟩
        ·rw [if_neg c18] at H
         exact absurd H (by simp)
       ·rw [if_neg c17] at H
        exact absurd H (by simp)
      ·rw [if_neg c16] at H
       have c16b0 : decide (x10_2 < 7) = false := df_ c16
       clear c16
       by_cases c23 : 7 ≤ 281474976710656
       ·rw [if_pos c23] at H
        have c23b0 := eq_true c23
        have c23b1 : decide (7 ≤ 281474976710656) = true := dt_ c23
        clear c23
        obtain ⟨y325, hy325⟩ : ∃ y_ : List Bool, y_ = (List.replicate 7 false) := ⟨_, rfl⟩
        replace H : (neumelaw06_PitchSigns.l1 k2 a0 a1 t312 t316 x9_2 y325 0) = some r := by first | (rw [hy325]; with_reducible exact H) | (have H2_ := (Option.bind_some _ _).symm.trans H; rw [hy325]; with_reducible exact H2_) | (have H2_ := (Option.bind_some _ _).symm.trans H; with_reducible exact H2_) | with_reducible exact H | (rw [hy325]; exact H) | exact H
        have Ny325 := sd_ hy325
        clear hy325
        have H' := sd_ H
        clear H
        go_wp2_with (first | ((with_reducible refine gate_dst (N := 69) rfl ?_); (try (refine gate_guard (by rfl) ?_; dsimp only)); refine Kd.R_make Kd.bool _ 4 rfl (N := 69) rfl 48 _ _ rfl 7 rfl rfl Tryd.underlying48 (.bool false) 1 info4 rfl (by decide) (by omega) false (ok := fun _ => True) (okp := fun _ => True) rfl (fun _ hk => hk) trivial (by omega) (by omega) (Below.refl _ _) (Nat.le_refl _) ?_; intro v326 w24 ho25 hb hg_ hnew_; clear hg_ hnew_; (first | rw [← Ny325.out] at ho25 | (simp only [Int.reduceToNat] at ho25; rw [← Ny325.out] at ho25)); have HO327 := sd_ (Kd.R_lower ho25 (bz_ (bb_ HB.out e0_))); replace HO_5 := sd_ (Kd.R_below (by (with_reducible repeat (first | apply Kd.R_alloc | apply Kd.R_drewN | apply Kd.R_drew)); exact HO_5.out) hb); replace HO_7 := sd_ (Kd.R_below (by (with_reducible repeat (first | apply Kd.R_alloc | apply Kd.R_drewN | apply Kd.R_drew)); exact HO_7.out) hb); replace HB := hb_ HB e0_ hb; clear hb ho25))
        go_loopg [12] k2 (fun kq v12 w' => ∃ (x11_3 : List Bool) (x12_3 : Int), v12 = .int .i64 x12_3 ∧ Aside0 (neumelaw06_PitchSigns.l1 kq a0 a1 t312 t316 x9_2 x11_3 x12_3 = some r) ∧ Aside0 (kq ≤ k2) ∧ Aside0 (Kd.R (Kd.int .i64) 3 w' w.heap.size (fun k_ => some k_ ≠ (v318 : Value).ownBlock) v314 t312) ∧ Aside0 (Kd.R (Kd.int .i64) 3 w' w.heap.size (fun k_ => some k_ ≠ (v314 : Value).ownBlock) v318 t316) ∧ Aside0 (Kd.R Kd.bool 4 w' w.heap.size (fun _ => True) v326 x11_3) ∧ Aside0 (Below w.heap.size w w'))
        case atStart => exact ⟨(y325), (0), (by first | rfl | (simp; done) | (simp [*]; done) | (simp [bne]; done)), H', ⟨Nat.le_refl _⟩, ⟨by (with_reducible repeat (first | apply Kd.R_alloc | apply Kd.R_drewN | apply Kd.R_drew)); exact HO_5.out⟩, ⟨by (with_reducible repeat (first | apply Kd.R_alloc | apply Kd.R_drewN | apply Kd.R_drew)); exact HO_7.out⟩, ⟨by (with_reducible repeat (first | apply Kd.R_alloc | apply Kd.R_drewN | apply Kd.R_drew)); exact HO327.out⟩, ⟨by repeat (first | (with_reducible first | exact HB.out | apply ba_ | apply pd_ | apply d1_) | exact HB.out)⟩⟩
        case round =>
         clear H'
         try clear c1; try clear c2; try clear p2; try clear p3; try clear q3; try clear hx3; try clear c6; try clear p6; try clear c8; try clear c8b0; try clear c8b1; try clear c9; try clear c9b0; try clear c9b1; try clear c11; try clear c12; try clear c12b0; try clear c12b1; try clear c12b2; try clear c16; try clear c16b0; try clear c17; try clear c17b0; try clear c18; try clear c18b0; try clear c19; try clear c19b0; try clear c19b1; try clear c21; try clear c21b0; try clear c21b1; try clear c21b2; try clear c23; try clear c23b0; try clear c23b1; try clear c24; try clear hx321_0; try clear hx322_0; try clear hx323_0; try clear hx324_0; try clear p2; try clear p321; try clear p322; try clear p323; try clear p324; try clear q321; try clear q322; try clear q323; try clear q324
         obtain ⟨x11_3, x12_3, rfl, HA, HK3, HO_5, HO_7, HO_11, HB⟩ := hrel
         cases gk with
         | zero => exact absurd HA.out (by simp [neumelaw06_PitchSigns.l1])
         | succ k3 =>
          have H := HA.out
          clear HA
          simp only [neumelaw06_PitchSigns.l1] at H
          by_cases c26 : x12_3 < (t312.length : Int)
          ·rw [if_pos c26] at H
           have c26b0 : decide (x12_3 < (t312.length : Int)) = true := dt_ c26
           clear c26
           by_cases c27 : 0 ≤ x12_3
           ·rw [if_pos c27] at H
            have c27b0 : decide (0 ≤ x12_3) = true := dt_ c27
            clear c27
            replace H := ob_ H
            obtain ⟨⟨t329, t330, t331, t332⟩, A280, H⟩ := H
            replace H : (if t332 = 0 then (if t329 < 0 then (some false) else (if t329 > 6 then (some false) else (if 0 ≤ t329 then (if t329 < (x11_3.length : Int) then (if rdOf false x11_3 t329 = true then (some false) else (if t329 < (t316.length : Int) then (if (rd t316 t329) = 0 then (some false) else (if (rd t312 x12_3) < (-5) then (some false) else (if (rd t312 x12_3) > 5 then (some false) else (neumelaw06_PitchSigns.l1 k3 a0 a1 t312 t316 x9_2 (x11_3.set (t329 : Int).toNat true) (wrap64 (x12_3 + 1)))))) else (none))) else (none)) else (none)))) else (some false)) = some r := H
            have A28 := sd_ A280
            clear A280
            by_cases c29 : t332 = 0
            ·rw [if_pos c29] at H
             have c29b0 : (t332 == 0) = true := beq_iff_eq.mpr c29
             have c29b1 : (t332 != 0) = false := bne_eq_false_iff_eq.mpr c29
             clear c29
             by_cases c30 : t329 < 0
             ·rw [if_pos c30] at H
              have c30b0 : decide (t329 < 0) = true := dt_ c30
              clear c30
              exact absurd ((Option.some.inj H).trans hxt.out) (by decide)
             ·rw [if_neg c30] at H
              have c30b0 : decide (t329 < 0) = false := df_ c30
              clear c30
              by_cases c31 : t329 > 6
              ·rw [if_pos c31] at H
               have c31b0 : decide (6 < t329) = true := dt_ c31
               clear c31
               exact absurd ((Option.some.inj H).trans hxt.out) (by decide)
              ·rw [if_neg c31] at H
               have c31b0 : decide (6 < t329) = false := df_ c31
               clear c31
               by_cases c32 : 0 ≤ t329
               ·rw [if_pos c32] at H
                have c32b0 : decide (0 ≤ t329) = true := dt_ c32
                clear c32
                by_cases c33 : t329 < (x11_3.length : Int)
                ·rw [if_pos c33] at H
                 have c33b0 : decide (t329 < (x11_3.length : Int)) = true := dt_ c33
                 clear c33
                 obtain ⟨bq34, hbq34⟩ : ∃ b_ : Bool, b_ = (rdOf false x11_3 t329) := ⟨_, rfl⟩
                 replace H : (if bq34 = true then (some false) else (if t329 < (t316.length : Int) then (if (rd t316 t329) = 0 then (some false) else (if (rd t312 x12_3) < (-5) then (some false) else (if (rd t312 x12_3) > 5 then (some false) else (neumelaw06_PitchSigns.l1 k3 a0 a1 t312 t316 x9_2 (x11_3.set (t329 : Int).toNat true) (wrap64 (x12_3 + 1)))))) else (none))) = some r := by rw [← hbq34] at H; exact H
                 have Nbq34 := sd_ hbq34
                 clear hbq34
                 by_cases c35 : bq34 = true
                 ·subst c35
                  have H1 : (some false) = some r := by rw [if_pos rfl] at H; exact H
                  clear H; have H := H1; clear H1
                  exact absurd ((Option.some.inj H).trans hxt.out) (by decide)
                 ·replace c35 := bf_ c35
                  subst c35
                  have H1 : (if t329 < (t316.length : Int) then (if (rd t316 t329) = 0 then (some false) else (if (rd t312 x12_3) < (-5) then (some false) else (if (rd t312 x12_3) > 5 then (some false) else (neumelaw06_PitchSigns.l1 k3 a0 a1 t312 t316 x9_2 (x11_3.set (t329 : Int).toNat true) (wrap64 (x12_3 + 1)))))) else (none)) = some r := by rw [if_neg (show ¬ (false = true) by decide)] at H; exact H
                  clear H; have H := H1; clear H1
                  by_cases c36 : t329 < (t316.length : Int)
                  ·rw [if_pos c36] at H
                   have c36b0 : decide (t329 < (t316.length : Int)) = true := dt_ c36
                   clear c36
                   by_cases c37 : (rd t316 t329) = 0
                   ·rw [if_pos c37] at H
                    have c37b0 : ((rd t316 t329) == 0) = true := beq_iff_eq.mpr c37
                    have c37b1 : ((rd t316 t329) != 0) = false := bne_eq_false_iff_eq.mpr c37
                    clear c37
                    exact absurd ((Option.some.inj H).trans hxt.out) (by decide)
                   ·rw [if_neg c37] at H
                    have c37b0 : ((rd t316 t329) == 0) = false := beq_eq_false_iff_ne.mpr c37
                    have c37b1 : ((rd t316 t329) != 0) = true := bne_iff_ne.mpr c37
                    by_cases c38 : (rd t312 x12_3) < (-5)
                    ·rw [if_pos c38] at H
                     have c38b0 : decide ((rd t312 x12_3) < (-5)) = true := dt_ c38
                     clear c38
                     exact absurd ((Option.some.inj H).trans hxt.out) (by decide)
                    ·rw [if_neg c38] at H
                     have c38b0 : decide ((rd t312 x12_3) < (-5)) = false := df_ c38
                     clear c38
                     by_cases c39 : (rd t312 x12_3) > 5
                     ·rw [if_pos c39] at H
                      have c39b0 : decide (5 < (rd t312 x12_3)) = true := dt_ c39
                      clear c39
                      exact absurd ((Option.some.inj H).trans hxt.out) (by decide)
                     ·rw [if_neg c39] at H
                      have c39b0 : decide (5 < (rd t312 x12_3)) = false := df_ c39
                      clear c39
                      obtain ⟨y338, hy338⟩ : ∃ y_ : List Bool, y_ = (x11_3.set (t329 : Int).toNat true) := ⟨_, rfl⟩
                      replace H : (neumelaw06_PitchSigns.l1 k3 a0 a1 t312 t316 x9_2 y338 (wrap64 (x12_3 + 1))) = some r := by first | (rw [hy338]; with_reducible exact H) | (have H2_ := (Option.bind_some _ _).symm.trans H; rw [hy338]; with_reducible exact H2_) | (have H2_ := (Option.bind_some _ _).symm.trans H; with_reducible exact H2_) | with_reducible exact H | (rw [hy338]; exact H) | exact H
                      have Ny338 := sd_ hy338
                      clear hy338
                      have H' := sd_ H
                      clear H
                      obtain ⟨Ao41, co41, eo41⟩ := Kd.R_slice HO_5.out
                      subst eo41
                      have p328 : 0 ≤ (x12_3 : Int) := od_ (by first | (with_reducible assumption) | assumption)
                      have q328 : x12_3 < (t312.length : Int) := od_ (by first | (with_reducible assumption) | assumption)
                      obtain ⟨ad328, e328, hx328_0⟩ := Kd.at_int (Kd.R_reads' HO_5.out).2.2 x12_3 p328 q328
                      cases e328
                      replace p328 := eq_true p328
                      replace q328 := eq_true q328
                      go_wp2_with (first | ((with_reducible refine gate_callee (f := 10) rfl ?_); refine goesL_ (some 82) rfl rfl Tryd.func10 (by kernel_rfl) rfl #[.int .i64 (rd t312 x12_3), .int .i64 a1] rfl (by (try simp only [lm_, lq_, lx_]); first | done | rfl | (simp only [ld_, lt_]; rfl)) ?_; (with_reducible refine (pitch_At.calls (rd t312 x12_3) a1 t329 t330 t331 t332 _ A28.out).mono ?_); rintro e w42 ⟨rfl, hb⟩; refine ⟨_, rfl, ?_⟩; replace HO_5 := sd_ (Kd.R_below (by (with_reducible repeat (first | apply Kd.R_alloc | apply Kd.R_drewN | apply Kd.R_drew)); exact HO_5.out) hb); replace HO_7 := sd_ (Kd.R_below (by (with_reducible repeat (first | apply Kd.R_alloc | apply Kd.R_drewN | apply Kd.R_drew)); exact HO_7.out) hb); replace HO_11 := sd_ (Kd.R_below (by (with_reducible repeat (first | apply Kd.R_alloc | apply Kd.R_drewN | apply Kd.R_drew)); exact HO_11.out) hb); replace HB := hb_ HB e0_ hb; (try clear hb); (try clear hb2); (try clear hk); (try clear hi)) | ((with_reducible refine gate_dst (N := 13) rfl ?_); (try (refine gate_guard (by rfl) ?_; dsimp only)); refine box_event ?hg (N := 13) ?hd (cs := #[.int .i64 0, .int .i64 0, .int .i64 0]) (t := 23) ?hr ?_; (case hd => rfl); (case hg => rfl); (case hr => first | (go_simp; done) | (go_simp; rfl)); intro gb333 hg w43 hbox hb; have BK333 := sd_ hbox; have GW333 := gw_ HB e0_ hg; have GE333 := GW333; replace HO_5 := sd_ (Kd.R_below (by (with_reducible repeat (first | apply Kd.R_alloc | apply Kd.R_drewN | apply Kd.R_drew)); exact HO_5.out) hb); replace HO_7 := sd_ (Kd.R_below (by (with_reducible repeat (first | apply Kd.R_alloc | apply Kd.R_drewN | apply Kd.R_drew)); exact HO_7.out) hb); replace HO_11 := sd_ (Kd.R_below (by (with_reducible repeat (first | apply Kd.R_alloc | apply Kd.R_drewN | apply Kd.R_drew)); exact HO_11.out) hb); replace HB := hb_ HB e0_ hb; clear hb hbox hg; have hcz44_0 : w43.cell? ⟨gb333, 0, none⟩ = some (.int .i64 0) := (kc_ BK333.out 0).trans rfl; have hcz44_1 : w43.cell? ⟨gb333, 1, none⟩ = some (.int .i64 0) := (kc_ BK333.out 1).trans rfl; have hcz44_2 : w43.cell? ⟨gb333, 2, none⟩ = some (.int .i64 0) := (kc_ BK333.out 2).trans rfl; have hfz44_0 := kf_ BK333.out 0; have hfz44_1 := kf_ BK333.out 1; have hfz44_2 := kf_ BK333.out 2) | ((with_reducible refine gate_store (t := 23) (p := 13) rfl ?_); refine store_event (t := 23) (p := 13) (v := ?vo_w45) (w1 := (((w43.setCell ⟨gb333, 0, none⟩ (.int .i64 t329)).setCell ⟨gb333, 1, none⟩ (.int .i64 t330)).setCell ⟨gb333, 2, none⟩ (.int .i64 t331))) ?hg ?ho ?hn ?hr ?_; (case ho => rfl); (case hg => rfl); (case hn => rfl); (case hr => first | (go_simp; done) | (go_simp; rfl)); intro w45 hw; have n0_ : Aside0 (Kd.R (Kd.int .i64) 3 w45 w.heap.size (fun k_ => some k_ ≠ (v318 : Value).ownBlock) (.slice (some ad328) t312.length co41) t312) := ⟨(by rw [hw]; exact (by (with_reducible repeat (first | apply Kd.R_alloc | apply Kd.R_drewN | apply Kd.R_drew)); exact Kd.R_mono (Kd.R_far (p := ⟨gb333, 2, none⟩) (Kd.R_far (p := ⟨gb333, 1, none⟩) (Kd.R_far (p := ⟨gb333, 0, none⟩) (Kd.R_types HO_5.out BK333.out (by decide)) (fun _ hk => hk.2) (.int .i64 t329)) (fun _ hk => hk.2) (.int .i64 t330)) (fun _ hk => hk.2) (.int .i64 t331)) (fun _ hk => hk.1)))⟩; have n1_ : Aside0 (Kd.R (Kd.int .i64) 3 w45 w.heap.size (fun k_ => some k_ ≠ (.slice (some ad328) t312.length co41 : Value).ownBlock) v318 t316) := ⟨(by rw [hw]; exact (by (with_reducible repeat (first | apply Kd.R_alloc | apply Kd.R_drewN | apply Kd.R_drew)); exact Kd.R_mono (Kd.R_far (p := ⟨gb333, 2, none⟩) (Kd.R_far (p := ⟨gb333, 1, none⟩) (Kd.R_far (p := ⟨gb333, 0, none⟩) (Kd.R_types HO_7.out BK333.out (by decide)) (fun _ hk => hk.2) (.int .i64 t329)) (fun _ hk => hk.2) (.int .i64 t330)) (fun _ hk => hk.2) (.int .i64 t331)) (fun _ hk => hk.1)))⟩; have n2_ : Aside0 (Kd.R Kd.bool 4 w45 w.heap.size (fun _ => True) v326 x11_3) := ⟨(by rw [hw]; exact (by (with_reducible repeat (first | apply Kd.R_alloc | apply Kd.R_drewN | apply Kd.R_drew)); exact Kd.R_mono (Kd.R_far (p := ⟨gb333, 2, none⟩) (Kd.R_far (p := ⟨gb333, 1, none⟩) (Kd.R_far (p := ⟨gb333, 0, none⟩) (Kd.R_types HO_11.out BK333.out (by decide)) (fun _ hk => hk.2) (.int .i64 t329)) (fun _ hk => hk.2) (.int .i64 t330)) (fun _ hk => hk.2) (.int .i64 t331)) (fun _ hk => trivial)))⟩; have n3_ : Aside0 (w45.heap[gb333]? = some (.cells #[.int .i64 t329, .int .i64 t330, .int .i64 t331] 23 (0, 0))) := ⟨(by rw [hw]; exact (by (with_reducible repeat first | apply kn_ | apply kd_ | apply ka_); refine blk_put (cs := #[.int .i64 t329, .int .i64 t330, .int .i64 0]) ?_ 2 _ rfl; (with_reducible repeat first | apply kn_ | apply kd_ | apply ka_); refine blk_put (cs := #[.int .i64 t329, .int .i64 0, .int .i64 0]) ?_ 1 _ rfl; (with_reducible repeat first | apply kn_ | apply kd_ | apply ka_); refine blk_put (cs := #[.int .i64 0, .int .i64 0, .int .i64 0]) ?_ 0 _ rfl; (with_reducible repeat first | apply kn_ | apply kd_ | apply ka_); exact BK333.out))⟩; have n4_ : Aside0 (Below w.heap.size w w45) := ⟨(by rw [hw]; exact (bb_ HB.out (e_ GE333 e0_)))⟩; clear hw; clear HO_5; clear HO_7; clear HO_11; clear BK333; clear HB; have HO_5 := n0_; have HO_7 := n1_; have HO_11 := n2_; have BK333 := n3_; have HB := n4_; clear n0_ n1_ n2_ n3_ n4_; have hcz46_0 : w45.cell? ⟨gb333, 0, none⟩ = some (.int .i64 t329) := (kc_ BK333.out 0).trans rfl; have hcz46_1 : w45.cell? ⟨gb333, 1, none⟩ = some (.int .i64 t330) := (kc_ BK333.out 1).trans rfl; have hcz46_2 : w45.cell? ⟨gb333, 2, none⟩ = some (.int .i64 t331) := (kc_ BK333.out 2).trans rfl; have hfz46_0 := kf_ BK333.out 0; have hfz46_1 := kf_ BK333.out 1; have hfz46_2 := kf_ BK333.out 2; obtain ⟨Ao47, co47, eo47⟩ := Kd.R_slice HO_11.out; subst eo47; have p334 : 0 ≤ (t329 : Int) := od_ (by first | (with_reducible assumption) | assumption); have q334 : t329 < (x11_3.length : Int) := od_ (by first | (with_reducible assumption) | assumption); obtain ⟨ad334, e334, hx334_0⟩ := Kd.at_bool (Kd.R_reads' HO_11.out).2.2 t329 p334 q334; (try rw [← Nbq34.out] at hx334_0); cases e334; replace p334 := eq_true p334; replace q334 := eq_true q334; obtain ⟨Ao48, co48, eo48⟩ := Kd.R_slice HO_7.out; subst eo48; have p335 : 0 ≤ (t329 : Int) := od_ (by first | (with_reducible assumption) | assumption); have q335 : t329 < (t316.length : Int) := od_ (by first | (with_reducible assumption) | assumption); obtain ⟨ad335, e335, hx335_0⟩ := Kd.at_int (Kd.R_reads' HO_7.out).2.2 t329 p335 q335; cases e335; replace p335 := eq_true p335; replace q335 := eq_true q335; have p336 : 0 ≤ (x12_3 : Int) := od_ (by first | (with_reducible assumption) | assumption); have q336 : x12_3 < (t312.length : Int) := od_ (by first | (with_reducible assumption) | assumption); obtain ⟨ad336, e336, hx336_0⟩ := Kd.at_int (Kd.R_reads' HO_5.out).2.2 x12_3 p336 q336; obtain rfl : ad328 = ad336 := (by injection e336); replace p336 := eq_true p336; replace q336 := eq_true q336; have p337 : 0 ≤ (x12_3 : Int) := od_ (by first | (with_reducible assumption) | assumption); have q337 : x12_3 < (t312.length : Int) := od_ (by first | (with_reducible assumption) | assumption); obtain ⟨ad337, e337, hx337_0⟩ := Kd.at_int (Kd.R_reads' HO_5.out).2.2 x12_3 p337 q337; obtain rfl : ad328 = ad337 := (by injection e337); replace p337 := eq_true p337; replace q337 := eq_true q337; have p40 : 0 ≤ (t329 : Int) := od_ (by first | (with_reducible assumption) | assumption); have q40 : (t329 : Int) < ((x11_3.length : Int) : Int) := od_ (by first | (with_reducible assumption) | assumption); obtain ⟨go40, co40, eo40, gb40, gl40, cl40, HG40⟩ := Kd.R_form HO_11.out (by omega); (first | cases eo40 | (injection eo40 with ea_ en_ ec_; (first | subst ea_ | (injection ea_ with ea_; subst ea_)); subst ec_; clear en_)); have GB40 := sd_ gb40; have GG40 := sd_ HG40; clear gb40 gl40 HG40; (first | simp only [add_plain] at hx334_0 | skip); obtain ⟨hx40_0, hf40_0⟩ := Kd.R_celln false HO_11.out (t329 : Int) p40 q40; replace p40 := eq_true p40; replace q40 := eq_true q40; obtain ⟨hy49_, hz49_⟩ := Kd.R_celln false HO_11.out (t329 : Int) (od_ (by first | (with_reducible assumption) | assumption)) (od_ (by first | (with_reducible assumption) | assumption)); have HP49 := Kd.R_putg HO_11.out (t329 : Int) true) | ((with_reducible refine gate_store (t := 4) (p := 129) rfl ?_); refine store_event (t := 4) (p := 129) (v := ?vo_w50) (w1 := (w45.setCell ⟨go40, (t329 : Int).toNat, none⟩ (.bool true))) ?hg ?ho ?hn ?hr ?_; (case ho => rfl); (case hg => rfl); (case hn => rfl); (case hr => first | (go_simp; done) | (go_simp; rfl)); intro w50 hw; have hg : w45.grownBy w50 (some go40) := (by rw [hw]; exact HP49.2); have hp_ : Kd.R Kd.bool 4 w50 w.heap.size (fun _ => True) (.slice (some ⟨go40, 0, none⟩) x11_3.length co47) y338 := (by rw [hw, Ny338.out]; exact HP49.1); clear HP49; have n0_ := sd_ (Kd.R_over' (v := (.slice (some ⟨go40, 0, none⟩) x11_3.length co47)) (by (with_reducible repeat (first | apply Kd.R_alloc | apply Kd.R_drewN | apply Kd.R_drew)); exact HO_5.out) (Kd.R_typed HO_11.out) (by decide) hg); have n1_ := sd_ (Kd.R_over' (v := (.slice (some ⟨go40, 0, none⟩) x11_3.length co47)) (by (with_reducible repeat (first | apply Kd.R_alloc | apply Kd.R_drewN | apply Kd.R_drew)); exact HO_7.out) (Kd.R_typed HO_11.out) (by decide) hg); have n2_ := sd_ (hp_); have n3_ := sd_ (blk_grown (kk_ BK333.out) hg (Kd.R_ne HO_11.out BK333.out (by decide))); have n4_ := sd_ ((by rw [hw]; exact bs_ (HB.out) GB40.out : Below w.heap.size w w50)); clear HO_5; clear HO_7; clear HO_11; clear BK333; clear HB; have HO_5 := n0_; have HO_7 := n1_; have HO_11 := n2_; have BK333 := n3_; have HB := n4_; clear n0_ n1_ n2_ n3_ n4_; clear hg hw hp_))
                      go_roundg k3
                      case measure => have := HJ4.out; have := HK2.out; have := HK3.out; omega
                      case rel => exact ⟨(y338), (wrap64 (x12_3 + 1)), (by first | rfl | (simp; done) | (simp [*]; done) | (simp [bne]; done)), H', ⟨by have := HJ4.out; have := HK2.out; have := HK3.out; omega⟩, ⟨by (with_reducible repeat (first | apply Kd.R_alloc | apply Kd.R_drewN | apply Kd.R_drew)); exact HO_5.out⟩, ⟨by (with_reducible repeat (first | apply Kd.R_alloc | apply Kd.R_drewN | apply Kd.R_drew)); exact HO_7.out⟩, ⟨by (with_reducible repeat (first | apply Kd.R_alloc | apply Kd.R_drewN | apply Kd.R_drew)); exact HO_11.out⟩, ⟨by repeat (first | (with_reducible first | exact HB.out | apply ba_ | apply pd_ | apply d1_ | refine bs_ ?_ GE333.out) | exact HB.out)⟩⟩
                  ·rw [if_neg c36] at H
                   exact absurd H (by simp)
                ·rw [if_neg c33] at H
                 exact absurd H (by simp)
               ·rw [if_neg c32] at H
                exact absurd H (by simp)
            ·rw [if_neg c29] at H
             have c29b0 : (t332 == 0) = false := beq_eq_false_iff_ne.mpr c29
             have c29b1 : (t332 != 0) = true := bne_iff_ne.mpr c29
             exact absurd ((Option.some.inj H).trans hxt.out) (by decide)
           ·rw [if_neg c27] at H
            exact absurd H (by simp)
          ·rw [if_neg c26] at H
           have c26b0 : decide (x12_3 < (t312.length : Int)) = false := df_ c26
           clear c26
           by_cases c51 : x9_2 = (t312.length : Int)
           ·rw [if_pos c51] at H
            have c51b0 : (x9_2 == (t312.length : Int)) = true := beq_iff_eq.mpr c51
            have c51b1 : (x9_2 != (t312.length : Int)) = false := bne_eq_false_iff_eq.mpr c51
            clear c51
            obtain ⟨ji52, hji52⟩ : ∃ j_ : Int, (mx a0 (wrap64 (-a0))) = j_ := ⟨_, rfl⟩
            replace H : (if x9_2 = (ji52) then ((neumelaw06_heads.f k3).bind fun t339 => (some t339)) else (some false)) = some r := by first | (rw [hji52] at H; exact H) | (simp only [hji52] at H ⊢; exact H)
            have hji52_ : (if a0 < (wrap64 (-a0)) then (wrap64 (-a0)) else a0) = ji52 := hji52
            by_cases c53 : x9_2 = (ji52)
            ·rw [if_pos c53] at H
             have c53b0 : (x9_2 == (ji52)) = true := beq_iff_eq.mpr c53
             have c53b1 : (x9_2 != (ji52)) = false := bne_eq_false_iff_eq.mpr c53
             clear c53
             replace H := ob_ H
             obtain ⟨t339, A540, H⟩ := H
             replace H : (some t339) = some r := H
             have A54 := sd_ A540
             clear A540
             obtain rfl := Option.some.inj H
             obtain ⟨Ao55, co55, eo55⟩ := Kd.R_slice HO_5.out
             subst eo55
             go_wp2_with (first | (go_at_call 7; (with_reducible refine (neumelaw06_heads.calls k3  t339 _ ?side1 A54.out).mono ?_); (case side1 => first | (with_reducible exact hE) | exact sd_ (LaidE.below hE.out (bb_ HB.out e0_))); rintro e w56 ⟨rfl, hb⟩; replace HO_5 := sd_ (Kd.R_below (by (with_reducible repeat (first | apply Kd.R_alloc | apply Kd.R_drewN | apply Kd.R_drew)); exact HO_5.out) hb); replace HO_7 := sd_ (Kd.R_below (by (with_reducible repeat (first | apply Kd.R_alloc | apply Kd.R_drewN | apply Kd.R_drew)); exact HO_7.out) hb); replace HO_11 := sd_ (Kd.R_below (by (with_reducible repeat (first | apply Kd.R_alloc | apply Kd.R_drewN | apply Kd.R_drew)); exact HO_11.out) hb); replace HB := hb_ HB e0_ hb; (try clear hb); (try clear hb2); (try clear hk); (try clear hi)))
             go_ret
             exact ⟨by first | rfl | (simp [errW_none, errW_some] <;> rfl) | (simp only [← hji52]; first | rfl | (simp [errW_none, errW_some] <;> rfl)) | (simp [*, errW_none, errW_some] <;> rfl), by repeat (first | (with_reducible first | exact HB.out | apply ba_ | apply pd_ | apply d1_) | exact HB.out)⟩
            ·rw [if_neg c53] at H
             have c53b0 : (x9_2 == (ji52)) = false := beq_eq_false_iff_ne.mpr c53
             have c53b1 : (x9_2 != (ji52)) = true := bne_iff_ne.mpr c53
             exact absurd ((Option.some.inj H).trans hxt.out) (by decide)
           ·rw [if_neg c51] at H
            have c51b0 : (x9_2 == (t312.length : Int)) = false := beq_eq_false_iff_ne.mpr c51
            have c51b1 : (x9_2 != (t312.length : Int)) = true := bne_iff_ne.mpr c51
            exact absurd ((Option.some.inj H).trans hxt.out) (by decide)
       ·rw [if_neg c23] at H
        exact absurd H (by simp)

end Go.Proofs.YtkncoedagigliaaDoor.P
