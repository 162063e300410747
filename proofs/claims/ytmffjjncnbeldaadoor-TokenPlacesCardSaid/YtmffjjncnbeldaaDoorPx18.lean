-- Written by a program of this session (wip/tools/xprint.py, over the kit's print): Lean checks it.
import Derived.Test.YtmffjjncnbeldaaDoorPx0
import Derived.Test.YtmffjjncnbeldaaDoorPx3
import Derived.Test.YtmffjjncnbeldaaDoorPx4
import Derived.Test.YtmffjjncnbeldaaDoorPx5
import Derived.Test.YtmffjjncnbeldaaDoorPx6
namespace Go.Proofs.YtmffjjncnbeldaaDoor.P
open Go.RowKit Go.Proofs.YtmffjjncnbeldaaDoorW.PrintWords Go.Proofs.YtmffjjncnbeldaaDoorW.PrintLast Go.Proofs.YtmffjjncnbeldaaDoorW.PrintMore
attribute [local go_sem] max2_int min2_int max_two min_two max_three min_three max_four min_four   -- for this text's walks alone
set_option linter.unusedVariables false
set_option linter.unusedSimpArgs false

/-! ### neumelaw08_TokenPlaces: function 7 -/
mutual
def neumelaw08_TokenPlaces.l0 : Nat → ByteArray → List (S34) → Int → Int → Option (Bool)
 | 0, _, _, _, _ => none
 | k + 1, x0, x3, x5, x6 => if x6 < (x3.length : Int) then (if 0 ≤ x6 then (if ((rd_T34 x3 x6).f0) = 5 then (if 1 + ((rd_T34 x3 x6).f1).size ≤ 9223372036854775807 then (if 1 + ((rd_T34 x3 x6).f1).size + 1 ≤ 9223372036854775807 then (neumelaw08_TokenPlaces.j1 k x0 x3 x5 x6 (((⟨#[34]⟩ : ByteArray) ++ ((rd_T34 x3 x6).f1)) ++ (⟨#[34]⟩ : ByteArray))) else (none)) else (none)) else (neumelaw08_TokenPlaces.j1 k x0 x3 x5 x6 ((rd_T34 x3 x6).f1))) else (none)) else (if x5 = (x0.size : Int) then ((token_Check.f k x3).bind fun t353 => (if t353 = true then ((neumelaw08_heads.f k).bind fun t354 => (some t354)) else (some false))) else (some false))
def neumelaw08_TokenPlaces.j1 : Nat → ByteArray → List (S34) → Int → Int → ByteArray → Option (Bool)
 | 0, _, _, _, _, _ => none
 | k + 1, x0, x3, x5, x6, x7 => if 0 ≤ x6 then (if x6 < (x3.length : Int) then (if ((rd_T34 x3 x6).f2) < x5 then (neumelaw08_TokenPlaces.j2 k x0 x3 x5 x6 x7 true) else (if ((rd_T34 x3 x6).f2) > (wrap64 ((x0.size : Int) - (x7.size : Int))) then (neumelaw08_TokenPlaces.j2 k x0 x3 x5 x6 x7 true) else (if 0 ≤ ((rd_T34 x3 x6).f2) then (if ((rd_T34 x3 x6).f2) ≤ (wrap64 (((rd_T34 x3 x6).f2) + (x7.size : Int))) then (if (wrap64 (((rd_T34 x3 x6).f2) + (x7.size : Int))) ≤ (x0.size : Int) then (neumelaw08_TokenPlaces.j2 k x0 x3 x5 x6 x7 ((x0.extract (((rd_T34 x3 x6).f2) : Int).toNat ((wrap64 (((rd_T34 x3 x6).f2) + (x7.size : Int))) : Int).toNat).toList != x7.toList)) else (none)) else (none)) else (none)))) else (none)) else (none)
def neumelaw08_TokenPlaces.j2 : Nat → ByteArray → List (S34) → Int → Int → ByteArray → Bool → Option (Bool)
 | 0, _, _, _, _, _, _ => none
 | k + 1, x0, x3, x5, x6, x7, x98 => if x98 = true then (some false) else (if 0 ≤ x6 then (if x6 < (x3.length : Int) then (if 0 ≤ x5 then (if x5 ≤ ((rd_T34 x3 x6).f2) then (if ((rd_T34 x3 x6).f2) ≤ (x0.size : Int) then (if (x0.extract (x5 : Int).toNat (((rd_T34 x3 x6).f2) : Int).toNat).size + 1 ≤ 9223372036854775807 then ((token_Scan.f k ((x0.extract (x5 : Int).toNat (((rd_T34 x3 x6).f2) : Int).toNat) ++ (⟨#[10]⟩ : ByteArray))).bind fun bt362 => (if bt362.2.1 = 0 then (if (bt362.1.length : Int) = 1 then (neumelaw08_TokenPlaces.l0 k x0 x3 (wrap64 (((rd_T34 x3 x6).f2) + (x7.size : Int))) (wrap64 (x6 + 1))) else (some false)) else (some false))) else (none)) else (none)) else (none)) else (none)) else (none)) else (none))
end
def neumelaw08_TokenPlaces.f (k : Nat) (a0 : ByteArray) : Option (Bool) := if (a0.size : Int) > 3000 then ((neumelaw08_heads.f k).bind fun t345 => (some t345)) else ((token_Scan.f k a0).bind fun bt346 => (if bt346.2.1 = 0 then (neumelaw08_TokenPlaces.l0 k a0 bt346.1 0 0) else (if bt346.2.2 ≥ 0 then (if bt346.2.2 ≤ (a0.size : Int) then (if (bt346.1.length : Int) = 0 then ((neumelaw08_heads.f k).bind fun t352 => (some t352)) else (some false)) else (some false)) else (some false))))
theorem neumelaw08_TokenPlaces.mono_l : ∀ k, (∀ y0 y1 y2 y3, LeO (neumelaw08_TokenPlaces.l0 k y0 y1 y2 y3) (neumelaw08_TokenPlaces.l0 (k + 1) y0 y1 y2 y3)) ∧ (∀ y0 y1 y2 y3 y4, LeO (neumelaw08_TokenPlaces.j1 k y0 y1 y2 y3 y4) (neumelaw08_TokenPlaces.j1 (k + 1) y0 y1 y2 y3 y4)) ∧ (∀ y0 y1 y2 y3 y4 y5, LeO (neumelaw08_TokenPlaces.j2 k y0 y1 y2 y3 y4 y5) (neumelaw08_TokenPlaces.j2 (k + 1) y0 y1 y2 y3 y4 y5))
 | 0 => ⟨fun _ _ _ _ r h => by simp [neumelaw08_TokenPlaces.l0] at h, fun _ _ _ _ _ r h => by simp [neumelaw08_TokenPlaces.j1] at h, fun _ _ _ _ _ _ r h => by simp [neumelaw08_TokenPlaces.j2] at h⟩
 | k + 1 => by
  obtain ⟨ih0, ih1, ih2⟩ := neumelaw08_TokenPlaces.mono_l k
  refine ⟨?_, ?_, ?_⟩
  ·intro y0 y1 y2 y3
   unfold neumelaw08_TokenPlaces.l0
   repeat' first
   | (with_reducible exact ih0 _ _ _ _)
   | (with_reducible exact ih1 _ _ _ _ _)
   | (with_reducible exact ih2 _ _ _ _ _ _)
   | (with_reducible exact neumelaw08_heads.mono _)
   | (with_reducible exact token_Check.mono _ _)
   | (with_reducible exact token_Scan.mono _ _)
   | (with_reducible exact LeO.refl _)
   | (with_reducible exact LeO.none _)
   | (with_reducible refine LeO.ite ?_ ?_)
   | (with_reducible refine LeO.bind ?_ (fun _ => ?_))
   | exact ih0 _ _ _ _
   | exact ih1 _ _ _ _ _
   | exact ih2 _ _ _ _ _ _
   | exact neumelaw08_heads.mono _
   | exact token_Check.mono _ _
   | exact token_Scan.mono _ _
   | exact LeO.none _
   | refine LeO.ite ?_ ?_
   | refine LeO.bind ?_ (fun _ => ?_)
  ·intro y0 y1 y2 y3 y4
   unfold neumelaw08_TokenPlaces.j1
   repeat' first
   | (with_reducible exact ih0 _ _ _ _)
   | (with_reducible exact ih1 _ _ _ _ _)
   | (with_reducible exact ih2 _ _ _ _ _ _)
   | (with_reducible exact neumelaw08_heads.mono _)
   | (with_reducible exact token_Check.mono _ _)
   | (with_reducible exact token_Scan.mono _ _)
   | (with_reducible exact LeO.refl _)
   | (with_reducible exact LeO.none _)
   | (with_reducible refine LeO.ite ?_ ?_)
   | (with_reducible refine LeO.bind ?_ (fun _ => ?_))
   | exact ih0 _ _ _ _
   | exact ih1 _ _ _ _ _
   | exact ih2 _ _ _ _ _ _
   | exact neumelaw08_heads.mono _
   | exact token_Check.mono _ _
   | exact token_Scan.mono _ _
   | exact LeO.none _
   | refine LeO.ite ?_ ?_
   | refine LeO.bind ?_ (fun _ => ?_)
  ·intro y0 y1 y2 y3 y4 y5
   unfold neumelaw08_TokenPlaces.j2
   repeat' first
   | (with_reducible exact ih0 _ _ _ _)
   | (with_reducible exact ih1 _ _ _ _ _)
   | (with_reducible exact ih2 _ _ _ _ _ _)
   | (with_reducible exact neumelaw08_heads.mono _)
   | (with_reducible exact token_Check.mono _ _)
   | (with_reducible exact token_Scan.mono _ _)
   | (with_reducible exact LeO.refl _)
   | (with_reducible exact LeO.none _)
   | (with_reducible refine LeO.ite ?_ ?_)
   | (with_reducible refine LeO.bind ?_ (fun _ => ?_))
   | exact ih0 _ _ _ _
   | exact ih1 _ _ _ _ _
   | exact ih2 _ _ _ _ _ _
   | exact neumelaw08_heads.mono _
   | exact token_Check.mono _ _
   | exact token_Scan.mono _ _
   | exact LeO.none _
   | refine LeO.ite ?_ ?_
   | refine LeO.bind ?_ (fun _ => ?_)
theorem neumelaw08_TokenPlaces.mono : ∀ a0 k, LeO (neumelaw08_TokenPlaces.f k a0) (neumelaw08_TokenPlaces.f (k + 1) a0) := by
 intro a0 k
 obtain ⟨ih0, ih1, ih2⟩ := neumelaw08_TokenPlaces.mono_l k
 unfold neumelaw08_TokenPlaces.f
 repeat' first
   | (with_reducible exact ih0 _ _ _ _)
   | (with_reducible exact ih1 _ _ _ _ _)
   | (with_reducible exact ih2 _ _ _ _ _ _)
   | (with_reducible exact neumelaw08_heads.mono _)
   | (with_reducible exact token_Check.mono _ _)
   | (with_reducible exact token_Scan.mono _ _)
   | (with_reducible exact LeO.refl _)
   | (with_reducible exact LeO.none _)
   | (with_reducible refine LeO.ite ?_ ?_)
   | (with_reducible refine LeO.bind ?_ (fun _ => ?_))
   | exact ih0 _ _ _ _
   | exact ih1 _ _ _ _ _
   | exact ih2 _ _ _ _ _ _
   | exact neumelaw08_heads.mono _
   | exact token_Check.mono _ _
   | exact token_Scan.mono _ _
   | exact LeO.none _
   | refine LeO.ite ?_ ?_
   | refine LeO.bind ?_ (fun _ => ?_)
set_option maxHeartbeats 8000000 in
set_option maxRecDepth 100000 in
theorem neumelaw08_TokenPlaces.calls (k : Nat) (a0 : ByteArray) (r : Bool) (w : World) (hE : Aside0 (LaidE w)) (hxt : Aside0 (r = true)) (h : neumelaw08_TokenPlaces.f k a0 = some r) :
  Calls Tryd.prog 7 #[.string a0] w fun e w' => e = .returned (.bool r) ∧ Below w.heap.size w w' := by
 have hu26 := Tryd.underlying26
 have HB := sd_ (Below.refl w.heap.size w)
 have H : (if (a0.size : Int) > 3000 then ((neumelaw08_heads.f k).bind fun t345 => (some t345)) else ((token_Scan.f k a0).bind fun bt346 => (if bt346.2.1 = 0 then (neumelaw08_TokenPlaces.l0 k a0 bt346.1 0 0) else (if bt346.2.2 ≥ 0 then (if bt346.2.2 ≤ (a0.size : Int) then (if (bt346.1.length : Int) = 0 then ((neumelaw08_heads.f k).bind fun t352 => (some t352)) else (some false)) else (some false)) else (some false))))) = some r := h
 clear h
 by_cases c2 : (a0.size : Int) > 3000
 ·rw [if_pos c2] at H
  have c2b0 : decide (3000 < (a0.size : Int)) = true := dt_ c2
  have c2b1 : decide (3000 < a0.size) = true := dt_ (by omega)
  clear c2
  replace H := ob_ H
  obtain ⟨t345, A30, H⟩ := H
  replace H : (some t345) = some r := H
  have A3 := sd_ A30
  clear A30
  obtain rfl := Option.some.inj H
  go_enter Tryd.func7, Tryd.ntmps7
  go_wp2_with (first | (go_at_call 8; (with_reducible refine (neumelaw08_heads.calls k  t345 _ ?side1 A3.out).mono ?_); (case side1 => first | (with_reducible exact hE) | exact sd_ (LaidE.below hE.out (bb_ HB.out e0_))); rintro e w4 ⟨rfl, hb⟩; replace HB := hb_ HB e0_ hb; (try clear hb); (try clear hb2); (try clear hk); (try clear hi)))
  repeat (go_quiet (first | (go_at_call 8; (with_reducible refine (neumelaw08_heads.calls k  t345 _ ?side1 A3.out).mono ?_); (case side1 => first | (with_reducible exact hE) | exact sd_ (LaidE.below hE.out (bb_ HB.out e0_))); rintro e w4 ⟨rfl, hb⟩; replace HB := hb_ HB e0_ hb; (try clear hb); (try clear hb2); (try clear hk); (try clear hi))); try go_wp2_with (first | (go_at_call 8; (with_reducible refine (neumelaw08_heads.calls k  t345 _ ?side1 A3.out).mono ?_); (case side1 => first | (with_reducible exact hE) | exact sd_ (LaidE.below hE.out (bb_ HB.out e0_))); rintro e w4 ⟨rfl, hb⟩; replace HB := hb_ HB e0_ hb; (try clear hb); (try clear hb2); (try clear hk); (try clear hi))))
  go_ret
  exact ⟨by first | rfl | (simp [errW_none, errW_some] <;> rfl) | (simp [*, errW_none, errW_some] <;> rfl), by repeat (first | (with_reducible first | exact HB.out | apply ba_ | apply pd_ | apply d1_) | exact HB.out)⟩
 ·rw [if_neg c2] at H
  have c2b0 : decide (3000 < (a0.size : Int)) = false := df_ c2
  have c2b1 : decide (3000 < a0.size) = false := df_ (by omega)
  clear c2
  replace H := ob_ H
  obtain ⟨⟨t346, t349, t350⟩, A50, H⟩ := H
  replace H : (if t349 = 0 then (neumelaw08_TokenPlaces.l0 k a0 t346 0 0) else (if t350 ≥ 0 then (if t350 ≤ (a0.size : Int) then (if (t346.length : Int) = 0 then ((neumelaw08_heads.f k).bind fun t352 => (some t352)) else (some false)) else (some false)) else (some false))) = some r := H
  have A5 := sd_ A50
  clear A50
  by_cases c6 : t349 = 0
  ·rw [if_pos c6] at H
   have c6b0 : (t349 == 0) = true := beq_iff_eq.mpr c6
   have c6b1 : (t349 != 0) = false := bne_eq_false_iff_eq.mpr c6
   clear c6
   have H' := sd_ H
   clear H
   go_enter Tryd.func7, Tryd.ntmps7
   go_wp2_with (first | (go_at_call 9; (with_reducible refine (token_Scan.calls k a0 t346 t349 t350 _ ?side1 A5.out).mono ?_); (case side1 => first | (with_reducible exact hE) | exact sd_ (LaidE.below hE.out (bb_ HB.out e0_))); rintro e w7 ⟨v347, rfl, ho0, hb⟩; have HO348 := sd_ (Kd.R_lower ho0 (bz_ (bb_ HB.out e0_))); replace HB := hb_ HB e0_ hb; (try clear hb); (try clear hb2); (try clear hk); (try clear hi); (try clear ho0)) | ((with_reducible refine gate_dst (N := 4) rfl ?_); (try (refine gate_guard (by rfl) ?_; dsimp only)); refine box_event ?hg (N := 4) ?hd (cs := #[.int .i64 0, .int .i64 0]) (t := 26) ?hr ?_; (case hd => rfl); (case hg => rfl); (case hr => first | (go_simp; done) | (go_simp; rfl)); intro gb351 hg w8 hbox hb; have BK351 := sd_ hbox; have GW351 := gw_ HB e0_ hg; have GE351 := GW351; replace HO348 := sd_ (Kd.R_below (by (with_reducible repeat (first | apply Kd.R_alloc | apply Kd.R_drewN | apply Kd.R_drew)); exact HO348.out) hb); replace HB := hb_ HB e0_ hb; clear hb hbox hg; have hcz9_0 : w8.cell? ⟨gb351, 0, none⟩ = some (.int .i64 0) := (kc_ BK351.out 0).trans rfl; have hcz9_1 : w8.cell? ⟨gb351, 1, none⟩ = some (.int .i64 0) := (kc_ BK351.out 1).trans rfl; have hfz9_0 := kf_ BK351.out 0; have hfz9_1 := kf_ BK351.out 1))
   repeat (go_quiet (first | (go_at_call 9; (with_reducible refine (token_Scan.calls k a0 t346 t349 t350 _ ?side1 A5.out).mono ?_); (case side1 => first | (with_reducible exact hE) | exact sd_ (LaidE.below hE.out (bb_ HB.out e0_))); rintro e w7 ⟨v347, rfl, ho0, hb⟩; have HO348 := sd_ (Kd.R_lower ho0 (bz_ (bb_ HB.out e0_))); replace HB := hb_ HB e0_ hb; (try clear hb); (try clear hb2); (try clear hk); (try clear hi); (try clear ho0)) | ((with_reducible refine gate_dst (N := 4) rfl ?_); (try (refine gate_guard (by rfl) ?_; dsimp only)); refine box_event ?hg (N := 4) ?hd (cs := #[.int .i64 0, .int .i64 0]) (t := 26) ?hr ?_; (case hd => rfl); (case hg => rfl); (case hr => first | (go_simp; done) | (go_simp; rfl)); intro gb351 hg w8 hbox hb; have BK351 := sd_ hbox; have GW351 := gw_ HB e0_ hg; have GE351 := GW351; replace HO348 := sd_ (Kd.R_below (by (with_reducible repeat (first | apply Kd.R_alloc | apply Kd.R_drewN | apply Kd.R_drew)); exact HO348.out) hb); replace HB := hb_ HB e0_ hb; clear hb hbox hg; have hcz9_0 : w8.cell? ⟨gb351, 0, none⟩ = some (.int .i64 0) := (kc_ BK351.out 0).trans rfl; have hcz9_1 : w8.cell? ⟨gb351, 1, none⟩ = some (.int .i64 0) := (kc_ BK351.out 1).trans rfl; have hfz9_0 := kf_ BK351.out 0; have hfz9_1 := kf_ BK351.out 1)); try go_wp2_with (first | (go_at_call 9; (with_reducible refine (token_Scan.calls k a0 t346 t349 t350 _ ?side1 A5.out).mono ?_); (case side1 => first | (with_reducible exact hE) | exact sd_ (LaidE.below hE.out (bb_ HB.out e0_))); rintro e w7 ⟨v347, rfl, ho0, hb⟩; have HO348 := sd_ (Kd.R_lower ho0 (bz_ (bb_ HB.out e0_))); replace HB := hb_ HB e0_ hb; (try clear hb); (try clear hb2); (try clear hk); (try clear hi); (try clear ho0)) | ((with_reducible refine gate_dst (N := 4) rfl ?_); (try (refine gate_guard (by rfl) ?_; dsimp only)); refine box_event ?hg (N := 4) ?hd (cs := #[.int .i64 0, .int .i64 0]) (t := 26) ?hr ?_; (case hd => rfl); (case hg => rfl); (case hr => first | (go_simp; done) | (go_simp; rfl)); intro gb351 hg w8 hbox hb; have BK351 := sd_ hbox; have GW351 := gw_ HB e0_ hg; have GE351 := GW351; replace HO348 := sd_ (Kd.R_below (by (with_reducible repeat (first | apply Kd.R_alloc | apply Kd.R_drewN | apply Kd.R_drew)); exact HO348.out) hb); replace HB := hb_ HB e0_ hb; clear hb hbox hg; have hcz9_0 : w8.cell? ⟨gb351, 0, none⟩ = some (.int .i64 0) := (kc_ BK351.out 0).trans rfl; have hcz9_1 : w8.cell? ⟨gb351, 1, none⟩ = some (.int .i64 0) := (kc_ BK351.out 1).trans rfl; have hfz9_0 := kf_ BK351.out 0; have hfz9_1 := kf_ BK351.out 1)))
   go_loopg [5, 6] k (fun kq v5 v6 w' => ∃ (x5_1 : Int) (x6_1 : Int), v5 = .int .i64 x5_1 ∧ v6 = .int .i64 x6_1 ∧ Aside0 (neumelaw08_TokenPlaces.l0 kq a0 t346 x5_1 x6_1 = some r) ∧ Aside0 (kq ≤ k) ∧ Aside0 (Kd.R k34 34 w' w.heap.size (fun _ => True) v347 t346) ∧ Aside0 (w'.heap[gb351]? = some (.cells #[.int .i64 t349, .int .i64 t350] 26 (0, 0))) ∧ Aside0 (Below w.heap.size w w'))
   case atStart => exact ⟨(0), (0), (by first | rfl | (simp; done) | (simp [*]; done) | (simp [bne]; done)), (by first | rfl | (simp; done) | (simp [*]; done) | (simp [bne]; done)), H', ⟨Nat.le_refl _⟩, ⟨by (with_reducible repeat (first | apply Kd.R_alloc | apply Kd.R_drewN | apply Kd.R_drew)); exact Kd.R_mono (Kd.R_far (p := ⟨gb351, 1, none⟩) (Kd.R_far (p := ⟨gb351, 0, none⟩) (Kd.R_types HO348.out BK351.out (by decide)) (fun _ hk => hk.2) (.int .i64 t349)) (fun _ hk => hk.2) (.int .i64 t350)) (fun _ hk => trivial)⟩, ⟨by (with_reducible repeat first | apply kn_ | apply kd_ | apply ka_); refine blk_put (cs := #[.int .i64 t349, .int .i64 0]) ?_ 1 _ rfl; (with_reducible repeat first | apply kn_ | apply kd_ | apply ka_); refine blk_put (cs := #[.int .i64 0, .int .i64 0]) ?_ 0 _ rfl; (with_reducible repeat first | apply kn_ | apply kd_ | apply ka_); exact BK351.out⟩, ⟨by repeat (first | (with_reducible first | exact HB.out | apply ba_ | apply pd_ | apply d1_ | refine bs_ ?_ GE351.out) | exact HB.out)⟩⟩
   case round =>
    clear H'
    try clear c2; try clear c2b0; try clear c2b1; try clear p2; try clear c6; try clear c6b0; try clear c6b1; try clear c7; try clear hcz9_0; try clear hcz9_1; try clear hfz9_0; try clear hfz9_1
    obtain ⟨x5_1, x6_1, rfl, rfl, HA, HK1, HO_3, BK351, HB⟩ := hrel
    cases gk with
    | zero => exact absurd HA.out (by simp [neumelaw08_TokenPlaces.l0])
    | succ k1 =>
     have H := HA.out
     clear HA
     simp only [neumelaw08_TokenPlaces.l0] at H
     by_cases c10 : x6_1 < (t346.length : Int)
     ·rw [if_pos c10] at H
      have c10b0 : decide (x6_1 < (t346.length : Int)) = true := dt_ c10
      clear c10
      by_cases c11 : 0 ≤ x6_1
      ·rw [if_pos c11] at H
       have c11b0 : decide (0 ≤ x6_1) = true := dt_ c11
       clear c11
       have HC12 := sd_ H
       clear H
       obtain ⟨Ao13, co13, eo13⟩ := Kd.R_slice HO_3.out
       subst eo13
       have p355 : 0 ≤ (x6_1 : Int) := od_ (by first | (with_reducible assumption) | assumption)
       have q355 : x6_1 < (t346.length : Int) := od_ (by first | (with_reducible assumption) | assumption)
       obtain ⟨ad355, e355, hx355_0, hx355_1, hx355_2⟩ := at_T34 (Kd.R_reads' HO_3.out).2.2 x6_1 p355 q355
       cases e355
       replace p355 := eq_true p355
       replace q355 := eq_true q355
       have p356 : 0 ≤ (x6_1 : Int) := od_ (by first | (with_reducible assumption) | assumption)
       have q356 : x6_1 < (t346.length : Int) := od_ (by first | (with_reducible assumption) | assumption)
       obtain ⟨ad356, e356, hx356_0, hx356_1, hx356_2⟩ := at_T34 (Kd.R_reads' HO_3.out).2.2 x6_1 p356 q356
       obtain rfl : ad355 = ad356 := (by injection e356)
       replace p356 := eq_true p356
       replace q356 := eq_true q356
       go_upto_if 56 with (fail)
       repeat (go_quiet (fail); go_upto_if 56 with (fail))
       go_cut [7] (fun v7 wc => ∃ (kq : Nat) (x7_11 : ByteArray), v7 = .string x7_11 ∧ Aside0 (neumelaw08_TokenPlaces.j1 kq a0 t346 x5_1 x6_1 x7_11 = some r) ∧ Aside0 (kq ≤ k1) ∧ Aside0 (Kd.R k34 34 wc w.heap.size (fun _ => True) (.slice (some ad355) t346.length co13) t346) ∧ Aside0 (wc.heap[gb351]? = some (.cells #[.int .i64 t349, .int .i64 t350] 26 (0, 0))) ∧ Aside0 (Below w.heap.size w wc))
       case first =>
        have H := HC12.out
        clear HC12
        by_cases c14 : ((rd_T34 t346 x6_1).f0) = 5
        ·rw [if_pos c14] at H
         have c14b0 : (((rd_T34 t346 x6_1).f0) == 5) = true := beq_iff_eq.mpr c14
         have c14b1 : (((rd_T34 t346 x6_1).f0) != 5) = false := bne_eq_false_iff_eq.mpr c14
         clear c14
         (first | rw [c14b0] | (simp only [i64_w, i32_w]; rw [c14b0]) | skip)
         by_cases c15 : 1 + ((rd_T34 t346 x6_1).f1).size ≤ 9223372036854775807
         ·rw [if_pos c15] at H
          have c15b0 := eq_true c15
          have c15b1 : decide (1 + ((rd_T34 t346 x6_1).f1).size ≤ 9223372036854775807) = true := dt_ c15
          try have c15b2 : (9223372036854775807 < 1 + ((rd_T34 t346 x6_1).f1).size) = False := eq_false (Nat.not_lt.2 c15)
          by_cases c16 : 1 + ((rd_T34 t346 x6_1).f1).size + 1 ≤ 9223372036854775807
          ·rw [if_pos c16] at H
           have c16b0 := eq_true c16
           have c16b1 : decide (1 + ((rd_T34 t346 x6_1).f1).size + 1 ≤ 9223372036854775807) = true := dt_ c16
           try have c16b2 : (9223372036854775807 < 1 + ((rd_T34 t346 x6_1).f1).size + 1) = False := eq_false (Nat.not_lt.2 c16)
           have H' := sd_ H
           clear H
           go_wp2
           repeat (go_quiet (fail); try go_wp2)
           go_meet
           case rel => exact ⟨_, (((⟨#[34]⟩ : ByteArray) ++ ((rd_T34 t346 x6_1).f1)) ++ (⟨#[34]⟩ : ByteArray)), (by first | rfl | (simp; done) | (simp [*]; done) | (simp [bne]; done)), H', ⟨by have := HK1.out; first | omega | exact Nat.le_refl _⟩, ⟨by (with_reducible repeat (first | apply Kd.R_alloc | apply Kd.R_drewN | apply Kd.R_drew)); exact HO_3.out⟩, ⟨by (with_reducible repeat first | apply kn_ | apply kd_ | apply ka_); exact BK351.out⟩, ⟨by repeat (first | (with_reducible first | exact HB.out | apply ba_ | apply pd_ | apply d1_ | refine bs_ ?_ GE351.out) | exact HB.out)⟩⟩
          ·rw [if_neg c16] at H
           exact absurd H (by simp)
         ·rw [if_neg c15] at H
          exact absurd H (by simp)
        ·rw [if_neg c14] at H
         have c14b0 : (((rd_T34 t346 x6_1).f0) == 5) = false := beq_eq_false_iff_ne.mpr c14
         have c14b1 : (((rd_T34 t346 x6_1).f0) != 5) = true := bne_iff_ne.mpr c14
         (first | rw [c14b0] | (simp only [i64_w, i32_w]; rw [c14b0]) | skip)
         have H' := sd_ H
         clear H
         go_wp2
         repeat (go_quiet (fail); try go_wp2)
         go_meet
         case rel => exact ⟨_, ((rd_T34 t346 x6_1).f1), (by first | rfl | (simp; done) | (simp [*]; done) | (simp [bne]; done)), H', ⟨by have := HK1.out; first | omega | exact Nat.le_refl _⟩, ⟨by (with_reducible repeat (first | apply Kd.R_alloc | apply Kd.R_drewN | apply Kd.R_drew)); exact HO_3.out⟩, ⟨by (with_reducible repeat first | apply kn_ | apply kd_ | apply ka_); exact BK351.out⟩, ⟨by repeat (first | (with_reducible first | exact HB.out | apply ba_ | apply pd_ | apply d1_ | refine bs_ ?_ GE351.out) | exact HB.out)⟩⟩
       case rest =>
        clear HC12
        try clear c1; try clear c2; try clear c2b0; try clear c2b1; try clear p2; try clear p3; try clear q3; try clear hx3; try clear c6; try clear c6b0; try clear c6b1; try clear c7; try clear c10; try clear c10b0; try clear c11; try clear c11b0; try clear c14; try clear c14b0; try clear c14b1; try clear c15; try clear c15b0; try clear c15b1; try clear c15b2; try clear c16; try clear c16b0; try clear c16b1; try clear c16b2; try clear hcz9_0; try clear hcz9_1; try clear hfz9_0; try clear hfz9_1; try clear hx355_0; try clear hx355_1; try clear hx355_2; try clear hx356_0; try clear hx356_1; try clear hx356_2; try clear p2; try clear p355; try clear p356; try clear q355; try clear q356
        obtain ⟨kq, x7_11, rfl, HA, HJ11, HO_3, BK351, HB⟩ := hcut
        cases kq with
        | zero => exact absurd HA.out (by simp [neumelaw08_TokenPlaces.j1])
        | succ kj11 =>
         have H := HA.out
         clear HA
         simp only [neumelaw08_TokenPlaces.j1] at H
         have HC17 := sd_ H
         clear H
         go_upto_region 13 with (fail)
         repeat (go_quiet (fail); go_upto_region 13 with (fail))
         go_cut [98] (fun v98 wc => ∃ (kq : Nat) (x98_16 : Bool), v98 = .bool x98_16 ∧ Aside0 (neumelaw08_TokenPlaces.j2 kq a0 t346 x5_1 x6_1 x7_11 x98_16 = some r) ∧ Aside0 (kq ≤ kj11) ∧ Aside0 (Kd.R k34 34 wc w.heap.size (fun _ => True) (.slice (some ad355) t346.length co13) t346) ∧ Aside0 (wc.heap[gb351]? = some (.cells #[.int .i64 t349, .int .i64 t350] 26 (0, 0))) ∧ Aside0 (Below w.heap.size w wc))
         case first =>
          have H := HC17.out
          clear HC17
          by_cases c18 : 0 ≤ x6_1
          ·rw [if_pos c18] at H
           have c18b0 : decide (0 ≤ x6_1) = true := dt_ c18
           clear c18
           (first | rw [c18b0] | (simp only [i64_w, i32_w]; rw [c18b0]) | skip)
           by_cases c19 : x6_1 < (t346.length : Int)
           ·rw [if_pos c19] at H
            have c19b0 : decide (x6_1 < (t346.length : Int)) = true := dt_ c19
            clear c19
            by_cases c20 : ((rd_T34 t346 x6_1).f2) < x5_1
            ·rw [if_pos c20] at H
             have c20b0 : decide (((rd_T34 t346 x6_1).f2) < x5_1) = true := dt_ c20
             clear c20
             have H' := sd_ H
             clear H
             have p357 : 0 ≤ (x6_1 : Int) := od_ (by first | (with_reducible assumption) | assumption)
             have q357 : x6_1 < (t346.length : Int) := od_ (by first | (with_reducible assumption) | assumption)
             obtain ⟨ad357, e357, hx357_0, hx357_1, hx357_2⟩ := at_T34 (Kd.R_reads' HO_3.out).2.2 x6_1 p357 q357
             obtain rfl : ad355 = ad357 := (by injection e357)
             replace p357 := eq_true p357
             replace q357 := eq_true q357
             go_wp2
             repeat (go_quiet (fail); try go_wp2)
             go_meet
             case rel => exact ⟨_, (true), (by first | rfl | (simp; done) | (simp [*]; done) | (simp [bne]; done)), H', ⟨by have := HK1.out; have := HJ11.out; first | omega | exact Nat.le_refl _⟩, ⟨by (with_reducible repeat (first | apply Kd.R_alloc | apply Kd.R_drewN | apply Kd.R_drew)); exact HO_3.out⟩, ⟨by (with_reducible repeat first | apply kn_ | apply kd_ | apply ka_); exact BK351.out⟩, ⟨by repeat (first | (with_reducible first | exact HB.out | apply ba_ | apply pd_ | apply d1_ | refine bs_ ?_ GE351.out) | exact HB.out)⟩⟩
            ·rw [if_neg c20] at H
             have c20b0 : decide (((rd_T34 t346 x6_1).f2) < x5_1) = false := df_ c20
             clear c20
             by_cases c21 : ((rd_T34 t346 x6_1).f2) > (wrap64 ((a0.size : Int) - (x7_11.size : Int)))
             ·rw [if_pos c21] at H
              have c21b0 : decide ((wrap64 ((a0.size : Int) - (x7_11.size : Int))) < ((rd_T34 t346 x6_1).f2)) = true := dt_ c21
              clear c21
              have H' := sd_ H
              clear H
              have p357 : 0 ≤ (x6_1 : Int) := od_ (by first | (with_reducible assumption) | assumption)
              have q357 : x6_1 < (t346.length : Int) := od_ (by first | (with_reducible assumption) | assumption)
              obtain ⟨ad357, e357, hx357_0, hx357_1, hx357_2⟩ := at_T34 (Kd.R_reads' HO_3.out).2.2 x6_1 p357 q357
              obtain rfl : ad355 = ad357 := (by injection e357)
              replace p357 := eq_true p357
              replace q357 := eq_true q357
              have p358 : 0 ≤ (x6_1 : Int) := od_ (by first | (with_reducible assumption) | assumption)
              have q358 : x6_1 < (t346.length : Int) := od_ (by first | (with_reducible assumption) | assumption)
              obtain ⟨ad358, e358, hx358_0, hx358_1, hx358_2⟩ := at_T34 (Kd.R_reads' HO_3.out).2.2 x6_1 p358 q358
              obtain rfl : ad355 = ad358 := (by injection e358)
              replace p358 := eq_true p358
              replace q358 := eq_true q358
              go_wp2
              repeat (go_quiet (fail); try go_wp2)
              go_meet
              case rel => exact ⟨_, (true), (by first | rfl | (simp; done) | (simp [*]; done) | (simp [bne]; done)), H', ⟨by have := HK1.out; have := HJ11.out; first | omega | exact Nat.le_refl _⟩, ⟨by (with_reducible repeat (first | apply Kd.R_alloc | apply Kd.R_drewN | apply Kd.R_drew)); exact HO_3.out⟩, ⟨by (with_reducible repeat first | apply kn_ | apply kd_ | apply ka_); exact BK351.out⟩, ⟨by repeat (first | (with_reducible first | exact HB.out | apply ba_ | apply pd_ | apply d1_ | refine bs_ ?_ GE351.out) | exact HB.out)⟩⟩
             ·rw [if_neg c21] at H
              have c21b0 : decide ((wrap64 ((a0.size : Int) - (x7_11.size : Int))) < ((rd_T34 t346 x6_1).f2)) = false := df_ c21
              clear c21
              by_cases c22 : 0 ≤ ((rd_T34 t346 x6_1).f2)
              ·rw [if_pos c22] at H
               have c22b0 := eq_true c22
               have c22b1 : decide (0 ≤ ((rd_T34 t346 x6_1).f2)) = true := dt_ c22
               clear c22
               by_cases c23 : ((rd_T34 t346 x6_1).f2) ≤ (wrap64 (((rd_T34 t346 x6_1).f2) + (x7_11.size : Int)))
               ·rw [if_pos c23] at H
                have c23b0 := eq_true c23
                have c23b1 : decide (((rd_T34 t346 x6_1).f2) ≤ (wrap64 (((rd_T34 t346 x6_1).f2) + (x7_11.size : Int)))) = true := dt_ c23
                by_cases c24 : (wrap64 (((rd_T34 t346 x6_1).f2) + (x7_11.size : Int))) ≤ (a0.size : Int)
                ·rw [if_pos c24] at H
                 have c24b0 := eq_true c24
                 have c24b1 : decide ((wrap64 (((rd_T34 t346 x6_1).f2) + (x7_11.size : Int))) ≤ (a0.size : Int)) = true := dt_ c24
                 have H' := sd_ H
                 clear H
                 have p357 : 0 ≤ (x6_1 : Int) := od_ (by first | (with_reducible assumption) | assumption)
                 have q357 : x6_1 < (t346.length : Int) := od_ (by first | (with_reducible assumption) | assumption)
                 obtain ⟨ad357, e357, hx357_0, hx357_1, hx357_2⟩ := at_T34 (Kd.R_reads' HO_3.out).2.2 x6_1 p357 q357
                 obtain rfl : ad355 = ad357 := (by injection e357)
                 replace p357 := eq_true p357
                 replace q357 := eq_true q357
                 have p358 : 0 ≤ (x6_1 : Int) := od_ (by first | (with_reducible assumption) | assumption)
                 have q358 : x6_1 < (t346.length : Int) := od_ (by first | (with_reducible assumption) | assumption)
                 obtain ⟨ad358, e358, hx358_0, hx358_1, hx358_2⟩ := at_T34 (Kd.R_reads' HO_3.out).2.2 x6_1 p358 q358
                 obtain rfl : ad355 = ad358 := (by injection e358)
                 replace p358 := eq_true p358
                 replace q358 := eq_true q358
                 have p359 : 0 ≤ (x6_1 : Int) := od_ (by first | (with_reducible assumption) | assumption)
                 have q359 : x6_1 < (t346.length : Int) := od_ (by first | (with_reducible assumption) | assumption)
                 obtain ⟨ad359, e359, hx359_0, hx359_1, hx359_2⟩ := at_T34 (Kd.R_reads' HO_3.out).2.2 x6_1 p359 q359
                 obtain rfl : ad355 = ad359 := (by injection e359)
                 replace p359 := eq_true p359
                 replace q359 := eq_true q359
                 have p360 : 0 ≤ (x6_1 : Int) := od_ (by first | (with_reducible assumption) | assumption)
                 have q360 : x6_1 < (t346.length : Int) := od_ (by first | (with_reducible assumption) | assumption)
                 obtain ⟨ad360, e360, hx360_0, hx360_1, hx360_2⟩ := at_T34 (Kd.R_reads' HO_3.out).2.2 x6_1 p360 q360
                 obtain rfl : ad355 = ad360 := (by injection e360)
                 replace p360 := eq_true p360
                 replace q360 := eq_true q360
                 go_wp2
                 repeat (go_quiet (fail); try go_wp2)
                 go_meet
                 case rel => exact ⟨_, (((a0.extract (((rd_T34 t346 x6_1).f2) : Int).toNat ((wrap64 (((rd_T34 t346 x6_1).f2) + (x7_11.size : Int))) : Int).toNat).toList != x7_11.toList)), (by first | rfl | (simp; done) | (simp [*]; done) | (simp [bne]; done)), H', ⟨by have := HK1.out; have := HJ11.out; first | omega | exact Nat.le_refl _⟩, ⟨by (with_reducible repeat (first | apply Kd.R_alloc | apply Kd.R_drewN | apply Kd.R_drew)); exact HO_3.out⟩, ⟨by (with_reducible repeat first | apply kn_ | apply kd_ | apply ka_); exact BK351.out⟩, ⟨by repeat (first | (with_reducible first | exact HB.out | apply ba_ | apply pd_ | apply d1_ | refine bs_ ?_ GE351.out) | exact HB.out)⟩⟩
                ·rw [if_neg c24] at H
                 exact absurd H (by simp)
               ·rw [if_neg c23] at H
                exact absurd H (by simp)
              ·rw [if_neg c22] at H
               exact absurd H (by simp)
           ·rw [if_neg c19] at H
            exact absurd H (by simp)
          ·rw [if_neg c18] at H
           exact absurd H (by simp)
         case rest =>
          clear HC17
          try clear c1; try clear c2; try clear c2b0; try clear c2b1; try clear p2; try clear p3; try clear q3; try clear hx3; try clear c6; try clear c6b0; try clear c6b1; try clear p6; try clear c7; try clear c10; try clear c10b0; try clear c11; try clear c11b0; try clear c14; try clear c14b0; try clear c14b1; try clear c15; try clear c15b0; try clear c15b1; try clear c15b2; try clear c16; try clear c16b0; try clear c16b1; try clear c16b2; try clear c18; try clear c18b0; try clear c19; try clear c19b0; try clear c20; try clear c20b0; try clear c21; try clear c21b0; try clear c22; try clear c22b0; try clear c22b1; try clear c23; try clear c23b0; try clear c23b1; try clear c24; try clear c24b0; try clear c24b1; try clear hcz9_0; try clear hcz9_1; try clear hfz9_0; try clear hfz9_1; try clear hx355_0; try clear hx355_1; try clear hx355_2; try clear hx356_0; try clear hx356_1; try clear hx356_2; try clear hx357_0; try clear hx357_1; try clear hx357_2; try clear hx358_0; try clear hx358_1; try clear hx358_2; try clear hx359_0; try clear hx359_1; try clear hx359_2; try clear hx360_0; try clear hx360_1; try clear hx360_2; try clear p2; try clear p3; try clear p355; try clear p356; try clear p357; try clear p358; try clear p359; try clear p360; try clear q3; try clear q355; try clear q356; try clear q357; try clear q358; try clear q359; try clear q360
          obtain ⟨kq, x98_16, rfl, HA, HJ16, HO_3, BK351, HB⟩ := hcut
          cases kq with
          | zero => exact absurd HA.out (by simp [neumelaw08_TokenPlaces.j2])
          | succ kj16 =>
           have H := HA.out
           clear HA
           simp only [neumelaw08_TokenPlaces.j2] at H
           by_cases c25 : x98_16 = true
           ·subst c25
            have H1 : (some false) = some r := by rw [if_pos rfl] at H; exact H
            clear H; have H := H1; clear H1
            exact absurd ((Option.some.inj H).trans hxt.out) (by decide)
           ·replace c25 := bf_ c25
            subst c25
            have H1 : (if 0 ≤ x6_1 then (if x6_1 < (t346.length : Int) then (if 0 ≤ x5_1 then (if x5_1 ≤ ((rd_T34 t346 x6_1).f2) then (if ((rd_T34 t346 x6_1).f2) ≤ (a0.size : Int) then (if (a0.extract (x5_1 : Int).toNat (((rd_T34 t346 x6_1).f2) : Int).toNat).size + 1 ≤ 9223372036854775807 then ((token_Scan.f kj16 ((a0.extract (x5_1 : Int).toNat (((rd_T34 t346 x6_1).f2) : Int).toNat) ++ (⟨#[10]⟩ : ByteArray))).bind fun bt362 => (if bt362.2.1 = 0 then (if (bt362.1.length : Int) = 1 then (neumelaw08_TokenPlaces.l0 kj16 a0 t346 (wrap64 (((rd_T34 t346 x6_1).f2) + (x7_11.size : Int))) (wrap64 (x6_1 + 1))) else (some false)) else (some false))) else (none)) else (none)) else (none)) else (none)) else (none)) else (none)) = some r := by rw [if_neg (show ¬ (false = true) by decide)] at H; exact H
            clear H; have H := H1; clear H1
            by_cases c26 : 0 ≤ x6_1
            ·rw [if_pos c26] at H
             have c26b0 : decide (0 ≤ x6_1) = true := dt_ c26
             clear c26
             by_cases c27 : x6_1 < (t346.length : Int)
             ·rw [if_pos c27] at H
              have c27b0 : decide (x6_1 < (t346.length : Int)) = true := dt_ c27
              clear c27
              by_cases c28 : 0 ≤ x5_1
              ·rw [if_pos c28] at H
               have c28b0 := eq_true c28
               have c28b1 : decide (0 ≤ x5_1) = true := dt_ c28
               clear c28
               by_cases c29 : x5_1 ≤ ((rd_T34 t346 x6_1).f2)
               ·rw [if_pos c29] at H
                have c29b0 := eq_true c29
                have c29b1 : decide (x5_1 ≤ ((rd_T34 t346 x6_1).f2)) = true := dt_ c29
                clear c29
                by_cases c30 : ((rd_T34 t346 x6_1).f2) ≤ (a0.size : Int)
                ·rw [if_pos c30] at H
                 have c30b0 := eq_true c30
                 have c30b1 : decide (((rd_T34 t346 x6_1).f2) ≤ (a0.size : Int)) = true := dt_ c30
                 clear c30
                 by_cases c31 : (a0.extract (x5_1 : Int).toNat (((rd_T34 t346 x6_1).f2) : Int).toNat).size + 1 ≤ 9223372036854775807
                 ·rw [if_pos c31] at H
                  have c31b0 := eq_true c31
                  have c31b1 : decide ((a0.extract (x5_1 : Int).toNat (((rd_T34 t346 x6_1).f2) : Int).toNat).size + 1 ≤ 9223372036854775807) = true := dt_ c31
                  try have c31b2 : (9223372036854775807 < (a0.extract (x5_1 : Int).toNat (((rd_T34 t346 x6_1).f2) : Int).toNat).size + 1) = False := eq_false (Nat.not_lt.2 c31)
                  try have c31b3 : (9223372036854775807 < (min (((rd_T34 t346 x6_1).f2) : Int).toNat a0.size - (x5_1 : Int).toNat) + 1) = False := eq_false (Nat.not_lt.2 (by have h_ := c31; simp only [ByteArray.size_extract] at h_; omega))
                  try have c31b4 : (9223372036854775807 < ((((rd_T34 t346 x6_1).f2) : Int).toNat - (x5_1 : Int).toNat) + 1) = False := eq_false (Nat.not_lt.2 (by have h_ := c31; have h2_ : ((rd_T34 t346 x6_1).f2) ≤ (a0.size : Int) := (by first | assumption | exact of_eq_true (by assumption) | exact of_decide_eq_true (by assumption)); simp only [ByteArray.size_extract] at h_; omega))
                  replace H := ob_ H
                  obtain ⟨⟨t362, t365, t366⟩, A320, H⟩ := H
                  replace H : (if t365 = 0 then (if (t362.length : Int) = 1 then (neumelaw08_TokenPlaces.l0 kj16 a0 t346 (wrap64 (((rd_T34 t346 x6_1).f2) + (x7_11.size : Int))) (wrap64 (x6_1 + 1))) else (some false)) else (some false)) = some r := H
                  have A32 := sd_ A320
                  clear A320
                  by_cases c33 : t365 = 0
                  ·rw [if_pos c33] at H
                   have c33b0 : (t365 == 0) = true := beq_iff_eq.mpr c33
                   have c33b1 : (t365 != 0) = false := bne_eq_false_iff_eq.mpr c33
                   clear c33
                   by_cases c34 : (t362.length : Int) = 1
                   ·rw [if_pos c34] at H
                    have c34b0 : ((t362.length : Int) == 1) = true := beq_iff_eq.mpr c34
                    have c34b1 : ((t362.length : Int) != 1) = false := bne_eq_false_iff_eq.mpr c34
                    clear c34
                    have H' := sd_ H
                    clear H
                    have p361 : 0 ≤ (x6_1 : Int) := od_ (by first | (with_reducible assumption) | assumption)
                    have q361 : x6_1 < (t346.length : Int) := od_ (by first | (with_reducible assumption) | assumption)
                    obtain ⟨ad361, e361, hx361_0, hx361_1, hx361_2⟩ := at_T34 (Kd.R_reads' HO_3.out).2.2 x6_1 p361 q361
                    obtain rfl : ad355 = ad361 := (by injection e361)
                    replace p361 := eq_true p361
                    replace q361 := eq_true q361
                    go_wp2_with (first | (go_at_call 9; (with_reducible refine (token_Scan.calls kj16 ((a0.extract (x5_1 : Int).toNat (((rd_T34 t346 x6_1).f2) : Int).toNat) ++ (⟨#[10]⟩ : ByteArray)) t362 t365 t366 _ ?side1 A32.out).mono ?_); (case side1 => first | (with_reducible exact hE) | exact sd_ (LaidE.below hE.out (bb_ HB.out (e_ GE351 e0_)))); rintro e w35 ⟨v363, rfl, ho0, hb⟩; have HO364 := sd_ (Kd.R_lower (Kd.R_new' ho0 (Kd.R_lt (by (with_reducible repeat (first | apply Kd.R_alloc | apply Kd.R_drewN | apply Kd.R_drew)); exact HO_3.out))) (bz_ (bb_ HB.out (e_ GE351 e0_)))); replace HO_3 := sd_ (Kd.R_elder' (by (with_reducible repeat (first | apply Kd.R_alloc | apply Kd.R_drewN | apply Kd.R_drew)); exact HO_3.out) (Kd.R_base ho0) hb); replace BK351 := kb_ BK351 hb; replace HB := hb_ HB (e_ GE351 e0_) hb; (try clear hb); (try clear hb2); (try clear hk); (try clear hi); (try clear ho0)) | ((with_reducible refine gate_dst (N := 9) rfl ?_); (try (refine gate_guard (by rfl) ?_; dsimp only)); refine box_event ?hg (N := 9) ?hd (cs := #[.int .i64 0, .int .i64 0]) (t := 26) ?hr ?_; (case hd => rfl); (case hg => rfl); (case hr => first | (go_simp; done) | (go_simp; rfl)); intro gb367 hg w36 hbox hb; have BK367 := sd_ hbox; have GW367 := gw_ HB (e_ GE351 e0_) hg; have GE367 := GW367; have NB351_367 := nb_ BK351 hg; have NB367_351 := sy_ NB351_367; replace HO_3 := sd_ (Kd.R_below (by (with_reducible repeat (first | apply Kd.R_alloc | apply Kd.R_drewN | apply Kd.R_drew)); exact HO_3.out) hb); replace HO364 := sd_ (Kd.R_below (by (with_reducible repeat (first | apply Kd.R_alloc | apply Kd.R_drewN | apply Kd.R_drew)); exact HO364.out) hb); replace BK351 := kb_ BK351 hb; replace HB := hb_ HB (e_ GE351 e0_) hb; clear hb hbox hg; have hnb37 := NB367_351.out; have hnc37 := NB351_367.out; have hcz38_0 : w36.cell? ⟨gb367, 0, none⟩ = some (.int .i64 0) := (kc_ BK367.out 0).trans rfl; have hcz38_1 : w36.cell? ⟨gb367, 1, none⟩ = some (.int .i64 0) := (kc_ BK367.out 1).trans rfl; have hfz38_0 := kf_ BK367.out 0; have hfz38_1 := kf_ BK367.out 1; obtain ⟨Ao39, co39, eo39⟩ := Kd.R_slice HO364.out; subst eo39; have p368 : 0 ≤ (x6_1 : Int) := od_ (by first | (with_reducible assumption) | assumption); have q368 : x6_1 < (t346.length : Int) := od_ (by first | (with_reducible assumption) | assumption); obtain ⟨ad368, e368, hx368_0, hx368_1, hx368_2⟩ := at_T34 (Kd.R_reads' HO_3.out).2.2 x6_1 p368 q368; obtain rfl : ad355 = ad368 := (by injection e368); have hn368_0 : ad355.block ≠ gb367 := Kd.own_blk (Kd.R_ne HO_3.out BK367.out (by decide)); have hn368_1 : ad355.block ≠ gb367 := Kd.own_blk (Kd.R_ne HO_3.out BK367.out (by decide)); replace hx368_0 := (cell_far (p := ⟨gb367, 0, none⟩) (by first | (rw [ak_]; exact hn368_0) | (show (Addr.add _ _).block ≠ _; rw [ak_]; exact hn368_0) | exact hn368_0) (.int .i64 t365)).trans hx368_0; replace hx368_1 := (cell_far (p := ⟨gb367, 0, none⟩) (by first | (rw [ak_]; exact hn368_0) | (show (Addr.add _ _).block ≠ _; rw [ak_]; exact hn368_0) | exact hn368_0) (.int .i64 t365)).trans hx368_1; replace hx368_2 := (cell_far (p := ⟨gb367, 0, none⟩) (by first | (rw [ak_]; exact hn368_0) | (show (Addr.add _ _).block ≠ _; rw [ak_]; exact hn368_0) | exact hn368_0) (.int .i64 t365)).trans hx368_2; replace hx368_0 := (cell_far (p := ⟨gb367, 1, none⟩) (by first | (rw [ak_]; exact hn368_1) | (show (Addr.add _ _).block ≠ _; rw [ak_]; exact hn368_1) | exact hn368_1) (.int .i64 t366)).trans hx368_0; replace hx368_1 := (cell_far (p := ⟨gb367, 1, none⟩) (by first | (rw [ak_]; exact hn368_1) | (show (Addr.add _ _).block ≠ _; rw [ak_]; exact hn368_1) | exact hn368_1) (.int .i64 t366)).trans hx368_1; replace hx368_2 := (cell_far (p := ⟨gb367, 1, none⟩) (by first | (rw [ak_]; exact hn368_1) | (show (Addr.add _ _).block ≠ _; rw [ak_]; exact hn368_1) | exact hn368_1) (.int .i64 t366)).trans hx368_2; (try have hy368_0 := fun (n_ : Nat) => (show ((((w36.drewN n_).setCell ⟨gb367, 0, none⟩ (.int .i64 t365)).setCell ⟨gb367, 1, none⟩ (.int .i64 t366))).cell? _ = some _ from hx368_0)); (try have hy368_1 := fun (n_ : Nat) => (show ((((w36.drewN n_).setCell ⟨gb367, 0, none⟩ (.int .i64 t365)).setCell ⟨gb367, 1, none⟩ (.int .i64 t366))).cell? _ = some _ from hx368_1)); (try have hy368_2 := fun (n_ : Nat) => (show ((((w36.drewN n_).setCell ⟨gb367, 0, none⟩ (.int .i64 t365)).setCell ⟨gb367, 1, none⟩ (.int .i64 t366))).cell? _ = some _ from hx368_2)); clear hn368_0; clear hn368_1; replace p368 := eq_true p368; replace q368 := eq_true q368))
                    repeat (go_quiet (first | (go_at_call 9; (with_reducible refine (token_Scan.calls kj16 ((a0.extract (x5_1 : Int).toNat (((rd_T34 t346 x6_1).f2) : Int).toNat) ++ (⟨#[10]⟩ : ByteArray)) t362 t365 t366 _ ?side1 A32.out).mono ?_); (case side1 => first | (with_reducible exact hE) | exact sd_ (LaidE.below hE.out (bb_ HB.out (e_ GE351 e0_)))); rintro e w35 ⟨v363, rfl, ho0, hb⟩; have HO364 := sd_ (Kd.R_lower (Kd.R_new' ho0 (Kd.R_lt (by (with_reducible repeat (first | apply Kd.R_alloc | apply Kd.R_drewN | apply Kd.R_drew)); exact HO_3.out))) (bz_ (bb_ HB.out (e_ GE351 e0_)))); replace HO_3 := sd_ (Kd.R_elder' (by (with_reducible repeat (first | apply Kd.R_alloc | apply Kd.R_drewN | apply Kd.R_drew)); exact HO_3.out) (Kd.R_base ho0) hb); replace BK351 := kb_ BK351 hb; replace HB := hb_ HB (e_ GE351 e0_) hb; (try clear hb); (try clear hb2); (try clear hk); (try clear hi); (try clear ho0)) | ((with_reducible refine gate_dst (N := 9) rfl ?_); (try (refine gate_guard (by rfl) ?_; dsimp only)); refine box_event ?hg (N := 9) ?hd (cs := #[.int .i64 0, .int .i64 0]) (t := 26) ?hr ?_; (case hd => rfl); (case hg => rfl); (case hr => first | (go_simp; done) | (go_simp; rfl)); intro gb367 hg w36 hbox hb; have BK367 := sd_ hbox; have GW367 := gw_ HB (e_ GE351 e0_) hg; have GE367 := GW367; have NB351_367 := nb_ BK351 hg; have NB367_351 := sy_ NB351_367; replace HO_3 := sd_ (Kd.R_below (by (with_reducible repeat (first | apply Kd.R_alloc | apply Kd.R_drewN | apply Kd.R_drew)); exact HO_3.out) hb); replace HO364 := sd_ (Kd.R_below (by (with_reducible repeat (first | apply Kd.R_alloc | apply Kd.R_drewN | apply Kd.R_drew)); exact HO364.out) hb); replace BK351 := kb_ BK351 hb; replace HB := hb_ HB (e_ GE351 e0_) hb; clear hb hbox hg; have hnb37 := NB367_351.out; have hnc37 := NB351_367.out; have hcz38_0 : w36.cell? ⟨gb367, 0, none⟩ = some (.int .i64 0) := (kc_ BK367.out 0).trans rfl; have hcz38_1 : w36.cell? ⟨gb367, 1, none⟩ = some (.int .i64 0) := (kc_ BK367.out 1).trans rfl; have hfz38_0 := kf_ BK367.out 0; have hfz38_1 := kf_ BK367.out 1; obtain ⟨Ao39, co39, eo39⟩ := Kd.R_slice HO364.out; subst eo39; have p368 : 0 ≤ (x6_1 : Int) := od_ (by first | (with_reducible assumption) | assumption); have q368 : x6_1 < (t346.length : Int) := od_ (by first | (with_reducible assumption) | assumption); obtain ⟨ad368, e368, hx368_0, hx368_1, hx368_2⟩ := at_T34 (Kd.R_reads' HO_3.out).2.2 x6_1 p368 q368; obtain rfl : ad355 = ad368 := (by injection e368); have hn368_0 : ad355.block ≠ gb367 := Kd.own_blk (Kd.R_ne HO_3.out BK367.out (by decide)); have hn368_1 : ad355.block ≠ gb367 := Kd.own_blk (Kd.R_ne HO_3.out BK367.out (by decide)); replace hx368_0 := (cell_far (p := ⟨gb367, 0, none⟩) (by first | (rw [ak_]; exact hn368_0) | (show (Addr.add _ _).block ≠ _; rw [ak_]; exact hn368_0) | exact hn368_0) (.int .i64 t365)).trans hx368_0; replace hx368_1 := (cell_far (p := ⟨gb367, 0, none⟩) (by first | (rw [ak_]; exact hn368_0) | (show (Addr.add _ _).block ≠ _; rw [ak_]; exact hn368_0) | exact hn368_0) (.int .i64 t365)).trans hx368_1; replace hx368_2 := (cell_far (p := ⟨gb367, 0, none⟩) (by first | (rw [ak_]; exact hn368_0) | (show (Addr.add _ _).block ≠ _; rw [ak_]; exact hn368_0) | exact hn368_0) (.int .i64 t365)).trans hx368_2; replace hx368_0 := (cell_far (p := ⟨gb367, 1, none⟩) (by first | (rw [ak_]; exact hn368_1) | (show (Addr.add _ _).block ≠ _; rw [ak_]; exact hn368_1) | exact hn368_1) (.int .i64 t366)).trans hx368_0; replace hx368_1 := (cell_far (p := ⟨gb367, 1, none⟩) (by first | (rw [ak_]; exact hn368_1) | (show (Addr.add _ _).block ≠ _; rw [ak_]; exact hn368_1) | exact hn368_1) (.int .i64 t366)).trans hx368_1; replace hx368_2 := (cell_far (p := ⟨gb367, 1, none⟩) (by first | (rw [ak_]; exact hn368_1) | (show (Addr.add _ _).block ≠ _; rw [ak_]; exact hn368_1) | exact hn368_1) (.int .i64 t366)).trans hx368_2; (try have hy368_0 := fun (n_ : Nat) => (show ((((w36.drewN n_).setCell ⟨gb367, 0, none⟩ (.int .i64 t365)).setCell ⟨gb367, 1, none⟩ (.int .i64 t366))).cell? _ = some _ from hx368_0)); (try have hy368_1 := fun (n_ : Nat) => (show ((((w36.drewN n_).setCell ⟨gb367, 0, none⟩ (.int .i64 t365)).setCell ⟨gb367, 1, none⟩ (.int .i64 t366))).cell? _ = some _ from hx368_1)); (try have hy368_2 := fun (n_ : Nat) => (show ((((w36.drewN n_).setCell ⟨gb367, 0, none⟩ (.int .i64 t365)).setCell ⟨gb367, 1, none⟩ (.int .i64 t366))).cell? _ = some _ from hx368_2)); clear hn368_0; clear hn368_1; replace p368 := eq_true p368; replace q368 := eq_true q368)); try go_wp2_with (first | (go_at_call 9; (with_reducible refine (token_Scan.calls kj16 ((a0.extract (x5_1 : Int).toNat (((rd_T34 t346 x6_1).f2) : Int).toNat) ++ (⟨#[10]⟩ : ByteArray)) t362 t365 t366 _ ?side1 A32.out).mono ?_); (case side1 => first | (with_reducible exact hE) | exact sd_ (LaidE.below hE.out (bb_ HB.out (e_ GE351 e0_)))); rintro e w35 ⟨v363, rfl, ho0, hb⟩; have HO364 := sd_ (Kd.R_lower (Kd.R_new' ho0 (Kd.R_lt (by (with_reducible repeat (first | apply Kd.R_alloc | apply Kd.R_drewN | apply Kd.R_drew)); exact HO_3.out))) (bz_ (bb_ HB.out (e_ GE351 e0_)))); replace HO_3 := sd_ (Kd.R_elder' (by (with_reducible repeat (first | apply Kd.R_alloc | apply Kd.R_drewN | apply Kd.R_drew)); exact HO_3.out) (Kd.R_base ho0) hb); replace BK351 := kb_ BK351 hb; replace HB := hb_ HB (e_ GE351 e0_) hb; (try clear hb); (try clear hb2); (try clear hk); (try clear hi); (try clear ho0)) | ((with_reducible refine gate_dst (N := 9) rfl ?_); (try (refine gate_guard (by rfl) ?_; dsimp only)); refine box_event ?hg (N := 9) ?hd (cs := #[.int .i64 0, .int .i64 0]) (t := 26) ?hr ?_; (case hd => rfl); (case hg => rfl); (case hr => first | (go_simp; done) | (go_simp; rfl)); intro gb367 hg w36 hbox hb; have BK367 := sd_ hbox; have GW367 := gw_ HB (e_ GE351 e0_) hg; have GE367 := GW367; have NB351_367 := nb_ BK351 hg; have NB367_351 := sy_ NB351_367; replace HO_3 := sd_ (Kd.R_below (by (with_reducible repeat (first | apply Kd.R_alloc | apply Kd.R_drewN | apply Kd.R_drew)); exact HO_3.out) hb); replace HO364 := sd_ (Kd.R_below (by (with_reducible repeat (first | apply Kd.R_alloc | apply Kd.R_drewN | apply Kd.R_drew)); exact HO364.out) hb); replace BK351 := kb_ BK351 hb; replace HB := hb_ HB (e_ GE351 e0_) hb; clear hb hbox hg; have hnb37 := NB367_351.out; have hnc37 := NB351_367.out; have hcz38_0 : w36.cell? ⟨gb367, 0, none⟩ = some (.int .i64 0) := (kc_ BK367.out 0).trans rfl; have hcz38_1 : w36.cell? ⟨gb367, 1, none⟩ = some (.int .i64 0) := (kc_ BK367.out 1).trans rfl; have hfz38_0 := kf_ BK367.out 0; have hfz38_1 := kf_ BK367.out 1; obtain ⟨Ao39, co39, eo39⟩ := Kd.R_slice HO364.out; subst eo39; have p368 : 0 ≤ (x6_1 : Int) := od_ (by first | (with_reducible assumption) | assumption); have q368 : x6_1 < (t346.length : Int) := od_ (by first | (with_reducible assumption) | assumption); obtain ⟨ad368, e368, hx368_0, hx368_1, hx368_2⟩ := at_T34 (Kd.R_reads' HO_3.out).2.2 x6_1 p368 q368; obtain rfl : ad355 = ad368 := (by injection e368); have hn368_0 : ad355.block ≠ gb367 := Kd.own_blk (Kd.R_ne HO_3.out BK367.out (by decide)); have hn368_1 : ad355.block ≠ gb367 := Kd.own_blk (Kd.R_ne HO_3.out BK367.out (by decide)); replace hx368_0 := (cell_far (p := ⟨gb367, 0, none⟩) (by first | (rw [ak_]; exact hn368_0) | (show (Addr.add _ _).block ≠ _; rw [ak_]; exact hn368_0) | exact hn368_0) (.int .i64 t365)).trans hx368_0; replace hx368_1 := (cell_far (p := ⟨gb367, 0, none⟩) (by first | (rw [ak_]; exact hn368_0) | (show (Addr.add _ _).block ≠ _; rw [ak_]; exact hn368_0) | exact hn368_0) (.int .i64 t365)).trans hx368_1; replace hx368_2 := (cell_far (p := ⟨gb367, 0, none⟩) (by first | (rw [ak_]; exact hn368_0) | (show (Addr.add _ _).block ≠ _; rw [ak_]; exact hn368_0) | exact hn368_0) (.int .i64 t365)).trans hx368_2; replace hx368_0 := (cell_far (p := ⟨gb367, 1, none⟩) (by first | (rw [ak_]; exact hn368_1) | (show (Addr.add _ _).block ≠ _; rw [ak_]; exact hn368_1) | exact hn368_1) (.int .i64 t366)).trans hx368_0; replace hx368_1 := (cell_far (p := ⟨gb367, 1, none⟩) (by first | (rw [ak_]; exact hn368_1) | (show (Addr.add _ _).block ≠ _; rw [ak_]; exact hn368_1) | exact hn368_1) (.int .i64 t366)).trans hx368_1; replace hx368_2 := (cell_far (p := ⟨gb367, 1, none⟩) (by first | (rw [ak_]; exact hn368_1) | (show (Addr.add _ _).block ≠ _; rw [ak_]; exact hn368_1) | exact hn368_1) (.int .i64 t366)).trans hx368_2; (try have hy368_0 := fun (n_ : Nat) => (show ((((w36.drewN n_).setCell ⟨gb367, 0, none⟩ (.int .i64 t365)).setCell ⟨gb367, 1, none⟩ (.int .i64 t366))).cell? _ = some _ from hx368_0)); (try have hy368_1 := fun (n_ : Nat) => (show ((((w36.drewN n_).setCell ⟨gb367, 0, none⟩ (.int .i64 t365)).setCell ⟨gb367, 1, none⟩ (.int .i64 t366))).cell? _ = some _ from hx368_1)); (try have hy368_2 := fun (n_ : Nat) => (show ((((w36.drewN n_).setCell ⟨gb367, 0, none⟩ (.int .i64 t365)).setCell ⟨gb367, 1, none⟩ (.int .i64 t366))).cell? _ = some _ from hx368_2)); clear hn368_0; clear hn368_1; replace p368 := eq_true p368; replace q368 := eq_true q368)))
                    go_roundg kj16
                    case measure => have := HK1.out; have := HJ11.out; have := HJ16.out; omega
                    case rel => exact ⟨(wrap64 (((rd_T34 t346 x6_1).f2) + (x7_11.size : Int))), (wrap64 (x6_1 + 1)), (by first | rfl | (simp; done) | (simp [*]; done) | (simp [bne]; done)), (by first | rfl | (simp; done) | (simp [*]; done) | (simp [bne]; done)), H', ⟨by have := HK1.out; have := HJ11.out; have := HJ16.out; omega⟩, ⟨by (with_reducible repeat (first | apply Kd.R_alloc | apply Kd.R_drewN | apply Kd.R_drew)); exact Kd.R_mono (Kd.R_far (p := ⟨gb367, 1, none⟩) (Kd.R_far (p := ⟨gb367, 0, none⟩) (Kd.R_types HO_3.out BK367.out (by decide)) (fun _ hk => hk.2) (.int .i64 t365)) (fun _ hk => hk.2) (.int .i64 t366)) (fun _ hk => trivial)⟩, ⟨by (with_reducible repeat first | apply kn_ | apply kd_ | apply ka_); refine blk_far ?_ NB351_367.out _; (with_reducible repeat first | apply kn_ | apply kd_ | apply ka_); refine blk_far ?_ NB351_367.out _; (with_reducible repeat first | apply kn_ | apply kd_ | apply ka_); exact BK351.out⟩, ⟨by repeat (first | (with_reducible first | exact HB.out | apply ba_ | apply pd_ | apply d1_ | refine bs_ ?_ GE351.out | refine bs_ ?_ GE367.out) | exact HB.out)⟩⟩
                   ·rw [if_neg c34] at H
                    have c34b0 : ((t362.length : Int) == 1) = false := beq_eq_false_iff_ne.mpr c34
                    have c34b1 : ((t362.length : Int) != 1) = true := bne_iff_ne.mpr c34
                    exact absurd ((Option.some.inj H).trans hxt.out) (by decide)
                  ·rw [if_neg c33] at H
                   have c33b0 : (t365 == 0) = false := beq_eq_false_iff_ne.mpr c33
                   have c33b1 : (t365 != 0) = true := bne_iff_ne.mpr c33
                   exact absurd ((Option.some.inj H).trans hxt.out) (by decide)
                 ·rw [if_neg c31] at H
                  exact absurd H (by simp)
                ·rw [if_neg c30] at H
                 exact absurd H (by simp)
               ·rw [if_neg c29] at H
                exact absurd H (by simp)
              ·rw [if_neg c28] at H
               exact absurd H (by simp)
             ·rw [if_neg c27] at H
              exact absurd H (by simp)
            ·rw [if_neg c26] at H
             exact absurd H (by simp)
      ·rw [if_neg c11] at H
       exact absurd H (by simp)
     ·rw [if_neg c10] at H
      have c10b0 : decide (x6_1 < (t346.length : Int)) = false := df_ c10
      clear c10
      by_cases c40 : x5_1 = (a0.size : Int)
      ·rw [if_pos c40] at H
       have c40b0 : (x5_1 == (a0.size : Int)) = true := beq_iff_eq.mpr c40
       have c40b1 : (x5_1 != (a0.size : Int)) = false := bne_eq_false_iff_eq.mpr c40
       clear c40
       replace H := ob_ H
       obtain ⟨t353, A410, H⟩ := H
       replace H : (if t353 = true then ((neumelaw08_heads.f k1).bind fun t354 => (some t354)) else (some false)) = some r := H
       have A41 := sd_ A410
       clear A410
       by_cases c42 : t353 = true
       ·subst c42
        have H1 : ((neumelaw08_heads.f k1).bind fun t354 => (some t354)) = some r := by rw [if_pos rfl] at H; exact H
        clear H; have H := H1; clear H1
        replace H := ob_ H
        obtain ⟨t354, A430, H⟩ := H
        replace H : (some t354) = some r := H
        have A43 := sd_ A430
        clear A430
        obtain rfl := Option.some.inj H
        obtain ⟨Ao44, co44, eo44⟩ := Kd.R_slice HO_3.out
        subst eo44
        go_wp2_with (first | (go_at_call 13; (with_reducible refine (token_Check.calls k1 _ _ t346 true _ ?side1 ?side2 ?side3 A41.out).mono ?_); (case side1 => repeat (first | exact (Kd.R_reads' HO_3.out).2.2 | (with_reducible refine Kd.C_alloc ?_ _) | (with_reducible refine Kd.C_drewN ?_ _) | (with_reducible refine Kd.C_drew ?_))); (case side2 => exact (Kd.R_reads' HO_3.out).2.1); (case side3 => first | (with_reducible exact hE) | exact sd_ (LaidE.below hE.out (bb_ HB.out (e_ GE351 e0_)))); rintro e w45 ⟨rfl, hb⟩; replace HO_3 := sd_ (Kd.R_below (by (with_reducible repeat (first | apply Kd.R_alloc | apply Kd.R_drewN | apply Kd.R_drew)); exact HO_3.out) hb); replace BK351 := kb_ BK351 hb; replace HB := hb_ HB (e_ GE351 e0_) hb; (try clear hb); (try clear hb2); (try clear hk); (try clear hi)) | (go_at_call 8; (with_reducible refine (neumelaw08_heads.calls k1  t354 _ ?side1 A43.out).mono ?_); (case side1 => first | (with_reducible exact hE) | exact sd_ (LaidE.below hE.out (bb_ HB.out (e_ GE351 e0_)))); rintro e w46 ⟨rfl, hb⟩; replace HO_3 := sd_ (Kd.R_below (by (with_reducible repeat (first | apply Kd.R_alloc | apply Kd.R_drewN | apply Kd.R_drew)); exact HO_3.out) hb); replace BK351 := kb_ BK351 hb; replace HB := hb_ HB (e_ GE351 e0_) hb; (try clear hb); (try clear hb2); (try clear hk); (try clear hi)))
        repeat (go_quiet (first | (go_at_call 13; (with_reducible refine (token_Check.calls k1 _ _ t346 true _ ?side1 ?side2 ?side3 A41.out).mono ?_); (case side1 => repeat (first | exact (Kd.R_reads' HO_3.out).2.2 | (with_reducible refine Kd.C_alloc ?_ _) | (with_reducible refine Kd.C_drewN ?_ _) | (with_reducible refine Kd.C_drew ?_))); (case side2 => exact (Kd.R_reads' HO_3.out).2.1); (case side3 => first | (with_reducible exact hE) | exact sd_ (LaidE.below hE.out (bb_ HB.out (e_ GE351 e0_)))); rintro e w45 ⟨rfl, hb⟩; replace HO_3 := sd_ (Kd.R_below (by (with_reducible repeat (first | apply Kd.R_alloc | apply Kd.R_drewN | apply Kd.R_drew)); exact HO_3.out) hb); replace BK351 := kb_ BK351 hb; replace HB := hb_ HB (e_ GE351 e0_) hb; (try clear hb); (try clear hb2); (try clear hk); (try clear hi)) | (go_at_call 8; (with_reducible refine (neumelaw08_heads.calls k1  t354 _ ?side1 A43.out).mono ?_); (case side1 => first | (with_reducible exact hE) | exact sd_ (LaidE.below hE.out (bb_ HB.out (e_ GE351 e0_)))); rintro e w46 ⟨rfl, hb⟩; replace HO_3 := sd_ (Kd.R_below (by (with_reducible repeat (first | apply Kd.R_alloc | apply Kd.R_drewN | apply Kd.R_drew)); exact HO_3.out) hb); replace BK351 := kb_ BK351 hb; replace HB := hb_ HB (e_ GE351 e0_) hb; (try clear hb); (try clear hb2); (try clear hk); (try clear hi))); try go_wp2_with (first | (go_at_call 13; (with_reducible refine (token_Check.calls k1 _ _ t346 true _ ?side1 ?side2 ?side3 A41.out).mono ?_); (case side1 => repeat (first | exact (Kd.R_reads' HO_3.out).2.2 | (with_reducible refine Kd.C_alloc ?_ _) | (with_reducible refine Kd.C_drewN ?_ _) | (with_reducible refine Kd.C_drew ?_))); (case side2 => exact (Kd.R_reads' HO_3.out).2.1); (case side3 => first | (with_reducible exact hE) | exact sd_ (LaidE.below hE.out (bb_ HB.out (e_ GE351 e0_)))); rintro e w45 ⟨rfl, hb⟩; replace HO_3 := sd_ (Kd.R_below (by (with_reducible repeat (first | apply Kd.R_alloc | apply Kd.R_drewN | apply Kd.R_drew)); exact HO_3.out) hb); replace BK351 := kb_ BK351 hb; replace HB := hb_ HB (e_ GE351 e0_) hb; (try clear hb); (try clear hb2); (try clear hk); (try clear hi)) | (go_at_call 8; (with_reducible refine (neumelaw08_heads.calls k1  t354 _ ?side1 A43.out).mono ?_); (case side1 => first | (with_reducible exact hE) | exact sd_ (LaidE.below hE.out (bb_ HB.out (e_ GE351 e0_)))); rintro e w46 ⟨rfl, hb⟩; replace HO_3 := sd_ (Kd.R_below (by (with_reducible repeat (first | apply Kd.R_alloc | apply Kd.R_drewN | apply Kd.R_drew)); exact HO_3.out) hb); replace BK351 := kb_ BK351 hb; replace HB := hb_ HB (e_ GE351 e0_) hb; (try clear hb); (try clear hb2); (try clear hk); (try clear hi))))
        go_ret
        exact ⟨by first | rfl | (simp [errW_none, errW_some] <;> rfl) | (simp [*, errW_none, errW_some] <;> rfl), by repeat (first | (with_reducible first | exact HB.out | apply ba_ | apply pd_ | apply d1_ | refine bs_ ?_ GE351.out) | exact HB.out)⟩
       ·replace c42 := bf_ c42
        subst c42
        have H1 : (some false) = some r := by rw [if_neg (show ¬ (false = true) by decide)] at H; exact H
        clear H; have H := H1; clear H1
        exact absurd ((Option.some.inj H).trans hxt.out) (by decide)
      ·rw [if_neg c40] at H
       have c40b0 : (x5_1 == (a0.size : Int)) = false := beq_eq_false_iff_ne.mpr c40
       have c40b1 : (x5_1 != (a0.size : Int)) = true := bne_iff_ne.mpr c40
       exact absurd ((Option.some.inj H).trans hxt.out) (by decide)
  ·rw [if_neg c6] at H
   have c6b0 : (t349 == 0) = false := beq_eq_false_iff_ne.mpr c6
   have c6b1 : (t349 != 0) = true := bne_iff_ne.mpr c6
   by_cases c47 : t350 ≥ 0
   ·rw [if_pos c47] at H
    have c47b0 : decide (0 ≤ t350) = true := dt_ c47
    clear c47
    by_cases c48 : t350 ≤ (a0.size : Int)
    ·rw [if_pos c48] at H
     have c48b0 : decide (t350 ≤ (a0.size : Int)) = true := dt_ c48
     clear c48
     by_cases c49 : (t346.length : Int) = 0
     ·rw [if_pos c49] at H
      have c49b0 : ((t346.length : Int) == 0) = true := beq_iff_eq.mpr c49
      have c49b1 : ((t346.length : Int) != 0) = false := bne_eq_false_iff_eq.mpr c49
      clear c49
      replace H := ob_ H
      obtain ⟨t352, A500, H⟩ := H
      replace H : (some t352) = some r := H
      have A50 := sd_ A500
      clear A500
      obtain rfl := Option.some.inj H
      go_enter Tryd.func7, Tryd.ntmps7
      go_wp2_with (first | (go_at_call 9; (with_reducible refine (token_Scan.calls k a0 t346 t349 t350 _ ?side1 A5.out).mono ?_); (case side1 => first | (with_reducible exact hE) | exact sd_ (LaidE.below hE.out (bb_ HB.out e0_))); rintro e w51 ⟨v347, rfl, ho0, hb⟩; have HO348 := sd_ (Kd.R_lower ho0 (bz_ (bb_ HB.out e0_))); replace HB := hb_ HB e0_ hb; (try clear hb); (try clear hb2); (try clear hk); (try clear hi); (try clear ho0)) | ((with_reducible refine gate_dst (N := 4) rfl ?_); (try (refine gate_guard (by rfl) ?_; dsimp only)); refine box_event ?hg (N := 4) ?hd (cs := #[.int .i64 0, .int .i64 0]) (t := 26) ?hr ?_; (case hd => rfl); (case hg => rfl); (case hr => first | (go_simp; done) | (go_simp; rfl)); intro gb351 hg w52 hbox hb; have BK351 := sd_ hbox; have GW351 := gw_ HB e0_ hg; have GE351 := GW351; replace HO348 := sd_ (Kd.R_below (by (with_reducible repeat (first | apply Kd.R_alloc | apply Kd.R_drewN | apply Kd.R_drew)); exact HO348.out) hb); replace HB := hb_ HB e0_ hb; clear hb hbox hg; have hcz53_0 : w52.cell? ⟨gb351, 0, none⟩ = some (.int .i64 0) := (kc_ BK351.out 0).trans rfl; have hcz53_1 : w52.cell? ⟨gb351, 1, none⟩ = some (.int .i64 0) := (kc_ BK351.out 1).trans rfl; have hfz53_0 := kf_ BK351.out 0; have hfz53_1 := kf_ BK351.out 1; obtain ⟨Ao54, co54, eo54⟩ := Kd.R_slice HO348.out; subst eo54) | (go_at_call 8; (with_reducible refine (neumelaw08_heads.calls k  t352 _ ?side1 A50.out).mono ?_); (case side1 => first | (with_reducible exact hE) | exact sd_ (LaidE.below hE.out (bb_ HB.out (e_ GE351 e0_)))); rintro e w55 ⟨rfl, hb⟩; have n0_ := sd_ (Kd.R_below (by (with_reducible repeat (first | apply Kd.R_alloc | apply Kd.R_drewN | apply Kd.R_drew)); exact (Kd.R_mono (Kd.R_far (p := ⟨gb351, 1, none⟩) (Kd.R_far (p := ⟨gb351, 0, none⟩) (Kd.R_types HO348.out BK351.out (by decide)) (fun _ hk => hk.2) (.int .i64 t349)) (fun _ hk => hk.2) (.int .i64 t350)) (fun _ h_ => h_.1))) hb); have n1_ := sd_ (blk_below (g := gb351) (o := .cells #[.int .i64 t349, .int .i64 t350] 26 (0, 0)) (by (with_reducible repeat first | apply kn_ | apply kd_ | apply ka_); refine blk_put (cs := #[.int .i64 t349, .int .i64 0]) ?_ 1 _ rfl; (with_reducible repeat first | apply kn_ | apply kd_ | apply ka_); refine blk_put (cs := #[.int .i64 0, .int .i64 0]) ?_ 0 _ rfl; (with_reducible repeat first | apply kn_ | apply kd_ | apply ka_); exact BK351.out) hb); have n2_ := hb_ HB (e_ GE351 e0_) hb; clear HO348; clear BK351; clear HB; have HO348 := n0_; have BK351 := n1_; have HB := n2_; clear n0_ n1_ n2_; (try clear hb); (try clear hb2); (try clear hk); (try clear hi)))
      repeat (go_quiet (first | (go_at_call 9; (with_reducible refine (token_Scan.calls k a0 t346 t349 t350 _ ?side1 A5.out).mono ?_); (case side1 => first | (with_reducible exact hE) | exact sd_ (LaidE.below hE.out (bb_ HB.out e0_))); rintro e w51 ⟨v347, rfl, ho0, hb⟩; have HO348 := sd_ (Kd.R_lower ho0 (bz_ (bb_ HB.out e0_))); replace HB := hb_ HB e0_ hb; (try clear hb); (try clear hb2); (try clear hk); (try clear hi); (try clear ho0)) | ((with_reducible refine gate_dst (N := 4) rfl ?_); (try (refine gate_guard (by rfl) ?_; dsimp only)); refine box_event ?hg (N := 4) ?hd (cs := #[.int .i64 0, .int .i64 0]) (t := 26) ?hr ?_; (case hd => rfl); (case hg => rfl); (case hr => first | (go_simp; done) | (go_simp; rfl)); intro gb351 hg w52 hbox hb; have BK351 := sd_ hbox; have GW351 := gw_ HB e0_ hg; have GE351 := GW351; replace HO348 := sd_ (Kd.R_below (by (with_reducible repeat (first | apply Kd.R_alloc | apply Kd.R_drewN | apply Kd.R_drew)); exact HO348.out) hb); replace HB := hb_ HB e0_ hb; clear hb hbox hg; have hcz53_0 : w52.cell? ⟨gb351, 0, none⟩ = some (.int .i64 0) := (kc_ BK351.out 0).trans rfl; have hcz53_1 : w52.cell? ⟨gb351, 1, none⟩ = some (.int .i64 0) := (kc_ BK351.out 1).trans rfl; have hfz53_0 := kf_ BK351.out 0; have hfz53_1 := kf_ BK351.out 1; obtain ⟨Ao54, co54, eo54⟩ := Kd.R_slice HO348.out; subst eo54) | (go_at_call 8; (with_reducible refine (neumelaw08_heads.calls k  t352 _ ?side1 A50.out).mono ?_); (case side1 => first | (with_reducible exact hE) | exact sd_ (LaidE.below hE.out (bb_ HB.out (e_ GE351 e0_)))); rintro e w55 ⟨rfl, hb⟩; have n0_ := sd_ (Kd.R_below (by (with_reducible repeat (first | apply Kd.R_alloc | apply Kd.R_drewN | apply Kd.R_drew)); exact (Kd.R_mono (Kd.R_far (p := ⟨gb351, 1, none⟩) (Kd.R_far (p := ⟨gb351, 0, none⟩) (Kd.R_types HO348.out BK351.out (by decide)) (fun _ hk => hk.2) (.int .i64 t349)) (fun _ hk => hk.2) (.int .i64 t350)) (fun _ h_ => h_.1))) hb); have n1_ := sd_ (blk_below (g := gb351) (o := .cells #[.int .i64 t349, .int .i64 t350] 26 (0, 0)) (by (with_reducible repeat first | apply kn_ | apply kd_ | apply ka_); refine blk_put (cs := #[.int .i64 t349, .int .i64 0]) ?_ 1 _ rfl; (with_reducible repeat first | apply kn_ | apply kd_ | apply ka_); refine blk_put (cs := #[.int .i64 0, .int .i64 0]) ?_ 0 _ rfl; (with_reducible repeat first | apply kn_ | apply kd_ | apply ka_); exact BK351.out) hb); have n2_ := hb_ HB (e_ GE351 e0_) hb; clear HO348; clear BK351; clear HB; have HO348 := n0_; have BK351 := n1_; have HB := n2_; clear n0_ n1_ n2_; (try clear hb); (try clear hb2); (try clear hk); (try clear hi))); try go_wp2_with (first | (go_at_call 9; (with_reducible refine (token_Scan.calls k a0 t346 t349 t350 _ ?side1 A5.out).mono ?_); (case side1 => first | (with_reducible exact hE) | exact sd_ (LaidE.below hE.out (bb_ HB.out e0_))); rintro e w51 ⟨v347, rfl, ho0, hb⟩; have HO348 := sd_ (Kd.R_lower ho0 (bz_ (bb_ HB.out e0_))); replace HB := hb_ HB e0_ hb; (try clear hb); (try clear hb2); (try clear hk); (try clear hi); (try clear ho0)) | ((with_reducible refine gate_dst (N := 4) rfl ?_); (try (refine gate_guard (by rfl) ?_; dsimp only)); refine box_event ?hg (N := 4) ?hd (cs := #[.int .i64 0, .int .i64 0]) (t := 26) ?hr ?_; (case hd => rfl); (case hg => rfl); (case hr => first | (go_simp; done) | (go_simp; rfl)); intro gb351 hg w52 hbox hb; have BK351 := sd_ hbox; have GW351 := gw_ HB e0_ hg; have GE351 := GW351; replace HO348 := sd_ (Kd.R_below (by (with_reducible repeat (first | apply Kd.R_alloc | apply Kd.R_drewN | apply Kd.R_drew)); exact HO348.out) hb); replace HB := hb_ HB e0_ hb; clear hb hbox hg; have hcz53_0 : w52.cell? ⟨gb351, 0, none⟩ = some (.int .i64 0) := (kc_ BK351.out 0).trans rfl; have hcz53_1 : w52.cell? ⟨gb351, 1, none⟩ = some (.int .i64 0) := (kc_ BK351.out 1).trans rfl; have hfz53_0 := kf_ BK351.out 0; have hfz53_1 := kf_ BK351.out 1; obtain ⟨Ao54, co54, eo54⟩ := Kd.R_slice HO348.out; subst eo54) | (go_at_call 8; (with_reducible refine (neumelaw08_heads.calls k  t352 _ ?side1 A50.out).mono ?_); (case side1 => first | (with_reducible exact hE) | exact sd_ (LaidE.below hE.out (bb_ HB.out (e_ GE351 e0_)))); rintro e w55 ⟨rfl, hb⟩; have n0_ := sd_ (Kd.R_below (by (with_reducible repeat (first | apply Kd.R_alloc | apply Kd.R_drewN | apply Kd.R_drew)); exact (Kd.R_mono (Kd.R_far (p := ⟨gb351, 1, none⟩) (Kd.R_far (p := ⟨gb351, 0, none⟩) (Kd.R_types HO348.out BK351.out (by decide)) (fun _ hk => hk.2) (.int .i64 t349)) (fun _ hk => hk.2) (.int .i64 t350)) (fun _ h_ => h_.1))) hb); have n1_ := sd_ (blk_below (g := gb351) (o := .cells #[.int .i64 t349, .int .i64 t350] 26 (0, 0)) (by (with_reducible repeat first | apply kn_ | apply kd_ | apply ka_); refine blk_put (cs := #[.int .i64 t349, .int .i64 0]) ?_ 1 _ rfl; (with_reducible repeat first | apply kn_ | apply kd_ | apply ka_); refine blk_put (cs := #[.int .i64 0, .int .i64 0]) ?_ 0 _ rfl; (with_reducible repeat first | apply kn_ | apply kd_ | apply ka_); exact BK351.out) hb); have n2_ := hb_ HB (e_ GE351 e0_) hb; clear HO348; clear BK351; clear HB; have HO348 := n0_; have BK351 := n1_; have HB := n2_; clear n0_ n1_ n2_; (try clear hb); (try clear hb2); (try clear hk); (try clear hi))))
      go_ret
      exact ⟨by first | rfl | (simp [errW_none, errW_some] <;> rfl) | (simp [*, errW_none, errW_some] <;> rfl), by repeat (first | (with_reducible first | exact HB.out | apply ba_ | apply pd_ | apply d1_ | refine bs_ ?_ GE351.out) | exact HB.out)⟩
     ·rw [if_neg c49] at H
      have c49b0 : ((t346.length : Int) == 0) = false := beq_eq_false_iff_ne.mpr c49
      have c49b1 : ((t346.length : Int) != 0) = true := bne_iff_ne.mpr c49
      have c49b2 : ¬ (t346 = []) := fun h_ => c49 (by rw [h_]; rfl)
      exact absurd ((Option.some.inj H).trans hxt.out) (by decide)
    ·rw [if_neg c48] at H
     have c48b0 : decide (t350 ≤ (a0.size : Int)) = false := df_ c48
     clear c48
     exact absurd ((Option.some.inj H).trans hxt.out) (by decide)
   ·rw [if_neg c47] at H
    have c47b0 : decide (0 ≤ t350) = false := df_ c47
    clear c47
    exact absurd ((Option.some.inj H).trans hxt.out) (by decide)

end Go.Proofs.YtmffjjncnbeldaaDoor.P
