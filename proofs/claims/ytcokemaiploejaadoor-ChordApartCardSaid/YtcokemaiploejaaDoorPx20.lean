-- Written by a program of this session (wip/tools/xprint.py, over the kit's print): Lean checks it.
import Derived.Test.YtcokemaiploejaaDoorPx0
import Derived.Test.YtcokemaiploejaaDoorPx12
import Derived.Test.YtcokemaiploejaaDoorPx13
import Derived.Test.YtcokemaiploejaaDoorPx15
import Derived.Test.YtcokemaiploejaaDoorPx17
import Derived.Test.YtcokemaiploejaaDoorPx18
namespace Go.Proofs.YtcokemaiploejaaDoor.P
open Go.RowKit Go.Proofs.YtcokemaiploejaaDoorW.PrintWords Go.Proofs.YtcokemaiploejaaDoorW.PrintLast Go.Proofs.YtcokemaiploejaaDoorW.PrintMore
attribute [local go_sem] max2_int min2_int max_two min_two max_three min_three max_four min_four   -- for this text's walks alone
set_option linter.unusedVariables false
set_option linter.unusedSimpArgs false

/-! ### neumelaw23_ChordApart: function 4 -/
mutual
def neumelaw23_ChordApart.l0 : Nat → List Int → Int → Bool → Bool → Int → Option (Bool)
 | 0, _, _, _, _, _ => none
 | k + 1, x0, x1, x2, x3, x9 => if x9 < (x0.length : Int) then (if 0 ≤ x9 then (if 0 ≤ (wrap64 (x9 - 1)) then (if (wrap64 (x9 - 1)) < (x0.length : Int) then (if (rd x0 x9) ≤ (rd x0 (wrap64 (x9 - 1))) then ((neumelaw23_heads.f k).bind fun t510 => (some t510)) else (neumelaw23_ChordApart.l0 k x0 x1 x2 x3 (wrap64 (x9 + 1)))) else (none)) else (none)) else (none)) else ((chord_Spots.f k x0 x1 x2 x3).bind fun bt511 => (if bt511.2 = 0 then ((chord_Boxes.f k x0 bt511.1 x1 x3).bind fun bt516 => (if bt516.2 = 0 then (neumelaw23_ChordApart.j1 k bt516.1 ((bt516.1.length : Int) != (x0.length : Int))) else (neumelaw23_ChordApart.j1 k bt516.1 true))) else (if (bt511.1.length : Int) = 0 then ((neumelaw23_heads.f k).bind fun t515 => (some t515)) else (some false))))
def neumelaw23_ChordApart.j1 : Nat → List (S46) → Bool → Option (Bool)
 | 0, _, _ => none
 | k + 1, x12, x69 => if x69 = true then (some false) else (neumelaw23_ChordApart.l1 k x12 0)
def neumelaw23_ChordApart.l1 : Nat → List (S46) → Int → Option (Bool)
 | 0, _, _ => none
 | k + 1, x12, x14 => if x14 < (x12.length : Int) then (neumelaw23_ChordApart.l2 k x12 x14 0) else ((neumelaw23_heads.f k).bind fun t520 => (some t520))
def neumelaw23_ChordApart.l2 : Nat → List (S46) → Int → Int → Option (Bool)
 | 0, _, _, _ => none
 | k + 1, x12, x14, x15 => if x15 < x14 then (if 0 ≤ x14 then (if x14 < (x12.length : Int) then (if 0 ≤ x15 then (if x15 < (x12.length : Int) then ((neumeref03_Meet.f ((rd_T46 x12 x14).f0) ((rd_T46 x12 x14).f1) ((rd_T46 x12 x14).f2) ((rd_T46 x12 x14).f3) ((rd_T46 x12 x15).f0) ((rd_T46 x12 x15).f1) ((rd_T46 x12 x15).f2) ((rd_T46 x12 x15).f3)).bind fun t523 => (if t523 = true then (some false) else (neumelaw23_ChordApart.l2 k x12 x14 (wrap64 (x15 + 1))))) else (none)) else (none)) else (none)) else (none)) else (neumelaw23_ChordApart.l1 k x12 (wrap64 (x14 + 1)))
end
def neumelaw23_ChordApart.f (k : Nat) (l0 : List Int) (a1 : Int) (a2 : Bool) (a3 : Bool) : Option (Bool) := if (l0.length : Int) > 100 then ((neumelaw23_heads.f k).bind fun t507 => (some t507)) else (neumelaw23_ChordApart.l0 k l0 a1 a2 a3 1)
theorem neumelaw23_ChordApart.mono_l : ∀ k, (∀ y0 y1 y2 y3 y4, LeO (neumelaw23_ChordApart.l0 k y0 y1 y2 y3 y4) (neumelaw23_ChordApart.l0 (k + 1) y0 y1 y2 y3 y4)) ∧ (∀ y0 y1, LeO (neumelaw23_ChordApart.j1 k y0 y1) (neumelaw23_ChordApart.j1 (k + 1) y0 y1)) ∧ (∀ y0 y1, LeO (neumelaw23_ChordApart.l1 k y0 y1) (neumelaw23_ChordApart.l1 (k + 1) y0 y1)) ∧ (∀ y0 y1 y2, LeO (neumelaw23_ChordApart.l2 k y0 y1 y2) (neumelaw23_ChordApart.l2 (k + 1) y0 y1 y2))
 | 0 => ⟨fun _ _ _ _ _ r h => by simp [neumelaw23_ChordApart.l0] at h, fun _ _ r h => by simp [neumelaw23_ChordApart.j1] at h, fun _ _ r h => by simp [neumelaw23_ChordApart.l1] at h, fun _ _ _ r h => by simp [neumelaw23_ChordApart.l2] at h⟩
 | k + 1 => by
  obtain ⟨ih0, ih1, ih2, ih3⟩ := neumelaw23_ChordApart.mono_l k
  refine ⟨?_, ?_, ?_, ?_⟩
  ·intro y0 y1 y2 y3 y4
   unfold neumelaw23_ChordApart.l0
   repeat' first
   | (with_reducible exact ih0 _ _ _ _ _)
   | (with_reducible exact ih1 _ _)
   | (with_reducible exact ih2 _ _)
   | (with_reducible exact ih3 _ _ _)
   | (with_reducible exact chord_Boxes.mono _ _ _ _ _)
   | (with_reducible exact chord_Spots.mono _ _ _ _ _)
   | (with_reducible exact neumelaw23_heads.mono _)
   | (with_reducible exact LeO.refl _)
   | (with_reducible exact LeO.none _)
   | (with_reducible refine LeO.ite ?_ ?_)
   | (with_reducible refine LeO.bind ?_ (fun _ => ?_))
   | exact ih0 _ _ _ _ _
   | exact ih1 _ _
   | exact ih2 _ _
   | exact ih3 _ _ _
   | exact chord_Boxes.mono _ _ _ _ _
   | exact chord_Spots.mono _ _ _ _ _
   | exact neumelaw23_heads.mono _
   | exact LeO.none _
   | refine LeO.ite ?_ ?_
   | refine LeO.bind ?_ (fun _ => ?_)
  ·intro y0 y1
   unfold neumelaw23_ChordApart.j1
   repeat' first
   | (with_reducible exact ih0 _ _ _ _ _)
   | (with_reducible exact ih1 _ _)
   | (with_reducible exact ih2 _ _)
   | (with_reducible exact ih3 _ _ _)
   | (with_reducible exact chord_Boxes.mono _ _ _ _ _)
   | (with_reducible exact chord_Spots.mono _ _ _ _ _)
   | (with_reducible exact neumelaw23_heads.mono _)
   | (with_reducible exact LeO.refl _)
   | (with_reducible exact LeO.none _)
   | (with_reducible refine LeO.ite ?_ ?_)
   | (with_reducible refine LeO.bind ?_ (fun _ => ?_))
   | exact ih0 _ _ _ _ _
   | exact ih1 _ _
   | exact ih2 _ _
   | exact ih3 _ _ _
   | exact chord_Boxes.mono _ _ _ _ _
   | exact chord_Spots.mono _ _ _ _ _
   | exact neumelaw23_heads.mono _
   | exact LeO.none _
   | refine LeO.ite ?_ ?_
   | refine LeO.bind ?_ (fun _ => ?_)
  ·intro y0 y1
   unfold neumelaw23_ChordApart.l1
   repeat' first
   | (with_reducible exact ih0 _ _ _ _ _)
   | (with_reducible exact ih1 _ _)
   | (with_reducible exact ih2 _ _)
   | (with_reducible exact ih3 _ _ _)
   | (with_reducible exact chord_Boxes.mono _ _ _ _ _)
   | (with_reducible exact chord_Spots.mono _ _ _ _ _)
   | (with_reducible exact neumelaw23_heads.mono _)
   | (with_reducible exact LeO.refl _)
   | (with_reducible exact LeO.none _)
   | (with_reducible refine LeO.ite ?_ ?_)
   | (with_reducible refine LeO.bind ?_ (fun _ => ?_))
   | exact ih0 _ _ _ _ _
   | exact ih1 _ _
   | exact ih2 _ _
   | exact ih3 _ _ _
   | exact chord_Boxes.mono _ _ _ _ _
   | exact chord_Spots.mono _ _ _ _ _
   | exact neumelaw23_heads.mono _
   | exact LeO.none _
   | refine LeO.ite ?_ ?_
   | refine LeO.bind ?_ (fun _ => ?_)
  ·intro y0 y1 y2
   unfold neumelaw23_ChordApart.l2
   repeat' first
   | (with_reducible exact ih0 _ _ _ _ _)
   | (with_reducible exact ih1 _ _)
   | (with_reducible exact ih2 _ _)
   | (with_reducible exact ih3 _ _ _)
   | (with_reducible exact chord_Boxes.mono _ _ _ _ _)
   | (with_reducible exact chord_Spots.mono _ _ _ _ _)
   | (with_reducible exact neumelaw23_heads.mono _)
   | (with_reducible exact LeO.refl _)
   | (with_reducible exact LeO.none _)
   | (with_reducible refine LeO.ite ?_ ?_)
   | (with_reducible refine LeO.bind ?_ (fun _ => ?_))
   | exact ih0 _ _ _ _ _
   | exact ih1 _ _
   | exact ih2 _ _
   | exact ih3 _ _ _
   | exact chord_Boxes.mono _ _ _ _ _
   | exact chord_Spots.mono _ _ _ _ _
   | exact neumelaw23_heads.mono _
   | exact LeO.none _
   | refine LeO.ite ?_ ?_
   | refine LeO.bind ?_ (fun _ => ?_)
theorem neumelaw23_ChordApart.mono : ∀ a0 a1 a2 a3 k, LeO (neumelaw23_ChordApart.f k a0 a1 a2 a3) (neumelaw23_ChordApart.f (k + 1) a0 a1 a2 a3) := by
 intro a0 a1 a2 a3 k
 obtain ⟨ih0, ih1, ih2, ih3⟩ := neumelaw23_ChordApart.mono_l k
 unfold neumelaw23_ChordApart.f
 repeat' first
   | (with_reducible exact ih0 _ _ _ _ _)
   | (with_reducible exact ih1 _ _)
   | (with_reducible exact ih2 _ _)
   | (with_reducible exact ih3 _ _ _)
   | (with_reducible exact chord_Boxes.mono _ _ _ _ _)
   | (with_reducible exact chord_Spots.mono _ _ _ _ _)
   | (with_reducible exact neumelaw23_heads.mono _)
   | (with_reducible exact LeO.refl _)
   | (with_reducible exact LeO.none _)
   | (with_reducible refine LeO.ite ?_ ?_)
   | (with_reducible refine LeO.bind ?_ (fun _ => ?_))
   | exact ih0 _ _ _ _ _
   | exact ih1 _ _
   | exact ih2 _ _
   | exact ih3 _ _ _
   | exact chord_Boxes.mono _ _ _ _ _
   | exact chord_Spots.mono _ _ _ _ _
   | exact neumelaw23_heads.mono _
   | exact LeO.none _
   | refine LeO.ite ?_ ?_
   | refine LeO.bind ?_ (fun _ => ?_)
def neumelaw23_ChordApart.T6 : Bool × List (List Nat × List Nat) := (true, [([], []), ([], []), ([0, 1], [0, 1]), ([2], [2]), ([], []), ([], []), ([5], [5]), ([4, 6], [4, 6]), ([7], [7]), ([3, 8], [3, 8])])
def neumelaw23_ChordApart.B6 : List Nat := [0, 0, 3, 7, 0, 0, 32, 112, 240, 511]
theorem neumelaw23_ChordApart.tab6 : rtab .any (opsOf Tryd.f4 6) = neumelaw23_ChordApart.T6 := by kernel_rfl
theorem neumelaw23_ChordApart.bits6 : waitsOk neumelaw23_ChordApart.T6.2 neumelaw23_ChordApart.B6 = true := by kernel_rfl
def neumelaw23_ChordApart.T20 : Bool × List (List Nat × List Nat) := (true, [([], []), ([], []), ([0, 1], [0, 1]), ([2], [2]), ([], []), ([], []), ([4, 5], [4, 5]), ([6], [6]), ([3, 7], [3, 7])])
def neumelaw23_ChordApart.B20 : List Nat := [0, 0, 3, 7, 0, 0, 48, 112, 255]
theorem neumelaw23_ChordApart.tab20 : rtab .any (opsOf Tryd.f4 20) = neumelaw23_ChordApart.T20 := by kernel_rfl
theorem neumelaw23_ChordApart.bits20 : waitsOk neumelaw23_ChordApart.T20.2 neumelaw23_ChordApart.B20 = true := by kernel_rfl
set_option maxHeartbeats 8000000 in
set_option maxRecDepth 100000 in
theorem neumelaw23_ChordApart.calls (k : Nat) (A0 : Option Addr) (c0 : Nat) (l0 : List Int) (a1 : Int) (a2 : Bool) (a3 : Bool) (r : Bool) (w : World) (hr0 : Kd.C (Kd.int .i64) w A0 l0.length l0) (hc0 : l0.length ≤ c0) (hE : Aside0 (LaidE w)) (hxt : Aside0 (r = true)) (h : neumelaw23_ChordApart.f k l0 a1 a2 a3 = some r) :
  Calls Tryd.prog 4 #[.slice A0 l0.length c0, .int .i64 a1, .bool a2, .bool a3] w fun e w' => e = .returned (.bool r) ∧ Below w.heap.size w w' := by
 have hu46 := Tryd.underlying46
 have HR0 := sd_ hr0
 have HC0 := sd_ hc0
 clear hr0 hc0
 have HB := sd_ (Below.refl w.heap.size w)
 have H : (if (l0.length : Int) > 100 then ((neumelaw23_heads.f k).bind fun t507 => (some t507)) else (neumelaw23_ChordApart.l0 k l0 a1 a2 a3 1)) = some r := h
 clear h
 by_cases c5 : (l0.length : Int) > 100
 ·rw [if_pos c5] at H
  have c5b0 : decide (100 < (l0.length : Int)) = true := dt_ c5
  have c5b1 : decide (100 < l0.length) = true := dt_ (by omega)
  clear c5
  replace H := ob_ H
  obtain ⟨t507, A60, H⟩ := H
  replace H : (some t507) = some r := H
  have A6 := sd_ A60
  clear A60
  obtain rfl := Option.some.inj H
  go_enter Tryd.func4, Tryd.ntmps4
  go_wp2_with (first | ((with_reducible refine gate_callee (f := 7) rfl ?_); refine goesL_ (some 19) rfl rfl Tryd.func7 (by kernel_rfl) rfl #[] rfl (by (try simp only [lm_, lq_, lx_]); first | done | rfl | (simp only [ld_, lt_]; rfl)) ?_; (with_reducible refine (neumelaw23_heads.calls k  t507 _ ?side1 A6.out).mono ?_); (case side1 => first | (with_reducible exact hE) | exact sd_ (LaidE.below hE.out (bb_ HB.out e0_))); rintro e w7 ⟨rfl, hb⟩; refine ⟨_, rfl, ?_⟩; replace HB := hb_ HB e0_ hb; (try clear hb); (try clear hb2); (try clear hk); (try clear hi)))
  go_ret
  exact ⟨by first | rfl | (simp [errW_none, errW_some] <;> rfl) | (simp [*, errW_none, errW_some] <;> rfl), by repeat (first | (with_reducible first | exact HB.out | apply ba_ | apply pd_ | apply d1_) | exact HB.out)⟩
 ·rw [if_neg c5] at H
  have c5b0 : decide (100 < (l0.length : Int)) = false := df_ c5
  have c5b1 : decide (100 < l0.length) = false := df_ (by omega)
  clear c5
  have H' := sd_ H
  clear H
  go_enter Tryd.func4, Tryd.ntmps4
  go_wp2
  go_loopg [9] k (fun kq v9 w' => ∃ (x9_1 : Int), v9 = .int .i64 x9_1 ∧ Aside0 (neumelaw23_ChordApart.l0 kq l0 a1 a2 a3 x9_1 = some r) ∧ Aside0 (kq ≤ k) ∧ Aside0 (Below w.heap.size w w'))
  case atStart => exact ⟨(1), (by first | rfl | (simp; done) | (simp [*]; done) | (simp [bne]; done)), H', ⟨Nat.le_refl _⟩, ⟨by repeat (first | (with_reducible first | exact HB.out | apply ba_ | apply pd_ | apply d1_) | exact HB.out)⟩⟩
  case round =>
   clear H'
   try clear p2; try clear c4; try clear c5; try clear c5b0; try clear c5b1; try clear c7
   obtain ⟨x9_1, rfl, HA, HK1, HB⟩ := hrel
   cases gk with
   | zero => exact absurd HA.out (by simp [neumelaw23_ChordApart.l0])
   | succ k1 =>
    have H := HA.out
    clear HA
    simp only [neumelaw23_ChordApart.l0] at H
    by_cases c8 : x9_1 < (l0.length : Int)
    ·rw [if_pos c8] at H
     have c8b0 : decide (x9_1 < (l0.length : Int)) = true := dt_ c8
     clear c8
     by_cases c9 : 0 ≤ x9_1
     ·rw [if_pos c9] at H
      have c9b0 : decide (0 ≤ x9_1) = true := dt_ c9
      clear c9
      obtain ⟨ji10, hji10⟩ : ∃ j_ : Int, (wrap64 (x9_1 - 1)) = j_ := ⟨_, rfl⟩
      replace H : (if 0 ≤ (ji10) then (if (ji10) < (l0.length : Int) then (if (rd l0 x9_1) ≤ (rd l0 (ji10)) then ((neumelaw23_heads.f k1).bind fun t510 => (some t510)) else (neumelaw23_ChordApart.l0 k1 l0 a1 a2 a3 (wrap64 (x9_1 + 1)))) else (none)) else (none)) = some r := by first | (rw [hji10] at H; exact H) | (simp only [hji10] at H ⊢; exact H)
      have hji10w : (IntKind.i64.wrap (x9_1 - 1)) = ji10 := (i64_w _).trans hji10
      by_cases c11 : 0 ≤ (ji10)
      ·rw [if_pos c11] at H
       have c11b0 : decide (0 ≤ (ji10)) = true := dt_ c11
       clear c11
       by_cases c12 : (ji10) < (l0.length : Int)
       ·rw [if_pos c12] at H
        have c12b0 : decide ((ji10) < (l0.length : Int)) = true := dt_ c12
        clear c12
        by_cases c13 : (rd l0 x9_1) ≤ (rd l0 (ji10))
        ·rw [if_pos c13] at H
         have c13b0 : decide ((rd l0 x9_1) ≤ (rd l0 (ji10))) = true := dt_ c13
         clear c13
         replace H := ob_ H
         obtain ⟨t510, A140, H⟩ := H
         replace H : (some t510) = some r := H
         have A14 := sd_ A140
         clear A140
         obtain rfl := Option.some.inj H
         try go_wp2
         replace HB := sd_ (d1_ HB.out)
         have p508 : 0 ≤ (x9_1 : Int) := od_ (by first | (with_reducible assumption) | assumption)
         have q508 : x9_1 < (l0.length : Int) := od_ (by first | (with_reducible assumption) | assumption)
         obtain ⟨ad508, e508, hx508_0⟩ := Kd.at_int HR0.out x9_1 p508 q508
         have hw508_0 := hx508_0
         cases e508
         replace hx508_0 := (HB.out.cell (wb_ w _ hx508_0)).trans hx508_0
         replace p508 := eq_true p508
         replace q508 := eq_true q508
         have p509 : 0 ≤ ((ji10) : Int) := od_ (by first | (with_reducible assumption) | assumption)
         have q509 : (ji10) < (l0.length : Int) := od_ (by first | (with_reducible assumption) | assumption)
         obtain ⟨ad509, e509, hx509_0⟩ := Kd.at_int HR0.out (ji10) p509 q509
         have hw509_0 := hx509_0
         obtain rfl : ad508 = ad509 := (by injection e509)
         replace hx509_0 := (HB.out.cell (wb_ w _ hx509_0)).trans hx509_0
         replace p509 := eq_true p509
         replace q509 := eq_true q509
         refine start_ (n := 10) (S := fun w' => w'.cell? (ad508.add (x9_1).toNat) = some (.int .i64 (rd l0 x9_1)) ∧ w'.cell? (ad508.add ((ji10)).toNat) = some (.int .i64 (rd l0 (ji10)))) (ds := []) (Array.replicate 10 false) (by kernel_rfl) rfl rfl ⟨((HB.out.cell (wb_ w _ hw508_0)).trans hw508_0), ((HB.out.cell (wb_ w _ hw509_0)).trans hw509_0)⟩ (fun hHeld => ?_); refine with_tabW neumelaw23_ChordApart.tab6 neumelaw23_ChordApart.bits6 (fun HT_ HW_ => ?_)
         generalize wr.drew = w15 at HB hx508_0 hx509_0 hHeld ⊢
         refine pu_ (v := ?_) (a' := ?_) 0 26 (bz 10 1) rfl rfl HT_ (by kernel_rfl) (fun _ _ _ h => h) (by rfl) ?_ ?_ ?_
         rotate_left; (intro w'; go_simp; with_reducible rfl); rotate_left; (simp only [Act.put, ls_, lz_, lc_, i64_w, i32_w]; rfl)
         refine pu_ (v := ?_) (a' := ?_) 1 27 (bz 10 3) rfl rfl HT_ (by kernel_rfl) (fun _ _ _ h => h) (by rfl) ?_ ?_ ?_
         rotate_left; (intro w'; go_simp; with_reducible rfl); rotate_left; (simp only [Act.put, ls_, lz_, lc_, i64_w, i32_w]; rfl)
         refine pu_ (v := ?_) (a' := ?_) 2 28 (bz 10 7) rfl rfl HT_ (by kernel_rfl) (fun _ _ _ h => h) (by rfl) ?_ ?_ ?_
         rotate_left; (intro w'; go_simp; with_reducible rfl); rotate_left; (simp only [Act.put, ls_, lz_, lc_, i64_w, i32_w]; rfl)
         refine pu_ (v := ?_) (a' := ?_) 4 30 (bz 10 23) rfl rfl HT_ (by kernel_rfl) (fun _ _ _ h => h) (by rfl) ?_ ?_ ?_
         rotate_left; (intro w'; go_simp; with_reducible rfl); rotate_left; (simp only [Act.put, ls_, lz_, lc_, i64_w, i32_w]; rfl)
         refine pu_ (v := ?_) (a' := ?_) 5 31 (bz 10 55) rfl rfl HT_ (by kernel_rfl) (fun _ _ _ h => h) (by rfl) ?_ ?_ ?_
         rotate_left; (intro w'; go_simp; with_reducible rfl); rotate_left; (simp only [Act.put, ls_, lz_, lc_, i64_w, i32_w]; rfl)
         refine pu_ (v := ?_) (a' := ?_) 6 32 (bz 10 119) rfl rfl HT_ (by kernel_rfl) (fun _ _ _ h => h) (by rfl) ?_ ?_ ?_
         rotate_left; (intro w'; go_simp; with_reducible rfl); rotate_left; (simp only [Act.put, ls_, lz_, lc_, i64_w, i32_w]; rfl)
         refine pu_ (v := ?_) (a' := ?_) 7 33 (bz 10 247) rfl rfl HT_ (by kernel_rfl) (fun _ _ _ h => h) (by rfl) ?_ ?_ ?_
         rotate_left; (intro w'; go_simp; with_reducible rfl); rotate_left; (simp only [Act.put, ls_, lz_, lc_, i64_w, i32_w]; rfl)
         refine ta_ (v := ?_) (a' := ?_) 3 29 (bz 10 255) rfl rfl HT_ HW_ (by kernel_rfl) (fun _ _ _ h => h) (by rfl) ?_ hHeld ?_ ?_
         rotate_left
         ·rintro w' ⟨s0, s1⟩
          go_simp
          with_reducible rfl
         rotate_left
         ·simp only [Act.put, ls_, lz_, lc_, i64_w, i32_w]
          rfl
         refine ta_ (v := ?_) (a' := ?_) 8 34 (bz 10 511) rfl rfl HT_ HW_ (by kernel_rfl) (fun _ _ _ h => h) (by rfl) ?_ hHeld ?_ ?_
         rotate_left
         ·rintro w' ⟨s0, s1⟩
          go_simp
          with_reducible rfl
         rotate_left
         ·simp only [Act.put, ls_, lz_, lc_, i64_w, i32_w]
          rfl
         refine pu_ (v := ?_) (a' := ?_) 9 35 (bz 10 1023) rfl rfl HT_ (by kernel_rfl) (fun _ _ _ h => h) (by rfl) ?_ ?_ ?_
         rotate_left; (intro w'; go_simp; with_reducible rfl); rotate_left; (simp only [Act.put, ls_, lz_, lc_, i64_w, i32_w]; rfl)
         refine done_ (done_of HT_.out (by kernel_rfl)) ?_
         try go_wp2_with (first | ((with_reducible refine gate_callee (f := 7) rfl ?_); refine goesL_ (some 36) rfl rfl Tryd.func7 (by kernel_rfl) rfl #[] rfl (by (try simp only [lm_, lq_, lx_]); first | done | rfl | (simp only [ld_, lt_]; rfl)) ?_; (with_reducible refine (neumelaw23_heads.calls k1  t510 _ ?side1 A14.out).mono ?_); (case side1 => first | (with_reducible exact hE) | exact sd_ (LaidE.below hE.out (bb_ HB.out e0_))); rintro e w16 ⟨rfl, hb⟩; refine ⟨_, rfl, ?_⟩; replace HB := hb_ HB e0_ hb; (try clear hb); (try clear hb2); (try clear hk); (try clear hi)))
         go_ret
         exact ⟨by first | rfl | (simp [errW_none, errW_some] <;> rfl) | (simp only [← hji10]; first | rfl | (simp [errW_none, errW_some] <;> rfl)) | (simp [*, errW_none, errW_some] <;> rfl), by repeat (first | (with_reducible first | exact HB.out | apply ba_ | apply pd_ | apply d1_) | exact HB.out)⟩
        ·rw [if_neg c13] at H
         have c13b0 : decide ((rd l0 x9_1) ≤ (rd l0 (ji10))) = false := df_ c13
         clear c13
         have H' := sd_ H
         clear H
         try go_wp2
         replace HB := sd_ (d1_ HB.out)
         have p508 : 0 ≤ (x9_1 : Int) := od_ (by first | (with_reducible assumption) | assumption)
         have q508 : x9_1 < (l0.length : Int) := od_ (by first | (with_reducible assumption) | assumption)
         obtain ⟨ad508, e508, hx508_0⟩ := Kd.at_int HR0.out x9_1 p508 q508
         have hw508_0 := hx508_0
         cases e508
         replace hx508_0 := (HB.out.cell (wb_ w _ hx508_0)).trans hx508_0
         replace p508 := eq_true p508
         replace q508 := eq_true q508
         have p509 : 0 ≤ ((ji10) : Int) := od_ (by first | (with_reducible assumption) | assumption)
         have q509 : (ji10) < (l0.length : Int) := od_ (by first | (with_reducible assumption) | assumption)
         obtain ⟨ad509, e509, hx509_0⟩ := Kd.at_int HR0.out (ji10) p509 q509
         have hw509_0 := hx509_0
         obtain rfl : ad508 = ad509 := (by injection e509)
         replace hx509_0 := (HB.out.cell (wb_ w _ hx509_0)).trans hx509_0
         replace p509 := eq_true p509
         replace q509 := eq_true q509
         refine start_ (n := 10) (S := fun w' => w'.cell? (ad508.add (x9_1).toNat) = some (.int .i64 (rd l0 x9_1)) ∧ w'.cell? (ad508.add ((ji10)).toNat) = some (.int .i64 (rd l0 (ji10)))) (ds := []) (Array.replicate 10 false) (by kernel_rfl) rfl rfl ⟨((HB.out.cell (wb_ w _ hw508_0)).trans hw508_0), ((HB.out.cell (wb_ w _ hw509_0)).trans hw509_0)⟩ (fun hHeld => ?_); refine with_tabW neumelaw23_ChordApart.tab6 neumelaw23_ChordApart.bits6 (fun HT_ HW_ => ?_)
         generalize wr.drew = w17 at HB hx508_0 hx509_0 hHeld ⊢
         refine pu_ (v := ?_) (a' := ?_) 0 26 (bz 10 1) rfl rfl HT_ (by kernel_rfl) (fun _ _ _ h => h) (by rfl) ?_ ?_ ?_
         rotate_left; (intro w'; go_simp; with_reducible rfl); rotate_left; (simp only [Act.put, ls_, lz_, lc_, i64_w, i32_w]; rfl)
         refine pu_ (v := ?_) (a' := ?_) 1 27 (bz 10 3) rfl rfl HT_ (by kernel_rfl) (fun _ _ _ h => h) (by rfl) ?_ ?_ ?_
         rotate_left; (intro w'; go_simp; with_reducible rfl); rotate_left; (simp only [Act.put, ls_, lz_, lc_, i64_w, i32_w]; rfl)
         refine pu_ (v := ?_) (a' := ?_) 2 28 (bz 10 7) rfl rfl HT_ (by kernel_rfl) (fun _ _ _ h => h) (by rfl) ?_ ?_ ?_
         rotate_left; (intro w'; go_simp; with_reducible rfl); rotate_left; (simp only [Act.put, ls_, lz_, lc_, i64_w, i32_w]; rfl)
         refine pu_ (v := ?_) (a' := ?_) 4 30 (bz 10 23) rfl rfl HT_ (by kernel_rfl) (fun _ _ _ h => h) (by rfl) ?_ ?_ ?_
         rotate_left; (intro w'; go_simp; with_reducible rfl); rotate_left; (simp only [Act.put, ls_, lz_, lc_, i64_w, i32_w]; rfl)
         refine pu_ (v := ?_) (a' := ?_) 5 31 (bz 10 55) rfl rfl HT_ (by kernel_rfl) (fun _ _ _ h => h) (by rfl) ?_ ?_ ?_
         rotate_left; (intro w'; go_simp; with_reducible rfl); rotate_left; (simp only [Act.put, ls_, lz_, lc_, i64_w, i32_w]; rfl)
         refine pu_ (v := ?_) (a' := ?_) 6 32 (bz 10 119) rfl rfl HT_ (by kernel_rfl) (fun _ _ _ h => h) (by rfl) ?_ ?_ ?_
         rotate_left; (intro w'; go_simp; with_reducible rfl); rotate_left; (simp only [Act.put, ls_, lz_, lc_, i64_w, i32_w]; rfl)
         refine pu_ (v := ?_) (a' := ?_) 7 33 (bz 10 247) rfl rfl HT_ (by kernel_rfl) (fun _ _ _ h => h) (by rfl) ?_ ?_ ?_
         rotate_left; (intro w'; go_simp; with_reducible rfl); rotate_left; (simp only [Act.put, ls_, lz_, lc_, i64_w, i32_w]; rfl)
         refine ta_ (v := ?_) (a' := ?_) 3 29 (bz 10 255) rfl rfl HT_ HW_ (by kernel_rfl) (fun _ _ _ h => h) (by rfl) ?_ hHeld ?_ ?_
         rotate_left
         ·rintro w' ⟨s0, s1⟩
          go_simp
          with_reducible rfl
         rotate_left
         ·simp only [Act.put, ls_, lz_, lc_, i64_w, i32_w]
          rfl
         refine ta_ (v := ?_) (a' := ?_) 8 34 (bz 10 511) rfl rfl HT_ HW_ (by kernel_rfl) (fun _ _ _ h => h) (by rfl) ?_ hHeld ?_ ?_
         rotate_left
         ·rintro w' ⟨s0, s1⟩
          go_simp
          with_reducible rfl
         rotate_left
         ·simp only [Act.put, ls_, lz_, lc_, i64_w, i32_w]
          rfl
         refine pu_ (v := ?_) (a' := ?_) 9 35 (bz 10 1023) rfl rfl HT_ (by kernel_rfl) (fun _ _ _ h => h) (by rfl) ?_ ?_ ?_
         rotate_left; (intro w'; go_simp; with_reducible rfl); rotate_left; (simp only [Act.put, ls_, lz_, lc_, i64_w, i32_w]; rfl)
         refine done_ (done_of HT_.out (by kernel_rfl)) ?_
         try go_wp2
         go_roundg k1
         case measure => have := HK1.out; omega
         case rel => exact ⟨(wrap64 (x9_1 + 1)), (by first | rfl | (simp; done) | (simp [*]; done) | (simp [bne]; done)), H', ⟨by have := HK1.out; omega⟩, ⟨by repeat (first | (with_reducible first | exact HB.out | apply ba_ | apply pd_ | apply d1_) | exact HB.out)⟩⟩
       ·rw [if_neg c12] at H
        exact absurd H (by simp)
      ·rw [if_neg c11] at H
       exact absurd H (by simp)
     ·rw [if_neg c9] at H
      exact absurd H (by simp)
    ·rw [if_neg c8] at H
     have c8b0 : decide (x9_1 < (l0.length : Int)) = false := df_ c8
     clear c8
     replace H := ob_ H
     obtain ⟨⟨t511, t512⟩, A180, H⟩ := H
     replace H : (if t512 = 0 then ((chord_Boxes.f k1 l0 t511 a1 a3).bind fun bt516 => (if bt516.2 = 0 then (neumelaw23_ChordApart.j1 k1 bt516.1 ((bt516.1.length : Int) != (l0.length : Int))) else (neumelaw23_ChordApart.j1 k1 bt516.1 true))) else (if (t511.length : Int) = 0 then ((neumelaw23_heads.f k1).bind fun t515 => (some t515)) else (some false))) = some r := H
     have A18 := sd_ A180
     clear A180
     by_cases c19 : t512 = 0
     ·rw [if_pos c19] at H
      have c19b0 : (t512 == 0) = true := beq_iff_eq.mpr c19
      have c19b1 : (t512 != 0) = false := bne_eq_false_iff_eq.mpr c19
      clear c19
      replace H := ob_ H
      obtain ⟨⟨t516, t517⟩, A200, H⟩ := H
      replace H : (if t517 = 0 then (neumelaw23_ChordApart.j1 k1 t516 ((t516.length : Int) != (l0.length : Int))) else (neumelaw23_ChordApart.j1 k1 t516 true)) = some r := H
      have A20 := sd_ A200
      clear A200
      have HC21 := sd_ H
      clear H
      go_upto_region 12 with (first | ((with_reducible refine gate_callee (f := 10) rfl ?_); refine goesL_ (some 42) rfl rfl Tryd.func10 (by kernel_rfl) rfl #[.slice A0 l0.length c0, .int .i64 a1, .bool a2, .bool a3] rfl (by (try simp only [lm_, lq_, lx_]); first | done | rfl | (simp only [ld_, lt_]; rfl)) ?_; (with_reducible refine (chord_Spots.calls k1 _ _ l0 a1 a2 a3 t511 t512 _ ?side1 ?side2 ?side3 A18.out).mono ?_); (case side1 => repeat (first | exact (Kd.C_below HR0.out HB.out) | (with_reducible refine Kd.C_alloc ?_ _) | (with_reducible refine Kd.C_drewN ?_ _) | (with_reducible refine Kd.C_drew ?_))); (case side2 => exact HC0.out); (case side3 => first | (with_reducible exact hE) | exact sd_ (LaidE.below hE.out (bb_ HB.out e0_))); rintro e w22 ⟨v513, rfl, ho0, hb⟩; refine ⟨_, rfl, ?_⟩; have HO514 := sd_ (Kd.R_lower ho0 (bz_ (bb_ HB.out e0_))); replace HB := hb_ HB e0_ hb; (try clear hb); (try clear hb2); (try clear hk); (try clear hi); (try clear ho0); obtain ⟨Ao23, co23, eo23⟩ := Kd.R_slice HO514.out; subst eo23) | ((with_reducible refine gate_callee (f := 14) rfl ?_); refine goesL_ (some 58) rfl rfl Tryd.func14 (by kernel_rfl) rfl #[.slice A0 l0.length c0, .slice Ao23 t511.length co23, .int .i64 a1, .bool a3] rfl (by (try simp only [lm_, lq_, lx_]); first | done | rfl | (simp only [ld_, lt_]; rfl)) ?_; (with_reducible refine (chord_Boxes.calls k1 _ _ l0 _ _ t511 a1 a3 t516 t517 _ ?side1 ?side2 ?side3 ?side4 ?side5 A20.out).mono ?_); (case side1 => repeat (first | exact (Kd.C_below HR0.out HB.out) | (with_reducible refine Kd.C_alloc ?_ _) | (with_reducible refine Kd.C_drewN ?_ _) | (with_reducible refine Kd.C_drew ?_))); (case side2 => exact HC0.out); (case side3 => repeat (first | exact (Kd.R_reads' HO514.out).2.2 | (with_reducible refine Kd.C_alloc ?_ _) | (with_reducible refine Kd.C_drewN ?_ _) | (with_reducible refine Kd.C_drew ?_))); (case side4 => exact (Kd.R_reads' HO514.out).2.1); (case side5 => first | (with_reducible exact hE) | exact sd_ (LaidE.below hE.out (bb_ HB.out e0_))); rintro e w24 ⟨v518, rfl, ho0, hb⟩; refine ⟨_, rfl, ?_⟩; have HO519 := sd_ (Kd.R_lower ho0 (bz_ (bb_ HB.out e0_))); replace HO514 := sd_ (Kd.R_below (by (with_reducible repeat (first | apply Kd.R_alloc | apply Kd.R_drewN | apply Kd.R_drew)); exact HO514.out) hb); replace HB := hb_ HB e0_ hb; (try clear hb); (try clear hb2); (try clear hk); (try clear hi); (try clear ho0)))
      (try simp only [Act.put, ls_, lz_, lc_])
      go_cut [69] (fun v69 wc => ∃ (kq : Nat) (x69_20 : Bool), v69 = .bool x69_20 ∧ Aside0 (neumelaw23_ChordApart.j1 kq t516 x69_20 = some r) ∧ Aside0 (kq ≤ k1) ∧ Aside0 (Kd.R k46 46 wc w.heap.size (fun _ => True) v518 t516) ∧ Aside0 (Below w.heap.size w wc))
      case first =>
       have H := HC21.out
       clear HC21
       by_cases c25 : t517 = 0
       ·rw [if_pos c25] at H
        have c25b0 : (t517 == 0) = true := beq_iff_eq.mpr c25
        have c25b1 : (t517 != 0) = false := bne_eq_false_iff_eq.mpr c25
        clear c25
        (first | rw [c25b0] | (simp only [i64_w, i32_w]; rw [c25b0]) | skip)
        have H' := sd_ H
        clear H
        obtain ⟨Ao26, co26, eo26⟩ := Kd.R_slice HO519.out
        subst eo26
        go_wp2
        go_meet
        case rel => exact ⟨_, (((t516.length : Int) != (l0.length : Int))), (by first | rfl | (simp; done) | (simp [*]; done) | (simp [bne]; done)), H', ⟨by have := HK1.out; first | omega | exact Nat.le_refl _⟩, ⟨by (with_reducible repeat (first | apply Kd.R_alloc | apply Kd.R_drewN | apply Kd.R_drew)); exact HO519.out⟩, ⟨by repeat (first | (with_reducible first | exact HB.out | apply ba_ | apply pd_ | apply d1_) | exact HB.out)⟩⟩
       ·rw [if_neg c25] at H
        have c25b0 : (t517 == 0) = false := beq_eq_false_iff_ne.mpr c25
        have c25b1 : (t517 != 0) = true := bne_iff_ne.mpr c25
        (first | rw [c25b0] | (simp only [i64_w, i32_w]; rw [c25b0]) | skip)
        have H' := sd_ H
        clear H
        go_wp2
        go_meet
        case rel => exact ⟨_, (true), (by first | rfl | (simp; done) | (simp [*]; done) | (simp [bne]; done)), H', ⟨by have := HK1.out; first | omega | exact Nat.le_refl _⟩, ⟨by (with_reducible repeat (first | apply Kd.R_alloc | apply Kd.R_drewN | apply Kd.R_drew)); exact HO519.out⟩, ⟨by repeat (first | (with_reducible first | exact HB.out | apply ba_ | apply pd_ | apply d1_) | exact HB.out)⟩⟩
      case rest =>
       clear HC21
       try clear c1; try clear c2; try clear p2; try clear c4; try clear c5; try clear c5b0; try clear c5b1; try clear p5; try clear q5; try clear hx5; try clear p6; try clear c7; try clear c8; try clear c8b0; try clear c9; try clear c9b0; try clear c10; try clear c11; try clear c11b0; try clear c12; try clear c12b0; try clear c13; try clear c13b0; try clear c14; try clear c19; try clear c19b0; try clear c19b1; try clear c25; try clear c25b0; try clear c25b1; try clear hx508_0; try clear hx509_0; try clear p2; try clear p508; try clear p509; try clear q508; try clear q509
       obtain ⟨kq, x69_20, rfl, HA, HJ20, HO_12, HB⟩ := hcut
       cases kq with
       | zero => exact absurd HA.out (by simp [neumelaw23_ChordApart.j1])
       | succ kj20 =>
        have H := HA.out
        clear HA
        simp only [neumelaw23_ChordApart.j1] at H
        by_cases c27 : x69_20 = true
        ·subst c27
         have H1 : (some false) = some r := by rw [if_pos rfl] at H; exact H
         clear H; have H := H1; clear H1
         exact absurd ((Option.some.inj H).trans hxt.out) (by decide)
        ·replace c27 := bf_ c27
         subst c27
         have H1 : (neumelaw23_ChordApart.l1 kj20 t516 0) = some r := by rw [if_neg (show ¬ (false = true) by decide)] at H; exact H
         clear H; have H := H1; clear H1
         have H' := sd_ H
         clear H
         go_wp2
         go_loopg [14] kj20 (fun kq v14 w' => ∃ (x14_3 : Int), v14 = .int .i64 x14_3 ∧ Aside0 (neumelaw23_ChordApart.l1 kq t516 x14_3 = some r) ∧ Aside0 (kq ≤ kj20) ∧ Aside0 (Kd.R k46 46 w' w.heap.size (fun _ => True) v518 t516) ∧ Aside0 (Below w.heap.size w w'))
         case atStart => exact ⟨(0), (by first | rfl | (simp; done) | (simp [*]; done) | (simp [bne]; done)), H', ⟨Nat.le_refl _⟩, ⟨by (with_reducible repeat (first | apply Kd.R_alloc | apply Kd.R_drewN | apply Kd.R_drew)); exact HO_12.out⟩, ⟨by repeat (first | (with_reducible first | exact HB.out | apply ba_ | apply pd_ | apply d1_) | exact HB.out)⟩⟩
         case round =>
          clear H'
          try clear c1; try clear c2; try clear p2; try clear c4; try clear c5; try clear c5b0; try clear c5b1; try clear p5; try clear q5; try clear hx5; try clear p6; try clear c7; try clear c8; try clear c8b0; try clear c9; try clear c9b0; try clear c10; try clear c11; try clear c11b0; try clear c12; try clear c12b0; try clear c13; try clear c13b0; try clear c14; try clear c19; try clear c19b0; try clear c19b1; try clear c25; try clear c25b0; try clear c25b1; try clear c27; try clear hx508_0; try clear hx509_0; try clear p2; try clear p5; try clear p508; try clear p509; try clear p6; try clear q5; try clear q508; try clear q509
          obtain ⟨x14_3, rfl, HA, HK3, HO_12, HB⟩ := hrel
          cases gk with
          | zero => exact absurd HA.out (by simp [neumelaw23_ChordApart.l1])
          | succ k3 =>
           have H := HA.out
           clear HA
           simp only [neumelaw23_ChordApart.l1] at H
           by_cases c28 : x14_3 < (t516.length : Int)
           ·rw [if_pos c28] at H
            have c28b0 : decide (x14_3 < (t516.length : Int)) = true := dt_ c28
            clear c28
            have H' := sd_ H
            clear H
            obtain ⟨Ao29, co29, eo29⟩ := Kd.R_slice HO_12.out
            subst eo29
            go_wp2
            go_loopg [15] k3 (fun kq v15 w' => ∃ (x15_4 : Int), v15 = .int .i64 x15_4 ∧ Aside0 (neumelaw23_ChordApart.l2 kq t516 x14_3 x15_4 = some r) ∧ Aside0 (kq ≤ k3) ∧ Aside0 (Kd.R k46 46 w' w.heap.size (fun _ => True) (.slice Ao29 t516.length co29) t516) ∧ Aside0 (Below w.heap.size w w'))
            case atStart => exact ⟨(0), (by first | rfl | (simp; done) | (simp [*]; done) | (simp [bne]; done)), H', ⟨Nat.le_refl _⟩, ⟨by (with_reducible repeat (first | apply Kd.R_alloc | apply Kd.R_drewN | apply Kd.R_drew)); exact HO_12.out⟩, ⟨by repeat (first | (with_reducible first | exact HB.out | apply ba_ | apply pd_ | apply d1_) | exact HB.out)⟩⟩
            case round =>
             clear H'
             try clear c1; try clear c2; try clear p2; try clear c4; try clear c5; try clear c5b0; try clear c5b1; try clear p5; try clear q5; try clear hx5; try clear p6; try clear c7; try clear c8; try clear c8b0; try clear c9; try clear c9b0; try clear c10; try clear c11; try clear c11b0; try clear c12; try clear c12b0; try clear c13; try clear c13b0; try clear c14; try clear c19; try clear c19b0; try clear c19b1; try clear c25; try clear c25b0; try clear c25b1; try clear c27; try clear c28; try clear c28b0; try clear hx508_0; try clear hx509_0; try clear p2; try clear p5; try clear p508; try clear p509; try clear p6; try clear q5; try clear q508; try clear q509
             obtain ⟨x15_4, rfl, HA, HK4, HO_12, HB⟩ := hrel
             cases gk with
             | zero => exact absurd HA.out (by simp [neumelaw23_ChordApart.l2])
             | succ k4 =>
              have H := HA.out
              clear HA
              simp only [neumelaw23_ChordApart.l2] at H
              by_cases c30 : x15_4 < x14_3
              ·rw [if_pos c30] at H
               have c30b0 : decide (x15_4 < x14_3) = true := dt_ c30
               clear c30
               by_cases c31 : 0 ≤ x14_3
               ·rw [if_pos c31] at H
                have c31b0 : decide (0 ≤ x14_3) = true := dt_ c31
                clear c31
                by_cases c32 : x14_3 < (t516.length : Int)
                ·rw [if_pos c32] at H
                 have c32b0 : decide (x14_3 < (t516.length : Int)) = true := dt_ c32
                 clear c32
                 by_cases c33 : 0 ≤ x15_4
                 ·rw [if_pos c33] at H
                  have c33b0 : decide (0 ≤ x15_4) = true := dt_ c33
                  clear c33
                  by_cases c34 : x15_4 < (t516.length : Int)
                  ·rw [if_pos c34] at H
                   have c34b0 : decide (x15_4 < (t516.length : Int)) = true := dt_ c34
                   clear c34
                   replace H := ob_ H
                   obtain ⟨t523, A350, H⟩ := H
                   replace H : (if t523 = true then (some false) else (neumelaw23_ChordApart.l2 k4 t516 x14_3 (wrap64 (x15_4 + 1)))) = some r := H
                   have A35 := sd_ A350
                   clear A350
                   by_cases c36 : t523 = true
                   ·subst c36
                    have H1 : (some false) = some r := by rw [if_pos rfl] at H; exact H
                    clear H; have H := H1; clear H1
                    exact absurd ((Option.some.inj H).trans hxt.out) (by decide)
                   ·replace c36 := bf_ c36
                    subst c36
                    have H1 : (neumelaw23_ChordApart.l2 k4 t516 x14_3 (wrap64 (x15_4 + 1))) = some r := by rw [if_neg (show ¬ (false = true) by decide)] at H; exact H
                    clear H; have H := H1; clear H1
                    have H' := sd_ H
                    clear H
                    try go_wp2
                    replace HO_12 := sd_ (Kd.R_drew HO_12.out)
                    replace HB := sd_ (d1_ HB.out)
                    have p521 : 0 ≤ (x14_3 : Int) := od_ (by first | (with_reducible assumption) | assumption)
                    have q521 : x14_3 < (t516.length : Int) := od_ (by first | (with_reducible assumption) | assumption)
                    obtain ⟨ad521, e521, hx521_0, hx521_1, hx521_2, hx521_3⟩ := at_T46 (Kd.R_reads' HO_12.out).2.2 x14_3 p521 q521
                    cases e521
                    replace p521 := eq_true p521
                    replace q521 := eq_true q521
                    have p522 : 0 ≤ (x15_4 : Int) := od_ (by first | (with_reducible assumption) | assumption)
                    have q522 : x15_4 < (t516.length : Int) := od_ (by first | (with_reducible assumption) | assumption)
                    obtain ⟨ad522, e522, hx522_0, hx522_1, hx522_2, hx522_3⟩ := at_T46 (Kd.R_reads' HO_12.out).2.2 x15_4 p522 q522
                    obtain rfl : ad521 = ad522 := (by injection e522)
                    replace p522 := eq_true p522
                    replace q522 := eq_true q522
                    refine start_ (n := 9) (S := fun w' => w'.cell? (ad521.add ((x14_3).toNat * 4)) = some (.int .i64 ((rd_T46 t516 x14_3).f0)) ∧ w'.cell? ⟨(ad521.add ((x14_3).toNat * 4)).block, (ad521.add ((x14_3).toNat * 4)).off + 1, none⟩ = some (.int .i64 ((rd_T46 t516 x14_3).f1)) ∧ w'.cell? ⟨(ad521.add ((x14_3).toNat * 4)).block, (ad521.add ((x14_3).toNat * 4)).off + 2, none⟩ = some (.int .i64 ((rd_T46 t516 x14_3).f2)) ∧ w'.cell? ⟨(ad521.add ((x14_3).toNat * 4)).block, (ad521.add ((x14_3).toNat * 4)).off + 3, none⟩ = some (.int .i64 ((rd_T46 t516 x14_3).f3)) ∧ w'.cell? (ad521.add ((x15_4).toNat * 4)) = some (.int .i64 ((rd_T46 t516 x15_4).f0)) ∧ w'.cell? ⟨(ad521.add ((x15_4).toNat * 4)).block, (ad521.add ((x15_4).toNat * 4)).off + 1, none⟩ = some (.int .i64 ((rd_T46 t516 x15_4).f1)) ∧ w'.cell? ⟨(ad521.add ((x15_4).toNat * 4)).block, (ad521.add ((x15_4).toNat * 4)).off + 2, none⟩ = some (.int .i64 ((rd_T46 t516 x15_4).f2)) ∧ w'.cell? ⟨(ad521.add ((x15_4).toNat * 4)).block, (ad521.add ((x15_4).toNat * 4)).off + 3, none⟩ = some (.int .i64 ((rd_T46 t516 x15_4).f3))) (ds := []) (Array.replicate 9 false) (by kernel_rfl) rfl rfl ⟨hx521_0, hx521_1, hx521_2, hx521_3, hx522_0, hx522_1, hx522_2, hx522_3⟩ (fun hHeld => ?_); refine with_tabW neumelaw23_ChordApart.tab20 neumelaw23_ChordApart.bits20 (fun HT_ HW_ => ?_)
                    generalize wr.drew = w37 at HO_12 HB hx521_0 hx521_1 hx521_2 hx521_3 hx522_0 hx522_1 hx522_2 hx522_3 hHeld ⊢
                    refine pu_ (v := ?_) (a' := ?_) 0 81 (bz 9 1) rfl rfl HT_ (by kernel_rfl) (fun _ _ _ h => h) (by rfl) ?_ ?_ ?_
                    rotate_left; (intro w'; go_simp; with_reducible rfl); rotate_left; (simp only [Act.put, ls_, lz_, lc_, i64_w, i32_w]; rfl)
                    refine pu_ (v := ?_) (a' := ?_) 1 82 (bz 9 3) rfl rfl HT_ (by kernel_rfl) (fun _ _ _ h => h) (by rfl) ?_ ?_ ?_
                    rotate_left; (intro w'; go_simp; with_reducible rfl); rotate_left; (simp only [Act.put, ls_, lz_, lc_, i64_w, i32_w]; rfl)
                    refine pu_ (v := ?_) (a' := ?_) 2 83 (bz 9 7) rfl rfl HT_ (by kernel_rfl) (fun _ _ _ h => h) (by rfl) ?_ ?_ ?_
                    rotate_left; (intro w'; go_simp; with_reducible rfl); rotate_left; (simp only [Act.put, ls_, lz_, lc_, i64_w, i32_w]; rfl)
                    refine pu_ (v := ?_) (a' := ?_) 4 85 (bz 9 23) rfl rfl HT_ (by kernel_rfl) (fun _ _ _ h => h) (by rfl) ?_ ?_ ?_
                    rotate_left; (intro w'; go_simp; with_reducible rfl); rotate_left; (simp only [Act.put, ls_, lz_, lc_, i64_w, i32_w]; rfl)
                    refine pu_ (v := ?_) (a' := ?_) 5 86 (bz 9 55) rfl rfl HT_ (by kernel_rfl) (fun _ _ _ h => h) (by rfl) ?_ ?_ ?_
                    rotate_left; (intro w'; go_simp; with_reducible rfl); rotate_left; (simp only [Act.put, ls_, lz_, lc_, i64_w, i32_w]; rfl)
                    refine pu_ (v := ?_) (a' := ?_) 6 87 (bz 9 119) rfl rfl HT_ (by kernel_rfl) (fun _ _ _ h => h) (by rfl) ?_ ?_ ?_
                    rotate_left; (intro w'; go_simp; with_reducible rfl); rotate_left; (simp only [Act.put, ls_, lz_, lc_, i64_w, i32_w]; rfl)
                    refine ta_ (v := ?_) (a' := ?_) 3 84 (bz 9 127) rfl rfl HT_ HW_ (by kernel_rfl) (fun _ _ _ h => h) (by rfl) ?_ hHeld ?_ ?_
                    rotate_left
                    ·rintro w' ⟨s0, s1, s2, s3, s4, s5, s6, s7⟩
                     go_simp
                     with_reducible rfl
                    rotate_left
                    ·simp only [Act.put, ls_, lz_, lc_, i64_w, i32_w]
                     rfl
                    refine ta_ (v := ?_) (a' := ?_) 7 88 (bz 9 255) rfl rfl HT_ HW_ (by kernel_rfl) (fun _ _ _ h => h) (by rfl) ?_ hHeld ?_ ?_
                    rotate_left
                    ·rintro w' ⟨s0, s1, s2, s3, s4, s5, s6, s7⟩
                     go_simp
                     with_reducible rfl
                    rotate_left
                    ·simp only [Act.put, ls_, lz_, lc_, i64_w, i32_w]
                     rfl
                    refine on_ (N := some 89) 8 (bz 9 511) rfl rfl HT_ (by kernel_rfl) (by decide) (fun K hK => ?_)
                    refine goes_ Tryd.func18 (by kernel_rfl) rfl #[.agg #[.int .i64 ((rd_T46 t516 x14_3).f0), .int .i64 ((rd_T46 t516 x14_3).f1), .int .i64 ((rd_T46 t516 x14_3).f2), .int .i64 ((rd_T46 t516 x14_3).f3)], .agg #[.int .i64 ((rd_T46 t516 x15_4).f0), .int .i64 ((rd_T46 t516 x15_4).f1), .int .i64 ((rd_T46 t516 x15_4).f2), .int .i64 ((rd_T46 t516 x15_4).f3)]] (by rfl) rfl rfl (by (try simp only [lm_, lq_, lx_]); first | done | rfl | (simp only [ld_, lt_]; rfl)) ?_
                    with_reducible refine (neumeref03_Meet.calls ((rd_T46 t516 x14_3).f0) ((rd_T46 t516 x14_3).f1) ((rd_T46 t516 x14_3).f2) ((rd_T46 t516 x14_3).f3) ((rd_T46 t516 x15_4).f0) ((rd_T46 t516 x15_4).f1) ((rd_T46 t516 x15_4).f2) ((rd_T46 t516 x15_4).f3) false _ A35.out).mono ?_
                    rintro e w38 ⟨rfl, hb⟩
                    have HS0_ := (hb.cell (wb_ _ _ (hHeld.1))).trans (hHeld.1)
                    have HS1_ := (hb.cell (wb_ _ _ (hHeld.2.1))).trans (hHeld.2.1)
                    have HS2_ := (hb.cell (wb_ _ _ (hHeld.2.2.1))).trans (hHeld.2.2.1)
                    have HS3_ := (hb.cell (wb_ _ _ (hHeld.2.2.2.1))).trans (hHeld.2.2.2.1)
                    have HS4_ := (hb.cell (wb_ _ _ (hHeld.2.2.2.2.1))).trans (hHeld.2.2.2.2.1)
                    have HS5_ := (hb.cell (wb_ _ _ (hHeld.2.2.2.2.2.1))).trans (hHeld.2.2.2.2.2.1)
                    have HS6_ := (hb.cell (wb_ _ _ (hHeld.2.2.2.2.2.2.1))).trans (hHeld.2.2.2.2.2.2.1)
                    have HS7_ := (hb.cell (wb_ _ _ (hHeld.2.2.2.2.2.2.2))).trans (hHeld.2.2.2.2.2.2.2)
                    refine ⟨_, rfl, ?_⟩
                    replace HO_12 := sd_ (Kd.R_below (by (with_reducible repeat (first | apply Kd.R_alloc | apply Kd.R_drewN | apply Kd.R_drew)); exact HO_12.out) hb)
                    replace HB := hb_ HB e0_ hb
                    (try clear hb)
                    (try clear hb2)
                    (try clear hk)
                    (try clear hi)
                    refine hK.out _ _ ⟨HS0_, HS1_, HS2_, HS3_, HS4_, HS5_, HS6_, HS7_⟩ (fun hHeld => ?_)
                    clear hK K
                    refine norm_ (a' := ?_) ?_ ?_
                    rotate_left
                    ·show Act.put _ (some 89) _ = _
                     simp only [Act.put, ls_, lz_, lc_, i64_w, i32_w]
                     rfl
                    refine done_ (done_of HT_.out (by kernel_rfl)) ?_
                    try go_wp2
                    go_roundg k4
                    case measure => have := HK1.out; have := HJ20.out; have := HK3.out; have := HK4.out; omega
                    case rel => exact ⟨(wrap64 (x15_4 + 1)), (by first | rfl | (simp; done) | (simp [*]; done) | (simp [bne]; done)), H', ⟨by have := HK1.out; have := HJ20.out; have := HK3.out; have := HK4.out; omega⟩, ⟨by (with_reducible repeat (first | apply Kd.R_alloc | apply Kd.R_drewN | apply Kd.R_drew)); exact HO_12.out⟩, ⟨by repeat (first | (with_reducible first | exact HB.out | apply ba_ | apply pd_ | apply d1_) | exact HB.out)⟩⟩
                  ·rw [if_neg c34] at H
                   exact absurd H (by simp)
                 ·rw [if_neg c33] at H
                  exact absurd H (by simp)
                ·rw [if_neg c32] at H
                 exact absurd H (by simp)
               ·rw [if_neg c31] at H
                exact absurd H (by simp)
              ·rw [if_neg c30] at H
               have c30b0 : decide (x15_4 < x14_3) = false := df_ c30
               clear c30
               have H' := sd_ H
               clear H
               go_wp2
               go_roundg k4
               case measure => have := HK1.out; have := HJ20.out; have := HK3.out; have := HK4.out; omega
               case rel => exact ⟨(wrap64 (x14_3 + 1)), (by first | rfl | (simp; done) | (simp [*]; done) | (simp [bne]; done)), H', ⟨by have := HK1.out; have := HJ20.out; have := HK3.out; have := HK4.out; omega⟩, ⟨by (with_reducible repeat (first | apply Kd.R_alloc | apply Kd.R_drewN | apply Kd.R_drew)); exact HO_12.out⟩, ⟨by repeat (first | (with_reducible first | exact HB.out | apply ba_ | apply pd_ | apply d1_) | exact HB.out)⟩⟩
           ·rw [if_neg c28] at H
            have c28b0 : decide (x14_3 < (t516.length : Int)) = false := df_ c28
            clear c28
            replace H := ob_ H
            obtain ⟨t520, A390, H⟩ := H
            replace H : (some t520) = some r := H
            have A39 := sd_ A390
            clear A390
            obtain rfl := Option.some.inj H
            obtain ⟨Ao40, co40, eo40⟩ := Kd.R_slice HO_12.out
            subst eo40
            go_wp2_with (first | ((with_reducible refine gate_callee (f := 7) rfl ?_); refine goesL_ (some 90) rfl rfl Tryd.func7 (by kernel_rfl) rfl #[] rfl (by (try simp only [lm_, lq_, lx_]); first | done | rfl | (simp only [ld_, lt_]; rfl)) ?_; (with_reducible refine (neumelaw23_heads.calls k3  t520 _ ?side1 A39.out).mono ?_); (case side1 => first | (with_reducible exact hE) | exact sd_ (LaidE.below hE.out (bb_ HB.out e0_))); rintro e w41 ⟨rfl, hb⟩; refine ⟨_, rfl, ?_⟩; replace HO_12 := sd_ (Kd.R_below (by (with_reducible repeat (first | apply Kd.R_alloc | apply Kd.R_drewN | apply Kd.R_drew)); exact HO_12.out) hb); replace HB := hb_ HB e0_ hb; (try clear hb); (try clear hb2); (try clear hk); (try clear hi)))
            go_ret
            exact ⟨by first | rfl | (simp [errW_none, errW_some] <;> rfl) | (simp [*, errW_none, errW_some] <;> rfl), by repeat (first | (with_reducible first | exact HB.out | apply ba_ | apply pd_ | apply d1_) | exact HB.out)⟩
     ·rw [if_neg c19] at H
      have c19b0 : (t512 == 0) = false := beq_eq_false_iff_ne.mpr c19
      have c19b1 : (t512 != 0) = true := bne_iff_ne.mpr c19
      by_cases c42 : (t511.length : Int) = 0
      ·rw [if_pos c42] at H
       have c42b0 : ((t511.length : Int) == 0) = true := beq_iff_eq.mpr c42
       have c42b1 : ((t511.length : Int) != 0) = false := bne_eq_false_iff_eq.mpr c42
       clear c42
       replace H := ob_ H
       obtain ⟨t515, A430, H⟩ := H
       replace H : (some t515) = some r := H
       have A43 := sd_ A430
       clear A430
       obtain rfl := Option.some.inj H
       go_wp2_with (first | ((with_reducible refine gate_callee (f := 10) rfl ?_); refine goesL_ (some 42) rfl rfl Tryd.func10 (by kernel_rfl) rfl #[.slice A0 l0.length c0, .int .i64 a1, .bool a2, .bool a3] rfl (by (try simp only [lm_, lq_, lx_]); first | done | rfl | (simp only [ld_, lt_]; rfl)) ?_; (with_reducible refine (chord_Spots.calls k1 _ _ l0 a1 a2 a3 t511 t512 _ ?side1 ?side2 ?side3 A18.out).mono ?_); (case side1 => repeat (first | exact (Kd.C_below HR0.out HB.out) | (with_reducible refine Kd.C_alloc ?_ _) | (with_reducible refine Kd.C_drewN ?_ _) | (with_reducible refine Kd.C_drew ?_))); (case side2 => exact HC0.out); (case side3 => first | (with_reducible exact hE) | exact sd_ (LaidE.below hE.out (bb_ HB.out e0_))); rintro e w44 ⟨v513, rfl, ho0, hb⟩; refine ⟨_, rfl, ?_⟩; have HO514 := sd_ (Kd.R_lower ho0 (bz_ (bb_ HB.out e0_))); replace HB := hb_ HB e0_ hb; (try clear hb); (try clear hb2); (try clear hk); (try clear hi); (try clear ho0); obtain ⟨Ao45, co45, eo45⟩ := Kd.R_slice HO514.out; subst eo45) | (go_at_call 7; (with_reducible refine (neumelaw23_heads.calls k1  t515 _ ?side1 A43.out).mono ?_); (case side1 => first | (with_reducible exact hE) | exact sd_ (LaidE.below hE.out (bb_ HB.out e0_))); rintro e w46 ⟨rfl, hb⟩; replace HO514 := sd_ (Kd.R_below (by (with_reducible repeat (first | apply Kd.R_alloc | apply Kd.R_drewN | apply Kd.R_drew)); exact HO514.out) hb); replace HB := hb_ HB e0_ hb; (try clear hb); (try clear hb2); (try clear hk); (try clear hi)))
       go_ret
       exact ⟨by first | rfl | (simp [errW_none, errW_some] <;> rfl) | (simp [*, errW_none, errW_some] <;> rfl), by repeat (first | (with_reducible first | exact HB.out | apply ba_ | apply pd_ | apply d1_) | exact HB.out)⟩
      ·rw [if_neg c42] at H
       have c42b0 : ((t511.length : Int) == 0) = false := beq_eq_false_iff_ne.mpr c42
       have c42b1 : ((t511.length : Int) != 0) = true := bne_iff_ne.mpr c42
       have c42b2 : ¬ (t511 = []) := fun h_ => c42 (by rw [h_]; rfl)
       exact absurd ((Option.some.inj H).trans hxt.out) (by decide)

end Go.Proofs.YtcokemaiploejaaDoor.P
