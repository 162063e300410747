-- Written by a program of this session (wip/tools/xprint.py, over the kit's print): Lean checks it.
import Derived.Test.YtmffjjncnbeldaaDoorPx0
import Derived.Test.YtmffjjncnbeldaaDoorPx3
import Derived.Test.YtmffjjncnbeldaaDoorPx4
import Derived.Test.YtmffjjncnbeldaaDoorPx6
import Derived.Test.YtmffjjncnbeldaaDoorPx15
namespace Go.Proofs.YtmffjjncnbeldaaDoor.P
open Go.RowKit Go.Proofs.YtmffjjncnbeldaaDoorW.PrintWords Go.Proofs.YtmffjjncnbeldaaDoorW.PrintLast Go.Proofs.YtmffjjncnbeldaaDoorW.PrintMore
attribute [local go_sem] max2_int min2_int max_two min_two max_three min_three max_four min_four   -- for this text's walks alone
set_option linter.unusedVariables false
set_option linter.unusedSimpArgs false

/-! ### neumelaw08_TokenBlanks: function 6 -/
mutual
def neumelaw08_TokenBlanks.j0 : Nat → ByteArray → Int → ByteArray → Bool → Option (Bool)
 | 0, _, _, _, _ => none
 | k + 1, x0, x1, x2, x20 => if x20 = true then ((neumelaw08_heads.f k).bind fun t315 => (some t315)) else (neumelaw08_TokenBlanks.l0 k x0 x1 x2 0)
def neumelaw08_TokenBlanks.l0 : Nat → ByteArray → Int → ByteArray → Int → Option (Bool)
 | 0, _, _, _, _ => none
 | k + 1, x0, x1, x2, x7 => if x7 < (x2.size : Int) then (if 0 ≤ x7 then (if (bt x2 x7) = 10 then ((neumelaw08_heads.f k).bind fun t316 => (some t316)) else (neumelaw08_TokenBlanks.l0 k x0 x1 x2 (wrap64 (x7 + 1)))) else (none)) else ((token_Scan.f k x0).bind fun bt317 => (if bt317.2.1 = 0 then (if x1 < 0 then (neumelaw08_TokenBlanks.j2 k x0 x1 x2 bt317.1 true bt317.2.1 bt317.2.2) else (if x1 ≥ (bt317.1.length : Int) then (neumelaw08_TokenBlanks.j2 k x0 x1 x2 bt317.1 true bt317.2.1 bt317.2.2) else (if 0 ≤ x1 then (if x1 < (bt317.1.length : Int) then (if ((rd_T34 bt317.1 x1).f2) < 0 then (neumelaw08_TokenBlanks.j2 k x0 x1 x2 bt317.1 true bt317.2.1 bt317.2.2) else (neumelaw08_TokenBlanks.j2 k x0 x1 x2 bt317.1 (decide (((rd_T34 bt317.1 x1).f2) > (x0.size : Int))) bt317.2.1 bt317.2.2)) else (none)) else (none)))) else (neumelaw08_TokenBlanks.j2 k x0 x1 x2 bt317.1 true bt317.2.1 bt317.2.2)))
def neumelaw08_TokenBlanks.j2 : Nat → ByteArray → Int → ByteArray → List (S34) → Bool → Int → Int → Option (Bool)
 | 0, _, _, _, _, _, _, _ => none
 | k + 1, x0, x1, x2, x8, x68, x323000, x323001 => if x68 = true then (if x323000 = 0 then ((neumelaw08_heads.f k).bind fun t325 => (some t325)) else (if (x8.length : Int) = 0 then ((neumelaw08_heads.f k).bind fun t326 => (some t326)) else (some false))) else (if 0 ≤ x1 then (if x1 < (x8.length : Int) then (if ((rd_T34 x8 x1).f0) = 8 then (neumelaw08_TokenBlanks.j3 k x0 x2 x8 ((rd_T34 x8 x1).f2) (decide ((x0.size : Int) > 0))) else (neumelaw08_TokenBlanks.j3 k x0 x2 x8 ((rd_T34 x8 x1).f2) false)) else (none)) else (none))
def neumelaw08_TokenBlanks.j3 : Nat → ByteArray → ByteArray → List (S34) → Int → Bool → Option (Bool)
 | 0, _, _, _, _, _ => none
 | k + 1, x0, x2, x8, x10, x95 => if x95 = true then (if 0 ≤ 0 then (if 0 ≤ (x0.size : Int) then (if (x0.extract 0 0).size + 3 ≤ 9223372036854775807 then (if (x0.extract 0 0).size + 3 + x2.size ≤ 9223372036854775807 then (if (x0.extract 0 0).size + 3 + x2.size + 1 ≤ 9223372036854775807 then (if (x0.extract 0 0).size + 3 + x2.size + 1 + (x0.extract 0 x0.size).size ≤ 9223372036854775807 then ((token_Scan.f k (((((x0.extract 0 0) ++ (⟨#[32, 9, 37]⟩ : ByteArray)) ++ x2) ++ (⟨#[10]⟩ : ByteArray)) ++ (x0.extract 0 x0.size))).bind fun bt329 => (if bt329.2.1 = 0 then ((neumeref08_Alike.f k x8 bt329.1).bind fun t335 => (if t335 = true then ((neumelaw08_heads.f k).bind fun t336 => (some t336)) else (some false))) else (some false))) else (none)) else (none)) else (none)) else (none)) else (none)) else (none)) else (if 0 ≤ x10 then (if x10 ≤ (x0.size : Int) then (if (x0.extract 0 (x10 : Int).toNat).size + 3 ≤ 9223372036854775807 then (if (x0.extract 0 (x10 : Int).toNat).size + 3 + x2.size ≤ 9223372036854775807 then (if (x0.extract 0 (x10 : Int).toNat).size + 3 + x2.size + 1 ≤ 9223372036854775807 then (if (x0.extract 0 (x10 : Int).toNat).size + 3 + x2.size + 1 + (x0.extract (x10 : Int).toNat x0.size).size ≤ 9223372036854775807 then ((token_Scan.f k (((((x0.extract 0 (x10 : Int).toNat) ++ (⟨#[32, 9, 37]⟩ : ByteArray)) ++ x2) ++ (⟨#[10]⟩ : ByteArray)) ++ (x0.extract (x10 : Int).toNat x0.size))).bind fun bt337 => (if bt337.2.1 = 0 then ((neumeref08_Alike.f k x8 bt337.1).bind fun t343 => (if t343 = true then ((neumelaw08_heads.f k).bind fun t344 => (some t344)) else (some false))) else (some false))) else (none)) else (none)) else (none)) else (none)) else (none)) else (none))
end
def neumelaw08_TokenBlanks.f (k : Nat) (a0 : ByteArray) (a1 : Int) (a2 : ByteArray) : Option (Bool) := if (a0.size : Int) > 3000 then (neumelaw08_TokenBlanks.j0 k a0 a1 a2 true) else (neumelaw08_TokenBlanks.j0 k a0 a1 a2 (decide ((a2.size : Int) > 100)))
theorem neumelaw08_TokenBlanks.mono_l : ∀ k, (∀ y0 y1 y2 y3, LeO (neumelaw08_TokenBlanks.j0 k y0 y1 y2 y3) (neumelaw08_TokenBlanks.j0 (k + 1) y0 y1 y2 y3)) ∧ (∀ y0 y1 y2 y3, LeO (neumelaw08_TokenBlanks.l0 k y0 y1 y2 y3) (neumelaw08_TokenBlanks.l0 (k + 1) y0 y1 y2 y3)) ∧ (∀ y0 y1 y2 y3 y4 y5 y6, LeO (neumelaw08_TokenBlanks.j2 k y0 y1 y2 y3 y4 y5 y6) (neumelaw08_TokenBlanks.j2 (k + 1) y0 y1 y2 y3 y4 y5 y6)) ∧ (∀ y0 y1 y2 y3 y4, LeO (neumelaw08_TokenBlanks.j3 k y0 y1 y2 y3 y4) (neumelaw08_TokenBlanks.j3 (k + 1) y0 y1 y2 y3 y4))
 | 0 => ⟨fun _ _ _ _ r h => by simp [neumelaw08_TokenBlanks.j0] at h, fun _ _ _ _ r h => by simp [neumelaw08_TokenBlanks.l0] at h, fun _ _ _ _ _ _ _ r h => by simp [neumelaw08_TokenBlanks.j2] at h, fun _ _ _ _ _ r h => by simp [neumelaw08_TokenBlanks.j3] at h⟩
 | k + 1 => by
  obtain ⟨ih0, ih1, ih2, ih3⟩ := neumelaw08_TokenBlanks.mono_l k
  refine ⟨?_, ?_, ?_, ?_⟩
  ·intro y0 y1 y2 y3
   unfold neumelaw08_TokenBlanks.j0
   repeat' first
   | (with_reducible exact ih0 _ _ _ _)
   | (with_reducible exact ih1 _ _ _ _)
   | (with_reducible exact ih2 _ _ _ _ _ _ _)
   | (with_reducible exact ih3 _ _ _ _ _)
   | (with_reducible exact neumelaw08_heads.mono _)
   | (with_reducible exact neumeref08_Alike.mono _ _ _)
   | (with_reducible exact token_Scan.mono _ _)
   | (with_reducible exact LeO.refl _)
   | (with_reducible exact LeO.none _)
   | (with_reducible refine LeO.ite ?_ ?_)
   | (with_reducible refine LeO.bind ?_ (fun _ => ?_))
   | exact ih0 _ _ _ _
   | exact ih1 _ _ _ _
   | exact ih2 _ _ _ _ _ _ _
   | exact ih3 _ _ _ _ _
   | exact neumelaw08_heads.mono _
   | exact neumeref08_Alike.mono _ _ _
   | exact token_Scan.mono _ _
   | exact LeO.none _
   | refine LeO.ite ?_ ?_
   | refine LeO.bind ?_ (fun _ => ?_)
  ·intro y0 y1 y2 y3
   unfold neumelaw08_TokenBlanks.l0
   repeat' first
   | (with_reducible exact ih0 _ _ _ _)
   | (with_reducible exact ih1 _ _ _ _)
   | (with_reducible exact ih2 _ _ _ _ _ _ _)
   | (with_reducible exact ih3 _ _ _ _ _)
   | (with_reducible exact neumelaw08_heads.mono _)
   | (with_reducible exact neumeref08_Alike.mono _ _ _)
   | (with_reducible exact token_Scan.mono _ _)
   | (with_reducible exact LeO.refl _)
   | (with_reducible exact LeO.none _)
   | (with_reducible refine LeO.ite ?_ ?_)
   | (with_reducible refine LeO.bind ?_ (fun _ => ?_))
   | exact ih0 _ _ _ _
   | exact ih1 _ _ _ _
   | exact ih2 _ _ _ _ _ _ _
   | exact ih3 _ _ _ _ _
   | exact neumelaw08_heads.mono _
   | exact neumeref08_Alike.mono _ _ _
   | exact token_Scan.mono _ _
   | exact LeO.none _
   | refine LeO.ite ?_ ?_
   | refine LeO.bind ?_ (fun _ => ?_)
  ·intro y0 y1 y2 y3 y4 y5 y6
   unfold neumelaw08_TokenBlanks.j2
   repeat' first
   | (with_reducible exact ih0 _ _ _ _)
   | (with_reducible exact ih1 _ _ _ _)
   | (with_reducible exact ih2 _ _ _ _ _ _ _)
   | (with_reducible exact ih3 _ _ _ _ _)
   | (with_reducible exact neumelaw08_heads.mono _)
   | (with_reducible exact neumeref08_Alike.mono _ _ _)
   | (with_reducible exact token_Scan.mono _ _)
   | (with_reducible exact LeO.refl _)
   | (with_reducible exact LeO.none _)
   | (with_reducible refine LeO.ite ?_ ?_)
   | (with_reducible refine LeO.bind ?_ (fun _ => ?_))
   | exact ih0 _ _ _ _
   | exact ih1 _ _ _ _
   | exact ih2 _ _ _ _ _ _ _
   | exact ih3 _ _ _ _ _
   | exact neumelaw08_heads.mono _
   | exact neumeref08_Alike.mono _ _ _
   | exact token_Scan.mono _ _
   | exact LeO.none _
   | refine LeO.ite ?_ ?_
   | refine LeO.bind ?_ (fun _ => ?_)
  ·intro y0 y1 y2 y3 y4
   unfold neumelaw08_TokenBlanks.j3
   repeat' first
   | (with_reducible exact ih0 _ _ _ _)
   | (with_reducible exact ih1 _ _ _ _)
   | (with_reducible exact ih2 _ _ _ _ _ _ _)
   | (with_reducible exact ih3 _ _ _ _ _)
   | (with_reducible exact neumelaw08_heads.mono _)
   | (with_reducible exact neumeref08_Alike.mono _ _ _)
   | (with_reducible exact token_Scan.mono _ _)
   | (with_reducible exact LeO.refl _)
   | (with_reducible exact LeO.none _)
   | (with_reducible refine LeO.ite ?_ ?_)
   | (with_reducible refine LeO.bind ?_ (fun _ => ?_))
   | exact ih0 _ _ _ _
   | exact ih1 _ _ _ _
   | exact ih2 _ _ _ _ _ _ _
   | exact ih3 _ _ _ _ _
   | exact neumelaw08_heads.mono _
   | exact neumeref08_Alike.mono _ _ _
   | exact token_Scan.mono _ _
   | exact LeO.none _
   | refine LeO.ite ?_ ?_
   | refine LeO.bind ?_ (fun _ => ?_)
theorem neumelaw08_TokenBlanks.mono : ∀ a0 a1 a2 k, LeO (neumelaw08_TokenBlanks.f k a0 a1 a2) (neumelaw08_TokenBlanks.f (k + 1) a0 a1 a2) := by
 intro a0 a1 a2 k
 obtain ⟨ih0, ih1, ih2, ih3⟩ := neumelaw08_TokenBlanks.mono_l k
 unfold neumelaw08_TokenBlanks.f
 repeat' first
   | (with_reducible exact ih0 _ _ _ _)
   | (with_reducible exact ih1 _ _ _ _)
   | (with_reducible exact ih2 _ _ _ _ _ _ _)
   | (with_reducible exact ih3 _ _ _ _ _)
   | (with_reducible exact neumelaw08_heads.mono _)
   | (with_reducible exact neumeref08_Alike.mono _ _ _)
   | (with_reducible exact token_Scan.mono _ _)
   | (with_reducible exact LeO.refl _)
   | (with_reducible exact LeO.none _)
   | (with_reducible refine LeO.ite ?_ ?_)
   | (with_reducible refine LeO.bind ?_ (fun _ => ?_))
   | exact ih0 _ _ _ _
   | exact ih1 _ _ _ _
   | exact ih2 _ _ _ _ _ _ _
   | exact ih3 _ _ _ _ _
   | exact neumelaw08_heads.mono _
   | exact neumeref08_Alike.mono _ _ _
   | exact token_Scan.mono _ _
   | exact LeO.none _
   | refine LeO.ite ?_ ?_
   | refine LeO.bind ?_ (fun _ => ?_)
def neumelaw08_TokenBlanks.T14 : Bool × List (List Nat × List Nat) := (true, [([], []), ([], []), ([0, 1], [0, 1]), ([2], [2]), ([], []), ([3, 4], [3, 4]), ([5], [5]), ([], []), ([], []), ([7, 8], [7, 8]), ([6, 9], [6, 9]), ([10], [10]), ([11], [11]), ([12], [12]), ([12], [12]), ([], []), ([13, 11, 0, 1, 2, 3, 4, 5, 6, 7, 8, 9, 10, 11, 12, 13, 15], [13]), ([15, 14, 16, 0, 1, 2, 3, 4, 5, 6, 7, 8, 9, 10, 11, 12, 13, 14, 15, 16], [14, 15])])
def neumelaw08_TokenBlanks.B14 : List Nat := [0, 0, 3, 7, 0, 31, 63, 0, 0, 384, 1023, 2047, 4095, 8191, 8191, 0, 49151, 131071]
theorem neumelaw08_TokenBlanks.tab14 : rtab .any (opsOf Tryd.f6 14) = neumelaw08_TokenBlanks.T14 := by kernel_rfl
theorem neumelaw08_TokenBlanks.bits14 : waitsOk neumelaw08_TokenBlanks.T14.2 neumelaw08_TokenBlanks.B14 = true := by kernel_rfl
set_option maxHeartbeats 8000000 in
set_option maxRecDepth 100000 in
theorem neumelaw08_TokenBlanks.calls (k : Nat) (a0 : ByteArray) (a1 : Int) (a2 : ByteArray) (r : Bool) (w : World) (hE : Aside0 (LaidE w)) (hxt : Aside0 (r = true)) (h : neumelaw08_TokenBlanks.f k a0 a1 a2 = some r) :
  Calls Tryd.prog 6 #[.string a0, .int .i64 a1, .string a2] w fun e w' => e = .returned (.bool r) ∧ Below w.heap.size w w' := by
 have hu26 := Tryd.underlying26
 have HB := sd_ (Below.refl w.heap.size w)
 have H : (if (a0.size : Int) > 3000 then (neumelaw08_TokenBlanks.j0 k a0 a1 a2 true) else (neumelaw08_TokenBlanks.j0 k a0 a1 a2 (decide ((a2.size : Int) > 100)))) = some r := h
 clear h
 have HC4 := sd_ H
 clear H
 go_enter Tryd.func6, Tryd.ntmps6
 go_upto_region 1 with (fail)
 go_cut [20] (fun v20 wc => ∃ (kq : Nat) (x20_3 : Bool), v20 = .bool x20_3 ∧ Aside0 (neumelaw08_TokenBlanks.j0 kq a0 a1 a2 x20_3 = some r) ∧ Aside0 (kq ≤ k) ∧ Aside0 (Below w.heap.size w wc))
 case first =>
  have H := HC4.out
  clear HC4
  by_cases c5 : (a0.size : Int) > 3000
  ·rw [if_pos c5] at H
   have c5b0 : decide (3000 < (a0.size : Int)) = true := dt_ c5
   have c5b1 : decide (3000 < a0.size) = true := dt_ (by omega)
   clear c5
   (first | rw [c5b0] | (simp only [i64_w, i32_w]; rw [c5b0]) | skip)
   have H' := sd_ H
   clear H
   go_wp2
   go_meet
   case rel => exact ⟨_, (true), (by first | rfl | (simp; done) | (simp [*]; done) | (simp [bne]; done)), H', ⟨by first | omega | exact Nat.le_refl _⟩, ⟨by repeat (first | (with_reducible first | exact HB.out | apply ba_ | apply pd_ | apply d1_) | exact HB.out)⟩⟩
  ·rw [if_neg c5] at H
   have c5b0 : decide (3000 < (a0.size : Int)) = false := df_ c5
   have c5b1 : decide (3000 < a0.size) = false := df_ (by omega)
   clear c5
   (first | rw [c5b0] | (simp only [i64_w, i32_w]; rw [c5b0]) | skip)
   have H' := sd_ H
   clear H
   go_wp2
   go_meet
   case rel => exact ⟨_, (decide ((a2.size : Int) > 100)), (by first | rfl | (simp; done) | (simp [*]; done) | (simp [bne]; done)), H', ⟨by first | omega | exact Nat.le_refl _⟩, ⟨by repeat (first | (with_reducible first | exact HB.out | apply ba_ | apply pd_ | apply d1_) | exact HB.out)⟩⟩
 case rest =>
  clear HC4
  try clear p2; try clear c5; try clear c5b0; try clear c5b1
  obtain ⟨kq, x20_3, rfl, HA, HJ3, HB⟩ := hcut
  cases kq with
  | zero => exact absurd HA.out (by simp [neumelaw08_TokenBlanks.j0])
  | succ kj3 =>
   have H := HA.out
   clear HA
   simp only [neumelaw08_TokenBlanks.j0] at H
   by_cases c6 : x20_3 = true
   ·subst c6
    have H1 : ((neumelaw08_heads.f kj3).bind fun t315 => (some t315)) = some r := by rw [if_pos rfl] at H; exact H
    clear H; have H := H1; clear H1
    replace H := ob_ H
    obtain ⟨t315, A70, H⟩ := H
    replace H : (some t315) = some r := H
    have A7 := sd_ A70
    clear A70
    obtain rfl := Option.some.inj H
    go_wp2_with (first | ((with_reducible refine gate_callee (f := 8) rfl ?_); refine goesL_ (some 21) rfl rfl Tryd.func8 (by kernel_rfl) rfl #[] rfl (by (try simp only [lm_, lq_, lx_]); first | done | rfl | (simp only [ld_, lt_]; rfl)) ?_; (with_reducible refine (neumelaw08_heads.calls kj3  t315 _ ?side1 A7.out).mono ?_); (case side1 => first | (with_reducible exact hE) | exact sd_ (LaidE.below hE.out (bb_ HB.out e0_))); rintro e w8 ⟨rfl, hb⟩; refine ⟨_, rfl, ?_⟩; replace HB := hb_ HB e0_ hb; (try clear hb); (try clear hb2); (try clear hk); (try clear hi)))
    go_ret
    exact ⟨by first | rfl | (simp [errW_none, errW_some] <;> rfl) | (simp [*, errW_none, errW_some] <;> rfl), by repeat (first | (with_reducible first | exact HB.out | apply ba_ | apply pd_ | apply d1_) | exact HB.out)⟩
   ·replace c6 := bf_ c6
    subst c6
    have H1 : (neumelaw08_TokenBlanks.l0 kj3 a0 a1 a2 0) = some r := by rw [if_neg (show ¬ (false = true) by decide)] at H; exact H
    clear H; have H := H1; clear H1
    have H' := sd_ H
    clear H
    go_wp2
    go_loopg [7] kj3 (fun kq v7 w' => ∃ (x7_2 : Int), v7 = .int .i64 x7_2 ∧ Aside0 (neumelaw08_TokenBlanks.l0 kq a0 a1 a2 x7_2 = some r) ∧ Aside0 (kq ≤ kj3) ∧ Aside0 (Below w.heap.size w w'))
    case atStart => exact ⟨(0), (by first | rfl | (simp; done) | (simp [*]; done) | (simp [bne]; done)), H', ⟨Nat.le_refl _⟩, ⟨by repeat (first | (with_reducible first | exact HB.out | apply ba_ | apply pd_ | apply d1_) | exact HB.out)⟩⟩
    case round =>
     clear H'
     try clear p2; try clear c5; try clear c5b0; try clear c5b1; try clear c6; try clear c8; try clear p2
     obtain ⟨x7_2, rfl, HA, HK2, HB⟩ := hrel
     cases gk with
     | zero => exact absurd HA.out (by simp [neumelaw08_TokenBlanks.l0])
     | succ k2 =>
      have H := HA.out
      clear HA
      simp only [neumelaw08_TokenBlanks.l0] at H
      by_cases c9 : x7_2 < (a2.size : Int)
      ·rw [if_pos c9] at H
       have c9b0 : decide (x7_2 < (a2.size : Int)) = true := dt_ c9
       clear c9
       by_cases c10 : 0 ≤ x7_2
       ·rw [if_pos c10] at H
        have c10b0 : decide (0 ≤ x7_2) = true := dt_ c10
        clear c10
        by_cases c12 : (bt a2 x7_2) = 10
        ·rw [if_pos c12] at H
         have c12b0 : ((bt a2 x7_2) == 10) = true := beq_iff_eq.mpr c12
         have c12b1 : ((bt a2 x7_2) != 10) = false := bne_eq_false_iff_eq.mpr c12
         clear c12
         replace H := ob_ H
         obtain ⟨t316, A130, H⟩ := H
         replace H : (some t316) = some r := H
         have A13 := sd_ A130
         clear A130
         obtain rfl := Option.some.inj H
         have p11 : 0 ≤ (x7_2 : Int) := od_ (by first | (with_reducible assumption) | assumption)
         have q11 : x7_2 < (a2.size : Int) := od_ (by first | (with_reducible assumption) | assumption)
         have hx11 := bt_at a2 x7_2
         replace p11 := eq_true p11
         replace q11 := eq_true q11
         go_wp2_with (first | ((with_reducible refine gate_callee (f := 8) rfl ?_); refine goesL_ (some 32) rfl rfl Tryd.func8 (by kernel_rfl) rfl #[] rfl (by (try simp only [lm_, lq_, lx_]); first | done | rfl | (simp only [ld_, lt_]; rfl)) ?_; (with_reducible refine (neumelaw08_heads.calls k2  t316 _ ?side1 A13.out).mono ?_); (case side1 => first | (with_reducible exact hE) | exact sd_ (LaidE.below hE.out (bb_ HB.out e0_))); rintro e w14 ⟨rfl, hb⟩; refine ⟨_, rfl, ?_⟩; replace HB := hb_ HB e0_ hb; (try clear hb); (try clear hb2); (try clear hk); (try clear hi)))
         go_ret
         exact ⟨by first | rfl | (simp [errW_none, errW_some] <;> rfl) | (simp [*, errW_none, errW_some] <;> rfl), by repeat (first | (with_reducible first | exact HB.out | apply ba_ | apply pd_ | apply d1_) | exact HB.out)⟩
        ·rw [if_neg c12] at H
         have c12b0 : ((bt a2 x7_2) == 10) = false := beq_eq_false_iff_ne.mpr c12
         have c12b1 : ((bt a2 x7_2) != 10) = true := bne_iff_ne.mpr c12
         have H' := sd_ H
         clear H
         have p11 : 0 ≤ (x7_2 : Int) := od_ (by first | (with_reducible assumption) | assumption)
         have q11 : x7_2 < (a2.size : Int) := od_ (by first | (with_reducible assumption) | assumption)
         have hx11 := bt_at a2 x7_2
         replace p11 := eq_true p11
         replace q11 := eq_true q11
         go_wp2
         go_roundg k2
         case measure => have := HJ3.out; have := HK2.out; omega
         case rel => exact ⟨(wrap64 (x7_2 + 1)), (by first | rfl | (simp; done) | (simp [*]; done) | (simp [bne]; done)), H', ⟨by have := HJ3.out; have := HK2.out; omega⟩, ⟨by repeat (first | (with_reducible first | exact HB.out | apply ba_ | apply pd_ | apply d1_) | exact HB.out)⟩⟩
       ·rw [if_neg c10] at H
        exact absurd H (by simp)
      ·rw [if_neg c9] at H
       have c9b0 : decide (x7_2 < (a2.size : Int)) = false := df_ c9
       clear c9
       replace H := ob_ H
       obtain ⟨⟨t317, t320, t321⟩, A150, H⟩ := H
       replace H : (if t320 = 0 then (if a1 < 0 then (neumelaw08_TokenBlanks.j2 k2 a0 a1 a2 t317 true t320 t321) else (if a1 ≥ (t317.length : Int) then (neumelaw08_TokenBlanks.j2 k2 a0 a1 a2 t317 true t320 t321) else (if 0 ≤ a1 then (if a1 < (t317.length : Int) then (if ((rd_T34 t317 a1).f2) < 0 then (neumelaw08_TokenBlanks.j2 k2 a0 a1 a2 t317 true t320 t321) else (neumelaw08_TokenBlanks.j2 k2 a0 a1 a2 t317 (decide (((rd_T34 t317 a1).f2) > (a0.size : Int))) t320 t321)) else (none)) else (none)))) else (neumelaw08_TokenBlanks.j2 k2 a0 a1 a2 t317 true t320 t321)) = some r := H
       have A15 := sd_ A150
       clear A150
       have HC16 := sd_ H
       clear H
       go_upto_region 9 with (first | ((with_reducible refine gate_callee (f := 9) rfl ?_); refine goesL_ (some 35) rfl rfl Tryd.func9 (by kernel_rfl) rfl #[.string a0] rfl (by (try simp only [lm_, lq_, lx_]); first | done | rfl | (simp only [ld_, lt_]; rfl)) ?_; (with_reducible refine (token_Scan.calls k2 a0 t317 t320 t321 _ ?side1 A15.out).mono ?_); (case side1 => first | (with_reducible exact hE) | exact sd_ (LaidE.below hE.out (bb_ HB.out e0_))); rintro e w17 ⟨v318, rfl, ho0, hb⟩; refine ⟨_, rfl, ?_⟩; have HO319 := sd_ (Kd.R_lower ho0 (bz_ (bb_ HB.out e0_))); replace HB := hb_ HB e0_ hb; (try clear hb); (try clear hb2); (try clear hk); (try clear hi); (try clear ho0)) | ((with_reducible refine gate_dst (N := 9) rfl ?_); (try (refine gate_guard (by rfl) ?_; dsimp only)); refine box_event ?hg (N := 9) ?hd (cs := #[.int .i64 0, .int .i64 0]) (t := 26) ?hr ?_; (case hd => rfl); (case hg => rfl); (case hr => first | (go_simp; done) | (go_simp; rfl)); intro gb322 hg w18 hbox hb; have BK322 := sd_ hbox; have GW322 := gw_ HB e0_ hg; have GE322 := GW322; replace HO319 := sd_ (Kd.R_below (by (with_reducible repeat (first | apply Kd.R_alloc | apply Kd.R_drewN | apply Kd.R_drew)); exact HO319.out) hb); replace HB := hb_ HB e0_ hb; clear hb hbox hg; have hcz19_0 : w18.cell? ⟨gb322, 0, none⟩ = some (.int .i64 0) := (kc_ BK322.out 0).trans rfl; have hcz19_1 : w18.cell? ⟨gb322, 1, none⟩ = some (.int .i64 0) := (kc_ BK322.out 1).trans rfl; have hfz19_0 := kf_ BK322.out 0; have hfz19_1 := kf_ BK322.out 1))
       (try simp only [Act.put, ls_, lz_, lc_])
       go_cut [68] (fun v68 wc => ∃ (kq : Nat) (x68_15 : Bool), v68 = .bool x68_15 ∧ Aside0 (neumelaw08_TokenBlanks.j2 kq a0 a1 a2 t317 x68_15 t320 t321 = some r) ∧ Aside0 (kq ≤ k2) ∧ Aside0 (Kd.R k34 34 wc w.heap.size (fun _ => True) v318 t317) ∧ Aside0 (wc.heap[gb322]? = some (.cells #[.int .i64 t320, .int .i64 t321] 26 (0, 0))) ∧ Aside0 (Below w.heap.size w wc))
       case first =>
        have H := HC16.out
        clear HC16
        by_cases c20 : t320 = 0
        ·rw [if_pos c20] at H
         have c20b0 : (t320 == 0) = true := beq_iff_eq.mpr c20
         have c20b1 : (t320 != 0) = false := bne_eq_false_iff_eq.mpr c20
         clear c20
         (first | rw [c20b0] | (simp only [i64_w, i32_w]; rw [c20b0]) | skip)
         by_cases c21 : a1 < 0
         ·rw [if_pos c21] at H
          have c21b0 : decide (a1 < 0) = true := dt_ c21
          clear c21
          have H' := sd_ H
          clear H
          have hcz22_0 : w18.cell? ⟨gb322, 0, none⟩ = some (.int .i64 0) := (kc_ BK322.out 0).trans rfl
          have hcz22_1 : w18.cell? ⟨gb322, 1, none⟩ = some (.int .i64 0) := (kc_ BK322.out 1).trans rfl
          have hfz22_0 := kf_ BK322.out 0
          have hfz22_1 := kf_ BK322.out 1
          go_wp2
          go_meet
          case rel => exact ⟨_, (true), (by first | rfl | (simp; done) | (simp [*]; done) | (simp [bne]; done)), H', ⟨by have := HJ3.out; have := HK2.out; first | omega | exact Nat.le_refl _⟩, ⟨by (with_reducible repeat (first | apply Kd.R_alloc | apply Kd.R_drewN | apply Kd.R_drew)); exact Kd.R_mono (Kd.R_far (p := ⟨gb322, 1, none⟩) (Kd.R_far (p := ⟨gb322, 0, none⟩) (Kd.R_types HO319.out BK322.out (by decide)) (fun _ hk => hk.2) (.int .i64 t320)) (fun _ hk => hk.2) (.int .i64 t321)) (fun _ hk => trivial)⟩, ⟨by (with_reducible repeat first | apply kn_ | apply kd_ | apply ka_); refine blk_put (cs := #[.int .i64 t320, .int .i64 0]) ?_ 1 _ rfl; (with_reducible repeat first | apply kn_ | apply kd_ | apply ka_); refine blk_put (cs := #[.int .i64 0, .int .i64 0]) ?_ 0 _ rfl; (with_reducible repeat first | apply kn_ | apply kd_ | apply ka_); exact BK322.out⟩, ⟨by repeat (first | (with_reducible first | exact HB.out | apply ba_ | apply pd_ | apply d1_ | refine bs_ ?_ GE322.out) | exact HB.out)⟩⟩
         ·rw [if_neg c21] at H
          have c21b0 : decide (a1 < 0) = false := df_ c21
          clear c21
          by_cases c23 : a1 ≥ (t317.length : Int)
          ·rw [if_pos c23] at H
           have c23b0 : decide ((t317.length : Int) ≤ a1) = true := dt_ c23
           clear c23
           have H' := sd_ H
           clear H
           have hcz24_0 : w18.cell? ⟨gb322, 0, none⟩ = some (.int .i64 0) := (kc_ BK322.out 0).trans rfl
           have hcz24_1 : w18.cell? ⟨gb322, 1, none⟩ = some (.int .i64 0) := (kc_ BK322.out 1).trans rfl
           have hfz24_0 := kf_ BK322.out 0
           have hfz24_1 := kf_ BK322.out 1
           obtain ⟨Ao25, co25, eo25⟩ := Kd.R_slice HO319.out
           subst eo25
           go_wp2
           go_meet
           case rel => exact ⟨_, (true), (by first | rfl | (simp; done) | (simp [*]; done) | (simp [bne]; done)), H', ⟨by have := HJ3.out; have := HK2.out; first | omega | exact Nat.le_refl _⟩, ⟨by (with_reducible repeat (first | apply Kd.R_alloc | apply Kd.R_drewN | apply Kd.R_drew)); exact Kd.R_mono (Kd.R_far (p := ⟨gb322, 1, none⟩) (Kd.R_far (p := ⟨gb322, 0, none⟩) (Kd.R_types HO319.out BK322.out (by decide)) (fun _ hk => hk.2) (.int .i64 t320)) (fun _ hk => hk.2) (.int .i64 t321)) (fun _ hk => trivial)⟩, ⟨by (with_reducible repeat first | apply kn_ | apply kd_ | apply ka_); refine blk_put (cs := #[.int .i64 t320, .int .i64 0]) ?_ 1 _ rfl; (with_reducible repeat first | apply kn_ | apply kd_ | apply ka_); refine blk_put (cs := #[.int .i64 0, .int .i64 0]) ?_ 0 _ rfl; (with_reducible repeat first | apply kn_ | apply kd_ | apply ka_); exact BK322.out⟩, ⟨by repeat (first | (with_reducible first | exact HB.out | apply ba_ | apply pd_ | apply d1_ | refine bs_ ?_ GE322.out) | exact HB.out)⟩⟩
          ·rw [if_neg c23] at H
           have c23b0 : decide ((t317.length : Int) ≤ a1) = false := df_ c23
           clear c23
           by_cases c26 : 0 ≤ a1
           ·rw [if_pos c26] at H
            have c26b0 : decide (0 ≤ a1) = true := dt_ c26
            clear c26
            by_cases c27 : a1 < (t317.length : Int)
            ·rw [if_pos c27] at H
             have c27b0 : decide (a1 < (t317.length : Int)) = true := dt_ c27
             clear c27
             by_cases c28 : ((rd_T34 t317 a1).f2) < 0
             ·rw [if_pos c28] at H
              have c28b0 : decide (((rd_T34 t317 a1).f2) < 0) = true := dt_ c28
              clear c28
              have H' := sd_ H
              clear H
              have hcz29_0 : w18.cell? ⟨gb322, 0, none⟩ = some (.int .i64 0) := (kc_ BK322.out 0).trans rfl
              have hcz29_1 : w18.cell? ⟨gb322, 1, none⟩ = some (.int .i64 0) := (kc_ BK322.out 1).trans rfl
              have hfz29_0 := kf_ BK322.out 0
              have hfz29_1 := kf_ BK322.out 1
              obtain ⟨Ao30, co30, eo30⟩ := Kd.R_slice HO319.out
              subst eo30
              have p323 : 0 ≤ (a1 : Int) := od_ (by first | (with_reducible assumption) | assumption)
              have q323 : a1 < (t317.length : Int) := od_ (by first | (with_reducible assumption) | assumption)
              obtain ⟨ad323, e323, hx323_0, hx323_1, hx323_2⟩ := at_T34 (Kd.R_reads' HO319.out).2.2 a1 p323 q323
              cases e323
              have hn323_0 : ad323.block ≠ gb322 := Kd.own_blk (Kd.R_ne HO319.out BK322.out (by decide))
              have hn323_1 : ad323.block ≠ gb322 := Kd.own_blk (Kd.R_ne HO319.out BK322.out (by decide))
              replace hx323_0 := (cell_far (p := ⟨gb322, 0, none⟩) (by first | (rw [ak_]; exact hn323_0) | (show (Addr.add _ _).block ≠ _; rw [ak_]; exact hn323_0) | exact hn323_0) (.int .i64 t320)).trans hx323_0
              replace hx323_1 := (cell_far (p := ⟨gb322, 0, none⟩) (by first | (rw [ak_]; exact hn323_0) | (show (Addr.add _ _).block ≠ _; rw [ak_]; exact hn323_0) | exact hn323_0) (.int .i64 t320)).trans hx323_1
              replace hx323_2 := (cell_far (p := ⟨gb322, 0, none⟩) (by first | (rw [ak_]; exact hn323_0) | (show (Addr.add _ _).block ≠ _; rw [ak_]; exact hn323_0) | exact hn323_0) (.int .i64 t320)).trans hx323_2
              replace hx323_0 := (cell_far (p := ⟨gb322, 1, none⟩) (by first | (rw [ak_]; exact hn323_1) | (show (Addr.add _ _).block ≠ _; rw [ak_]; exact hn323_1) | exact hn323_1) (.int .i64 t321)).trans hx323_0
              replace hx323_1 := (cell_far (p := ⟨gb322, 1, none⟩) (by first | (rw [ak_]; exact hn323_1) | (show (Addr.add _ _).block ≠ _; rw [ak_]; exact hn323_1) | exact hn323_1) (.int .i64 t321)).trans hx323_1
              replace hx323_2 := (cell_far (p := ⟨gb322, 1, none⟩) (by first | (rw [ak_]; exact hn323_1) | (show (Addr.add _ _).block ≠ _; rw [ak_]; exact hn323_1) | exact hn323_1) (.int .i64 t321)).trans hx323_2
              clear hn323_0
              clear hn323_1
              replace p323 := eq_true p323
              replace q323 := eq_true q323
              go_wp2
              go_meet
              case rel => exact ⟨_, (true), (by first | rfl | (simp; done) | (simp [*]; done) | (simp [bne]; done)), H', ⟨by have := HJ3.out; have := HK2.out; first | omega | exact Nat.le_refl _⟩, ⟨by (with_reducible repeat (first | apply Kd.R_alloc | apply Kd.R_drewN | apply Kd.R_drew)); exact Kd.R_mono (Kd.R_far (p := ⟨gb322, 1, none⟩) (Kd.R_far (p := ⟨gb322, 0, none⟩) (Kd.R_types HO319.out BK322.out (by decide)) (fun _ hk => hk.2) (.int .i64 t320)) (fun _ hk => hk.2) (.int .i64 t321)) (fun _ hk => trivial)⟩, ⟨by (with_reducible repeat first | apply kn_ | apply kd_ | apply ka_); refine blk_put (cs := #[.int .i64 t320, .int .i64 0]) ?_ 1 _ rfl; (with_reducible repeat first | apply kn_ | apply kd_ | apply ka_); refine blk_put (cs := #[.int .i64 0, .int .i64 0]) ?_ 0 _ rfl; (with_reducible repeat first | apply kn_ | apply kd_ | apply ka_); exact BK322.out⟩, ⟨by repeat (first | (with_reducible first | exact HB.out | apply ba_ | apply pd_ | apply d1_ | refine bs_ ?_ GE322.out) | exact HB.out)⟩⟩
             ·rw [if_neg c28] at H
              have c28b0 : decide (((rd_T34 t317 a1).f2) < 0) = false := df_ c28
              clear c28
              have H' := sd_ H
              clear H
              have hcz31_0 : w18.cell? ⟨gb322, 0, none⟩ = some (.int .i64 0) := (kc_ BK322.out 0).trans rfl
              have hcz31_1 : w18.cell? ⟨gb322, 1, none⟩ = some (.int .i64 0) := (kc_ BK322.out 1).trans rfl
              have hfz31_0 := kf_ BK322.out 0
              have hfz31_1 := kf_ BK322.out 1
              obtain ⟨Ao32, co32, eo32⟩ := Kd.R_slice HO319.out
              subst eo32
              have p323 : 0 ≤ (a1 : Int) := od_ (by first | (with_reducible assumption) | assumption)
              have q323 : a1 < (t317.length : Int) := od_ (by first | (with_reducible assumption) | assumption)
              obtain ⟨ad323, e323, hx323_0, hx323_1, hx323_2⟩ := at_T34 (Kd.R_reads' HO319.out).2.2 a1 p323 q323
              cases e323
              have hn323_0 : ad323.block ≠ gb322 := Kd.own_blk (Kd.R_ne HO319.out BK322.out (by decide))
              have hn323_1 : ad323.block ≠ gb322 := Kd.own_blk (Kd.R_ne HO319.out BK322.out (by decide))
              replace hx323_0 := (cell_far (p := ⟨gb322, 0, none⟩) (by first | (rw [ak_]; exact hn323_0) | (show (Addr.add _ _).block ≠ _; rw [ak_]; exact hn323_0) | exact hn323_0) (.int .i64 t320)).trans hx323_0
              replace hx323_1 := (cell_far (p := ⟨gb322, 0, none⟩) (by first | (rw [ak_]; exact hn323_0) | (show (Addr.add _ _).block ≠ _; rw [ak_]; exact hn323_0) | exact hn323_0) (.int .i64 t320)).trans hx323_1
              replace hx323_2 := (cell_far (p := ⟨gb322, 0, none⟩) (by first | (rw [ak_]; exact hn323_0) | (show (Addr.add _ _).block ≠ _; rw [ak_]; exact hn323_0) | exact hn323_0) (.int .i64 t320)).trans hx323_2
              replace hx323_0 := (cell_far (p := ⟨gb322, 1, none⟩) (by first | (rw [ak_]; exact hn323_1) | (show (Addr.add _ _).block ≠ _; rw [ak_]; exact hn323_1) | exact hn323_1) (.int .i64 t321)).trans hx323_0
              replace hx323_1 := (cell_far (p := ⟨gb322, 1, none⟩) (by first | (rw [ak_]; exact hn323_1) | (show (Addr.add _ _).block ≠ _; rw [ak_]; exact hn323_1) | exact hn323_1) (.int .i64 t321)).trans hx323_1
              replace hx323_2 := (cell_far (p := ⟨gb322, 1, none⟩) (by first | (rw [ak_]; exact hn323_1) | (show (Addr.add _ _).block ≠ _; rw [ak_]; exact hn323_1) | exact hn323_1) (.int .i64 t321)).trans hx323_2
              clear hn323_0
              clear hn323_1
              replace p323 := eq_true p323
              replace q323 := eq_true q323
              have p324 : 0 ≤ (a1 : Int) := od_ (by first | (with_reducible assumption) | assumption)
              have q324 : a1 < (t317.length : Int) := od_ (by first | (with_reducible assumption) | assumption)
              obtain ⟨ad324, e324, hx324_0, hx324_1, hx324_2⟩ := at_T34 (Kd.R_reads' HO319.out).2.2 a1 p324 q324
              obtain rfl : ad323 = ad324 := (by injection e324)
              have hn324_0 : ad323.block ≠ gb322 := Kd.own_blk (Kd.R_ne HO319.out BK322.out (by decide))
              have hn324_1 : ad323.block ≠ gb322 := Kd.own_blk (Kd.R_ne HO319.out BK322.out (by decide))
              replace hx324_0 := (cell_far (p := ⟨gb322, 0, none⟩) (by first | (rw [ak_]; exact hn324_0) | (show (Addr.add _ _).block ≠ _; rw [ak_]; exact hn324_0) | exact hn324_0) (.int .i64 t320)).trans hx324_0
              replace hx324_1 := (cell_far (p := ⟨gb322, 0, none⟩) (by first | (rw [ak_]; exact hn324_0) | (show (Addr.add _ _).block ≠ _; rw [ak_]; exact hn324_0) | exact hn324_0) (.int .i64 t320)).trans hx324_1
              replace hx324_2 := (cell_far (p := ⟨gb322, 0, none⟩) (by first | (rw [ak_]; exact hn324_0) | (show (Addr.add _ _).block ≠ _; rw [ak_]; exact hn324_0) | exact hn324_0) (.int .i64 t320)).trans hx324_2
              replace hx324_0 := (cell_far (p := ⟨gb322, 1, none⟩) (by first | (rw [ak_]; exact hn324_1) | (show (Addr.add _ _).block ≠ _; rw [ak_]; exact hn324_1) | exact hn324_1) (.int .i64 t321)).trans hx324_0
              replace hx324_1 := (cell_far (p := ⟨gb322, 1, none⟩) (by first | (rw [ak_]; exact hn324_1) | (show (Addr.add _ _).block ≠ _; rw [ak_]; exact hn324_1) | exact hn324_1) (.int .i64 t321)).trans hx324_1
              replace hx324_2 := (cell_far (p := ⟨gb322, 1, none⟩) (by first | (rw [ak_]; exact hn324_1) | (show (Addr.add _ _).block ≠ _; rw [ak_]; exact hn324_1) | exact hn324_1) (.int .i64 t321)).trans hx324_2
              clear hn324_0
              clear hn324_1
              replace p324 := eq_true p324
              replace q324 := eq_true q324
              go_wp2
              go_meet
              case rel => exact ⟨_, (decide (((rd_T34 t317 a1).f2) > (a0.size : Int))), (by first | rfl | (simp; done) | (simp [*]; done) | (simp [bne]; done)), H', ⟨by have := HJ3.out; have := HK2.out; first | omega | exact Nat.le_refl _⟩, ⟨by (with_reducible repeat (first | apply Kd.R_alloc | apply Kd.R_drewN | apply Kd.R_drew)); exact Kd.R_mono (Kd.R_far (p := ⟨gb322, 1, none⟩) (Kd.R_far (p := ⟨gb322, 0, none⟩) (Kd.R_types HO319.out BK322.out (by decide)) (fun _ hk => hk.2) (.int .i64 t320)) (fun _ hk => hk.2) (.int .i64 t321)) (fun _ hk => trivial)⟩, ⟨by (with_reducible repeat first | apply kn_ | apply kd_ | apply ka_); refine blk_put (cs := #[.int .i64 t320, .int .i64 0]) ?_ 1 _ rfl; (with_reducible repeat first | apply kn_ | apply kd_ | apply ka_); refine blk_put (cs := #[.int .i64 0, .int .i64 0]) ?_ 0 _ rfl; (with_reducible repeat first | apply kn_ | apply kd_ | apply ka_); exact BK322.out⟩, ⟨by repeat (first | (with_reducible first | exact HB.out | apply ba_ | apply pd_ | apply d1_ | refine bs_ ?_ GE322.out) | exact HB.out)⟩⟩
            ·rw [if_neg c27] at H
             exact absurd H (by simp)
           ·rw [if_neg c26] at H
            exact absurd H (by simp)
        ·rw [if_neg c20] at H
         have c20b0 : (t320 == 0) = false := beq_eq_false_iff_ne.mpr c20
         have c20b1 : (t320 != 0) = true := bne_iff_ne.mpr c20
         (first | rw [c20b0] | (simp only [i64_w, i32_w]; rw [c20b0]) | skip)
         have H' := sd_ H
         clear H
         have hcz33_0 : w18.cell? ⟨gb322, 0, none⟩ = some (.int .i64 0) := (kc_ BK322.out 0).trans rfl
         have hcz33_1 : w18.cell? ⟨gb322, 1, none⟩ = some (.int .i64 0) := (kc_ BK322.out 1).trans rfl
         have hfz33_0 := kf_ BK322.out 0
         have hfz33_1 := kf_ BK322.out 1
         go_wp2
         go_meet
         case rel => exact ⟨_, (true), (by first | rfl | (simp; done) | (simp [*]; done) | (simp [bne]; done)), H', ⟨by have := HJ3.out; have := HK2.out; first | omega | exact Nat.le_refl _⟩, ⟨by (with_reducible repeat (first | apply Kd.R_alloc | apply Kd.R_drewN | apply Kd.R_drew)); exact Kd.R_mono (Kd.R_far (p := ⟨gb322, 1, none⟩) (Kd.R_far (p := ⟨gb322, 0, none⟩) (Kd.R_types HO319.out BK322.out (by decide)) (fun _ hk => hk.2) (.int .i64 t320)) (fun _ hk => hk.2) (.int .i64 t321)) (fun _ hk => trivial)⟩, ⟨by (with_reducible repeat first | apply kn_ | apply kd_ | apply ka_); refine blk_put (cs := #[.int .i64 t320, .int .i64 0]) ?_ 1 _ rfl; (with_reducible repeat first | apply kn_ | apply kd_ | apply ka_); refine blk_put (cs := #[.int .i64 0, .int .i64 0]) ?_ 0 _ rfl; (with_reducible repeat first | apply kn_ | apply kd_ | apply ka_); exact BK322.out⟩, ⟨by repeat (first | (with_reducible first | exact HB.out | apply ba_ | apply pd_ | apply d1_ | refine bs_ ?_ GE322.out) | exact HB.out)⟩⟩
       case rest =>
        clear HC16
        try clear c1; try clear p1; try clear q1; try clear hx1; try clear c2; try clear p2; try clear p3; try clear q3; try clear hx3; try clear c5; try clear c5b0; try clear c5b1; try clear c6; try clear p6; try clear c8; try clear c9; try clear c9b0; try clear c10; try clear c10b0; try clear p11; try clear q11; try clear hx11; try clear c12; try clear c12b0; try clear c12b1; try clear c20; try clear c20b0; try clear c20b1; try clear c21; try clear c21b0; try clear c23; try clear c23b0; try clear c26; try clear c26b0; try clear c27; try clear c27b0; try clear c28; try clear c28b0; try clear p32; try clear q32; try clear hx32; try clear hcz19_0; try clear hcz19_1; try clear hcz22_0; try clear hcz22_1; try clear hcz24_0; try clear hcz24_1; try clear hcz29_0; try clear hcz29_1; try clear hcz31_0; try clear hcz31_1; try clear hcz33_0; try clear hcz33_1; try clear hfz19_0; try clear hfz19_1; try clear hfz22_0; try clear hfz22_1; try clear hfz24_0; try clear hfz24_1; try clear hfz29_0; try clear hfz29_1; try clear hfz31_0; try clear hfz31_1; try clear hfz33_0; try clear hfz33_1; try clear hx323_0; try clear hx323_1; try clear hx323_2; try clear hx324_0; try clear hx324_1; try clear hx324_2; try clear p11; try clear p2; try clear p323; try clear p324; try clear q11; try clear q323; try clear q324
        obtain ⟨kq, x68_15, rfl, HA, HJ15, HO_8, BK322, HB⟩ := hcut
        cases kq with
        | zero => exact absurd HA.out (by simp [neumelaw08_TokenBlanks.j2])
        | succ kj15 =>
         have H := HA.out
         clear HA
         simp only [neumelaw08_TokenBlanks.j2] at H
         by_cases c34 : x68_15 = true
         ·subst c34
          have H1 : (if t320 = 0 then ((neumelaw08_heads.f kj15).bind fun t325 => (some t325)) else (if (t317.length : Int) = 0 then ((neumelaw08_heads.f kj15).bind fun t326 => (some t326)) else (some false))) = some r := by rw [if_pos rfl] at H; exact H
          clear H; have H := H1; clear H1
          by_cases c35 : t320 = 0
          ·rw [if_pos c35] at H
           have c35b0 : (t320 == 0) = true := beq_iff_eq.mpr c35
           have c35b1 : (t320 != 0) = false := bne_eq_false_iff_eq.mpr c35
           clear c35
           replace H := ob_ H
           obtain ⟨t325, A360, H⟩ := H
           replace H : (some t325) = some r := H
           have A36 := sd_ A360
           clear A360
           obtain rfl := Option.some.inj H
           have hcz37_0 : wc.cell? ⟨gb322, 0, none⟩ = some (.int .i64 t320) := (kc_ BK322.out 0).trans rfl
           have hcz37_1 : wc.cell? ⟨gb322, 1, none⟩ = some (.int .i64 t321) := (kc_ BK322.out 1).trans rfl
           have hfz37_0 := kf_ BK322.out 0
           have hfz37_1 := kf_ BK322.out 1
           go_wp2_with (first | (go_at_call 8; (with_reducible refine (neumelaw08_heads.calls kj15  t325 _ ?side1 A36.out).mono ?_); (case side1 => first | (with_reducible exact hE) | exact sd_ (LaidE.below hE.out (bb_ HB.out (e_ GE322 e0_)))); rintro e w38 ⟨rfl, hb⟩; replace HO_8 := sd_ (Kd.R_below (by (with_reducible repeat (first | apply Kd.R_alloc | apply Kd.R_drewN | apply Kd.R_drew)); exact HO_8.out) hb); replace BK322 := kb_ BK322 hb; replace HB := hb_ HB (e_ GE322 e0_) hb; (try clear hb); (try clear hb2); (try clear hk); (try clear hi)))
           go_ret
           exact ⟨by first | rfl | (simp [errW_none, errW_some] <;> rfl) | (simp [*, errW_none, errW_some] <;> rfl), by repeat (first | (with_reducible first | exact HB.out | apply ba_ | apply pd_ | apply d1_ | refine bs_ ?_ GE322.out) | exact HB.out)⟩
          ·rw [if_neg c35] at H
           have c35b0 : (t320 == 0) = false := beq_eq_false_iff_ne.mpr c35
           have c35b1 : (t320 != 0) = true := bne_iff_ne.mpr c35
           by_cases c39 : (t317.length : Int) = 0
           ·rw [if_pos c39] at H
            have c39b0 : ((t317.length : Int) == 0) = true := beq_iff_eq.mpr c39
            have c39b1 : ((t317.length : Int) != 0) = false := bne_eq_false_iff_eq.mpr c39
            clear c39
            replace H := ob_ H
            obtain ⟨t326, A400, H⟩ := H
            replace H : (some t326) = some r := H
            have A40 := sd_ A400
            clear A400
            obtain rfl := Option.some.inj H
            have hcz41_0 : wc.cell? ⟨gb322, 0, none⟩ = some (.int .i64 t320) := (kc_ BK322.out 0).trans rfl
            have hcz41_1 : wc.cell? ⟨gb322, 1, none⟩ = some (.int .i64 t321) := (kc_ BK322.out 1).trans rfl
            have hfz41_0 := kf_ BK322.out 0
            have hfz41_1 := kf_ BK322.out 1
            obtain ⟨Ao42, co42, eo42⟩ := Kd.R_slice HO_8.out
            subst eo42
            go_wp2_with (first | (go_at_call 8; (with_reducible refine (neumelaw08_heads.calls kj15  t326 _ ?side1 A40.out).mono ?_); (case side1 => first | (with_reducible exact hE) | exact sd_ (LaidE.below hE.out (bb_ HB.out (e_ GE322 e0_)))); rintro e w43 ⟨rfl, hb⟩; replace HO_8 := sd_ (Kd.R_below (by (with_reducible repeat (first | apply Kd.R_alloc | apply Kd.R_drewN | apply Kd.R_drew)); exact HO_8.out) hb); replace BK322 := kb_ BK322 hb; replace HB := hb_ HB (e_ GE322 e0_) hb; (try clear hb); (try clear hb2); (try clear hk); (try clear hi)))
            go_ret
            exact ⟨by first | rfl | (simp [errW_none, errW_some] <;> rfl) | (simp [*, errW_none, errW_some] <;> rfl), by repeat (first | (with_reducible first | exact HB.out | apply ba_ | apply pd_ | apply d1_ | refine bs_ ?_ GE322.out) | exact HB.out)⟩
           ·rw [if_neg c39] at H
            have c39b0 : ((t317.length : Int) == 0) = false := beq_eq_false_iff_ne.mpr c39
            have c39b1 : ((t317.length : Int) != 0) = true := bne_iff_ne.mpr c39
            have c39b2 : ¬ (t317 = []) := fun h_ => c39 (by rw [h_]; rfl)
            exact absurd ((Option.some.inj H).trans hxt.out) (by decide)
         ·replace c34 := bf_ c34
          subst c34
          have H1 : (if 0 ≤ a1 then (if a1 < (t317.length : Int) then (if ((rd_T34 t317 a1).f0) = 8 then (neumelaw08_TokenBlanks.j3 kj15 a0 a2 t317 ((rd_T34 t317 a1).f2) (decide ((a0.size : Int) > 0))) else (neumelaw08_TokenBlanks.j3 kj15 a0 a2 t317 ((rd_T34 t317 a1).f2) false)) else (none)) else (none)) = some r := by rw [if_neg (show ¬ (false = true) by decide)] at H; exact H
          clear H; have H := H1; clear H1
          by_cases c44 : 0 ≤ a1
          ·rw [if_pos c44] at H
           have c44b0 : decide (0 ≤ a1) = true := dt_ c44
           clear c44
           by_cases c45 : a1 < (t317.length : Int)
           ·rw [if_pos c45] at H
            have c45b0 : decide (a1 < (t317.length : Int)) = true := dt_ c45
            clear c45
            have HC46 := sd_ H
            clear H
            obtain ⟨Ao47, co47, eo47⟩ := Kd.R_slice HO_8.out
            subst eo47
            have p327 : 0 ≤ (a1 : Int) := od_ (by first | (with_reducible assumption) | assumption)
            have q327 : a1 < (t317.length : Int) := od_ (by first | (with_reducible assumption) | assumption)
            obtain ⟨ad327, e327, hx327_0, hx327_1, hx327_2⟩ := at_T34 (Kd.R_reads' HO_8.out).2.2 a1 p327 q327
            cases e327
            replace p327 := eq_true p327
            replace q327 := eq_true q327
            go_upto_region 12 with (fail)
            go_cut [95] (fun v95 wc => ∃ (kq : Nat) (x95_45 : Bool), v95 = .bool x95_45 ∧ Aside0 (neumelaw08_TokenBlanks.j3 kq a0 a2 t317 ((rd_T34 t317 a1).f2) x95_45 = some r) ∧ Aside0 (kq ≤ kj15) ∧ Aside0 (Kd.R k34 34 wc w.heap.size (fun _ => True) (.slice (some ad327) t317.length co47) t317) ∧ Aside0 (wc.heap[gb322]? = some (.cells #[.int .i64 t320, .int .i64 t321] 26 (0, 0))) ∧ Aside0 (Below w.heap.size w wc))
            case first =>
             have H := HC46.out
             clear HC46
             by_cases c48 : ((rd_T34 t317 a1).f0) = 8
             ·rw [if_pos c48] at H
              have c48b0 : (((rd_T34 t317 a1).f0) == 8) = true := beq_iff_eq.mpr c48
              have c48b1 : (((rd_T34 t317 a1).f0) != 8) = false := bne_eq_false_iff_eq.mpr c48
              clear c48
              (first | rw [c48b0] | (simp only [i64_w, i32_w]; rw [c48b0]) | skip)
              have H' := sd_ H
              clear H
              have p328 : 0 ≤ (a1 : Int) := od_ (by first | (with_reducible assumption) | assumption)
              have q328 : a1 < (t317.length : Int) := od_ (by first | (with_reducible assumption) | assumption)
              obtain ⟨ad328, e328, hx328_0, hx328_1, hx328_2⟩ := at_T34 (Kd.R_reads' HO_8.out).2.2 a1 p328 q328
              obtain rfl : ad327 = ad328 := (by injection e328)
              replace p328 := eq_true p328
              replace q328 := eq_true q328
              go_wp2
              go_meet
              case rel => exact ⟨_, (decide ((a0.size : Int) > 0)), (by first | rfl | (simp; done) | (simp [*]; done) | (simp [bne]; done)), H', ⟨by have := HJ3.out; have := HK2.out; have := HJ15.out; first | omega | exact Nat.le_refl _⟩, ⟨by (with_reducible repeat (first | apply Kd.R_alloc | apply Kd.R_drewN | apply Kd.R_drew)); exact HO_8.out⟩, ⟨by (with_reducible repeat first | apply kn_ | apply kd_ | apply ka_); exact BK322.out⟩, ⟨by repeat (first | (with_reducible first | exact HB.out | apply ba_ | apply pd_ | apply d1_ | refine bs_ ?_ GE322.out) | exact HB.out)⟩⟩
             ·rw [if_neg c48] at H
              have c48b0 : (((rd_T34 t317 a1).f0) == 8) = false := beq_eq_false_iff_ne.mpr c48
              have c48b1 : (((rd_T34 t317 a1).f0) != 8) = true := bne_iff_ne.mpr c48
              (first | rw [c48b0] | (simp only [i64_w, i32_w]; rw [c48b0]) | skip)
              have H' := sd_ H
              clear H
              have p328 : 0 ≤ (a1 : Int) := od_ (by first | (with_reducible assumption) | assumption)
              have q328 : a1 < (t317.length : Int) := od_ (by first | (with_reducible assumption) | assumption)
              obtain ⟨ad328, e328, hx328_0, hx328_1, hx328_2⟩ := at_T34 (Kd.R_reads' HO_8.out).2.2 a1 p328 q328
              obtain rfl : ad327 = ad328 := (by injection e328)
              replace p328 := eq_true p328
              replace q328 := eq_true q328
              go_wp2
              go_meet
              case rel => exact ⟨_, (false), (by first | rfl | (simp; done) | (simp [*]; done) | (simp [bne]; done)), H', ⟨by have := HJ3.out; have := HK2.out; have := HJ15.out; first | omega | exact Nat.le_refl _⟩, ⟨by (with_reducible repeat (first | apply Kd.R_alloc | apply Kd.R_drewN | apply Kd.R_drew)); exact HO_8.out⟩, ⟨by (with_reducible repeat first | apply kn_ | apply kd_ | apply ka_); exact BK322.out⟩, ⟨by repeat (first | (with_reducible first | exact HB.out | apply ba_ | apply pd_ | apply d1_ | refine bs_ ?_ GE322.out) | exact HB.out)⟩⟩
            case rest =>
             clear HC46
             try clear c1; try clear p1; try clear q1; try clear hx1; try clear c2; try clear p2; try clear c3; try clear p3; try clear q3; try clear hx3; try clear c4; try clear c5; try clear c5b0; try clear c5b1; try clear c6; try clear p6; try clear c8; try clear c9; try clear c9b0; try clear c10; try clear c10b0; try clear p11; try clear q11; try clear hx11; try clear c12; try clear c12b0; try clear c12b1; try clear c20; try clear c20b0; try clear c20b1; try clear c21; try clear c21b0; try clear c23; try clear c23b0; try clear c26; try clear c26b0; try clear c27; try clear c27b0; try clear c28; try clear c28b0; try clear p32; try clear q32; try clear hx32; try clear c34; try clear c35; try clear c35b0; try clear c35b1; try clear c39; try clear c39b0; try clear c39b1; try clear c39b2; try clear c44; try clear c44b0; try clear c45; try clear c45b0; try clear c48; try clear c48b0; try clear c48b1; try clear hcz19_0; try clear hcz19_1; try clear hcz22_0; try clear hcz22_1; try clear hcz24_0; try clear hcz24_1; try clear hcz29_0; try clear hcz29_1; try clear hcz31_0; try clear hcz31_1; try clear hcz33_0; try clear hcz33_1; try clear hcz37_0; try clear hcz37_1; try clear hcz41_0; try clear hcz41_1; try clear hfz19_0; try clear hfz19_1; try clear hfz22_0; try clear hfz22_1; try clear hfz24_0; try clear hfz24_1; try clear hfz29_0; try clear hfz29_1; try clear hfz31_0; try clear hfz31_1; try clear hfz33_0; try clear hfz33_1; try clear hfz37_0; try clear hfz37_1; try clear hfz41_0; try clear hfz41_1; try clear hx323_0; try clear hx323_1; try clear hx323_2; try clear hx324_0; try clear hx324_1; try clear hx324_2; try clear hx327_0; try clear hx327_1; try clear hx327_2; try clear hx328_0; try clear hx328_1; try clear hx328_2; try clear p1; try clear p11; try clear p2; try clear p3; try clear p32; try clear p323; try clear p324; try clear p327; try clear p328; try clear p6; try clear q1; try clear q11; try clear q3; try clear q32; try clear q323; try clear q324; try clear q327; try clear q328
             obtain ⟨kq, x95_45, rfl, HA, HJ45, HO_8, BK322, HB⟩ := hcut
             cases kq with
             | zero => exact absurd HA.out (by simp [neumelaw08_TokenBlanks.j3])
             | succ kj45 =>
              have H := HA.out
              clear HA
              simp only [neumelaw08_TokenBlanks.j3] at H
              by_cases c49 : x95_45 = true
              ·subst c49
               have H1 : (if 0 ≤ 0 then (if 0 ≤ (a0.size : Int) then (if (a0.extract 0 0).size + 3 ≤ 9223372036854775807 then (if (a0.extract 0 0).size + 3 + a2.size ≤ 9223372036854775807 then (if (a0.extract 0 0).size + 3 + a2.size + 1 ≤ 9223372036854775807 then (if (a0.extract 0 0).size + 3 + a2.size + 1 + (a0.extract 0 a0.size).size ≤ 9223372036854775807 then ((token_Scan.f kj45 (((((a0.extract 0 0) ++ (⟨#[32, 9, 37]⟩ : ByteArray)) ++ a2) ++ (⟨#[10]⟩ : ByteArray)) ++ (a0.extract 0 a0.size))).bind fun bt329 => (if bt329.2.1 = 0 then ((neumeref08_Alike.f kj45 t317 bt329.1).bind fun t335 => (if t335 = true then ((neumelaw08_heads.f kj45).bind fun t336 => (some t336)) else (some false))) else (some false))) else (none)) else (none)) else (none)) else (none)) else (none)) else (none)) = some r := by rw [if_pos rfl] at H; exact H
               clear H; have H := H1; clear H1
               by_cases c50 : 0 ≤ 0
               ·rw [if_pos c50] at H
                have c50b0 := eq_true c50
                have c50b1 : decide (0 ≤ 0) = true := dt_ c50
                clear c50
                by_cases c51 : 0 ≤ (a0.size : Int)
                ·rw [if_pos c51] at H
                 have c51b0 := eq_true c51
                 have c51b1 : decide (0 ≤ (a0.size : Int)) = true := dt_ c51
                 clear c51
                 by_cases c52 : (a0.extract 0 0).size + 3 ≤ 9223372036854775807
                 ·rw [if_pos c52] at H
                  have c52b0 := eq_true c52
                  have c52b1 : decide ((a0.extract 0 0).size + 3 ≤ 9223372036854775807) = true := dt_ c52
                  try have c52b2 : (9223372036854775807 < (a0.extract 0 0).size + 3) = False := eq_false (Nat.not_lt.2 c52)
                  try have c52b3 : (9223372036854775807 < 3) = False := eq_false (Nat.not_lt.2 (by have h_ := c52; simp only [ByteArray.size_extract] at h_; omega))
                  by_cases c53 : (a0.extract 0 0).size + 3 + a2.size ≤ 9223372036854775807
                  ·rw [if_pos c53] at H
                   have c53b0 := eq_true c53
                   have c53b1 : decide ((a0.extract 0 0).size + 3 + a2.size ≤ 9223372036854775807) = true := dt_ c53
                   try have c53b2 : (9223372036854775807 < (a0.extract 0 0).size + 3 + a2.size) = False := eq_false (Nat.not_lt.2 c53)
                   try have c53b3 : (9223372036854775807 < 3 + a2.size) = False := eq_false (Nat.not_lt.2 (by have h_ := c53; simp only [ByteArray.size_extract] at h_; omega))
                   by_cases c54 : (a0.extract 0 0).size + 3 + a2.size + 1 ≤ 9223372036854775807
                   ·rw [if_pos c54] at H
                    have c54b0 := eq_true c54
                    have c54b1 : decide ((a0.extract 0 0).size + 3 + a2.size + 1 ≤ 9223372036854775807) = true := dt_ c54
                    try have c54b2 : (9223372036854775807 < (a0.extract 0 0).size + 3 + a2.size + 1) = False := eq_false (Nat.not_lt.2 c54)
                    try have c54b3 : (9223372036854775807 < 3 + a2.size + 1) = False := eq_false (Nat.not_lt.2 (by have h_ := c54; simp only [ByteArray.size_extract] at h_; omega))
                    have c55b0 := eq_true (od_ (by first | (with_reducible assumption) | assumption) : 0 ≤ (a0.size : Int))
                    by_cases c56 : (a0.extract 0 0).size + 3 + a2.size + 1 + (a0.extract 0 a0.size).size ≤ 9223372036854775807
                    ·rw [if_pos c56] at H
                     have c56b0 := eq_true c56
                     have c56b1 : decide ((a0.extract 0 0).size + 3 + a2.size + 1 + (a0.extract 0 a0.size).size ≤ 9223372036854775807) = true := dt_ c56
                     try have c56b2 : (9223372036854775807 < (a0.extract 0 0).size + 3 + a2.size + 1 + (a0.extract 0 a0.size).size) = False := eq_false (Nat.not_lt.2 c56)
                     try have c56b3 : (9223372036854775807 < 3 + a2.size + 1 + a0.size) = False := eq_false (Nat.not_lt.2 (by have h_ := c56; simp only [ByteArray.size_extract] at h_; omega))
                     replace H := ob_ H
                     obtain ⟨⟨t329, t332, t333⟩, A570, H⟩ := H
                     replace H : (if t332 = 0 then ((neumeref08_Alike.f kj45 t317 t329).bind fun t335 => (if t335 = true then ((neumelaw08_heads.f kj45).bind fun t336 => (some t336)) else (some false))) else (some false)) = some r := H
                     have A57 := sd_ A570
                     clear A570
                     by_cases c58 : t332 = 0
                     ·rw [if_pos c58] at H
                      have c58b0 : (t332 == 0) = true := beq_iff_eq.mpr c58
                      have c58b1 : (t332 != 0) = false := bne_eq_false_iff_eq.mpr c58
                      clear c58
                      replace H := ob_ H
                      obtain ⟨t335, A590, H⟩ := H
                      replace H : (if t335 = true then ((neumelaw08_heads.f kj45).bind fun t336 => (some t336)) else (some false)) = some r := H
                      have A59 := sd_ A590
                      clear A590
                      by_cases c60 : t335 = true
                      ·subst c60
                       have H1 : ((neumelaw08_heads.f kj45).bind fun t336 => (some t336)) = some r := by rw [if_pos rfl] at H; exact H
                       clear H; have H := H1; clear H1
                       replace H := ob_ H
                       obtain ⟨t336, A610, H⟩ := H
                       replace H : (some t336) = some r := H
                       have A61 := sd_ A610
                       clear A610
                       obtain rfl := Option.some.inj H
                       try go_wp2
                       replace HO_8 := sd_ (Kd.R_drew HO_8.out)
                       replace BK322 := sd_ (kd_ BK322.out)
                       replace HB := sd_ (d1_ HB.out)
                       refine start_ (n := 18) (S := fun w' => True) (ds := []) (Array.replicate 18 false) (by kernel_rfl) rfl rfl trivial (fun hHeld => ?_); refine with_tabW neumelaw08_TokenBlanks.tab14 neumelaw08_TokenBlanks.bits14 (fun HT_ HW_ => ?_)
                       generalize wc.drew = w62 at HO_8 BK322 HB hHeld ⊢
                       refine pu_ (v := ?_) (a' := ?_) 0 97 (bz 18 1) rfl rfl HT_ (by kernel_rfl) (fun _ _ _ h => h) (by rfl) ?_ ?_ ?_
                       rotate_left; (intro w'; go_simp; with_reducible rfl); rotate_left; (simp only [Act.put, ls_, lz_, lc_, i64_w, i32_w]; rfl)
                       refine pu_ (v := ?_) (a' := ?_) 1 98 (bz 18 3) rfl rfl HT_ (by kernel_rfl) (fun _ _ _ h => h) (by rfl) ?_ ?_ ?_
                       rotate_left; (intro w'; go_simp; with_reducible rfl); rotate_left; (simp only [Act.put, ls_, lz_, lc_, i64_w, i32_w]; rfl)
                       refine pu_ (v := ?_) (a' := ?_) 2 99 (bz 18 7) rfl rfl HT_ (by kernel_rfl) (fun _ _ _ h => h) (by rfl) ?_ ?_ ?_
                       rotate_left; (intro w'; go_simp; with_reducible rfl); rotate_left; (simp only [Act.put, ls_, lz_, lc_, i64_w, i32_w]; rfl)
                       refine pu_ (v := ?_) (a' := ?_) 3 100 (bz 18 15) rfl rfl HT_ (by kernel_rfl) (fun _ _ _ h => h) (by rfl) ?_ ?_ ?_
                       rotate_left; (intro w'; go_simp; with_reducible rfl); rotate_left; (simp only [Act.put, ls_, lz_, lc_, i64_w, i32_w]; rfl)
                       refine pu_ (v := ?_) (a' := ?_) 4 101 (bz 18 31) rfl rfl HT_ (by kernel_rfl) (fun _ _ _ h => h) (by rfl) ?_ ?_ ?_
                       rotate_left; (intro w'; go_simp; with_reducible rfl); rotate_left; (simp only [Act.put, ls_, lz_, lc_, i64_w, i32_w]; rfl)
                       refine pu_ (v := ?_) (a' := ?_) 5 102 (bz 18 63) rfl rfl HT_ (by kernel_rfl) (fun _ _ _ h => h) (by rfl) ?_ ?_ ?_
                       rotate_left; (intro w'; go_simp; with_reducible rfl); rotate_left; (simp only [Act.put, ls_, lz_, lc_, i64_w, i32_w]; rfl)
                       refine pu_ (v := ?_) (a' := ?_) 6 103 (bz 18 127) rfl rfl HT_ (by kernel_rfl) (fun _ _ _ h => h) (by rfl) ?_ ?_ ?_
                       rotate_left; (intro w'; go_simp; with_reducible rfl); rotate_left; (simp only [Act.put, ls_, lz_, lc_, i64_w, i32_w]; rfl)
                       refine pu_ (v := ?_) (a' := ?_) 7 104 (bz 18 255) rfl rfl HT_ (by kernel_rfl) (fun _ _ _ h => h) (by rfl) ?_ ?_ ?_
                       rotate_left; (intro w'; go_simp; with_reducible rfl); rotate_left; (simp only [Act.put, ls_, lz_, lc_, i64_w, i32_w]; rfl)
                       refine pu_ (v := ?_) (a' := ?_) 8 105 (bz 18 511) rfl rfl HT_ (by kernel_rfl) (fun _ _ _ h => h) (by rfl) ?_ ?_ ?_
                       rotate_left; (intro w'; go_simp; with_reducible rfl); rotate_left; (simp only [Act.put, ls_, lz_, lc_, i64_w, i32_w]; rfl)
                       refine pu_ (v := ?_) (a' := ?_) 9 106 (bz 18 1023) rfl rfl HT_ (by kernel_rfl) (fun _ _ _ h => h) (by rfl) ?_ ?_ ?_
                       rotate_left; (intro w'; go_simp; with_reducible rfl); rotate_left; (simp only [Act.put, ls_, lz_, lc_, i64_w, i32_w]; rfl)
                       refine pu_ (v := ?_) (a' := ?_) 10 107 (bz 18 2047) rfl rfl HT_ (by kernel_rfl) (fun _ _ _ h => h) (by rfl) ?_ ?_ ?_
                       rotate_left; (intro w'; go_simp; with_reducible rfl); rotate_left; (simp only [Act.put, ls_, lz_, lc_, i64_w, i32_w]; rfl)
                       refine join_ (σ := Value × Nat) 2 (bz 18 65535) (fun s_ => [(108, .tuple #[s_.1, .agg #[.int .i64 t332, .int .i64 t333]]), (12, .pointer (some ⟨s_.2, 0, none⟩)), (96, .tuple #[s_.1, .agg #[.int .i64 t332, .int .i64 t333]]), (109, s_.1), (110, .agg #[.int .i64 t332, .int .i64 t333])]) (fun s_ w' => (Kd.R k34 34 w' w.heap.size (fun k_ => some k_ ≠ (.slice (some ad327) t317.length co47 : Value).ownBlock) s_.1 t329) ∧ (Kd.R k34 34 w' w.heap.size (fun k_ => some k_ ≠ (s_.1 : Value).ownBlock) (.slice (some ad327) t317.length co47) t317) ∧ (w'.heap[gb322]? = some (.cells #[.int .i64 t320, .int .i64 t321] 26 (0, 0))) ∧ (w'.heap[s_.2]? = some (.cells #[.int .i64 0, .int .i64 0] 26 (0, 0))) ∧ (w.heap.size ≤ s_.2) ∧ (w.heap.size ≤ s_.2) ∧ (gb322 ≠ s_.2) ∧ (s_.2 ≠ gb322) ∧ (Below w.heap.size w w')) ?_ ?_
                       rotate_left
                       ·intro hCont
                        refine two_ (i := 11) (j := 15) (Ni := some 108) (Nj := some 12) (bz 18 4095) (bz 18 34815) rfl rfl rfl rfl (two_of HT_.out (by kernel_rfl)) (by decide) (by decide) (fun K hK => ?_) (fun K hK => ?_)
                        ·skip
                         refine goes_ Tryd.func9 (by kernel_rfl) rfl #[.string (((((a0.extract 0 0) ++ (⟨#[32, 9, 37]⟩ : ByteArray)) ++ a2) ++ (⟨#[10]⟩ : ByteArray)) ++ (a0.extract 0 a0.size))] (by rfl) rfl rfl (by (try simp only [lm_, lq_, lx_]); first | done | rfl | (simp only [ld_, lt_]; rfl) | ((conv => rhs; simp); rfl)) ?_
                         with_reducible refine (token_Scan.calls kj45 (((((a0.extract 0 0) ++ (⟨#[32, 9, 37]⟩ : ByteArray)) ++ a2) ++ (⟨#[10]⟩ : ByteArray)) ++ (a0.extract 0 a0.size)) t329 t332 t333 _ ?side1 A57.out).mono ?_
                         (case side1 => first | (with_reducible exact hE) | exact sd_ (LaidE.below hE.out (bb_ HB.out (e_ GE322 e0_))))
                         rintro e w63 ⟨v330, rfl, ho0, hb⟩
                         refine ⟨_, rfl, ?_⟩
                         have HO331 := sd_ (Kd.R_lower (Kd.R_new' ho0 (Kd.R_lt (by (with_reducible repeat (first | apply Kd.R_alloc | apply Kd.R_drewN | apply Kd.R_drew)); exact HO_8.out))) (bz_ (bb_ HB.out (e_ GE322 e0_))))
                         replace HO_8 := sd_ (Kd.R_elder' (by (with_reducible repeat (first | apply Kd.R_alloc | apply Kd.R_drewN | apply Kd.R_drew)); exact HO_8.out) (Kd.R_base ho0) hb)
                         replace BK322 := kb_ BK322 hb
                         replace HB := hb_ HB (e_ GE322 e0_) hb
                         (try clear hb)
                         (try clear hb2)
                         (try clear hk)
                         (try clear hi)
                         (try clear ho0)
                         refine hK.out _ _ trivial (fun hHeld => ?_)
                         clear hK K
                         refine norm_ (a' := ?_) ?_ ?_
                         rotate_left
                         ·show Act.put _ (some 108) _ = _
                          simp only [Act.put, ls_, lz_, lc_, i64_w, i32_w]
                          rfl
                         refine pu_ (v := ?_) (a' := ?_) 12 96 (bz 18 8191) rfl rfl HT_ (by kernel_rfl) (fun _ _ _ h => h) (by rfl) ?_ ?_ ?_
                         rotate_left; (intro w'; go_simp; with_reducible rfl); rotate_left; (simp only [Act.put, ls_, lz_, lc_, i64_w, i32_w]; rfl)
                         refine pu_ (v := ?_) (a' := ?_) 13 109 (bz 18 16383) rfl rfl HT_ (by kernel_rfl) (fun _ _ _ h => h) (by rfl) ?_ ?_ ?_
                         rotate_left; (intro w'; go_simp; with_reducible rfl); rotate_left; (simp only [Act.put, ls_, lz_, lc_, i64_w, i32_w]; rfl)
                         refine pu_ (v := ?_) (a' := ?_) 14 110 (bz 18 32767) rfl rfl HT_ (by kernel_rfl) (fun _ _ _ h => h) (by rfl) ?_ ?_ ?_
                         rotate_left; (intro w'; go_simp; with_reducible rfl); rotate_left; (simp only [Act.put, ls_, lz_, lc_, i64_w, i32_w]; rfl)
                         refine on_ (N := some 12) 15 (bz 18 65535) rfl rfl HT_ (by kernel_rfl) (by decide) (fun K hK => ?_)
                         refine box_step ?hg (N := 12) ?hd (cs := #[.int .i64 0, .int .i64 0]) (t := 26) ?hr ?_; (case hd => rfl); (case hg => rfl); (case hr => first | (go_simp; done) | (go_simp; rfl))
                         intro gb334 hg w64 hbox hb
                         have BK334 := sd_ hbox
                         have GW334 := gw_ HB (e_ GE322 e0_) hg
                         have GE334 := GW334
                         have NB322_334 := nb_ BK322 hg
                         have NB334_322 := sy_ NB322_334
                         replace HO_8 := sd_ (Kd.R_below (by (with_reducible repeat (first | apply Kd.R_alloc | apply Kd.R_drewN | apply Kd.R_drew)); exact HO_8.out) hb)
                         replace HO331 := sd_ (Kd.R_below (by (with_reducible repeat (first | apply Kd.R_alloc | apply Kd.R_drewN | apply Kd.R_drew)); exact HO331.out) hb)
                         replace BK322 := kb_ BK322 hb
                         replace HB := hb_ HB (e_ GE322 e0_) hb
                         clear hb hbox hg
                         refine hK.out _ _ trivial (fun hHeld => ?_)
                         clear hK K
                         refine norm_ (a' := ?_) ?_ ?_
                         rotate_left
                         ·show Act.put _ (some 12) _ = _
                          simp only [Act.put, ls_, lz_, lc_, i64_w, i32_w]
                          rfl
                         exact norm_ (by simp only [putAll, Act.put, ls_, lz_, lc_]) (hCont (v330, gb334) _ ⟨(by (with_reducible repeat (first | apply Kd.R_alloc | apply Kd.R_drewN | apply Kd.R_drew)); exact Kd.R_mono HO331.out (fun _ hk => hk.2)), (by (with_reducible repeat (first | apply Kd.R_alloc | apply Kd.R_drewN | apply Kd.R_drew)); exact Kd.R_mono HO_8.out (fun _ hk => hk.2)), (kk_ BK322.out), (kk_ BK334.out), GW334.out, GE334.out, NB322_334.out, NB334_322.out, (bb_ HB.out (e_ GE322 (e_ GE334 e0_)))⟩)
                        ·skip
                         refine box_step ?hg (N := 12) ?hd (cs := #[.int .i64 0, .int .i64 0]) (t := 26) ?hr ?_; (case hd => rfl); (case hg => rfl); (case hr => first | (go_simp; done) | (go_simp; rfl))
                         intro gb334 hg w63 hbox hb
                         have BK334 := sd_ hbox
                         have GW334 := gw_ HB (e_ GE322 e0_) hg
                         have GE334 := GW334
                         have NB322_334 := nb_ BK322 hg
                         have NB334_322 := sy_ NB322_334
                         replace HO_8 := sd_ (Kd.R_below (by (with_reducible repeat (first | apply Kd.R_alloc | apply Kd.R_drewN | apply Kd.R_drew)); exact HO_8.out) hb)
                         replace BK322 := kb_ BK322 hb
                         replace HB := hb_ HB (e_ GE322 e0_) hb
                         clear hb hbox hg
                         refine hK.out _ _ trivial (fun hHeld => ?_)
                         clear hK K
                         refine norm_ (a' := ?_) ?_ ?_
                         rotate_left
                         ·show Act.put _ (some 12) _ = _
                          simp only [Act.put, ls_, lz_, lc_, i64_w, i32_w]
                          rfl
                         refine on_ (N := some 108) 11 (bz 18 36863) rfl rfl HT_ (by kernel_rfl) (by decide) (fun K hK => ?_)
                         refine goes_ Tryd.func9 (by kernel_rfl) rfl #[.string (((((a0.extract 0 0) ++ (⟨#[32, 9, 37]⟩ : ByteArray)) ++ a2) ++ (⟨#[10]⟩ : ByteArray)) ++ (a0.extract 0 a0.size))] (by rfl) rfl rfl (by (try simp only [lm_, lq_, lx_]); first | done | rfl | (simp only [ld_, lt_]; rfl) | ((conv => rhs; simp); rfl)) ?_
                         with_reducible refine (token_Scan.calls kj45 (((((a0.extract 0 0) ++ (⟨#[32, 9, 37]⟩ : ByteArray)) ++ a2) ++ (⟨#[10]⟩ : ByteArray)) ++ (a0.extract 0 a0.size)) t329 t332 t333 _ ?side1 A57.out).mono ?_
                         (case side1 => first | (with_reducible exact hE) | exact sd_ (LaidE.below hE.out (bb_ HB.out (e_ GE322 (e_ GE334 e0_)))))
                         rintro e w64 ⟨v330, rfl, ho0, hb⟩
                         refine ⟨_, rfl, ?_⟩
                         have HO331 := sd_ (Kd.R_lower (Kd.R_new' ho0 (Kd.R_lt (by (with_reducible repeat (first | apply Kd.R_alloc | apply Kd.R_drewN | apply Kd.R_drew)); exact HO_8.out))) (bz_ (bb_ HB.out (e_ GE322 (e_ GE334 e0_)))))
                         replace HO_8 := sd_ (Kd.R_elder' (by (with_reducible repeat (first | apply Kd.R_alloc | apply Kd.R_drewN | apply Kd.R_drew)); exact HO_8.out) (Kd.R_base ho0) hb)
                         replace BK322 := kb_ BK322 hb
                         replace BK334 := kb_ BK334 hb
                         replace HB := hb_ HB (e_ GE322 (e_ GE334 e0_)) hb
                         (try clear hb)
                         (try clear hb2)
                         (try clear hk)
                         (try clear hi)
                         (try clear ho0)
                         refine hK.out _ _ trivial (fun hHeld => ?_)
                         clear hK K
                         refine norm_ (a' := ?_) ?_ ?_
                         rotate_left
                         ·show Act.put _ (some 108) _ = _
                          simp only [Act.put, ls_, lz_, lc_, i64_w, i32_w]
                          rfl
                         refine pu_ (v := ?_) (a' := ?_) 12 96 (bz 18 40959) rfl rfl HT_ (by kernel_rfl) (fun _ _ _ h => h) (by rfl) ?_ ?_ ?_
                         rotate_left; (intro w'; go_simp; with_reducible rfl); rotate_left; (simp only [Act.put, ls_, lz_, lc_, i64_w, i32_w]; rfl)
                         refine pu_ (v := ?_) (a' := ?_) 13 109 (bz 18 49151) rfl rfl HT_ (by kernel_rfl) (fun _ _ _ h => h) (by rfl) ?_ ?_ ?_
                         rotate_left; (intro w'; go_simp; with_reducible rfl); rotate_left; (simp only [Act.put, ls_, lz_, lc_, i64_w, i32_w]; rfl)
                         refine pu_ (v := ?_) (a' := ?_) 14 110 (bz 18 65535) rfl rfl HT_ (by kernel_rfl) (fun _ _ _ h => h) (by rfl) ?_ ?_ ?_
                         rotate_left; (intro w'; go_simp; with_reducible rfl); rotate_left; (simp only [Act.put, ls_, lz_, lc_, i64_w, i32_w]; rfl)
                         exact norm_ (by simp only [putAll, Act.put, ls_, lz_, lc_]) (hCont (v330, gb334) _ ⟨(by (with_reducible repeat (first | apply Kd.R_alloc | apply Kd.R_drewN | apply Kd.R_drew)); exact Kd.R_mono HO331.out (fun _ hk => hk.2)), (by (with_reducible repeat (first | apply Kd.R_alloc | apply Kd.R_drewN | apply Kd.R_drew)); exact Kd.R_mono HO_8.out (fun _ hk => hk.2)), (kk_ BK322.out), (kk_ BK334.out), GW334.out, GE334.out, NB322_334.out, NB334_322.out, (bb_ HB.out (e_ GE322 (e_ GE334 e0_)))⟩)
                       rintro ⟨v330, gb334⟩ w65 ⟨h0_, h1_, h2_, h3_, h4_, h5_, h6_, h7_, h8_⟩
                       have n0_ : Aside0 (Kd.R k34 34 w65 w.heap.size (fun k_ => some k_ ≠ (.slice (some ad327) t317.length co47 : Value).ownBlock) v330 t329) := ⟨h0_⟩
                       have n1_ : Aside0 (Kd.R k34 34 w65 w.heap.size (fun k_ => some k_ ≠ (v330 : Value).ownBlock) (.slice (some ad327) t317.length co47) t317) := ⟨h1_⟩
                       have n2_ : Aside0 (w65.heap[gb322]? = some (.cells #[.int .i64 t320, .int .i64 t321] 26 (0, 0))) := ⟨h2_⟩
                       have n3_ : Aside0 (w65.heap[gb334]? = some (.cells #[.int .i64 0, .int .i64 0] 26 (0, 0))) := ⟨h3_⟩
                       have n4_ : Aside0 (w.heap.size ≤ gb334) := ⟨h4_⟩
                       have n5_ : Aside0 (w.heap.size ≤ gb334) := ⟨h5_⟩
                       have n6_ : Aside0 (gb322 ≠ gb334) := ⟨h6_⟩
                       have n7_ : Aside0 (gb334 ≠ gb322) := ⟨h7_⟩
                       have n8_ : Aside0 (Below w.heap.size w w65) := ⟨h8_⟩
                       clear HO_8
                       clear BK322
                       clear HB
                       clear h0_ h1_ h2_ h3_ h4_ h5_ h6_ h7_ h8_
                       have HO331 := n0_
                       have HO_8 := n1_
                       have BK322 := n2_
                       have BK334 := n3_
                       have GW334 := n4_
                       have GE334 := n5_
                       have NB322_334 := n6_
                       have NB334_322 := n7_
                       have HB := n8_
                       clear n0_ n1_ n2_ n3_ n4_ n5_ n6_ n7_ n8_
                       have hHeld := trivial
                       refine norm_ (a' := ?_) ?_ ?_
                       rotate_left
                       ·simp only [putAll, Act.put, ls_, lz_, lc_]
                        rfl
                       refine pu_ (v := ?_) (a' := ?_) 16 11 (bz 18 131071) rfl rfl HT_ (by kernel_rfl) (fun _ _ _ h => h) (by rfl) ?_ ?_ ?_
                       rotate_left; (intro w'; go_simp; with_reducible rfl); rotate_left; (simp only [Act.put, ls_, lz_, lc_, i64_w, i32_w]; rfl)
                       refine on_ (N := none) 17 (bz 18 262143) rfl rfl HT_ (by kernel_rfl) (by decide) (fun K hK => ?_)
                       have hs66 : w65.cell? ⟨gb334, 0, none⟩ = some (.int .i64 0) := (kc_ BK334.out 0).trans rfl
                       have hfs66 := kf_ BK334.out 0
                       have hns66_0 := NB322_334.out
                       have hms66_0 := NB334_322.out
                       have hs67 : w65.cell? ⟨gb334, 1, none⟩ = some (.int .i64 0) := (kc_ BK334.out 1).trans rfl
                       have hfs67 := kf_ BK334.out 1
                       have hns67_0 := NB322_334.out
                       have hms67_0 := NB334_322.out
                       refine skip_ (w1 := ?_) (by rfl) rfl ?_ ?_
                       rotate_left
                       ·go_simp
                        rfl
                       refine hK.out _ _ trivial (fun hHeld => ?_)
                       clear hK K
                       refine done_ (done_of HT_.out (by kernel_rfl)) ?_
                       have hnb68 := NB334_322.out
                       have hnc68 := NB322_334.out
                       have hcz69_0 : w65.cell? ⟨gb334, 0, none⟩ = some (.int .i64 0) := (kc_ BK334.out 0).trans rfl
                       have hcz69_1 : w65.cell? ⟨gb334, 1, none⟩ = some (.int .i64 0) := (kc_ BK334.out 1).trans rfl
                       have hfz69_0 := kf_ BK334.out 0
                       have hfz69_1 := kf_ BK334.out 1
                       obtain ⟨Ao70, co70, eo70⟩ := Kd.R_slice HO331.out
                       subst eo70
                       try go_wp2_with (first | (go_at_call 17; (with_reducible refine (neumeref08_Alike.calls kj45 _ _ t317 _ _ t329 true _ ?side1 ?side2 ?side3 ?side4 A59.out).mono ?_); (case side1 => refine (Kd.R_reads' (e := 34) (base := w.heap.size) (ok := fun k_ => some k_ ≠ (.slice Ao70 t329.length co70 : Value).ownBlock) (n := t317.length) (c := co47) ?_).2.2; exact (by (with_reducible repeat (first | apply Kd.R_alloc | apply Kd.R_drewN | apply Kd.R_drew)); exact (Kd.R_mono (Kd.R_far (p := ⟨gb334, 1, none⟩) (Kd.R_far (p := ⟨gb334, 0, none⟩) (Kd.R_types HO_8.out BK334.out (by decide)) (fun _ hk => hk.2) (.int .i64 t332)) (fun _ hk => hk.2) (.int .i64 t333)) (fun _ h_ => h_.1)))); (case side2 => exact (Kd.R_reads' HO_8.out).2.1); (case side3 => refine (Kd.R_reads' (e := 34) (base := w.heap.size) (ok := fun k_ => some k_ ≠ (.slice (some ad327) t317.length co47 : Value).ownBlock) (n := t329.length) (c := co70) ?_).2.2; exact (by (with_reducible repeat (first | apply Kd.R_alloc | apply Kd.R_drewN | apply Kd.R_drew)); exact (Kd.R_mono (Kd.R_far (p := ⟨gb334, 1, none⟩) (Kd.R_far (p := ⟨gb334, 0, none⟩) (Kd.R_types HO331.out BK334.out (by decide)) (fun _ hk => hk.2) (.int .i64 t332)) (fun _ hk => hk.2) (.int .i64 t333)) (fun _ h_ => h_.1)))); (case side4 => exact (Kd.R_reads' HO331.out).2.1); rintro e w' ⟨rfl, ⟨nd, rfl⟩⟩) | (go_at_call 8; (with_reducible refine (neumelaw08_heads.calls kj45  t336 _ ?side1 A61.out).mono ?_); (case side1 => first | (with_reducible exact hE) | exact sd_ (LaidE.below hE.out (bb_ HB.out (e_ GE322 (e_ GE334 e0_))))); rintro e w71 ⟨rfl, hb⟩; have n0_ := sd_ (Kd.R_below (by (with_reducible repeat (first | apply Kd.R_alloc | apply Kd.R_drewN | apply Kd.R_drew)); exact (Kd.R_mono (Kd.R_far (p := ⟨gb334, 1, none⟩) (Kd.R_far (p := ⟨gb334, 0, none⟩) (Kd.R_types HO_8.out BK334.out (by decide)) (fun _ hk => hk.2) (.int .i64 t332)) (fun _ hk => hk.2) (.int .i64 t333)) (fun _ h_ => h_.1))) hb); have n1_ := sd_ (Kd.R_below (by (with_reducible repeat (first | apply Kd.R_alloc | apply Kd.R_drewN | apply Kd.R_drew)); exact (Kd.R_mono (Kd.R_far (p := ⟨gb334, 1, none⟩) (Kd.R_far (p := ⟨gb334, 0, none⟩) (Kd.R_types HO331.out BK334.out (by decide)) (fun _ hk => hk.2) (.int .i64 t332)) (fun _ hk => hk.2) (.int .i64 t333)) (fun _ h_ => h_.1))) hb); have n2_ := sd_ (blk_below (g := gb322) (o := .cells #[.int .i64 t320, .int .i64 t321] 26 (0, 0)) (by (with_reducible repeat first | apply kn_ | apply kd_ | apply ka_); refine blk_far ?_ NB322_334.out _; (with_reducible repeat first | apply kn_ | apply kd_ | apply ka_); refine blk_far ?_ NB322_334.out _; (with_reducible repeat first | apply kn_ | apply kd_ | apply ka_); exact BK322.out) hb); have n3_ := sd_ (blk_below (g := gb334) (o := .cells #[.int .i64 t332, .int .i64 t333] 26 (0, 0)) (by (with_reducible repeat first | apply kn_ | apply kd_ | apply ka_); refine blk_put (cs := #[.int .i64 t332, .int .i64 0]) ?_ 1 _ rfl; (with_reducible repeat first | apply kn_ | apply kd_ | apply ka_); refine blk_put (cs := #[.int .i64 0, .int .i64 0]) ?_ 0 _ rfl; (with_reducible repeat first | apply kn_ | apply kd_ | apply ka_); exact BK334.out) hb); have n4_ := hb_ HB (e_ GE322 (e_ GE334 e0_)) hb; clear HO_8; clear HO331; clear BK322; clear BK334; clear HB; have HO_8 := n0_; have HO331 := n1_; have BK322 := n2_; have BK334 := n3_; have HB := n4_; clear n0_ n1_ n2_ n3_ n4_; (try clear hb); (try clear hb2); (try clear hk); (try clear hi)))
                       go_ret
                       exact ⟨by first | rfl | (simp [errW_none, errW_some] <;> rfl) | (simp [*, errW_none, errW_some] <;> rfl), by repeat (first | (with_reducible first | exact HB.out | apply ba_ | apply pd_ | apply d1_ | refine bs_ ?_ GE322.out | refine bs_ ?_ GE334.out) | exact HB.out)⟩
                      ·replace c60 := bf_ c60
                       subst c60
                       have H1 : (some false) = some r := by rw [if_neg (show ¬ (false = true) by decide)] at H; exact H
                       clear H; have H := H1; clear H1
                       exact absurd ((Option.some.inj H).trans hxt.out) (by decide)
                     ·rw [if_neg c58] at H
                      have c58b0 : (t332 == 0) = false := beq_eq_false_iff_ne.mpr c58
                      have c58b1 : (t332 != 0) = true := bne_iff_ne.mpr c58
                      exact absurd ((Option.some.inj H).trans hxt.out) (by decide)
                    ·rw [if_neg c56] at H
                     exact absurd H (by simp)
                   ·rw [if_neg c54] at H
                    exact absurd H (by simp)
                  ·rw [if_neg c53] at H
                   exact absurd H (by simp)
                 ·rw [if_neg c52] at H
                  exact absurd H (by simp)
                ·rw [if_neg c51] at H
                 exact absurd H (by simp)
               ·rw [if_neg c50] at H
                exact absurd H (by simp)
              ·replace c49 := bf_ c49
               subst c49
               have H1 : (if 0 ≤ ((rd_T34 t317 a1).f2) then (if ((rd_T34 t317 a1).f2) ≤ (a0.size : Int) then (if (a0.extract 0 (((rd_T34 t317 a1).f2) : Int).toNat).size + 3 ≤ 9223372036854775807 then (if (a0.extract 0 (((rd_T34 t317 a1).f2) : Int).toNat).size + 3 + a2.size ≤ 9223372036854775807 then (if (a0.extract 0 (((rd_T34 t317 a1).f2) : Int).toNat).size + 3 + a2.size + 1 ≤ 9223372036854775807 then (if (a0.extract 0 (((rd_T34 t317 a1).f2) : Int).toNat).size + 3 + a2.size + 1 + (a0.extract (((rd_T34 t317 a1).f2) : Int).toNat a0.size).size ≤ 9223372036854775807 then ((token_Scan.f kj45 (((((a0.extract 0 (((rd_T34 t317 a1).f2) : Int).toNat) ++ (⟨#[32, 9, 37]⟩ : ByteArray)) ++ a2) ++ (⟨#[10]⟩ : ByteArray)) ++ (a0.extract (((rd_T34 t317 a1).f2) : Int).toNat a0.size))).bind fun bt337 => (if bt337.2.1 = 0 then ((neumeref08_Alike.f kj45 t317 bt337.1).bind fun t343 => (if t343 = true then ((neumelaw08_heads.f kj45).bind fun t344 => (some t344)) else (some false))) else (some false))) else (none)) else (none)) else (none)) else (none)) else (none)) else (none)) = some r := by rw [if_neg (show ¬ (false = true) by decide)] at H; exact H
               clear H; have H := H1; clear H1
               by_cases c72 : 0 ≤ ((rd_T34 t317 a1).f2)
               ·rw [if_pos c72] at H
                have c72b0 := eq_true c72
                have c72b1 : decide (0 ≤ ((rd_T34 t317 a1).f2)) = true := dt_ c72
                clear c72
                by_cases c73 : ((rd_T34 t317 a1).f2) ≤ (a0.size : Int)
                ·rw [if_pos c73] at H
                 have c73b0 := eq_true c73
                 have c73b1 : decide (((rd_T34 t317 a1).f2) ≤ (a0.size : Int)) = true := dt_ c73
                 clear c73
                 by_cases c74 : (a0.extract 0 (((rd_T34 t317 a1).f2) : Int).toNat).size + 3 ≤ 9223372036854775807
                 ·rw [if_pos c74] at H
                  have c74b0 := eq_true c74
                  have c74b1 : decide ((a0.extract 0 (((rd_T34 t317 a1).f2) : Int).toNat).size + 3 ≤ 9223372036854775807) = true := dt_ c74
                  try have c74b2 : (9223372036854775807 < (a0.extract 0 (((rd_T34 t317 a1).f2) : Int).toNat).size + 3) = False := eq_false (Nat.not_lt.2 c74)
                  try have c74b3 : (9223372036854775807 < (min (((rd_T34 t317 a1).f2) : Int).toNat a0.size) + 3) = False := eq_false (Nat.not_lt.2 (by have h_ := c74; simp only [ByteArray.size_extract] at h_; omega))
                  try have c74b4 : (9223372036854775807 < (((rd_T34 t317 a1).f2) : Int).toNat + 3) = False := eq_false (Nat.not_lt.2 (by have h_ := c74; have h2_ : ((rd_T34 t317 a1).f2) ≤ (a0.size : Int) := (by first | assumption | exact of_eq_true (by assumption) | exact of_decide_eq_true (by assumption)); simp only [ByteArray.size_extract] at h_; omega))
                  by_cases c75 : (a0.extract 0 (((rd_T34 t317 a1).f2) : Int).toNat).size + 3 + a2.size ≤ 9223372036854775807
                  ·rw [if_pos c75] at H
                   have c75b0 := eq_true c75
                   have c75b1 : decide ((a0.extract 0 (((rd_T34 t317 a1).f2) : Int).toNat).size + 3 + a2.size ≤ 9223372036854775807) = true := dt_ c75
                   try have c75b2 : (9223372036854775807 < (a0.extract 0 (((rd_T34 t317 a1).f2) : Int).toNat).size + 3 + a2.size) = False := eq_false (Nat.not_lt.2 c75)
                   try have c75b3 : (9223372036854775807 < (min (((rd_T34 t317 a1).f2) : Int).toNat a0.size) + 3 + a2.size) = False := eq_false (Nat.not_lt.2 (by have h_ := c75; simp only [ByteArray.size_extract] at h_; omega))
                   try have c75b4 : (9223372036854775807 < (((rd_T34 t317 a1).f2) : Int).toNat + 3 + a2.size) = False := eq_false (Nat.not_lt.2 (by have h_ := c75; have h2_ : ((rd_T34 t317 a1).f2) ≤ (a0.size : Int) := (by first | assumption | exact of_eq_true (by assumption) | exact of_decide_eq_true (by assumption)); simp only [ByteArray.size_extract] at h_; omega))
                   by_cases c76 : (a0.extract 0 (((rd_T34 t317 a1).f2) : Int).toNat).size + 3 + a2.size + 1 ≤ 9223372036854775807
                   ·rw [if_pos c76] at H
                    have c76b0 := eq_true c76
                    have c76b1 : decide ((a0.extract 0 (((rd_T34 t317 a1).f2) : Int).toNat).size + 3 + a2.size + 1 ≤ 9223372036854775807) = true := dt_ c76
                    try have c76b2 : (9223372036854775807 < (a0.extract 0 (((rd_T34 t317 a1).f2) : Int).toNat).size + 3 + a2.size + 1) = False := eq_false (Nat.not_lt.2 c76)
                    try have c76b3 : (9223372036854775807 < (min (((rd_T34 t317 a1).f2) : Int).toNat a0.size) + 3 + a2.size + 1) = False := eq_false (Nat.not_lt.2 (by have h_ := c76; simp only [ByteArray.size_extract] at h_; omega))
                    try have c76b4 : (9223372036854775807 < (((rd_T34 t317 a1).f2) : Int).toNat + 3 + a2.size + 1) = False := eq_false (Nat.not_lt.2 (by have h_ := c76; have h2_ : ((rd_T34 t317 a1).f2) ≤ (a0.size : Int) := (by first | assumption | exact of_eq_true (by assumption) | exact of_decide_eq_true (by assumption)); simp only [ByteArray.size_extract] at h_; omega))
                    have c77b0 := eq_true (od_ (by first | (with_reducible assumption) | assumption) : 0 ≤ ((rd_T34 t317 a1).f2))
                    have c78b0 := eq_true (od_ (by first | (with_reducible assumption) | assumption) : ((rd_T34 t317 a1).f2) ≤ (a0.size : Int))
                    by_cases c79 : (a0.extract 0 (((rd_T34 t317 a1).f2) : Int).toNat).size + 3 + a2.size + 1 + (a0.extract (((rd_T34 t317 a1).f2) : Int).toNat a0.size).size ≤ 9223372036854775807
                    ·rw [if_pos c79] at H
                     have c79b0 := eq_true c79
                     have c79b1 : decide ((a0.extract 0 (((rd_T34 t317 a1).f2) : Int).toNat).size + 3 + a2.size + 1 + (a0.extract (((rd_T34 t317 a1).f2) : Int).toNat a0.size).size ≤ 9223372036854775807) = true := dt_ c79
                     try have c79b2 : (9223372036854775807 < (a0.extract 0 (((rd_T34 t317 a1).f2) : Int).toNat).size + 3 + a2.size + 1 + (a0.extract (((rd_T34 t317 a1).f2) : Int).toNat a0.size).size) = False := eq_false (Nat.not_lt.2 c79)
                     try have c79b3 : (9223372036854775807 < (min (((rd_T34 t317 a1).f2) : Int).toNat a0.size) + 3 + a2.size + 1 + (a0.size - (((rd_T34 t317 a1).f2) : Int).toNat)) = False := eq_false (Nat.not_lt.2 (by have h_ := c79; simp only [ByteArray.size_extract] at h_; omega))
                     try have c79b4 : (9223372036854775807 < (((rd_T34 t317 a1).f2) : Int).toNat + 3 + a2.size + 1 + (a0.size - (((rd_T34 t317 a1).f2) : Int).toNat)) = False := eq_false (Nat.not_lt.2 (by have h_ := c79; have h2_ : ((rd_T34 t317 a1).f2) ≤ (a0.size : Int) := (by first | assumption | exact of_eq_true (by assumption) | exact of_decide_eq_true (by assumption)); simp only [ByteArray.size_extract] at h_; omega))
                     replace H := ob_ H
                     obtain ⟨⟨t337, t340, t341⟩, A800, H⟩ := H
                     replace H : (if t340 = 0 then ((neumeref08_Alike.f kj45 t317 t337).bind fun t343 => (if t343 = true then ((neumelaw08_heads.f kj45).bind fun t344 => (some t344)) else (some false))) else (some false)) = some r := H
                     have A80 := sd_ A800
                     clear A800
                     by_cases c81 : t340 = 0
                     ·rw [if_pos c81] at H
                      have c81b0 : (t340 == 0) = true := beq_iff_eq.mpr c81
                      have c81b1 : (t340 != 0) = false := bne_eq_false_iff_eq.mpr c81
                      clear c81
                      replace H := ob_ H
                      obtain ⟨t343, A820, H⟩ := H
                      replace H : (if t343 = true then ((neumelaw08_heads.f kj45).bind fun t344 => (some t344)) else (some false)) = some r := H
                      have A82 := sd_ A820
                      clear A820
                      by_cases c83 : t343 = true
                      ·subst c83
                       have H1 : ((neumelaw08_heads.f kj45).bind fun t344 => (some t344)) = some r := by rw [if_pos rfl] at H; exact H
                       clear H; have H := H1; clear H1
                       replace H := ob_ H
                       obtain ⟨t344, A840, H⟩ := H
                       replace H : (some t344) = some r := H
                       have A84 := sd_ A840
                       clear A840
                       obtain rfl := Option.some.inj H
                       try go_wp2
                       replace HO_8 := sd_ (Kd.R_drew HO_8.out)
                       replace BK322 := sd_ (kd_ BK322.out)
                       replace HB := sd_ (d1_ HB.out)
                       refine start_ (n := 18) (S := fun w' => True) (ds := []) (Array.replicate 18 false) (by kernel_rfl) rfl rfl trivial (fun hHeld => ?_); refine with_tabW neumelaw08_TokenBlanks.tab14 neumelaw08_TokenBlanks.bits14 (fun HT_ HW_ => ?_)
                       generalize wc.drew = w85 at HO_8 BK322 HB hHeld ⊢
                       refine pu_ (v := ?_) (a' := ?_) 0 97 (bz 18 1) rfl rfl HT_ (by kernel_rfl) (fun _ _ _ h => h) (by rfl) ?_ ?_ ?_
                       rotate_left; (intro w'; go_simp; with_reducible rfl); rotate_left; (simp only [Act.put, ls_, lz_, lc_, i64_w, i32_w]; rfl)
                       refine pu_ (v := ?_) (a' := ?_) 1 98 (bz 18 3) rfl rfl HT_ (by kernel_rfl) (fun _ _ _ h => h) (by rfl) ?_ ?_ ?_
                       rotate_left; (intro w'; go_simp; with_reducible rfl); rotate_left; (simp only [Act.put, ls_, lz_, lc_, i64_w, i32_w]; rfl)
                       refine pu_ (v := ?_) (a' := ?_) 2 99 (bz 18 7) rfl rfl HT_ (by kernel_rfl) (fun _ _ _ h => h) (by rfl) ?_ ?_ ?_
                       rotate_left; (intro w'; go_simp; with_reducible rfl); rotate_left; (simp only [Act.put, ls_, lz_, lc_, i64_w, i32_w]; rfl)
                       refine pu_ (v := ?_) (a' := ?_) 3 100 (bz 18 15) rfl rfl HT_ (by kernel_rfl) (fun _ _ _ h => h) (by rfl) ?_ ?_ ?_
                       rotate_left; (intro w'; go_simp; with_reducible rfl); rotate_left; (simp only [Act.put, ls_, lz_, lc_, i64_w, i32_w]; rfl)
                       refine pu_ (v := ?_) (a' := ?_) 4 101 (bz 18 31) rfl rfl HT_ (by kernel_rfl) (fun _ _ _ h => h) (by rfl) ?_ ?_ ?_
                       rotate_left; (intro w'; go_simp; with_reducible rfl); rotate_left; (simp only [Act.put, ls_, lz_, lc_, i64_w, i32_w]; rfl)
                       refine pu_ (v := ?_) (a' := ?_) 5 102 (bz 18 63) rfl rfl HT_ (by kernel_rfl) (fun _ _ _ h => h) (by rfl) ?_ ?_ ?_
                       rotate_left; (intro w'; go_simp; with_reducible rfl); rotate_left; (simp only [Act.put, ls_, lz_, lc_, i64_w, i32_w]; rfl)
                       refine pu_ (v := ?_) (a' := ?_) 6 103 (bz 18 127) rfl rfl HT_ (by kernel_rfl) (fun _ _ _ h => h) (by rfl) ?_ ?_ ?_
                       rotate_left; (intro w'; go_simp; with_reducible rfl); rotate_left; (simp only [Act.put, ls_, lz_, lc_, i64_w, i32_w]; rfl)
                       refine pu_ (v := ?_) (a' := ?_) 7 104 (bz 18 255) rfl rfl HT_ (by kernel_rfl) (fun _ _ _ h => h) (by rfl) ?_ ?_ ?_
                       rotate_left; (intro w'; go_simp; with_reducible rfl); rotate_left; (simp only [Act.put, ls_, lz_, lc_, i64_w, i32_w]; rfl)
                       refine pu_ (v := ?_) (a' := ?_) 8 105 (bz 18 511) rfl rfl HT_ (by kernel_rfl) (fun _ _ _ h => h) (by rfl) ?_ ?_ ?_
                       rotate_left; (intro w'; go_simp; with_reducible rfl); rotate_left; (simp only [Act.put, ls_, lz_, lc_, i64_w, i32_w]; rfl)
                       refine pu_ (v := ?_) (a' := ?_) 9 106 (bz 18 1023) rfl rfl HT_ (by kernel_rfl) (fun _ _ _ h => h) (by rfl) ?_ ?_ ?_
                       rotate_left; (intro w'; go_simp; with_reducible rfl); rotate_left; (simp only [Act.put, ls_, lz_, lc_, i64_w, i32_w]; rfl)
                       refine pu_ (v := ?_) (a' := ?_) 10 107 (bz 18 2047) rfl rfl HT_ (by kernel_rfl) (fun _ _ _ h => h) (by rfl) ?_ ?_ ?_
                       rotate_left; (intro w'; go_simp; with_reducible rfl); rotate_left; (simp only [Act.put, ls_, lz_, lc_, i64_w, i32_w]; rfl)
                       refine join_ (σ := Value × Nat) 2 (bz 18 65535) (fun s_ => [(108, .tuple #[s_.1, .agg #[.int .i64 t340, .int .i64 t341]]), (12, .pointer (some ⟨s_.2, 0, none⟩)), (96, .tuple #[s_.1, .agg #[.int .i64 t340, .int .i64 t341]]), (109, s_.1), (110, .agg #[.int .i64 t340, .int .i64 t341])]) (fun s_ w' => (Kd.R k34 34 w' w.heap.size (fun k_ => some k_ ≠ (.slice (some ad327) t317.length co47 : Value).ownBlock) s_.1 t337) ∧ (Kd.R k34 34 w' w.heap.size (fun k_ => some k_ ≠ (s_.1 : Value).ownBlock) (.slice (some ad327) t317.length co47) t317) ∧ (w'.heap[gb322]? = some (.cells #[.int .i64 t320, .int .i64 t321] 26 (0, 0))) ∧ (w'.heap[s_.2]? = some (.cells #[.int .i64 0, .int .i64 0] 26 (0, 0))) ∧ (w.heap.size ≤ s_.2) ∧ (w.heap.size ≤ s_.2) ∧ (gb322 ≠ s_.2) ∧ (s_.2 ≠ gb322) ∧ (Below w.heap.size w w')) ?_ ?_
                       rotate_left
                       ·intro hCont
                        refine two_ (i := 11) (j := 15) (Ni := some 108) (Nj := some 12) (bz 18 4095) (bz 18 34815) rfl rfl rfl rfl (two_of HT_.out (by kernel_rfl)) (by decide) (by decide) (fun K hK => ?_) (fun K hK => ?_)
                        ·skip
                         refine goes_ Tryd.func9 (by kernel_rfl) rfl #[.string (((((a0.extract 0 (((rd_T34 t317 a1).f2) : Int).toNat) ++ (⟨#[32, 9, 37]⟩ : ByteArray)) ++ a2) ++ (⟨#[10]⟩ : ByteArray)) ++ (a0.extract (((rd_T34 t317 a1).f2) : Int).toNat a0.size))] (by rfl) rfl rfl (by (try simp only [lm_, lq_, lx_]); first | done | rfl | (simp only [ld_, lt_]; rfl) | ((conv => rhs; simp); rfl)) ?_
                         with_reducible refine (token_Scan.calls kj45 (((((a0.extract 0 (((rd_T34 t317 a1).f2) : Int).toNat) ++ (⟨#[32, 9, 37]⟩ : ByteArray)) ++ a2) ++ (⟨#[10]⟩ : ByteArray)) ++ (a0.extract (((rd_T34 t317 a1).f2) : Int).toNat a0.size)) t337 t340 t341 _ ?side1 A80.out).mono ?_
                         (case side1 => first | (with_reducible exact hE) | exact sd_ (LaidE.below hE.out (bb_ HB.out (e_ GE322 e0_))))
                         rintro e w86 ⟨v338, rfl, ho0, hb⟩
                         refine ⟨_, rfl, ?_⟩
                         have HO339 := sd_ (Kd.R_lower (Kd.R_new' ho0 (Kd.R_lt (by (with_reducible repeat (first | apply Kd.R_alloc | apply Kd.R_drewN | apply Kd.R_drew)); exact HO_8.out))) (bz_ (bb_ HB.out (e_ GE322 e0_))))
                         replace HO_8 := sd_ (Kd.R_elder' (by (with_reducible repeat (first | apply Kd.R_alloc | apply Kd.R_drewN | apply Kd.R_drew)); exact HO_8.out) (Kd.R_base ho0) hb)
                         replace BK322 := kb_ BK322 hb
                         replace HB := hb_ HB (e_ GE322 e0_) hb
                         (try clear hb)
                         (try clear hb2)
                         (try clear hk)
                         (try clear hi)
                         (try clear ho0)
                         refine hK.out _ _ trivial (fun hHeld => ?_)
                         clear hK K
                         refine norm_ (a' := ?_) ?_ ?_
                         rotate_left
                         ·show Act.put _ (some 108) _ = _
                          simp only [Act.put, ls_, lz_, lc_, i64_w, i32_w]
                          rfl
                         refine pu_ (v := ?_) (a' := ?_) 12 96 (bz 18 8191) rfl rfl HT_ (by kernel_rfl) (fun _ _ _ h => h) (by rfl) ?_ ?_ ?_
                         rotate_left; (intro w'; go_simp; with_reducible rfl); rotate_left; (simp only [Act.put, ls_, lz_, lc_, i64_w, i32_w]; rfl)
                         refine pu_ (v := ?_) (a' := ?_) 13 109 (bz 18 16383) rfl rfl HT_ (by kernel_rfl) (fun _ _ _ h => h) (by rfl) ?_ ?_ ?_
                         rotate_left; (intro w'; go_simp; with_reducible rfl); rotate_left; (simp only [Act.put, ls_, lz_, lc_, i64_w, i32_w]; rfl)
                         refine pu_ (v := ?_) (a' := ?_) 14 110 (bz 18 32767) rfl rfl HT_ (by kernel_rfl) (fun _ _ _ h => h) (by rfl) ?_ ?_ ?_
                         rotate_left; (intro w'; go_simp; with_reducible rfl); rotate_left; (simp only [Act.put, ls_, lz_, lc_, i64_w, i32_w]; rfl)
                         refine on_ (N := some 12) 15 (bz 18 65535) rfl rfl HT_ (by kernel_rfl) (by decide) (fun K hK => ?_)
                         refine box_step ?hg (N := 12) ?hd (cs := #[.int .i64 0, .int .i64 0]) (t := 26) ?hr ?_; (case hd => rfl); (case hg => rfl); (case hr => first | (go_simp; done) | (go_simp; rfl))
                         intro gb342 hg w87 hbox hb
                         have BK342 := sd_ hbox
                         have GW342 := gw_ HB (e_ GE322 e0_) hg
                         have GE342 := GW342
                         have NB322_342 := nb_ BK322 hg
                         have NB342_322 := sy_ NB322_342
                         replace HO_8 := sd_ (Kd.R_below (by (with_reducible repeat (first | apply Kd.R_alloc | apply Kd.R_drewN | apply Kd.R_drew)); exact HO_8.out) hb)
                         replace HO339 := sd_ (Kd.R_below (by (with_reducible repeat (first | apply Kd.R_alloc | apply Kd.R_drewN | apply Kd.R_drew)); exact HO339.out) hb)
                         replace BK322 := kb_ BK322 hb
                         replace HB := hb_ HB (e_ GE322 e0_) hb
                         clear hb hbox hg
                         refine hK.out _ _ trivial (fun hHeld => ?_)
                         clear hK K
                         refine norm_ (a' := ?_) ?_ ?_
                         rotate_left
                         ·show Act.put _ (some 12) _ = _
                          simp only [Act.put, ls_, lz_, lc_, i64_w, i32_w]
                          rfl
                         exact norm_ (by simp only [putAll, Act.put, ls_, lz_, lc_]) (hCont (v338, gb342) _ ⟨(by (with_reducible repeat (first | apply Kd.R_alloc | apply Kd.R_drewN | apply Kd.R_drew)); exact Kd.R_mono HO339.out (fun _ hk => hk.2)), (by (with_reducible repeat (first | apply Kd.R_alloc | apply Kd.R_drewN | apply Kd.R_drew)); exact Kd.R_mono HO_8.out (fun _ hk => hk.2)), (kk_ BK322.out), (kk_ BK342.out), GW342.out, GE342.out, NB322_342.out, NB342_322.out, (bb_ HB.out (e_ GE322 (e_ GE342 e0_)))⟩)
                        ·skip
                         refine box_step ?hg (N := 12) ?hd (cs := #[.int .i64 0, .int .i64 0]) (t := 26) ?hr ?_; (case hd => rfl); (case hg => rfl); (case hr => first | (go_simp; done) | (go_simp; rfl))
                         intro gb342 hg w86 hbox hb
                         have BK342 := sd_ hbox
                         have GW342 := gw_ HB (e_ GE322 e0_) hg
                         have GE342 := GW342
                         have NB322_342 := nb_ BK322 hg
                         have NB342_322 := sy_ NB322_342
                         replace HO_8 := sd_ (Kd.R_below (by (with_reducible repeat (first | apply Kd.R_alloc | apply Kd.R_drewN | apply Kd.R_drew)); exact HO_8.out) hb)
                         replace BK322 := kb_ BK322 hb
                         replace HB := hb_ HB (e_ GE322 e0_) hb
                         clear hb hbox hg
                         refine hK.out _ _ trivial (fun hHeld => ?_)
                         clear hK K
                         refine norm_ (a' := ?_) ?_ ?_
                         rotate_left
                         ·show Act.put _ (some 12) _ = _
                          simp only [Act.put, ls_, lz_, lc_, i64_w, i32_w]
                          rfl
                         refine on_ (N := some 108) 11 (bz 18 36863) rfl rfl HT_ (by kernel_rfl) (by decide) (fun K hK => ?_)
                         refine goes_ Tryd.func9 (by kernel_rfl) rfl #[.string (((((a0.extract 0 (((rd_T34 t317 a1).f2) : Int).toNat) ++ (⟨#[32, 9, 37]⟩ : ByteArray)) ++ a2) ++ (⟨#[10]⟩ : ByteArray)) ++ (a0.extract (((rd_T34 t317 a1).f2) : Int).toNat a0.size))] (by rfl) rfl rfl (by (try simp only [lm_, lq_, lx_]); first | done | rfl | (simp only [ld_, lt_]; rfl) | ((conv => rhs; simp); rfl)) ?_
                         with_reducible refine (token_Scan.calls kj45 (((((a0.extract 0 (((rd_T34 t317 a1).f2) : Int).toNat) ++ (⟨#[32, 9, 37]⟩ : ByteArray)) ++ a2) ++ (⟨#[10]⟩ : ByteArray)) ++ (a0.extract (((rd_T34 t317 a1).f2) : Int).toNat a0.size)) t337 t340 t341 _ ?side1 A80.out).mono ?_
                         (case side1 => first | (with_reducible exact hE) | exact sd_ (LaidE.below hE.out (bb_ HB.out (e_ GE322 (e_ GE342 e0_)))))
                         rintro e w87 ⟨v338, rfl, ho0, hb⟩
                         refine ⟨_, rfl, ?_⟩
                         have HO339 := sd_ (Kd.R_lower (Kd.R_new' ho0 (Kd.R_lt (by (with_reducible repeat (first | apply Kd.R_alloc | apply Kd.R_drewN | apply Kd.R_drew)); exact HO_8.out))) (bz_ (bb_ HB.out (e_ GE322 (e_ GE342 e0_)))))
                         replace HO_8 := sd_ (Kd.R_elder' (by (with_reducible repeat (first | apply Kd.R_alloc | apply Kd.R_drewN | apply Kd.R_drew)); exact HO_8.out) (Kd.R_base ho0) hb)
                         replace BK322 := kb_ BK322 hb
                         replace BK342 := kb_ BK342 hb
                         replace HB := hb_ HB (e_ GE322 (e_ GE342 e0_)) hb
                         (try clear hb)
                         (try clear hb2)
                         (try clear hk)
                         (try clear hi)
                         (try clear ho0)
                         refine hK.out _ _ trivial (fun hHeld => ?_)
                         clear hK K
                         refine norm_ (a' := ?_) ?_ ?_
                         rotate_left
                         ·show Act.put _ (some 108) _ = _
                          simp only [Act.put, ls_, lz_, lc_, i64_w, i32_w]
                          rfl
                         refine pu_ (v := ?_) (a' := ?_) 12 96 (bz 18 40959) rfl rfl HT_ (by kernel_rfl) (fun _ _ _ h => h) (by rfl) ?_ ?_ ?_
                         rotate_left; (intro w'; go_simp; with_reducible rfl); rotate_left; (simp only [Act.put, ls_, lz_, lc_, i64_w, i32_w]; rfl)
                         refine pu_ (v := ?_) (a' := ?_) 13 109 (bz 18 49151) rfl rfl HT_ (by kernel_rfl) (fun _ _ _ h => h) (by rfl) ?_ ?_ ?_
                         rotate_left; (intro w'; go_simp; with_reducible rfl); rotate_left; (simp only [Act.put, ls_, lz_, lc_, i64_w, i32_w]; rfl)
                         refine pu_ (v := ?_) (a' := ?_) 14 110 (bz 18 65535) rfl rfl HT_ (by kernel_rfl) (fun _ _ _ h => h) (by rfl) ?_ ?_ ?_
                         rotate_left; (intro w'; go_simp; with_reducible rfl); rotate_left; (simp only [Act.put, ls_, lz_, lc_, i64_w, i32_w]; rfl)
                         exact norm_ (by simp only [putAll, Act.put, ls_, lz_, lc_]) (hCont (v338, gb342) _ ⟨(by (with_reducible repeat (first | apply Kd.R_alloc | apply Kd.R_drewN | apply Kd.R_drew)); exact Kd.R_mono HO339.out (fun _ hk => hk.2)), (by (with_reducible repeat (first | apply Kd.R_alloc | apply Kd.R_drewN | apply Kd.R_drew)); exact Kd.R_mono HO_8.out (fun _ hk => hk.2)), (kk_ BK322.out), (kk_ BK342.out), GW342.out, GE342.out, NB322_342.out, NB342_322.out, (bb_ HB.out (e_ GE322 (e_ GE342 e0_)))⟩)
                       rintro ⟨v338, gb342⟩ w88 ⟨h0_, h1_, h2_, h3_, h4_, h5_, h6_, h7_, h8_⟩
                       have n0_ : Aside0 (Kd.R k34 34 w88 w.heap.size (fun k_ => some k_ ≠ (.slice (some ad327) t317.length co47 : Value).ownBlock) v338 t337) := ⟨h0_⟩
                       have n1_ : Aside0 (Kd.R k34 34 w88 w.heap.size (fun k_ => some k_ ≠ (v338 : Value).ownBlock) (.slice (some ad327) t317.length co47) t317) := ⟨h1_⟩
                       have n2_ : Aside0 (w88.heap[gb322]? = some (.cells #[.int .i64 t320, .int .i64 t321] 26 (0, 0))) := ⟨h2_⟩
                       have n3_ : Aside0 (w88.heap[gb342]? = some (.cells #[.int .i64 0, .int .i64 0] 26 (0, 0))) := ⟨h3_⟩
                       have n4_ : Aside0 (w.heap.size ≤ gb342) := ⟨h4_⟩
                       have n5_ : Aside0 (w.heap.size ≤ gb342) := ⟨h5_⟩
                       have n6_ : Aside0 (gb322 ≠ gb342) := ⟨h6_⟩
                       have n7_ : Aside0 (gb342 ≠ gb322) := ⟨h7_⟩
                       have n8_ : Aside0 (Below w.heap.size w w88) := ⟨h8_⟩
                       clear HO_8
                       clear BK322
                       clear HB
                       clear h0_ h1_ h2_ h3_ h4_ h5_ h6_ h7_ h8_
                       have HO339 := n0_
                       have HO_8 := n1_
                       have BK322 := n2_
                       have BK342 := n3_
                       have GW342 := n4_
                       have GE342 := n5_
                       have NB322_342 := n6_
                       have NB342_322 := n7_
                       have HB := n8_
                       clear n0_ n1_ n2_ n3_ n4_ n5_ n6_ n7_ n8_
                       have hHeld := trivial
                       refine norm_ (a' := ?_) ?_ ?_
                       rotate_left
                       ·simp only [putAll, Act.put, ls_, lz_, lc_]
                        rfl
                       refine pu_ (v := ?_) (a' := ?_) 16 11 (bz 18 131071) rfl rfl HT_ (by kernel_rfl) (fun _ _ _ h => h) (by rfl) ?_ ?_ ?_
                       rotate_left; (intro w'; go_simp; with_reducible rfl); rotate_left; (simp only [Act.put, ls_, lz_, lc_, i64_w, i32_w]; rfl)
                       refine on_ (N := none) 17 (bz 18 262143) rfl rfl HT_ (by kernel_rfl) (by decide) (fun K hK => ?_)
                       have hs89 : w88.cell? ⟨gb342, 0, none⟩ = some (.int .i64 0) := (kc_ BK342.out 0).trans rfl
                       have hfs89 := kf_ BK342.out 0
                       have hns89_0 := NB322_342.out
                       have hms89_0 := NB342_322.out
                       have hs90 : w88.cell? ⟨gb342, 1, none⟩ = some (.int .i64 0) := (kc_ BK342.out 1).trans rfl
                       have hfs90 := kf_ BK342.out 1
                       have hns90_0 := NB322_342.out
                       have hms90_0 := NB342_322.out
                       refine skip_ (w1 := ?_) (by rfl) rfl ?_ ?_
                       rotate_left
                       ·go_simp
                        rfl
                       refine hK.out _ _ trivial (fun hHeld => ?_)
                       clear hK K
                       refine done_ (done_of HT_.out (by kernel_rfl)) ?_
                       have hnb91 := NB342_322.out
                       have hnc91 := NB322_342.out
                       have hcz92_0 : w88.cell? ⟨gb342, 0, none⟩ = some (.int .i64 0) := (kc_ BK342.out 0).trans rfl
                       have hcz92_1 : w88.cell? ⟨gb342, 1, none⟩ = some (.int .i64 0) := (kc_ BK342.out 1).trans rfl
                       have hfz92_0 := kf_ BK342.out 0
                       have hfz92_1 := kf_ BK342.out 1
                       obtain ⟨Ao93, co93, eo93⟩ := Kd.R_slice HO339.out
                       subst eo93
                       try go_wp2_with (first | (go_at_call 17; (with_reducible refine (neumeref08_Alike.calls kj45 _ _ t317 _ _ t337 true _ ?side1 ?side2 ?side3 ?side4 A82.out).mono ?_); (case side1 => refine (Kd.R_reads' (e := 34) (base := w.heap.size) (ok := fun k_ => some k_ ≠ (.slice Ao93 t337.length co93 : Value).ownBlock) (n := t317.length) (c := co47) ?_).2.2; exact (by (with_reducible repeat (first | apply Kd.R_alloc | apply Kd.R_drewN | apply Kd.R_drew)); exact (Kd.R_mono (Kd.R_far (p := ⟨gb342, 1, none⟩) (Kd.R_far (p := ⟨gb342, 0, none⟩) (Kd.R_types HO_8.out BK342.out (by decide)) (fun _ hk => hk.2) (.int .i64 t340)) (fun _ hk => hk.2) (.int .i64 t341)) (fun _ h_ => h_.1)))); (case side2 => exact (Kd.R_reads' HO_8.out).2.1); (case side3 => refine (Kd.R_reads' (e := 34) (base := w.heap.size) (ok := fun k_ => some k_ ≠ (.slice (some ad327) t317.length co47 : Value).ownBlock) (n := t337.length) (c := co93) ?_).2.2; exact (by (with_reducible repeat (first | apply Kd.R_alloc | apply Kd.R_drewN | apply Kd.R_drew)); exact (Kd.R_mono (Kd.R_far (p := ⟨gb342, 1, none⟩) (Kd.R_far (p := ⟨gb342, 0, none⟩) (Kd.R_types HO339.out BK342.out (by decide)) (fun _ hk => hk.2) (.int .i64 t340)) (fun _ hk => hk.2) (.int .i64 t341)) (fun _ h_ => h_.1)))); (case side4 => exact (Kd.R_reads' HO339.out).2.1); rintro e w' ⟨rfl, ⟨nd, rfl⟩⟩) | (go_at_call 8; (with_reducible refine (neumelaw08_heads.calls kj45  t344 _ ?side1 A84.out).mono ?_); (case side1 => first | (with_reducible exact hE) | exact sd_ (LaidE.below hE.out (bb_ HB.out (e_ GE322 (e_ GE342 e0_))))); rintro e w94 ⟨rfl, hb⟩; have n0_ := sd_ (Kd.R_below (by (with_reducible repeat (first | apply Kd.R_alloc | apply Kd.R_drewN | apply Kd.R_drew)); exact (Kd.R_mono (Kd.R_far (p := ⟨gb342, 1, none⟩) (Kd.R_far (p := ⟨gb342, 0, none⟩) (Kd.R_types HO_8.out BK342.out (by decide)) (fun _ hk => hk.2) (.int .i64 t340)) (fun _ hk => hk.2) (.int .i64 t341)) (fun _ h_ => h_.1))) hb); have n1_ := sd_ (Kd.R_below (by (with_reducible repeat (first | apply Kd.R_alloc | apply Kd.R_drewN | apply Kd.R_drew)); exact (Kd.R_mono (Kd.R_far (p := ⟨gb342, 1, none⟩) (Kd.R_far (p := ⟨gb342, 0, none⟩) (Kd.R_types HO339.out BK342.out (by decide)) (fun _ hk => hk.2) (.int .i64 t340)) (fun _ hk => hk.2) (.int .i64 t341)) (fun _ h_ => h_.1))) hb); have n2_ := sd_ (blk_below (g := gb322) (o := .cells #[.int .i64 t320, .int .i64 t321] 26 (0, 0)) (by (with_reducible repeat first | apply kn_ | apply kd_ | apply ka_); refine blk_far ?_ NB322_342.out _; (with_reducible repeat first | apply kn_ | apply kd_ | apply ka_); refine blk_far ?_ NB322_342.out _; (with_reducible repeat first | apply kn_ | apply kd_ | apply ka_); exact BK322.out) hb); have n3_ := sd_ (blk_below (g := gb342) (o := .cells #[.int .i64 t340, .int .i64 t341] 26 (0, 0)) (by (with_reducible repeat first | apply kn_ | apply kd_ | apply ka_); refine blk_put (cs := #[.int .i64 t340, .int .i64 0]) ?_ 1 _ rfl; (with_reducible repeat first | apply kn_ | apply kd_ | apply ka_); refine blk_put (cs := #[.int .i64 0, .int .i64 0]) ?_ 0 _ rfl; (with_reducible repeat first | apply kn_ | apply kd_ | apply ka_); exact BK342.out) hb); have n4_ := hb_ HB (e_ GE322 (e_ GE342 e0_)) hb; clear HO_8; clear HO339; clear BK322; clear BK342; clear HB; have HO_8 := n0_; have HO339 := n1_; have BK322 := n2_; have BK342 := n3_; have HB := n4_; clear n0_ n1_ n2_ n3_ n4_; (try clear hb); (try clear hb2); (try clear hk); (try clear hi)))
                       go_ret
                       exact ⟨by first | rfl | (simp [errW_none, errW_some] <;> rfl) | (simp [*, errW_none, errW_some] <;> rfl), by repeat (first | (with_reducible first | exact HB.out | apply ba_ | apply pd_ | apply d1_ | refine bs_ ?_ GE322.out | refine bs_ ?_ GE342.out) | exact HB.out)⟩
                      ·replace c83 := bf_ c83
                       subst c83
                       have H1 : (some false) = some r := by rw [if_neg (show ¬ (false = true) by decide)] at H; exact H
                       clear H; have H := H1; clear H1
                       exact absurd ((Option.some.inj H).trans hxt.out) (by decide)
                     ·rw [if_neg c81] at H
                      have c81b0 : (t340 == 0) = false := beq_eq_false_iff_ne.mpr c81
                      have c81b1 : (t340 != 0) = true := bne_iff_ne.mpr c81
                      exact absurd ((Option.some.inj H).trans hxt.out) (by decide)
                    ·rw [if_neg c79] at H
                     exact absurd H (by simp)
                   ·rw [if_neg c76] at H
                    exact absurd H (by simp)
                  ·rw [if_neg c75] at H
                   exact absurd H (by simp)
                 ·rw [if_neg c74] at H
                  exact absurd H (by simp)
                ·rw [if_neg c73] at H
                 exact absurd H (by simp)
               ·rw [if_neg c72] at H
                exact absurd H (by simp)
           ·rw [if_neg c45] at H
            exact absurd H (by simp)
          ·rw [if_neg c44] at H
           exact absurd H (by simp)

end Go.Proofs.YtmffjjncnbeldaaDoor.P
