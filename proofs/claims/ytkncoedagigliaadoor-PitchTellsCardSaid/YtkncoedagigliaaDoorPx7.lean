-- Written by a program of this session (wip/tools/xprint.py, over the kit's print): Lean checks it.
import Derived.Test.YtkncoedagigliaaDoorPx0
import Derived.Test.YtkncoedagigliaaDoorPx6
namespace Go.Proofs.YtkncoedagigliaaDoor.P
open Go.RowKit Go.Proofs.YtkncoedagigliaaDoorW.PrintWords Go.Proofs.YtkncoedagigliaaDoorW.PrintLast Go.Proofs.YtkncoedagigliaaDoorW.PrintMore
attribute [local go_sem] max2_int min2_int max_two min_two max_three min_three max_four min_four   -- for this text's walks alone
set_option linter.unusedVariables false
set_option linter.unusedSimpArgs false

/-! ### neumeref06_Name: function 21 -/
mutual
def neumeref06_Name.l0 : Nat → ByteArray → Int → Int → Int → Int → Option (ByteArray)
 | 0, _, _, _, _, _ => none
 | k + 1, x3, x4, x235000, x235001, x235002 => if x4 < x235002 then (if x3.size + 1 ≤ 9223372036854775807 then (neumeref06_Name.l0 k (x3 ++ (⟨#[39]⟩ : ByteArray)) (wrap64 (x4 + 1)) x235000 x235001 x235002) else (none)) else (neumeref06_Name.l1 k x3 x235002)
def neumeref06_Name.l1 : Nat → ByteArray → Int → Option (ByteArray)
 | 0, _, _ => none
 | k + 1, x3, x5 => if x5 < 3 then (if x3.size + 1 ≤ 9223372036854775807 then (neumeref06_Name.l1 k (x3 ++ (⟨#[44]⟩ : ByteArray)) (wrap64 (x5 + 1))) else (none)) else (some x3)
end
def neumeref06_Name.f (k : Nat) (a0_0 : Int) (a0_1 : Int) (a0_2 : Int) : Option (ByteArray) := (neumeref06_Check.f a0_0 a0_1 a0_2).bind fun t235 => (if t235 = true then (if 0 ≤ a0_0 then (if a0_0 ≤ (wrap64 (a0_0 + 1)) then (if (wrap64 (a0_0 + 1)) ≤ 7 then ((some (([(⟨#[101, 115, 101, 115]⟩ : ByteArray), (⟨#[101, 115]⟩ : ByteArray), (⟨#[]⟩ : ByteArray), (⟨#[105, 115]⟩ : ByteArray), (⟨#[105, 115, 105, 115]⟩ : ByteArray)] : List ByteArray) : List ByteArray)).bind fun y236 => (if 0 ≤ (wrap64 (a0_1 + 2)) then (if (wrap64 (a0_1 + 2)) < (y236.length : Int) then (if ((⟨#[99, 100, 101, 102, 103, 97, 98]⟩ : ByteArray).extract (a0_0 : Int).toNat ((wrap64 (a0_0 + 1)) : Int).toNat).size + ((rdOf ByteArray.empty y236 (wrap64 (a0_1 + 2))).size) ≤ 9223372036854775807 then (neumeref06_Name.l0 k (((⟨#[99, 100, 101, 102, 103, 97, 98]⟩ : ByteArray).extract (a0_0 : Int).toNat ((wrap64 (a0_0 + 1)) : Int).toNat) ++ (rdOf ByteArray.empty y236 (wrap64 (a0_1 + 2)))) 3 a0_0 a0_1 a0_2) else (none)) else (none)) else (none))) else (none)) else (none)) else (none)) else (some (⟨#[]⟩ : ByteArray)))
theorem neumeref06_Name.mono_l : ∀ k, (∀ y0 y1 y2 y3 y4, LeO (neumeref06_Name.l0 k y0 y1 y2 y3 y4) (neumeref06_Name.l0 (k + 1) y0 y1 y2 y3 y4)) ∧ (∀ y0 y1, LeO (neumeref06_Name.l1 k y0 y1) (neumeref06_Name.l1 (k + 1) y0 y1))
 | 0 => ⟨fun _ _ _ _ _ r h => by simp [neumeref06_Name.l0] at h, fun _ _ r h => by simp [neumeref06_Name.l1] at h⟩
 | k + 1 => by
  obtain ⟨ih0, ih1⟩ := neumeref06_Name.mono_l k
  refine ⟨?_, ?_⟩
  ·intro y0 y1 y2 y3 y4
   unfold neumeref06_Name.l0
   repeat' first
   | (with_reducible exact ih0 _ _ _ _ _)
   | (with_reducible exact ih1 _ _)
   | (with_reducible exact LeO.refl _)
   | (with_reducible exact LeO.none _)
   | (with_reducible refine LeO.ite ?_ ?_)
   | (with_reducible refine LeO.bind ?_ (fun _ => ?_))
   | exact ih0 _ _ _ _ _
   | exact ih1 _ _
   | exact LeO.none _
   | refine LeO.ite ?_ ?_
   | refine LeO.bind ?_ (fun _ => ?_)
  ·intro y0 y1
   unfold neumeref06_Name.l1
   repeat' first
   | (with_reducible exact ih0 _ _ _ _ _)
   | (with_reducible exact ih1 _ _)
   | (with_reducible exact LeO.refl _)
   | (with_reducible exact LeO.none _)
   | (with_reducible refine LeO.ite ?_ ?_)
   | (with_reducible refine LeO.bind ?_ (fun _ => ?_))
   | exact ih0 _ _ _ _ _
   | exact ih1 _ _
   | exact LeO.none _
   | refine LeO.ite ?_ ?_
   | refine LeO.bind ?_ (fun _ => ?_)
theorem neumeref06_Name.mono : ∀ a0 a1 a2 k, LeO (neumeref06_Name.f k a0 a1 a2) (neumeref06_Name.f (k + 1) a0 a1 a2) := by
 intro a0 a1 a2 k
 obtain ⟨ih0, ih1⟩ := neumeref06_Name.mono_l k
 unfold neumeref06_Name.f
 repeat' first
   | (with_reducible exact ih0 _ _ _ _ _)
   | (with_reducible exact ih1 _ _)
   | (with_reducible exact LeO.refl _)
   | (with_reducible exact LeO.none _)
   | (with_reducible refine LeO.ite ?_ ?_)
   | (with_reducible refine LeO.bind ?_ (fun _ => ?_))
   | exact ih0 _ _ _ _ _
   | exact ih1 _ _
   | exact LeO.none _
   | refine LeO.ite ?_ ?_
   | refine LeO.bind ?_ (fun _ => ?_)
def neumeref06_Name.T3 : Bool × List (List Nat × List Nat) := (true, [([], []), ([0], [0]), ([], []), ([2], [2]), ([3], [3]), ([1, 4], [1, 4]), ([], []), ([], []), ([7], [7]), ([8], [8]), ([6, 9], [6, 9]), ([10], [10]), ([5, 11], [5, 11]), ([12, 0, 1, 2, 3, 4, 5, 6, 7, 8, 9, 10, 11, 12], [12])])
def neumeref06_Name.B3 : List Nat := [0, 1, 0, 4, 12, 31, 0, 0, 128, 384, 960, 1984, 4095, 8191]
theorem neumeref06_Name.tab3 : rtab .any (opsOf Tryd.f21 3) = neumeref06_Name.T3 := by kernel_rfl
theorem neumeref06_Name.bits3 : waitsOk neumeref06_Name.T3.2 neumeref06_Name.B3 = true := by kernel_rfl
set_option maxHeartbeats 8000000 in
set_option maxRecDepth 100000 in
theorem neumeref06_Name.calls (k : Nat) (a0_0 : Int) (a0_1 : Int) (a0_2 : Int) (r : ByteArray) (w : World) (h : neumeref06_Name.f k a0_0 a0_1 a0_2 = some r) :
  Calls Tryd.prog 21 #[.agg #[.int .i64 a0_0, .int .i64 a0_1, .int .i64 a0_2]] w fun e w' => e = .returned (.string r) ∧ Below w.heap.size w w' := by
 have hu23 := Tryd.underlying23
 have HB := sd_ (Below.refl w.heap.size w)
 have H : ((neumeref06_Check.f a0_0 a0_1 a0_2).bind fun t235 => (if t235 = true then (if 0 ≤ a0_0 then (if a0_0 ≤ (wrap64 (a0_0 + 1)) then (if (wrap64 (a0_0 + 1)) ≤ 7 then ((some (([(⟨#[101, 115, 101, 115]⟩ : ByteArray), (⟨#[101, 115]⟩ : ByteArray), (⟨#[]⟩ : ByteArray), (⟨#[105, 115]⟩ : ByteArray), (⟨#[105, 115, 105, 115]⟩ : ByteArray)] : List ByteArray) : List ByteArray)).bind fun y236 => (if 0 ≤ (wrap64 (a0_1 + 2)) then (if (wrap64 (a0_1 + 2)) < (y236.length : Int) then (if ((⟨#[99, 100, 101, 102, 103, 97, 98]⟩ : ByteArray).extract (a0_0 : Int).toNat ((wrap64 (a0_0 + 1)) : Int).toNat).size + ((rdOf ByteArray.empty y236 (wrap64 (a0_1 + 2))).size) ≤ 9223372036854775807 then (neumeref06_Name.l0 k (((⟨#[99, 100, 101, 102, 103, 97, 98]⟩ : ByteArray).extract (a0_0 : Int).toNat ((wrap64 (a0_0 + 1)) : Int).toNat) ++ (rdOf ByteArray.empty y236 (wrap64 (a0_1 + 2)))) 3 a0_0 a0_1 a0_2) else (none)) else (none)) else (none))) else (none)) else (none)) else (none)) else (some (⟨#[]⟩ : ByteArray)))) = some r := h
 clear h
 replace H := ob_ H
 obtain ⟨t235, A20, H⟩ := H
 replace H : (if t235 = true then (if 0 ≤ a0_0 then (if a0_0 ≤ (wrap64 (a0_0 + 1)) then (if (wrap64 (a0_0 + 1)) ≤ 7 then ((some (([(⟨#[101, 115, 101, 115]⟩ : ByteArray), (⟨#[101, 115]⟩ : ByteArray), (⟨#[]⟩ : ByteArray), (⟨#[105, 115]⟩ : ByteArray), (⟨#[105, 115, 105, 115]⟩ : ByteArray)] : List ByteArray) : List ByteArray)).bind fun y236 => (if 0 ≤ (wrap64 (a0_1 + 2)) then (if (wrap64 (a0_1 + 2)) < (y236.length : Int) then (if ((⟨#[99, 100, 101, 102, 103, 97, 98]⟩ : ByteArray).extract (a0_0 : Int).toNat ((wrap64 (a0_0 + 1)) : Int).toNat).size + ((rdOf ByteArray.empty y236 (wrap64 (a0_1 + 2))).size) ≤ 9223372036854775807 then (neumeref06_Name.l0 k (((⟨#[99, 100, 101, 102, 103, 97, 98]⟩ : ByteArray).extract (a0_0 : Int).toNat ((wrap64 (a0_0 + 1)) : Int).toNat) ++ (rdOf ByteArray.empty y236 (wrap64 (a0_1 + 2)))) 3 a0_0 a0_1 a0_2) else (none)) else (none)) else (none))) else (none)) else (none)) else (none)) else (some (⟨#[]⟩ : ByteArray))) = some r := H
 have A2 := sd_ A20
 clear A20
 by_cases c3 : t235 = true
 ·subst c3
  have H1 : (if 0 ≤ a0_0 then (if a0_0 ≤ (wrap64 (a0_0 + 1)) then (if (wrap64 (a0_0 + 1)) ≤ 7 then ((some (([(⟨#[101, 115, 101, 115]⟩ : ByteArray), (⟨#[101, 115]⟩ : ByteArray), (⟨#[]⟩ : ByteArray), (⟨#[105, 115]⟩ : ByteArray), (⟨#[105, 115, 105, 115]⟩ : ByteArray)] : List ByteArray) : List ByteArray)).bind fun y236 => (if 0 ≤ (wrap64 (a0_1 + 2)) then (if (wrap64 (a0_1 + 2)) < (y236.length : Int) then (if ((⟨#[99, 100, 101, 102, 103, 97, 98]⟩ : ByteArray).extract (a0_0 : Int).toNat ((wrap64 (a0_0 + 1)) : Int).toNat).size + ((rdOf ByteArray.empty y236 (wrap64 (a0_1 + 2))).size) ≤ 9223372036854775807 then (neumeref06_Name.l0 k (((⟨#[99, 100, 101, 102, 103, 97, 98]⟩ : ByteArray).extract (a0_0 : Int).toNat ((wrap64 (a0_0 + 1)) : Int).toNat) ++ (rdOf ByteArray.empty y236 (wrap64 (a0_1 + 2)))) 3 a0_0 a0_1 a0_2) else (none)) else (none)) else (none))) else (none)) else (none)) else (none)) = some r := by rw [if_pos rfl] at H; exact H
  clear H; have H := H1; clear H1
  by_cases c4 : 0 ≤ a0_0
  ·rw [if_pos c4] at H
   have c4b0 := eq_true c4
   have c4b1 : decide (0 ≤ a0_0) = true := dt_ c4
   clear c4
   by_cases c5 : a0_0 ≤ (wrap64 (a0_0 + 1))
   ·rw [if_pos c5] at H
    have c5b0 := eq_true c5
    have c5b1 : decide (a0_0 ≤ (wrap64 (a0_0 + 1))) = true := dt_ c5
    by_cases c6 : (wrap64 (a0_0 + 1)) ≤ 7
    ·rw [if_pos c6] at H
     have c6b0 := eq_true c6
     have c6b1 : decide ((wrap64 (a0_0 + 1)) ≤ 7) = true := dt_ c6
     obtain ⟨y236, hy236⟩ : ∃ y_ : List ByteArray, y_ = (([(⟨#[101, 115, 101, 115]⟩ : ByteArray), (⟨#[101, 115]⟩ : ByteArray), (⟨#[]⟩ : ByteArray), (⟨#[105, 115]⟩ : ByteArray), (⟨#[105, 115, 105, 115]⟩ : ByteArray)] : List ByteArray)) := ⟨_, rfl⟩
     replace H : (if 0 ≤ (wrap64 (a0_1 + 2)) then (if (wrap64 (a0_1 + 2)) < (y236.length : Int) then (if ((⟨#[99, 100, 101, 102, 103, 97, 98]⟩ : ByteArray).extract (a0_0 : Int).toNat ((wrap64 (a0_0 + 1)) : Int).toNat).size + ((rdOf ByteArray.empty y236 (wrap64 (a0_1 + 2))).size) ≤ 9223372036854775807 then (neumeref06_Name.l0 k (((⟨#[99, 100, 101, 102, 103, 97, 98]⟩ : ByteArray).extract (a0_0 : Int).toNat ((wrap64 (a0_0 + 1)) : Int).toNat) ++ (rdOf ByteArray.empty y236 (wrap64 (a0_1 + 2)))) 3 a0_0 a0_1 a0_2) else (none)) else (none)) else (none)) = some r := by first | (rw [hy236]; with_reducible exact H) | (have H2_ := (Option.bind_some _ _).symm.trans H; rw [hy236]; with_reducible exact H2_) | (have H2_ := (Option.bind_some _ _).symm.trans H; with_reducible exact H2_) | with_reducible exact H | (rw [hy236]; exact H) | exact H
     have Ny236 := sd_ hy236
     clear hy236
     obtain ⟨ji7, hji7⟩ : ∃ j_ : Int, (wrap64 (a0_1 + 2)) = j_ := ⟨_, rfl⟩
     replace H : (if 0 ≤ (ji7) then (if (ji7) < (y236.length : Int) then (if ((⟨#[99, 100, 101, 102, 103, 97, 98]⟩ : ByteArray).extract (a0_0 : Int).toNat ((wrap64 (a0_0 + 1)) : Int).toNat).size + ((rdOf ByteArray.empty y236 (ji7)).size) ≤ 9223372036854775807 then (neumeref06_Name.l0 k (((⟨#[99, 100, 101, 102, 103, 97, 98]⟩ : ByteArray).extract (a0_0 : Int).toNat ((wrap64 (a0_0 + 1)) : Int).toNat) ++ (rdOf ByteArray.empty y236 (ji7))) 3 a0_0 a0_1 a0_2) else (none)) else (none)) else (none)) = some r := by first | (rw [hji7] at H; exact H) | (simp only [hji7] at H ⊢; exact H)
     (try rw [hji7] at A2)
     have hji7w : (IntKind.i64.wrap (a0_1 + 2)) = ji7 := (i64_w _).trans hji7
     by_cases c8 : 0 ≤ (ji7)
     ·rw [if_pos c8] at H
      have c8b0 : decide (0 ≤ (ji7)) = true := dt_ c8
      clear c8
      by_cases c9 : (ji7) < (y236.length : Int)
      ·rw [if_pos c9] at H
       have c9b0 : decide ((ji7) < (y236.length : Int)) = true := dt_ c9
       clear c9
       by_cases c10 : ((⟨#[99, 100, 101, 102, 103, 97, 98]⟩ : ByteArray).extract (a0_0 : Int).toNat ((wrap64 (a0_0 + 1)) : Int).toNat).size + ((rdOf ByteArray.empty y236 (ji7)).size) ≤ 9223372036854775807
       ·rw [if_pos c10] at H
        have c10b0 := eq_true c10
        have c10b1 : decide (((⟨#[99, 100, 101, 102, 103, 97, 98]⟩ : ByteArray).extract (a0_0 : Int).toNat ((wrap64 (a0_0 + 1)) : Int).toNat).size + ((rdOf ByteArray.empty y236 (ji7)).size) ≤ 9223372036854775807) = true := dt_ c10
        try have c10b2 : (9223372036854775807 < ((⟨#[99, 100, 101, 102, 103, 97, 98]⟩ : ByteArray).extract (a0_0 : Int).toNat ((wrap64 (a0_0 + 1)) : Int).toNat).size + ((rdOf ByteArray.empty y236 (ji7)).size)) = False := eq_false (Nat.not_lt.2 c10)
        try (have c10b3 := c10b2; simp only [ByteArray.size_extract, Nat.zero_min, Nat.zero_add, Nat.sub_zero, Nat.min_self] at c10b3)
        try (have c10b4 := c10b2; simp only [show ((⟨#[99, 100, 101, 102, 103, 97, 98]⟩ : ByteArray).extract (a0_0 : Int).toNat ((wrap64 (a0_0 + 1)) : Int).toNat).size = ((wrap64 (a0_0 + 1)) : Int).toNat - (a0_0 : Int).toNat from (ByteArray.size_extract ..).trans (congrArg (fun q_ => q_ - (a0_0 : Int).toNat) (Nat.min_eq_left ((Int.toNat_le (n := 7)).2 (show (wrap64 (a0_0 + 1)) ≤ (7 : Int) by first | assumption | exact of_eq_true (by assumption) | exact of_decide_eq_true (by assumption))))), ByteArray.size_extract, Nat.zero_min, Nat.zero_add, Nat.sub_zero, Nat.min_self] at c10b4)
        have H' := sd_ H
        clear H
        go_enter Tryd.func21, Tryd.ntmps21
        try go_wp2_with (first | ((with_reducible refine gate_dst (N := 1) rfl ?_); refine box_event ?hg (N := 1) ?hd (cs := #[.int .i64 a0_0, .int .i64 a0_1, .int .i64 a0_2]) (t := 23) ?hr ?_; (case hd => rfl); (case hg => rfl); (case hr => first | (go_simp; done) | (go_simp; rfl)); intro gb234 hg w11 hbox hb; have BK234 := sd_ hbox; have GW234 := gw_ HB e0_ hg; have GE234 := GW234; replace HB := hb_ HB e0_ hb; clear hb hbox hg; have hcz12_0 : w11.cell? ⟨gb234, 0, none⟩ = some (.int .i64 a0_0) := (kc_ BK234.out 0).trans rfl; have hcz12_1 : w11.cell? ⟨gb234, 1, none⟩ = some (.int .i64 a0_1) := (kc_ BK234.out 1).trans rfl; have hcz12_2 : w11.cell? ⟨gb234, 2, none⟩ = some (.int .i64 a0_2) := (kc_ BK234.out 2).trans rfl; have hfz12_0 := kf_ BK234.out 0; have hfz12_1 := kf_ BK234.out 1; have hfz12_2 := kf_ BK234.out 2) | ((with_reducible refine gate_callee (f := 15) rfl ?_); refine goesL_ (some 7) rfl rfl Tryd.func15 (by kernel_rfl) rfl #[.agg #[.int .i64 a0_0, .int .i64 a0_1, .int .i64 a0_2]] rfl (by (try simp only [lm_, lq_, lx_]); first | done | rfl | (simp only [ld_, lt_]; rfl)) ?_; (with_reducible refine (neumeref06_Check.calls a0_0 a0_1 a0_2 true _ A2.out).mono ?_); rintro e w13 ⟨rfl, hb⟩; refine ⟨_, rfl, ?_⟩; replace BK234 := kb_ BK234 hb; replace HB := hb_ HB (e_ GE234 e0_) hb; (try clear hb); (try clear hb2); (try clear hk); (try clear hi)))
        have pi239 : (0 ≤ ((ji7) : Int)) = True := eq_true (od_ (by first | (with_reducible assumption) | assumption))
        have qi239 : ((ji7) < (y236.length : Int)) = True := eq_true (od_ (by first | (with_reducible assumption) | assumption))
        replace BK234 := sd_ (kd_ BK234.out)
        replace HB := sd_ (d1_ HB.out)
        refine start_ (n := 14) (S := fun w' => w'.cell? ⟨gb234, 0, none⟩ = some (.int .i64 a0_0) ∧ w'.cell? ⟨gb234, 1, none⟩ = some (.int .i64 a0_1) ∧ w'.cell? ⟨gb234, 2, none⟩ = some (.int .i64 a0_2)) (ds := []) (Array.replicate 14 false) (by kernel_rfl) rfl rfl ⟨(kc_ BK234.out 0).trans rfl, (kc_ BK234.out 1).trans rfl, (kc_ BK234.out 2).trans rfl⟩ (fun hHeld => ?_); refine with_tabW neumeref06_Name.tab3 neumeref06_Name.bits3 (fun HT_ HW_ => ?_)
        generalize w13.drew = w14 at BK234 HB hHeld ⊢
        refine pu_ (v := ?_) (a' := ?_) 0 9 (bz 14 1) rfl rfl HT_ (by kernel_rfl) (fun _ _ _ h => h) (by rfl) ?_ ?_ ?_
        rotate_left; (intro w'; go_simp; with_reducible rfl); rotate_left; (simp only [Act.put, ls_, lz_, lc_, i64_w, i32_w]; rfl)
        refine pu_ (v := ?_) (a' := ?_) 2 11 (bz 14 5) rfl rfl HT_ (by kernel_rfl) (fun _ _ _ h => h) (by rfl) ?_ ?_ ?_
        rotate_left; (intro w'; go_simp; with_reducible rfl); rotate_left; (simp only [Act.put, ls_, lz_, lc_, i64_w, i32_w]; rfl)
        refine pu_ (v := ?_) (a' := ?_) 7 16 (bz 14 133) rfl rfl HT_ (by kernel_rfl) (fun _ _ _ h => h) (by rfl) ?_ ?_ ?_
        rotate_left; (intro w'; go_simp; with_reducible rfl); rotate_left; (simp only [Act.put, ls_, lz_, lc_, i64_w, i32_w]; rfl)
        refine ta_ (v := ?_) (a' := ?_) 1 10 (bz 14 135) rfl rfl HT_ HW_ (by kernel_rfl) (fun _ _ _ h => h) (by rfl) ?_ hHeld ?_ ?_
        rotate_left
        ·rintro w' ⟨s0, s1, s2⟩
         go_simp
         with_reducible rfl
        rotate_left
        ·simp only [Act.put, ls_, lz_, lc_, i64_w, i32_w]
         rfl
        refine ta_ (v := ?_) (a' := ?_) 3 12 (bz 14 143) rfl rfl HT_ HW_ (by kernel_rfl) (fun _ _ _ h => h) (by rfl) ?_ hHeld ?_ ?_
        rotate_left
        ·rintro w' ⟨s0, s1, s2⟩
         go_simp
         with_reducible rfl
        rotate_left
        ·simp only [Act.put, ls_, lz_, lc_, i64_w, i32_w]
         rfl
        refine pu_ (v := ?_) (a' := ?_) 4 13 (bz 14 159) rfl rfl HT_ (by kernel_rfl) (fun _ _ _ h => h) (by rfl) ?_ ?_ ?_
        rotate_left; (intro w'; go_simp; with_reducible rfl); rotate_left; (simp only [Act.put, ls_, lz_, lc_, i64_w, i32_w]; rfl)
        refine pu_ (v := ?_) (a' := ?_) 5 14 (bz 14 191) rfl rfl HT_ (by kernel_rfl) (fun _ _ _ h => h) (by rfl) ?_ ?_ ?_
        rotate_left; (intro w'; go_simp; with_reducible rfl); rotate_left; (simp only [Act.put, ls_, lz_, lc_, i64_w, i32_w]; rfl)
        refine ta_ (v := ?_) (a' := ?_) 8 17 (bz 14 447) rfl rfl HT_ HW_ (by kernel_rfl) (fun _ _ _ h => h) (by rfl) ?_ hHeld ?_ ?_
        rotate_left
        ·rintro w' ⟨s0, s1, s2⟩
         go_simp
         with_reducible rfl
        rotate_left
        ·simp only [Act.put, ls_, lz_, lc_, i64_w, i32_w]
         rfl
        refine pu_ (v := ?_) (a' := ?_) 9 18 (bz 14 959) rfl rfl HT_ (by kernel_rfl) (fun _ _ _ h => h) (by rfl) ?_ ?_ ?_
        rotate_left; (intro w'; go_simp; with_reducible rfl); rotate_left; (simp only [Act.put, ls_, lz_, lc_, i64_w, i32_w]; rfl)
        refine on_ (N := some 15) 6 (bz 14 1023) rfl rfl HT_ (by kernel_rfl) (by decide) (fun K hK => ?_)
        refine Kd.R_lit_step Kd.string _ 9 ?hg (N := 15) ?hd (xs := ([(⟨#[101, 115, 101, 115]⟩ : ByteArray), (⟨#[101, 115]⟩ : ByteArray), (⟨#[]⟩ : ByteArray), (⟨#[105, 115]⟩ : ByteArray), (⟨#[105, 115, 105, 115]⟩ : ByteArray)] : List ByteArray)) (inner := [.string (⟨#[101, 115, 101, 115]⟩ : ByteArray), .string (⟨#[101, 115]⟩ : ByteArray), .string (⟨#[]⟩ : ByteArray), .string (⟨#[105, 115]⟩ : ByteArray), .string (⟨#[105, 115, 105, 115]⟩ : ByteArray)]) (ok := fun _ => True) (okp := fun _ => True) ?hr ?hp (fun _ hk => hk) trivial (Below.refl _ _) (Nat.le_refl _) (by simp) ?_; (case hd => rfl); (case hg => rfl); (case hr => first | (go_simp; done) | (go_simp; rfl)); (case hp => exact (Reps.one (show Kd.M Kd.string _ _ _ (⟨#[101, 115, 101, 115]⟩ : ByteArray) [.string (⟨#[101, 115, 101, 115]⟩ : ByteArray)] from rfl) (Reps.one (show Kd.M Kd.string _ _ _ (⟨#[101, 115]⟩ : ByteArray) [.string (⟨#[101, 115]⟩ : ByteArray)] from rfl) (Reps.one (show Kd.M Kd.string _ _ _ (⟨#[]⟩ : ByteArray) [.string (⟨#[]⟩ : ByteArray)] from rfl) (Reps.one (show Kd.M Kd.string _ _ _ (⟨#[105, 115]⟩ : ByteArray) [.string (⟨#[105, 115]⟩ : ByteArray)] from rfl) (Reps.one (show Kd.M Kd.string _ _ _ (⟨#[105, 115, 105, 115]⟩ : ByteArray) [.string (⟨#[105, 115, 105, 115]⟩ : ByteArray)] from rfl) (Reps.none _ _)))))))
        intro v237 w15 ho16 hb hg_ hnew_
        clear hg_ hnew_
        (first | rw [← Ny236.out] at ho16 | (simp only [Int.reduceToNat] at ho16; rw [← Ny236.out] at ho16))
        have HO238 := sd_ (Kd.R_lower ho16 (bz_ (bb_ HB.out (e_ GE234 e0_))))
        replace BK234 := kb_ BK234 hb
        replace HB := hb_ HB (e_ GE234 e0_) hb
        clear hb ho16
        obtain ⟨Ao17, co17, eo17⟩ := Kd.R_slice HO238.out
        subst eo17
        obtain ⟨ado17, fo17, _⟩ := Kd.at_string (Kd.R_reads' HO238.out).2.2 0 (by decide) (by rw [Ny236.out]; simp)
        cases fo17
        refine hK.out _ _ ⟨(kc_ BK234.out 0).trans rfl, (kc_ BK234.out 1).trans rfl, (kc_ BK234.out 2).trans rfl⟩ (fun hHeld => ?_)
        clear hK K
        refine norm_ (a' := ?_) ?_ ?_
        rotate_left
        ·show Act.put _ (some 15) _ = _
         simp only [Act.put, ls_, lz_, lc_, i64_w, i32_w]
         rfl
        refine pu_ (v := ?_) (a' := ?_) 10 19 (bz 14 2047) rfl rfl HT_ (by kernel_rfl) (fun _ _ _ h => h) (by rfl) ?_ ?_ ?_
        rotate_left; (intro w'; go_simp; with_reducible rfl); rotate_left; (simp only [Act.put, ls_, lz_, lc_, i64_w, i32_w]; rfl)
        refine on_ (N := some 20) 11 (bz 14 4095) rfl rfl HT_ (by kernel_rfl) (by decide) (fun K hK => ?_)
        (have p239 : 0 ≤ ((ji7) : Int) := od_ (by first | (with_reducible assumption) | assumption); have q239 : (ji7) < (y236.length : Int) := od_ (by first | (with_reducible assumption) | assumption); obtain ⟨ad239, e239, hx239_0⟩ := Kd.at_string (Kd.R_reads' HO238.out).2.2 (ji7) p239 q239; obtain rfl : ado17 = ad239 := (by injection e239))
        refine value_ (w1 := ?_) (v := ?_) (by rfl) rfl ?_ ?_
        rotate_left 2
        ·go_simp
         constructor
         ·rfl
         ·rfl
        clear hx239_0
        refine hK.out _ _ ⟨(kc_ BK234.out 0).trans rfl, (kc_ BK234.out 1).trans rfl, (kc_ BK234.out 2).trans rfl⟩ (fun hHeld => ?_)
        clear hK K
        refine norm_ (a' := ?_) ?_ ?_
        rotate_left
        ·show Act.put _ (some 20) _ = _
         simp only [Act.put, ls_, lz_, lc_, i64_w, i32_w]
         rfl
        refine pu_ (v := ?_) (a' := ?_) 12 21 (bz 14 8191) rfl rfl HT_ (by kernel_rfl) (fun _ _ _ h => h) (by rfl) ?_ ?_ ?_
        rotate_left; (intro w'; go_simp; with_reducible rfl); rotate_left; (simp only [Act.put, ls_, lz_, lc_, i64_w, i32_w]; rfl)
        refine pu_ (v := ?_) (a' := ?_) 13 3 (bz 14 16383) rfl rfl HT_ (by kernel_rfl) (fun _ _ _ h => h) (by rfl) ?_ ?_ ?_
        rotate_left; (intro w'; go_simp; with_reducible rfl); rotate_left; (simp only [Act.put, ls_, lz_, lc_, i64_w, i32_w]; rfl)
        refine done_ (done_of HT_.out (by kernel_rfl)) ?_
        try go_wp2
        go_loopg [3, 4] k (fun kq v3 v4 w' => ∃ (x3_1 : ByteArray) (x4_1 : Int), v3 = .string x3_1 ∧ v4 = .int .i64 x4_1 ∧ Aside0 (neumeref06_Name.l0 kq x3_1 x4_1 a0_0 a0_1 a0_2 = some r) ∧ Aside0 (kq ≤ k) ∧ Aside0 (w'.heap[gb234]? = some (.cells #[.int .i64 a0_0, .int .i64 a0_1, .int .i64 a0_2] 23 (0, 0))) ∧ Aside0 (Below w.heap.size w w'))
        case atStart => exact ⟨(((⟨#[99, 100, 101, 102, 103, 97, 98]⟩ : ByteArray).extract (a0_0 : Int).toNat ((wrap64 (a0_0 + 1)) : Int).toNat) ++ (rdOf ByteArray.empty y236 (ji7))), (3), (by first | rfl | (simp; done) | (simp only [← hji7] <;> (first | rfl | simp)) | (simp [*]; done)), (by first | rfl | (simp; done) | (simp [*]; done) | (simp [bne]; done)), H', ⟨Nat.le_refl _⟩, ⟨by (with_reducible repeat first | apply kn_ | apply kd_ | apply ka_); exact BK234.out⟩, ⟨by repeat (first | (with_reducible first | exact HB.out | apply ba_ | apply pd_ | apply d1_ | refine bs_ ?_ GE234.out) | exact HB.out)⟩⟩
        case round =>
         clear H'
         try clear c1; try clear c2; try clear p2; try clear q2; try clear hx2; try clear qi2; try clear c3; try clear c4; try clear c4b0; try clear c4b1; try clear c5; try clear c5b0; try clear c5b1; try clear c6; try clear c6b0; try clear c6b1; try clear p6; try clear c8; try clear c8b0; try clear c9; try clear c9b0; try clear c10; try clear c10b0; try clear c10b1; try clear c10b2; try clear c15; try clear hcz12_0; try clear hcz12_1; try clear hcz12_2; try clear hfz12_0; try clear hfz12_1; try clear hfz12_2; try clear hx239_0; try clear p239; try clear q239
         obtain ⟨x3_1, x4_1, rfl, rfl, HA, HK1, BK234, HB⟩ := hrel
         cases gk with
         | zero => exact absurd HA.out (by simp [neumeref06_Name.l0])
         | succ k1 =>
          have H := HA.out
          clear HA
          simp only [neumeref06_Name.l0] at H
          by_cases c18 : x4_1 < a0_2
          ·rw [if_pos c18] at H
           have c18b0 : decide (x4_1 < a0_2) = true := dt_ c18
           clear c18
           by_cases c19 : x3_1.size + 1 ≤ 9223372036854775807
           ·rw [if_pos c19] at H
            have c19b0 := eq_true c19
            have c19b1 : decide (x3_1.size + 1 ≤ 9223372036854775807) = true := dt_ c19
            try have c19b2 : (9223372036854775807 < x3_1.size + 1) = False := eq_false (Nat.not_lt.2 c19)
            have H' := sd_ H
            clear H
            have hcz20_0 : wr.cell? ⟨gb234, 0, none⟩ = some (.int .i64 a0_0) := (kc_ BK234.out 0).trans rfl
            have hcz20_1 : wr.cell? ⟨gb234, 1, none⟩ = some (.int .i64 a0_1) := (kc_ BK234.out 1).trans rfl
            have hcz20_2 : wr.cell? ⟨gb234, 2, none⟩ = some (.int .i64 a0_2) := (kc_ BK234.out 2).trans rfl
            have hfz20_0 := kf_ BK234.out 0
            have hfz20_1 := kf_ BK234.out 1
            have hfz20_2 := kf_ BK234.out 2
            go_wp2
            go_roundg k1
            case measure => have := HK1.out; omega
            case rel => exact ⟨(x3_1 ++ (⟨#[39]⟩ : ByteArray)), (wrap64 (x4_1 + 1)), (by first | rfl | (simp; done) | (simp [*]; done) | (simp [bne]; done)), (by first | rfl | (simp; done) | (simp [*]; done) | (simp [bne]; done)), H', ⟨by have := HK1.out; omega⟩, ⟨by (with_reducible repeat first | apply kn_ | apply kd_ | apply ka_); exact BK234.out⟩, ⟨by repeat (first | (with_reducible first | exact HB.out | apply ba_ | apply pd_ | apply d1_ | refine bs_ ?_ GE234.out) | exact HB.out)⟩⟩
           ·rw [if_neg c19] at H
            exact absurd H (by simp)
          ·rw [if_neg c18] at H
           have c18b0 : decide (x4_1 < a0_2) = false := df_ c18
           clear c18
           have H' := sd_ H
           clear H
           have hcz21_0 : wr.cell? ⟨gb234, 0, none⟩ = some (.int .i64 a0_0) := (kc_ BK234.out 0).trans rfl
           have hcz21_1 : wr.cell? ⟨gb234, 1, none⟩ = some (.int .i64 a0_1) := (kc_ BK234.out 1).trans rfl
           have hcz21_2 : wr.cell? ⟨gb234, 2, none⟩ = some (.int .i64 a0_2) := (kc_ BK234.out 2).trans rfl
           have hfz21_0 := kf_ BK234.out 0
           have hfz21_1 := kf_ BK234.out 1
           have hfz21_2 := kf_ BK234.out 2
           go_wp2
           go_loopg [3, 5] k1 (fun kq v3 v5 w' => ∃ (x3_2 : ByteArray) (x5_2 : Int), v3 = .string x3_2 ∧ v5 = .int .i64 x5_2 ∧ Aside0 (neumeref06_Name.l1 kq x3_2 x5_2 = some r) ∧ Aside0 (kq ≤ k1) ∧ Aside0 (w'.heap[gb234]? = some (.cells #[.int .i64 a0_0, .int .i64 a0_1, .int .i64 a0_2] 23 (0, 0))) ∧ Aside0 (Below w.heap.size w w'))
           case atStart => exact ⟨(x3_1), (a0_2), (by first | rfl | (simp; done) | (simp [*]; done) | (simp [bne]; done)), (by first | rfl | (simp; done) | (simp [*]; done) | (simp [bne]; done)), H', ⟨Nat.le_refl _⟩, ⟨by (with_reducible repeat first | apply kn_ | apply kd_ | apply ka_); exact BK234.out⟩, ⟨by repeat (first | (with_reducible first | exact HB.out | apply ba_ | apply pd_ | apply d1_ | refine bs_ ?_ GE234.out) | exact HB.out)⟩⟩
           case round =>
            clear H'
            try clear c1; try clear c2; try clear p2; try clear q2; try clear hx2; try clear qi2; try clear c3; try clear c4; try clear c4b0; try clear c4b1; try clear c5; try clear c5b0; try clear c5b1; try clear c6; try clear c6b0; try clear c6b1; try clear p6; try clear c8; try clear c8b0; try clear c9; try clear c9b0; try clear c10; try clear c10b0; try clear c10b1; try clear c10b2; try clear c15; try clear c18; try clear c18b0; try clear c19; try clear c19b0; try clear c19b1; try clear c19b2; try clear c21; try clear hcz12_0; try clear hcz12_1; try clear hcz12_2; try clear hcz20_0; try clear hcz20_1; try clear hcz20_2; try clear hcz21_0; try clear hcz21_1; try clear hcz21_2; try clear hfz12_0; try clear hfz12_1; try clear hfz12_2; try clear hfz20_0; try clear hfz20_1; try clear hfz20_2; try clear hfz21_0; try clear hfz21_1; try clear hfz21_2; try clear hx239_0; try clear p2; try clear p239; try clear p6; try clear q2; try clear q239
            obtain ⟨x3_2, x5_2, rfl, rfl, HA, HK2, BK234, HB⟩ := hrel
            cases gk with
            | zero => exact absurd HA.out (by simp [neumeref06_Name.l1])
            | succ k2 =>
             have H := HA.out
             clear HA
             simp only [neumeref06_Name.l1] at H
             by_cases c22 : x5_2 < 3
             ·rw [if_pos c22] at H
              have c22b0 : decide (x5_2 < 3) = true := dt_ c22
              clear c22
              by_cases c23 : x3_2.size + 1 ≤ 9223372036854775807
              ·rw [if_pos c23] at H
               have c23b0 := eq_true c23
               have c23b1 : decide (x3_2.size + 1 ≤ 9223372036854775807) = true := dt_ c23
               try have c23b2 : (9223372036854775807 < x3_2.size + 1) = False := eq_false (Nat.not_lt.2 c23)
               have H' := sd_ H
               clear H
               go_wp2
               go_roundg k2
               case measure => have := HK1.out; have := HK2.out; omega
               case rel => exact ⟨(x3_2 ++ (⟨#[44]⟩ : ByteArray)), (wrap64 (x5_2 + 1)), (by first | rfl | (simp; done) | (simp [*]; done) | (simp [bne]; done)), (by first | rfl | (simp; done) | (simp [*]; done) | (simp [bne]; done)), H', ⟨by have := HK1.out; have := HK2.out; omega⟩, ⟨by (with_reducible repeat first | apply kn_ | apply kd_ | apply ka_); exact BK234.out⟩, ⟨by repeat (first | (with_reducible first | exact HB.out | apply ba_ | apply pd_ | apply d1_ | refine bs_ ?_ GE234.out) | exact HB.out)⟩⟩
              ·rw [if_neg c23] at H
               exact absurd H (by simp)
             ·rw [if_neg c22] at H
              have c22b0 : decide (x5_2 < 3) = false := df_ c22
              clear c22
              obtain rfl := Option.some.inj H
              go_wp2
              go_ret
              exact ⟨by first | rfl | (simp [errW_none, errW_some] <;> rfl) | (simp only [← hji7]; first | rfl | (simp [errW_none, errW_some] <;> rfl)) | (simp [*, errW_none, errW_some] <;> rfl), by repeat (first | (with_reducible first | exact HB.out | apply ba_ | apply pd_ | apply d1_ | refine bs_ ?_ GE234.out) | exact HB.out)⟩
       ·rw [if_neg c10] at H
        exact absurd H (by simp)
      ·rw [if_neg c9] at H
       exact absurd H (by simp)
     ·rw [if_neg c8] at H
      exact absurd H (by simp)
    ·rw [if_neg c6] at H
     exact absurd H (by simp)
   ·rw [if_neg c5] at H
    exact absurd H (by simp)
  ·rw [if_neg c4] at H
   exact absurd H (by simp)
 ·replace c3 := bf_ c3
  subst c3
  have H1 : (some (⟨#[]⟩ : ByteArray)) = some r := by rw [if_neg (show ¬ (false = true) by decide)] at H; exact H
  clear H; have H := H1; clear H1
  obtain rfl := Option.some.inj H
  go_enter Tryd.func21, Tryd.ntmps21
  go_wp2_with (first | ((with_reducible refine gate_dst (N := 1) rfl ?_); refine box_event ?hg (N := 1) ?hd (cs := #[.int .i64 a0_0, .int .i64 a0_1, .int .i64 a0_2]) (t := 23) ?hr ?_; (case hd => rfl); (case hg => rfl); (case hr => first | (go_simp; done) | (go_simp; rfl)); intro gb234 hg w24 hbox hb; have BK234 := sd_ hbox; have GW234 := gw_ HB e0_ hg; have GE234 := GW234; replace HB := hb_ HB e0_ hb; clear hb hbox hg; have hcz25_0 : w24.cell? ⟨gb234, 0, none⟩ = some (.int .i64 a0_0) := (kc_ BK234.out 0).trans rfl; have hcz25_1 : w24.cell? ⟨gb234, 1, none⟩ = some (.int .i64 a0_1) := (kc_ BK234.out 1).trans rfl; have hcz25_2 : w24.cell? ⟨gb234, 2, none⟩ = some (.int .i64 a0_2) := (kc_ BK234.out 2).trans rfl; have hfz25_0 := kf_ BK234.out 0; have hfz25_1 := kf_ BK234.out 1; have hfz25_2 := kf_ BK234.out 2) | ((with_reducible refine gate_callee (f := 15) rfl ?_); refine goesL_ (some 7) rfl rfl Tryd.func15 (by kernel_rfl) rfl #[.agg #[.int .i64 a0_0, .int .i64 a0_1, .int .i64 a0_2]] rfl (by (try simp only [lm_, lq_, lx_]); first | done | rfl | (simp only [ld_, lt_]; rfl)) ?_; (with_reducible refine (neumeref06_Check.calls a0_0 a0_1 a0_2 false _ A2.out).mono ?_); rintro e w26 ⟨rfl, hb⟩; refine ⟨_, rfl, ?_⟩; replace BK234 := kb_ BK234 hb; replace HB := hb_ HB (e_ GE234 e0_) hb; (try clear hb); (try clear hb2); (try clear hk); (try clear hi)))
  go_ret
  exact ⟨by first | rfl | (simp [errW_none, errW_some] <;> rfl) | (simp [*, errW_none, errW_some] <;> rfl), by repeat (first | (with_reducible first | exact HB.out | apply ba_ | apply pd_ | apply d1_ | refine bs_ ?_ GE234.out) | exact HB.out)⟩

/-! ### neumeref06_Parse: function 13 -/
mutual
def neumeref06_Parse.l0 : Nat → ByteArray → Int → Option (Int × Int × Int × Bool)
 | 0, _, _ => none
 | k + 1, x0, x4 => if x4 < 7 then (neumeref06_Parse.l1 k x0 x4 (-2)) else (some (0, 0, 0, false))
def neumeref06_Parse.l1 : Nat → ByteArray → Int → Int → Option (Int × Int × Int × Bool)
 | 0, _, _, _ => none
 | k + 1, x0, x4, x5 => if x5 ≤ 2 then (neumeref06_Parse.l2 k x0 x4 x5 0) else (neumeref06_Parse.l0 k x0 (wrap64 (x4 + 1)))
def neumeref06_Parse.l2 : Nat → ByteArray → Int → Int → Int → Option (Int × Int × Int × Bool)
 | 0, _, _, _, _ => none
 | k + 1, x0, x4, x5, x6 => if x6 ≤ 9 then ((neumeref06_Name.f k x4 x5 x6).bind fun t242 => (if t242.toList = x0.toList then (some (x4, x5, x6, true)) else (neumeref06_Parse.l2 k x0 x4 x5 (wrap64 (x6 + 1))))) else (neumeref06_Parse.l1 k x0 x4 (wrap64 (x5 + 1)))
end
def neumeref06_Parse.f (k : Nat) (a0 : ByteArray) : Option (Int × Int × Int × Bool) := neumeref06_Parse.l0 k a0 0
theorem neumeref06_Parse.mono_l : ∀ k, (∀ y0 y1, LeO (neumeref06_Parse.l0 k y0 y1) (neumeref06_Parse.l0 (k + 1) y0 y1)) ∧ (∀ y0 y1 y2, LeO (neumeref06_Parse.l1 k y0 y1 y2) (neumeref06_Parse.l1 (k + 1) y0 y1 y2)) ∧ (∀ y0 y1 y2 y3, LeO (neumeref06_Parse.l2 k y0 y1 y2 y3) (neumeref06_Parse.l2 (k + 1) y0 y1 y2 y3))
 | 0 => ⟨fun _ _ r h => by simp [neumeref06_Parse.l0] at h, fun _ _ _ r h => by simp [neumeref06_Parse.l1] at h, fun _ _ _ _ r h => by simp [neumeref06_Parse.l2] at h⟩
 | k + 1 => by
  obtain ⟨ih0, ih1, ih2⟩ := neumeref06_Parse.mono_l k
  refine ⟨?_, ?_, ?_⟩
  ·intro y0 y1
   unfold neumeref06_Parse.l0
   repeat' first
   | (with_reducible exact ih0 _ _)
   | (with_reducible exact ih1 _ _ _)
   | (with_reducible exact ih2 _ _ _ _)
   | (with_reducible exact neumeref06_Name.mono _ _ _ _)
   | (with_reducible exact LeO.refl _)
   | (with_reducible exact LeO.none _)
   | (with_reducible refine LeO.ite ?_ ?_)
   | (with_reducible refine LeO.bind ?_ (fun _ => ?_))
   | exact ih0 _ _
   | exact ih1 _ _ _
   | exact ih2 _ _ _ _
   | exact neumeref06_Name.mono _ _ _ _
   | exact LeO.none _
   | refine LeO.ite ?_ ?_
   | refine LeO.bind ?_ (fun _ => ?_)
  ·intro y0 y1 y2
   unfold neumeref06_Parse.l1
   repeat' first
   | (with_reducible exact ih0 _ _)
   | (with_reducible exact ih1 _ _ _)
   | (with_reducible exact ih2 _ _ _ _)
   | (with_reducible exact neumeref06_Name.mono _ _ _ _)
   | (with_reducible exact LeO.refl _)
   | (with_reducible exact LeO.none _)
   | (with_reducible refine LeO.ite ?_ ?_)
   | (with_reducible refine LeO.bind ?_ (fun _ => ?_))
   | exact ih0 _ _
   | exact ih1 _ _ _
   | exact ih2 _ _ _ _
   | exact neumeref06_Name.mono _ _ _ _
   | exact LeO.none _
   | refine LeO.ite ?_ ?_
   | refine LeO.bind ?_ (fun _ => ?_)
  ·intro y0 y1 y2 y3
   unfold neumeref06_Parse.l2
   repeat' first
   | (with_reducible exact ih0 _ _)
   | (with_reducible exact ih1 _ _ _)
   | (with_reducible exact ih2 _ _ _ _)
   | (with_reducible exact neumeref06_Name.mono _ _ _ _)
   | (with_reducible exact LeO.refl _)
   | (with_reducible exact LeO.none _)
   | (with_reducible refine LeO.ite ?_ ?_)
   | (with_reducible refine LeO.bind ?_ (fun _ => ?_))
   | exact ih0 _ _
   | exact ih1 _ _ _
   | exact ih2 _ _ _ _
   | exact neumeref06_Name.mono _ _ _ _
   | exact LeO.none _
   | refine LeO.ite ?_ ?_
   | refine LeO.bind ?_ (fun _ => ?_)
theorem neumeref06_Parse.mono : ∀ a0 k, LeO (neumeref06_Parse.f k a0) (neumeref06_Parse.f (k + 1) a0) := by
 intro a0 k
 obtain ⟨ih0, ih1, ih2⟩ := neumeref06_Parse.mono_l k
 unfold neumeref06_Parse.f
 repeat' first
   | (with_reducible exact ih0 _ _)
   | (with_reducible exact ih1 _ _ _)
   | (with_reducible exact ih2 _ _ _ _)
   | (with_reducible exact neumeref06_Name.mono _ _ _ _)
   | (with_reducible exact LeO.refl _)
   | (with_reducible exact LeO.none _)
   | (with_reducible refine LeO.ite ?_ ?_)
   | (with_reducible refine LeO.bind ?_ (fun _ => ?_))
   | exact ih0 _ _
   | exact ih1 _ _ _
   | exact ih2 _ _ _ _
   | exact neumeref06_Name.mono _ _ _ _
   | exact LeO.none _
   | refine LeO.ite ?_ ?_
   | refine LeO.bind ?_ (fun _ => ?_)
set_option maxHeartbeats 8000000 in
set_option maxRecDepth 100000 in
theorem neumeref06_Parse.calls (k : Nat) (a0 : ByteArray) (r1 : Int) (r2 : Int) (r3 : Int) (r4 : Bool) (w : World) (h : neumeref06_Parse.f k a0 = some (r1, r2, r3, r4)) :
  Calls Tryd.prog 13 #[.string a0] w fun e w' => e = .returned (.tuple #[.agg #[.int .i64 r1, .int .i64 r2, .int .i64 r3], .bool r4]) ∧ Below w.heap.size w w' := by
 have hu23 := Tryd.underlying23
 have HB := sd_ (Below.refl w.heap.size w)
 have H : (neumeref06_Parse.l0 k a0 0) = some (r1, r2, r3, r4) := h
 clear h
 have H' := sd_ H
 clear H
 go_enter Tryd.func13, Tryd.ntmps13
 go_wp2_with (first | ((with_reducible refine gate_dst (N := 2) rfl ?_); refine box_event ?hg (N := 2) ?hd (cs := #[.int .i64 0, .int .i64 0, .int .i64 0]) (t := 23) ?hr ?_; (case hd => rfl); (case hg => rfl); (case hr => first | (go_simp; done) | (go_simp; rfl)); intro gb240 hg w2 hbox hb; have BK240 := sd_ hbox; have GW240 := gw_ HB e0_ hg; have GE240 := GW240; replace HB := hb_ HB e0_ hb; clear hb hbox hg))
 go_loopg [4] k (fun kq v4 w' => ∃ (x4_1 : Int) (x241000_1 : Int) (x241001_1 : Int) (x241002_1 : Int), v4 = .int .i64 x4_1 ∧ Aside0 (neumeref06_Parse.l0 kq a0 x4_1 = some (r1, r2, r3, r4)) ∧ Aside0 (kq ≤ k) ∧ Aside0 (w'.heap[gb240]? = some (.cells #[.int .i64 x241000_1, .int .i64 x241001_1, .int .i64 x241002_1] 23 (0, 0))) ∧ Aside0 (Below w.heap.size w w'))
 case atStart => exact ⟨(0), (0), (0), (0), (by first | rfl | (simp; done) | (simp [*]; done) | (simp [bne]; done)), H', ⟨Nat.le_refl _⟩, ⟨by (with_reducible repeat first | apply kn_ | apply kd_ | apply ka_); exact BK240.out⟩, ⟨by repeat (first | (with_reducible first | exact HB.out | apply ba_ | apply pd_ | apply d1_ | refine bs_ ?_ GE240.out) | exact HB.out)⟩⟩
 case round =>
  clear H'
  try clear c1; try clear p2
  obtain ⟨x4_1, x241000_1, x241001_1, x241002_1, rfl, HA, HK1, BK240, HB⟩ := hrel
  cases gk with
  | zero => exact absurd HA.out (by simp [neumeref06_Parse.l0])
  | succ k1 =>
   have H := HA.out
   clear HA
   simp only [neumeref06_Parse.l0] at H
   by_cases c3 : x4_1 < 7
   ·rw [if_pos c3] at H
    have c3b0 : decide (x4_1 < 7) = true := dt_ c3
    clear c3
    have H' := sd_ H
    clear H
    go_wp2
    go_loopg [5] k1 (fun kq v5 w' => ∃ (x5_2 : Int) (x241000_2 : Int) (x241001_2 : Int) (x241002_2 : Int), v5 = .int .i64 x5_2 ∧ Aside0 (neumeref06_Parse.l1 kq a0 x4_1 x5_2 = some (r1, r2, r3, r4)) ∧ Aside0 (kq ≤ k1) ∧ Aside0 (w'.heap[gb240]? = some (.cells #[.int .i64 x241000_2, .int .i64 x241001_2, .int .i64 x241002_2] 23 (0, 0))) ∧ Aside0 (Below w.heap.size w w'))
    case atStart => exact ⟨((-2)), (x241000_1), (x241001_1), (x241002_1), (by first | rfl | (simp; done) | (simp [*]; done) | (simp [bne]; done)), H', ⟨Nat.le_refl _⟩, ⟨by (with_reducible repeat first | apply kn_ | apply kd_ | apply ka_); exact BK240.out⟩, ⟨by repeat (first | (with_reducible first | exact HB.out | apply ba_ | apply pd_ | apply d1_ | refine bs_ ?_ GE240.out) | exact HB.out)⟩⟩
    case round =>
     clear H'
     try clear c1; try clear p2; try clear c3; try clear c3b0; try clear p2
     obtain ⟨x5_2, x241000_2, x241001_2, x241002_2, rfl, HA, HK2, BK240, HB⟩ := hrel
     cases gk with
     | zero => exact absurd HA.out (by simp [neumeref06_Parse.l1])
     | succ k2 =>
      have H := HA.out
      clear HA
      simp only [neumeref06_Parse.l1] at H
      by_cases c4 : x5_2 ≤ 2
      ·rw [if_pos c4] at H
       have c4b0 : decide (x5_2 ≤ 2) = true := dt_ c4
       clear c4
       have H' := sd_ H
       clear H
       go_wp2
       go_loopg [6] k2 (fun kq v6 w' => ∃ (x6_3 : Int) (x241000_3 : Int) (x241001_3 : Int) (x241002_3 : Int), v6 = .int .i64 x6_3 ∧ Aside0 (neumeref06_Parse.l2 kq a0 x4_1 x5_2 x6_3 = some (r1, r2, r3, r4)) ∧ Aside0 (kq ≤ k2) ∧ Aside0 (w'.heap[gb240]? = some (.cells #[.int .i64 x241000_3, .int .i64 x241001_3, .int .i64 x241002_3] 23 (0, 0))) ∧ Aside0 (Below w.heap.size w w'))
       case atStart => exact ⟨(0), (x241000_2), (x241001_2), (x241002_2), (by first | rfl | (simp; done) | (simp [*]; done) | (simp [bne]; done)), H', ⟨Nat.le_refl _⟩, ⟨by (with_reducible repeat first | apply kn_ | apply kd_ | apply ka_); exact BK240.out⟩, ⟨by repeat (first | (with_reducible first | exact HB.out | apply ba_ | apply pd_ | apply d1_ | refine bs_ ?_ GE240.out) | exact HB.out)⟩⟩
       case round =>
        clear H'
        try clear c1; try clear p2; try clear c3; try clear c3b0; try clear c4; try clear c4b0; try clear p2
        obtain ⟨x6_3, x241000_3, x241001_3, x241002_3, rfl, HA, HK3, BK240, HB⟩ := hrel
        cases gk with
        | zero => exact absurd HA.out (by simp [neumeref06_Parse.l2])
        | succ k3 =>
         have H := HA.out
         clear HA
         simp only [neumeref06_Parse.l2] at H
         by_cases c5 : x6_3 ≤ 9
         ·rw [if_pos c5] at H
          have c5b0 : decide (x6_3 ≤ 9) = true := dt_ c5
          clear c5
          replace H := ob_ H
          obtain ⟨t242, A60, H⟩ := H
          replace H : (if t242.toList = a0.toList then (some (x4_1, x5_2, x6_3, true)) else (neumeref06_Parse.l2 k3 a0 x4_1 x5_2 (wrap64 (x6_3 + 1)))) = some (r1, r2, r3, r4) := H
          have A6 := sd_ A60
          clear A60
          by_cases c7 : t242.toList = a0.toList
          ·rw [if_pos c7] at H
           have c7b0 : (t242.toList == a0.toList) = true := beq_iff_eq.mpr c7
           have c7b1 : (t242.toList != a0.toList) = false := bne_eq_false_iff_eq.mpr c7
           clear c7
           simp only [Option.some.injEq, Prod.mk.injEq] at H
           obtain ⟨rfl, rfl, rfl, rfl⟩ := H
           go_wp2_with (first | ((with_reducible refine gate_dst (N := 7) rfl ?_); refine box_event ?hg (N := 7) ?hd (cs := #[.int .i64 0, .int .i64 0, .int .i64 0]) (t := 23) ?hr ?_; (case hd => rfl); (case hg => rfl); (case hr => first | (go_simp; done) | (go_simp; rfl)); intro gb241 hg w8 hbox hb; have BK241 := sd_ hbox; have GW241 := gw_ HB (e_ GE240 e0_) hg; have GE241 := GW241; have NB240_241 := nb_ BK240 hg; have NB241_240 := sy_ NB240_241; replace BK240 := kb_ BK240 hb; replace HB := hb_ HB (e_ GE240 e0_) hb; clear hb hbox hg; have hnb9 := NB241_240.out; have hnc9 := NB240_241.out; have hcz10_0 : w8.cell? ⟨gb241, 0, none⟩ = some (.int .i64 0) := (kc_ BK241.out 0).trans rfl; have hcz10_1 : w8.cell? ⟨gb241, 1, none⟩ = some (.int .i64 0) := (kc_ BK241.out 1).trans rfl; have hcz10_2 : w8.cell? ⟨gb241, 2, none⟩ = some (.int .i64 0) := (kc_ BK241.out 2).trans rfl; have hfz10_0 := kf_ BK241.out 0; have hfz10_1 := kf_ BK241.out 1; have hfz10_2 := kf_ BK241.out 2) | ((with_reducible refine gate_callee (f := 21) rfl ?_); refine goesL_ (some 25) rfl rfl Tryd.func21 (by kernel_rfl) rfl #[.agg #[.int .i64 x4_1, .int .i64 x5_2, .int .i64 x6_3]] rfl (by (try simp only [lm_, lq_, lx_]); first | done | rfl | (simp only [ld_, lt_]; rfl)) ?_; (with_reducible refine (neumeref06_Name.calls k3 x4_1 x5_2 x6_3 t242 _ A6.out).mono ?_); rintro e w11 ⟨rfl, hb⟩; refine ⟨_, rfl, ?_⟩; replace BK240 := sd_ (blk_below (g := gb240) (o := .cells #[.int .i64 x241000_3, .int .i64 x241001_3, .int .i64 x241002_3] 23 (0, 0)) (by (with_reducible repeat first | apply kn_ | apply kd_ | apply ka_); refine blk_far ?_ NB240_241.out _; (with_reducible repeat first | apply kn_ | apply kd_ | apply ka_); refine blk_far ?_ NB240_241.out _; (with_reducible repeat first | apply kn_ | apply kd_ | apply ka_); refine blk_far ?_ NB240_241.out _; (with_reducible repeat first | apply kn_ | apply kd_ | apply ka_); exact BK240.out) hb); replace BK241 := sd_ (blk_below (g := gb241) (o := .cells #[.int .i64 x4_1, .int .i64 x5_2, .int .i64 x6_3] 23 (0, 0)) (by (with_reducible repeat first | apply kn_ | apply kd_ | apply ka_); refine blk_put (cs := #[.int .i64 x4_1, .int .i64 x5_2, .int .i64 0]) ?_ 2 _ rfl; (with_reducible repeat first | apply kn_ | apply kd_ | apply ka_); refine blk_put (cs := #[.int .i64 x4_1, .int .i64 0, .int .i64 0]) ?_ 1 _ rfl; (with_reducible repeat first | apply kn_ | apply kd_ | apply ka_); refine blk_put (cs := #[.int .i64 0, .int .i64 0, .int .i64 0]) ?_ 0 _ rfl; (with_reducible repeat first | apply kn_ | apply kd_ | apply ka_); exact BK241.out) hb); replace HB := hb_ HB (e_ GE240 (e_ GE241 e0_)) hb; (try clear hb); (try clear hb2); (try clear hk); (try clear hi); have hcz12_0 : w11.cell? ⟨gb241, 0, none⟩ = some (.int .i64 x4_1) := (kc_ BK241.out 0).trans rfl; have hcz12_1 : w11.cell? ⟨gb241, 1, none⟩ = some (.int .i64 x5_2) := (kc_ BK241.out 1).trans rfl; have hcz12_2 : w11.cell? ⟨gb241, 2, none⟩ = some (.int .i64 x6_3) := (kc_ BK241.out 2).trans rfl; have hfz12_0 := kf_ BK241.out 0; have hfz12_1 := kf_ BK241.out 1; have hfz12_2 := kf_ BK241.out 2; have hcz13_0 : w11.cell? ⟨gb240, 0, none⟩ = some (.int .i64 x241000_3) := (kc_ BK240.out 0).trans rfl; have hcz13_1 : w11.cell? ⟨gb240, 1, none⟩ = some (.int .i64 x241001_3) := (kc_ BK240.out 1).trans rfl; have hcz13_2 : w11.cell? ⟨gb240, 2, none⟩ = some (.int .i64 x241002_3) := (kc_ BK240.out 2).trans rfl; have hfz13_0 := kf_ BK240.out 0; have hfz13_1 := kf_ BK240.out 1; have hfz13_2 := kf_ BK240.out 2))
           refine bodyPost_ret (results_ct rfl _ _ gb240 23 #[.int .i64 x4_1, .int .i64 x5_2, .int .i64 x6_3] (0, 0) _ rfl (by (with_reducible repeat first | apply kn_ | apply kd_ | apply ka_); refine blk_put (cs := #[.int .i64 x4_1, .int .i64 x5_2, .int .i64 x241002_3]) ?_ 2 _ rfl; (with_reducible repeat first | apply kn_ | apply kd_ | apply ka_); refine blk_put (cs := #[.int .i64 x4_1, .int .i64 x241001_3, .int .i64 x241002_3]) ?_ 1 _ rfl; (with_reducible repeat first | apply kn_ | apply kd_ | apply ka_); refine blk_put (cs := #[.int .i64 x241000_3, .int .i64 x241001_3, .int .i64 x241002_3]) ?_ 0 _ rfl; (with_reducible repeat first | apply kn_ | apply kd_ | apply ka_); exact BK240.out) Tryd.underlying23 rfl (by kernel_rfl)) rfl ?_
           exact ⟨by first | rfl | (simp [errW_none, errW_some] <;> rfl) | (simp [*, errW_none, errW_some] <;> rfl), by repeat (first | (with_reducible first | exact HB.out | apply ba_ | apply pd_ | apply d1_ | refine bs_ ?_ GE240.out | refine bs_ ?_ GE241.out) | exact HB.out)⟩
          ·rw [if_neg c7] at H
           have c7b0 : (t242.toList == a0.toList) = false := beq_eq_false_iff_ne.mpr c7
           have c7b1 : (t242.toList != a0.toList) = true := bne_iff_ne.mpr c7
           have H' := sd_ H
           clear H
           go_wp2_with (first | ((with_reducible refine gate_dst (N := 7) rfl ?_); refine box_event ?hg (N := 7) ?hd (cs := #[.int .i64 0, .int .i64 0, .int .i64 0]) (t := 23) ?hr ?_; (case hd => rfl); (case hg => rfl); (case hr => first | (go_simp; done) | (go_simp; rfl)); intro gb241 hg w14 hbox hb; have BK241 := sd_ hbox; have GW241 := gw_ HB (e_ GE240 e0_) hg; have GE241 := GW241; have NB240_241 := nb_ BK240 hg; have NB241_240 := sy_ NB240_241; replace BK240 := kb_ BK240 hb; replace HB := hb_ HB (e_ GE240 e0_) hb; clear hb hbox hg; have hnb15 := NB241_240.out; have hnc15 := NB240_241.out; have hcz16_0 : w14.cell? ⟨gb241, 0, none⟩ = some (.int .i64 0) := (kc_ BK241.out 0).trans rfl; have hcz16_1 : w14.cell? ⟨gb241, 1, none⟩ = some (.int .i64 0) := (kc_ BK241.out 1).trans rfl; have hcz16_2 : w14.cell? ⟨gb241, 2, none⟩ = some (.int .i64 0) := (kc_ BK241.out 2).trans rfl; have hfz16_0 := kf_ BK241.out 0; have hfz16_1 := kf_ BK241.out 1; have hfz16_2 := kf_ BK241.out 2) | ((with_reducible refine gate_callee (f := 21) rfl ?_); refine goesL_ (some 25) rfl rfl Tryd.func21 (by kernel_rfl) rfl #[.agg #[.int .i64 x4_1, .int .i64 x5_2, .int .i64 x6_3]] rfl (by (try simp only [lm_, lq_, lx_]); first | done | rfl | (simp only [ld_, lt_]; rfl)) ?_; (with_reducible refine (neumeref06_Name.calls k3 x4_1 x5_2 x6_3 t242 _ A6.out).mono ?_); rintro e w17 ⟨rfl, hb⟩; refine ⟨_, rfl, ?_⟩; replace BK240 := sd_ (blk_below (g := gb240) (o := .cells #[.int .i64 x241000_3, .int .i64 x241001_3, .int .i64 x241002_3] 23 (0, 0)) (by (with_reducible repeat first | apply kn_ | apply kd_ | apply ka_); refine blk_far ?_ NB240_241.out _; (with_reducible repeat first | apply kn_ | apply kd_ | apply ka_); refine blk_far ?_ NB240_241.out _; (with_reducible repeat first | apply kn_ | apply kd_ | apply ka_); refine blk_far ?_ NB240_241.out _; (with_reducible repeat first | apply kn_ | apply kd_ | apply ka_); exact BK240.out) hb); replace BK241 := sd_ (blk_below (g := gb241) (o := .cells #[.int .i64 x4_1, .int .i64 x5_2, .int .i64 x6_3] 23 (0, 0)) (by (with_reducible repeat first | apply kn_ | apply kd_ | apply ka_); refine blk_put (cs := #[.int .i64 x4_1, .int .i64 x5_2, .int .i64 0]) ?_ 2 _ rfl; (with_reducible repeat first | apply kn_ | apply kd_ | apply ka_); refine blk_put (cs := #[.int .i64 x4_1, .int .i64 0, .int .i64 0]) ?_ 1 _ rfl; (with_reducible repeat first | apply kn_ | apply kd_ | apply ka_); refine blk_put (cs := #[.int .i64 0, .int .i64 0, .int .i64 0]) ?_ 0 _ rfl; (with_reducible repeat first | apply kn_ | apply kd_ | apply ka_); exact BK241.out) hb); replace HB := hb_ HB (e_ GE240 (e_ GE241 e0_)) hb; (try clear hb); (try clear hb2); (try clear hk); (try clear hi)))
           go_roundg k3
           case measure => have := HK1.out; have := HK2.out; have := HK3.out; omega
           case rel => exact ⟨(wrap64 (x6_3 + 1)), (x241000_3), (x241001_3), (x241002_3), (by first | rfl | (simp; done) | (simp [*]; done) | (simp [bne]; done)), H', ⟨by have := HK1.out; have := HK2.out; have := HK3.out; omega⟩, ⟨by (with_reducible repeat first | apply kn_ | apply kd_ | apply ka_); exact BK240.out⟩, ⟨by repeat (first | (with_reducible first | exact HB.out | apply ba_ | apply pd_ | apply d1_ | refine bs_ ?_ GE240.out | refine bs_ ?_ GE241.out) | exact HB.out)⟩⟩
         ·rw [if_neg c5] at H
          have c5b0 : decide (x6_3 ≤ 9) = false := df_ c5
          clear c5
          have H' := sd_ H
          clear H
          go_wp2
          go_roundg k3
          case measure => have := HK1.out; have := HK2.out; have := HK3.out; omega
          case rel => exact ⟨(wrap64 (x5_2 + 1)), (x241000_3), (x241001_3), (x241002_3), (by first | rfl | (simp; done) | (simp [*]; done) | (simp [bne]; done)), H', ⟨by have := HK1.out; have := HK2.out; have := HK3.out; omega⟩, ⟨by (with_reducible repeat first | apply kn_ | apply kd_ | apply ka_); exact BK240.out⟩, ⟨by repeat (first | (with_reducible first | exact HB.out | apply ba_ | apply pd_ | apply d1_ | refine bs_ ?_ GE240.out) | exact HB.out)⟩⟩
      ·rw [if_neg c4] at H
       have c4b0 : decide (x5_2 ≤ 2) = false := df_ c4
       clear c4
       have H' := sd_ H
       clear H
       go_wp2
       go_roundg k2
       case measure => have := HK1.out; have := HK2.out; omega
       case rel => exact ⟨(wrap64 (x4_1 + 1)), (x241000_2), (x241001_2), (x241002_2), (by first | rfl | (simp; done) | (simp [*]; done) | (simp [bne]; done)), H', ⟨by have := HK1.out; have := HK2.out; omega⟩, ⟨by (with_reducible repeat first | apply kn_ | apply kd_ | apply ka_); exact BK240.out⟩, ⟨by repeat (first | (with_reducible first | exact HB.out | apply ba_ | apply pd_ | apply d1_ | refine bs_ ?_ GE240.out) | exact HB.out)⟩⟩
   ·rw [if_neg c3] at H
    have c3b0 : decide (x4_1 < 7) = false := df_ c3
    clear c3
    simp only [Option.some.injEq, Prod.mk.injEq] at H
    obtain ⟨rfl, rfl, rfl, rfl⟩ := H
    have hcz18_0 : wr.cell? ⟨gb240, 0, none⟩ = some (.int .i64 x241000_1) := (kc_ BK240.out 0).trans rfl
    have hcz18_1 : wr.cell? ⟨gb240, 1, none⟩ = some (.int .i64 x241001_1) := (kc_ BK240.out 1).trans rfl
    have hcz18_2 : wr.cell? ⟨gb240, 2, none⟩ = some (.int .i64 x241002_1) := (kc_ BK240.out 2).trans rfl
    have hfz18_0 := kf_ BK240.out 0
    have hfz18_1 := kf_ BK240.out 1
    have hfz18_2 := kf_ BK240.out 2
    go_wp2
    refine bodyPost_ret (results_ct rfl _ _ gb240 23 #[.int .i64 0, .int .i64 0, .int .i64 0] (0, 0) _ rfl (by (with_reducible repeat first | apply kn_ | apply kd_ | apply ka_); refine blk_put (cs := #[.int .i64 0, .int .i64 0, .int .i64 x241002_1]) ?_ 2 _ rfl; (with_reducible repeat first | apply kn_ | apply kd_ | apply ka_); refine blk_put (cs := #[.int .i64 0, .int .i64 x241001_1, .int .i64 x241002_1]) ?_ 1 _ rfl; (with_reducible repeat first | apply kn_ | apply kd_ | apply ka_); refine blk_put (cs := #[.int .i64 x241000_1, .int .i64 x241001_1, .int .i64 x241002_1]) ?_ 0 _ rfl; (with_reducible repeat first | apply kn_ | apply kd_ | apply ka_); exact BK240.out) Tryd.underlying23 rfl (by kernel_rfl)) rfl ?_
    exact ⟨by first | rfl | (simp [errW_none, errW_some] <;> rfl) | (simp [*, errW_none, errW_some] <;> rfl), by repeat (first | (with_reducible first | exact HB.out | apply ba_ | apply pd_ | apply d1_ | refine bs_ ?_ GE240.out) | exact HB.out)⟩

/-! ### neumeref06_Tone: function 17 -/
def neumeref06_Tone.f (a0_0 : Int) (a0_1 : Int) (a0_2 : Int) : Option (Int) := (neumeref06_Check.f a0_0 a0_1 a0_2).bind fun t244 => (if t244 = true then ((some (([0, 2, 4, 5, 7, 9, 11] : List Int) : List Int)).bind fun y245 => (if 0 ≤ a0_0 then (if a0_0 < (y245.length : Int) then (some (wrap64 ((wrap64 ((wrap64 (12 * a0_2)) + (rd y245 a0_0))) + a0_1))) else (none)) else (none))) else (some (-1)))
def neumeref06_Tone.T3 : Bool × List (List Nat × List Nat) := (true, [([], []), ([0], [0]), ([1], [1]), ([], []), ([], []), ([4], [4]), ([3, 5], [3, 5]), ([6], [6]), ([2, 7], [2, 7]), ([], []), ([9], [9]), ([8, 10], [8, 10]), ([11, 0, 1, 2, 3, 4, 5, 6, 7, 8, 9, 10, 11], [11])])
def neumeref06_Tone.B3 : List Nat := [0, 1, 3, 0, 0, 16, 56, 120, 255, 0, 512, 2047, 4095]
theorem neumeref06_Tone.tab3 : rtab .any (opsOf Tryd.f17 3) = neumeref06_Tone.T3 := by kernel_rfl
theorem neumeref06_Tone.bits3 : waitsOk neumeref06_Tone.T3.2 neumeref06_Tone.B3 = true := by kernel_rfl
set_option maxHeartbeats 8000000 in
set_option maxRecDepth 100000 in
theorem neumeref06_Tone.calls (a0_0 : Int) (a0_1 : Int) (a0_2 : Int) (r : Int) (w : World) (h : neumeref06_Tone.f a0_0 a0_1 a0_2 = some r) :
  Calls Tryd.prog 17 #[.agg #[.int .i64 a0_0, .int .i64 a0_1, .int .i64 a0_2]] w fun e w' => e = .returned (.int .i64 r) ∧ Below w.heap.size w w' := by
 have hu23 := Tryd.underlying23
 have HB := sd_ (Below.refl w.heap.size w)
 have H : ((neumeref06_Check.f a0_0 a0_1 a0_2).bind fun t244 => (if t244 = true then ((some (([0, 2, 4, 5, 7, 9, 11] : List Int) : List Int)).bind fun y245 => (if 0 ≤ a0_0 then (if a0_0 < (y245.length : Int) then (some (wrap64 ((wrap64 ((wrap64 (12 * a0_2)) + (rd y245 a0_0))) + a0_1))) else (none)) else (none))) else (some (-1)))) = some r := h
 clear h
 replace H := ob_ H
 obtain ⟨t244, A20, H⟩ := H
 replace H : (if t244 = true then ((some (([0, 2, 4, 5, 7, 9, 11] : List Int) : List Int)).bind fun y245 => (if 0 ≤ a0_0 then (if a0_0 < (y245.length : Int) then (some (wrap64 ((wrap64 ((wrap64 (12 * a0_2)) + (rd y245 a0_0))) + a0_1))) else (none)) else (none))) else (some (-1))) = some r := H
 have A2 := sd_ A20
 clear A20
 by_cases c3 : t244 = true
 ·subst c3
  have H1 : ((some (([0, 2, 4, 5, 7, 9, 11] : List Int) : List Int)).bind fun y245 => (if 0 ≤ a0_0 then (if a0_0 < (y245.length : Int) then (some (wrap64 ((wrap64 ((wrap64 (12 * a0_2)) + (rd y245 a0_0))) + a0_1))) else (none)) else (none))) = some r := by rw [if_pos rfl] at H; exact H
  clear H; have H := H1; clear H1
  obtain ⟨y245, hy245⟩ : ∃ y_ : List Int, y_ = (([0, 2, 4, 5, 7, 9, 11] : List Int)) := ⟨_, rfl⟩
  replace H : (if 0 ≤ a0_0 then (if a0_0 < (y245.length : Int) then (some (wrap64 ((wrap64 ((wrap64 (12 * a0_2)) + (rd y245 a0_0))) + a0_1))) else (none)) else (none)) = some r := by first | (rw [hy245]; with_reducible exact H) | (have H2_ := (Option.bind_some _ _).symm.trans H; rw [hy245]; with_reducible exact H2_) | (have H2_ := (Option.bind_some _ _).symm.trans H; with_reducible exact H2_) | with_reducible exact H | (rw [hy245]; exact H) | exact H
  have Ny245 := sd_ hy245
  clear hy245
  by_cases c4 : 0 ≤ a0_0
  ·rw [if_pos c4] at H
   have c4b0 : decide (0 ≤ a0_0) = true := dt_ c4
   clear c4
   by_cases c5 : a0_0 < (y245.length : Int)
   ·rw [if_pos c5] at H
    have c5b0 : decide (a0_0 < (y245.length : Int)) = true := dt_ c5
    clear c5
    obtain rfl := Option.some.inj H
    go_enter Tryd.func17, Tryd.ntmps17
    try go_wp2_with (first | ((with_reducible refine gate_dst (N := 1) rfl ?_); refine box_event ?hg (N := 1) ?hd (cs := #[.int .i64 a0_0, .int .i64 a0_1, .int .i64 a0_2]) (t := 23) ?hr ?_; (case hd => rfl); (case hg => rfl); (case hr => first | (go_simp; done) | (go_simp; rfl)); intro gb243 hg w6 hbox hb; have BK243 := sd_ hbox; have GW243 := gw_ HB e0_ hg; have GE243 := GW243; replace HB := hb_ HB e0_ hb; clear hb hbox hg; have hcz7_0 : w6.cell? ⟨gb243, 0, none⟩ = some (.int .i64 a0_0) := (kc_ BK243.out 0).trans rfl; have hcz7_1 : w6.cell? ⟨gb243, 1, none⟩ = some (.int .i64 a0_1) := (kc_ BK243.out 1).trans rfl; have hcz7_2 : w6.cell? ⟨gb243, 2, none⟩ = some (.int .i64 a0_2) := (kc_ BK243.out 2).trans rfl; have hfz7_0 := kf_ BK243.out 0; have hfz7_1 := kf_ BK243.out 1; have hfz7_2 := kf_ BK243.out 2) | ((with_reducible refine gate_callee (f := 15) rfl ?_); refine goesL_ (some 4) rfl rfl Tryd.func15 (by kernel_rfl) rfl #[.agg #[.int .i64 a0_0, .int .i64 a0_1, .int .i64 a0_2]] rfl (by (try simp only [lm_, lq_, lx_]); first | done | rfl | (simp only [ld_, lt_]; rfl)) ?_; (with_reducible refine (neumeref06_Check.calls a0_0 a0_1 a0_2 true _ A2.out).mono ?_); rintro e w8 ⟨rfl, hb⟩; refine ⟨_, rfl, ?_⟩; replace BK243 := kb_ BK243 hb; replace HB := hb_ HB (e_ GE243 e0_) hb; (try clear hb); (try clear hb2); (try clear hk); (try clear hi)))
    have pi248 : (0 ≤ (a0_0 : Int)) = True := eq_true (od_ (by first | (with_reducible assumption) | assumption))
    have qi248 : (a0_0 < (y245.length : Int)) = True := eq_true (od_ (by first | (with_reducible assumption) | assumption))
    replace BK243 := sd_ (kd_ BK243.out)
    replace HB := sd_ (d1_ HB.out)
    refine start_ (n := 13) (S := fun w' => w'.cell? ⟨gb243, 0, none⟩ = some (.int .i64 a0_0) ∧ w'.cell? ⟨gb243, 1, none⟩ = some (.int .i64 a0_1) ∧ w'.cell? ⟨gb243, 2, none⟩ = some (.int .i64 a0_2)) (ds := []) (Array.replicate 13 false) (by kernel_rfl) rfl rfl ⟨(kc_ BK243.out 0).trans rfl, (kc_ BK243.out 1).trans rfl, (kc_ BK243.out 2).trans rfl⟩ (fun hHeld => ?_); refine with_tabW neumeref06_Tone.tab3 neumeref06_Tone.bits3 (fun HT_ HW_ => ?_)
    generalize w8.drew = w9 at BK243 HB hHeld ⊢
    refine pu_ (v := ?_) (a' := ?_) 0 6 (bz 13 1) rfl rfl HT_ (by kernel_rfl) (fun _ _ _ h => h) (by rfl) ?_ ?_ ?_
    rotate_left; (intro w'; go_simp; with_reducible rfl); rotate_left; (simp only [Act.put, ls_, lz_, lc_, i64_w, i32_w]; rfl)
    refine pu_ (v := ?_) (a' := ?_) 4 10 (bz 13 17) rfl rfl HT_ (by kernel_rfl) (fun _ _ _ h => h) (by rfl) ?_ ?_ ?_
    rotate_left; (intro w'; go_simp; with_reducible rfl); rotate_left; (simp only [Act.put, ls_, lz_, lc_, i64_w, i32_w]; rfl)
    refine pu_ (v := ?_) (a' := ?_) 9 15 (bz 13 529) rfl rfl HT_ (by kernel_rfl) (fun _ _ _ h => h) (by rfl) ?_ ?_ ?_
    rotate_left; (intro w'; go_simp; with_reducible rfl); rotate_left; (simp only [Act.put, ls_, lz_, lc_, i64_w, i32_w]; rfl)
    refine ta_ (v := ?_) (a' := ?_) 1 7 (bz 13 531) rfl rfl HT_ HW_ (by kernel_rfl) (fun _ _ _ h => h) (by rfl) ?_ hHeld ?_ ?_
    rotate_left
    ·rintro w' ⟨s0, s1, s2⟩
     go_simp
     with_reducible rfl
    rotate_left
    ·simp only [Act.put, ls_, lz_, lc_, i64_w, i32_w]
     rfl
    refine pu_ (v := ?_) (a' := ?_) 2 8 (bz 13 535) rfl rfl HT_ (by kernel_rfl) (fun _ _ _ h => h) (by rfl) ?_ ?_ ?_
    rotate_left; (intro w'; go_simp; with_reducible rfl); rotate_left; (simp only [Act.put, ls_, lz_, lc_, i64_w, i32_w]; rfl)
    refine ta_ (v := ?_) (a' := ?_) 5 11 (bz 13 567) rfl rfl HT_ HW_ (by kernel_rfl) (fun _ _ _ h => h) (by rfl) ?_ hHeld ?_ ?_
    rotate_left
    ·rintro w' ⟨s0, s1, s2⟩
     go_simp
     with_reducible rfl
    rotate_left
    ·simp only [Act.put, ls_, lz_, lc_, i64_w, i32_w]
     rfl
    refine ta_ (v := ?_) (a' := ?_) 10 16 (bz 13 1591) rfl rfl HT_ HW_ (by kernel_rfl) (fun _ _ _ h => h) (by rfl) ?_ hHeld ?_ ?_
    rotate_left
    ·rintro w' ⟨s0, s1, s2⟩
     go_simp
     with_reducible rfl
    rotate_left
    ·simp only [Act.put, ls_, lz_, lc_, i64_w, i32_w]
     rfl
    refine on_ (N := some 9) 3 (bz 13 1599) rfl rfl HT_ (by kernel_rfl) (by decide) (fun K hK => ?_)
    refine Kd.R_lit_step (Kd.int .i64) _ 3 ?hg (N := 9) ?hd (xs := ([0, 2, 4, 5, 7, 9, 11] : List Int)) (inner := [.int .i64 0, .int .i64 2, .int .i64 4, .int .i64 5, .int .i64 7, .int .i64 9, .int .i64 11]) (ok := fun _ => True) (okp := fun _ => True) ?hr ?hp (fun _ hk => hk) trivial (Below.refl _ _) (Nat.le_refl _) (by simp) ?_; (case hd => rfl); (case hg => rfl); (case hr => first | (go_simp; done) | (go_simp; rfl)); (case hp => exact (Reps.one (show Kd.M (Kd.int .i64) _ _ _ 0 [.int .i64 0] from rfl) (Reps.one (show Kd.M (Kd.int .i64) _ _ _ 2 [.int .i64 2] from rfl) (Reps.one (show Kd.M (Kd.int .i64) _ _ _ 4 [.int .i64 4] from rfl) (Reps.one (show Kd.M (Kd.int .i64) _ _ _ 5 [.int .i64 5] from rfl) (Reps.one (show Kd.M (Kd.int .i64) _ _ _ 7 [.int .i64 7] from rfl) (Reps.one (show Kd.M (Kd.int .i64) _ _ _ 9 [.int .i64 9] from rfl) (Reps.one (show Kd.M (Kd.int .i64) _ _ _ 11 [.int .i64 11] from rfl) (Reps.none _ _)))))))))
    intro v246 w10 ho11 hb hg_ hnew_
    clear hg_ hnew_
    (first | rw [← Ny245.out] at ho11 | (simp only [Int.reduceToNat] at ho11; rw [← Ny245.out] at ho11))
    have HO247 := sd_ (Kd.R_lower ho11 (bz_ (bb_ HB.out (e_ GE243 e0_))))
    replace BK243 := kb_ BK243 hb
    replace HB := hb_ HB (e_ GE243 e0_) hb
    clear hb ho11
    obtain ⟨Ao12, co12, eo12⟩ := Kd.R_slice HO247.out
    subst eo12
    obtain ⟨ado12, fo12, _⟩ := Kd.at_int (Kd.R_reads' HO247.out).2.2 0 (by decide) (by rw [Ny245.out]; simp)
    cases fo12
    refine hK.out _ _ ⟨(kc_ BK243.out 0).trans rfl, (kc_ BK243.out 1).trans rfl, (kc_ BK243.out 2).trans rfl⟩ (fun hHeld => ?_)
    clear hK K
    refine norm_ (a' := ?_) ?_ ?_
    rotate_left
    ·show Act.put _ (some 9) _ = _
     simp only [Act.put, ls_, lz_, lc_, i64_w, i32_w]
     rfl
    refine pu_ (v := ?_) (a' := ?_) 6 12 (bz 13 1663) rfl rfl HT_ (by kernel_rfl) (fun _ _ _ h => h) (by rfl) ?_ ?_ ?_
    rotate_left; (intro w'; go_simp; with_reducible rfl); rotate_left; (simp only [Act.put, ls_, lz_, lc_, i64_w, i32_w]; rfl)
    refine on_ (N := some 13) 7 (bz 13 1791) rfl rfl HT_ (by kernel_rfl) (by decide) (fun K hK => ?_)
    (have p248 : 0 ≤ (a0_0 : Int) := od_ (by first | (with_reducible assumption) | assumption); have q248 : a0_0 < (y245.length : Int) := od_ (by first | (with_reducible assumption) | assumption); obtain ⟨ad248, e248, hx248_0⟩ := Kd.at_int (Kd.R_reads' HO247.out).2.2 a0_0 p248 q248; obtain rfl : ado12 = ad248 := (by injection e248))
    refine value_ (w1 := ?_) (v := ?_) (by rfl) rfl ?_ ?_
    rotate_left 2
    ·go_simp
     constructor
     ·rfl
     ·rfl
    clear hx248_0
    refine hK.out _ _ ⟨(kc_ BK243.out 0).trans rfl, (kc_ BK243.out 1).trans rfl, (kc_ BK243.out 2).trans rfl⟩ (fun hHeld => ?_)
    clear hK K
    refine norm_ (a' := ?_) ?_ ?_
    rotate_left
    ·show Act.put _ (some 13) _ = _
     simp only [Act.put, ls_, lz_, lc_, i64_w, i32_w]
     rfl
    refine pu_ (v := ?_) (a' := ?_) 8 14 (bz 13 2047) rfl rfl HT_ (by kernel_rfl) (fun _ _ _ h => h) (by rfl) ?_ ?_ ?_
    rotate_left; (intro w'; go_simp; with_reducible rfl); rotate_left; (simp only [Act.put, ls_, lz_, lc_, i64_w, i32_w]; rfl)
    refine pu_ (v := ?_) (a' := ?_) 11 17 (bz 13 4095) rfl rfl HT_ (by kernel_rfl) (fun _ _ _ h => h) (by rfl) ?_ ?_ ?_
    rotate_left; (intro w'; go_simp; with_reducible rfl); rotate_left; (simp only [Act.put, ls_, lz_, lc_, i64_w, i32_w]; rfl)
    refine pu_ (v := ?_) (a' := ?_) 12 2 (bz 13 8191) rfl rfl HT_ (by kernel_rfl) (fun _ _ _ h => h) (by rfl) ?_ ?_ ?_
    rotate_left; (intro w'; go_simp; with_reducible rfl); rotate_left; (simp only [Act.put, ls_, lz_, lc_, i64_w, i32_w]; rfl)
    refine done_ (done_of HT_.out (by kernel_rfl)) ?_
    try go_wp2
    go_ret
    exact ⟨by first | rfl | (simp [errW_none, errW_some] <;> rfl) | (simp [*, errW_none, errW_some] <;> rfl), by repeat (first | (with_reducible first | exact HB.out | apply ba_ | apply pd_ | apply d1_ | refine bs_ ?_ GE243.out) | exact HB.out)⟩
   ·rw [if_neg c5] at H
    exact absurd H (by simp)
  ·rw [if_neg c4] at H
   exact absurd H (by simp)
 ·replace c3 := bf_ c3
  subst c3
  have H1 : (some (-1)) = some r := by rw [if_neg (show ¬ (false = true) by decide)] at H; exact H
  clear H; have H := H1; clear H1
  obtain rfl := Option.some.inj H
  go_enter Tryd.func17, Tryd.ntmps17
  go_wp2_with (first | ((with_reducible refine gate_dst (N := 1) rfl ?_); refine box_event ?hg (N := 1) ?hd (cs := #[.int .i64 a0_0, .int .i64 a0_1, .int .i64 a0_2]) (t := 23) ?hr ?_; (case hd => rfl); (case hg => rfl); (case hr => first | (go_simp; done) | (go_simp; rfl)); intro gb243 hg w13 hbox hb; have BK243 := sd_ hbox; have GW243 := gw_ HB e0_ hg; have GE243 := GW243; replace HB := hb_ HB e0_ hb; clear hb hbox hg; have hcz14_0 : w13.cell? ⟨gb243, 0, none⟩ = some (.int .i64 a0_0) := (kc_ BK243.out 0).trans rfl; have hcz14_1 : w13.cell? ⟨gb243, 1, none⟩ = some (.int .i64 a0_1) := (kc_ BK243.out 1).trans rfl; have hcz14_2 : w13.cell? ⟨gb243, 2, none⟩ = some (.int .i64 a0_2) := (kc_ BK243.out 2).trans rfl; have hfz14_0 := kf_ BK243.out 0; have hfz14_1 := kf_ BK243.out 1; have hfz14_2 := kf_ BK243.out 2) | ((with_reducible refine gate_callee (f := 15) rfl ?_); refine goesL_ (some 4) rfl rfl Tryd.func15 (by kernel_rfl) rfl #[.agg #[.int .i64 a0_0, .int .i64 a0_1, .int .i64 a0_2]] rfl (by (try simp only [lm_, lq_, lx_]); first | done | rfl | (simp only [ld_, lt_]; rfl)) ?_; (with_reducible refine (neumeref06_Check.calls a0_0 a0_1 a0_2 false _ A2.out).mono ?_); rintro e w15 ⟨rfl, hb⟩; refine ⟨_, rfl, ?_⟩; replace BK243 := kb_ BK243 hb; replace HB := hb_ HB (e_ GE243 e0_) hb; (try clear hb); (try clear hb2); (try clear hk); (try clear hi)))
  go_ret
  exact ⟨by first | rfl | (simp [errW_none, errW_some] <;> rfl) | (simp [*, errW_none, errW_some] <;> rfl), by repeat (first | (with_reducible first | exact HB.out | apply ba_ | apply pd_ | apply d1_ | refine bs_ ?_ GE243.out) | exact HB.out)⟩

end Go.Proofs.YtkncoedagigliaaDoor.P
