-- Written by a program of this session (wip/tools/xprint.py, over the kit's print): Lean checks it.
import Derived.Test.YtdiccfonlojlfaaGreatDoorPx0
import Derived.Test.YtdiccfonlojlfaaGreatDoorPx10
namespace Go.Proofs.YtdiccfonlojlfaaGreatDoor.P
open Go.RowKit Go.Proofs.YtdiccfonlojlfaaGreatDoorW.PrintWords Go.Proofs.YtdiccfonlojlfaaGreatDoorW.PrintLast Go.Proofs.YtdiccfonlojlfaaGreatDoorW.PrintMore
attribute [local go_sem] max2_int min2_int max_two min_two max_three min_three max_four min_four   -- for this text's walks alone
set_option linter.unusedVariables false
set_option linter.unusedSimpArgs false

/-! ### neumeref02_Check: function 47 -/
def neumeref02_Check.f (k : Nat) (a0_0 : Int) (a0_1 : Int) : Option (Bool) := if a0_1 ≥ 1 then (if a0_1 ≤ 1048576 then (if a0_0 ≥ (-1099511627776) then (if a0_0 ≤ 1099511627776 then ((neumeref02_abs.f a0_0).bind fun t387 => ((neumeref02_gcd.f k t387 a0_1).bind fun t388 => (some (t388 == 1)))) else (some false)) else (some false)) else (some false)) else (some false)
theorem neumeref02_Check.mono : ∀ a0 a1 k, LeO (neumeref02_Check.f k a0 a1) (neumeref02_Check.f (k + 1) a0 a1) := by
 intro a0 a1 k
 unfold neumeref02_Check.f
 repeat' first
   | (with_reducible exact neumeref02_gcd.mono _ _ _)
   | (with_reducible exact LeO.refl _)
   | (with_reducible exact LeO.none _)
   | (with_reducible refine LeO.ite ?_ ?_)
   | (with_reducible refine LeO.bind ?_ (fun _ => ?_))
   | exact neumeref02_gcd.mono _ _ _
   | exact LeO.none _
   | refine LeO.ite ?_ ?_
   | refine LeO.bind ?_ (fun _ => ?_)
def neumeref02_Check.T1 : Bool × List (List Nat × List Nat) := (true, [([], []), ([0], [0]), ([1], [1]), ([2], [2]), ([3], [3]), ([4, 3], [3, 4]), ([5, 3], [3, 5]), ([3, 6], [3, 6]), ([7, 3], [7]), ([8], [8]), ([9, 8], [8, 9]), ([10, 8], [8, 10]), ([8, 11], [8, 11]), ([12, 8], [12]), ([13], [13]), ([14, 13], [13, 14]), ([15, 13], [13, 15]), ([13, 16], [13, 16]), ([17, 13], [17]), ([18], [18]), ([19, 18], [18, 19]), ([20, 18, 18], [18, 20]), ([18], [18]), ([22, 18], [18, 22]), ([21, 23, 21, 18], [18, 21, 23]), ([24, 18], [18, 24]), ([18, 25], [18, 25]), ([26, 24, 0, 1, 2, 3, 4, 5, 6, 7, 8, 9, 10, 11, 12, 13, 14, 15, 16, 17, 18, 19, 20, 21, 22, 23, 24, 25, 26], [26])])
def neumeref02_Check.B1 : List Nat := [0, 1, 3, 7, 15, 31, 63, 127, 255, 511, 1023, 2047, 4095, 8191, 16383, 32767, 65535, 131071, 262143, 524287, 1048575, 2097151, 524287, 4718591, 16777215, 33554431, 67108863, 134217727]
theorem neumeref02_Check.tab1 : rtab .any (opsOf Tryz.f47 1) = neumeref02_Check.T1 := by kernel_rfl
theorem neumeref02_Check.bits1 : waitsOk neumeref02_Check.T1.2 neumeref02_Check.B1 = true := by kernel_rfl
set_option maxHeartbeats 8000000 in
set_option maxRecDepth 100000 in
theorem neumeref02_Check.calls (k : Nat) (a0_0 : Int) (a0_1 : Int) (r : Bool) (w : World) (h : neumeref02_Check.f k a0_0 a0_1 = some r) :
  Calls Tryz.prog 47 #[.agg #[.int .i64 a0_0, .int .i64 a0_1]] w fun e w' => e = .returned (.bool r) ∧ Below w.heap.size w w' := by
 have hu25 := Tryz.underlying25
 have HB := sd_ (Below.refl w.heap.size w)
 have H : (if a0_1 ≥ 1 then (if a0_1 ≤ 1048576 then (if a0_0 ≥ (-1099511627776) then (if a0_0 ≤ 1099511627776 then ((neumeref02_abs.f a0_0).bind fun t387 => ((neumeref02_gcd.f k t387 a0_1).bind fun t388 => (some (t388 == 1)))) else (some false)) else (some false)) else (some false)) else (some false)) = some r := h
 clear h
 by_cases c2 : a0_1 ≥ 1
 ·rw [if_pos c2] at H
  have c2b0 : decide (1 ≤ a0_1) = true := dt_ c2
  clear c2
  by_cases c3 : a0_1 ≤ 1048576
  ·rw [if_pos c3] at H
   have c3b0 : decide (a0_1 ≤ 1048576) = true := dt_ c3
   clear c3
   by_cases c4 : a0_0 ≥ (-1099511627776)
   ·rw [if_pos c4] at H
    have c4b0 : decide ((-1099511627776) ≤ a0_0) = true := dt_ c4
    clear c4
    by_cases c5 : a0_0 ≤ 1099511627776
    ·rw [if_pos c5] at H
     have c5b0 : decide (a0_0 ≤ 1099511627776) = true := dt_ c5
     clear c5
     replace H := ob_ H
     obtain ⟨t387, A60, H⟩ := H
     replace H : ((neumeref02_gcd.f k t387 a0_1).bind fun t388 => (some (t388 == 1))) = some r := H
     have A6 := sd_ A60
     clear A60
     replace H := ob_ H
     obtain ⟨t388, A70, H⟩ := H
     replace H : (some (t388 == 1)) = some r := H
     have A7 := sd_ A70
     clear A70
     obtain rfl := Option.some.inj H
     go_enter Tryz.func47, Tryz.ntmps47
     try go_wp2_with (first | ((with_reducible refine gate_dst (N := 1) rfl ?_); refine box_event ?hg (N := 1) ?hd (cs := #[.int .i64 a0_0, .int .i64 a0_1]) (t := 25) ?hr ?_; (case hd => rfl); (case hg => rfl); (case hr => first | (go_simp; done) | (go_simp; rfl)); intro gb386 hg w8 hbox hb; have BK386 := sd_ hbox; have GW386 := gw_ HB e0_ hg; have GE386 := GW386; replace HB := hb_ HB e0_ hb; clear hb hbox hg))
     replace BK386 := sd_ (kd_ BK386.out)
     replace HB := sd_ (d1_ HB.out)
     refine start_ (n := 28) (S := fun w' => w'.cell? ⟨gb386, 0, none⟩ = some (.int .i64 a0_0) ∧ w'.cell? ⟨gb386, 1, none⟩ = some (.int .i64 a0_1)) (ds := []) (Array.replicate 28 false) (by kernel_rfl) rfl rfl ⟨(kc_ BK386.out 0).trans rfl, (kc_ BK386.out 1).trans rfl⟩ (fun hHeld => ?_); refine with_tabW neumeref02_Check.tab1 neumeref02_Check.bits1 (fun HT_ HW_ => ?_)
     generalize w8.drew = w9 at BK386 HB hHeld ⊢
     refine pu_ (v := ?_) (a' := ?_) 0 3 (bz 28 1) rfl rfl HT_ (by kernel_rfl) (fun _ _ _ h => h) (by rfl) ?_ ?_ ?_
     rotate_left; (intro w'; go_simp; with_reducible rfl); rotate_left; (simp only [Act.put, ls_, lz_, lc_, i64_w, i32_w]; rfl)
     refine ta_ (v := ?_) (a' := ?_) 1 4 (bz 28 3) rfl rfl HT_ HW_ (by kernel_rfl) (fun _ _ _ h => h) (by rfl) ?_ hHeld ?_ ?_
     rotate_left
     ·rintro w' ⟨s0, s1⟩
      go_simp
      with_reducible rfl
     rotate_left
     ·simp only [Act.put, ls_, lz_, lc_, i64_w, i32_w]
      rfl
     refine pu_ (v := ?_) (a' := ?_) 2 5 (bz 28 7) rfl rfl HT_ (by kernel_rfl) (fun _ _ _ h => h) (by rfl) ?_ ?_ ?_
     rotate_left; (intro w'; go_simp; with_reducible rfl); rotate_left; (simp only [Act.put, ls_, lz_, lc_, i64_w, i32_w]; rfl)
     refine pu_ (v := ?_) (a' := ?_) 3 6 (bz 28 15) rfl rfl HT_ (by kernel_rfl) (fun _ _ _ h => h) (by rfl) ?_ ?_ ?_
     rotate_left; (intro w'; go_simp; with_reducible rfl); rotate_left; (simp only [Act.put, ls_, lz_, lc_, i64_w, i32_w]; rfl)
     refine pu_ (v := ?_) (a' := ?_) 4 7 (bz 28 31) rfl rfl HT_ (by kernel_rfl) (fun _ _ _ h => h) (by rfl) ?_ ?_ ?_
     rotate_left; (intro w'; go_simp; with_reducible rfl); rotate_left; (simp only [Act.put, ls_, lz_, lc_, i64_w, i32_w]; rfl)
     refine ta_ (v := ?_) (a' := ?_) 5 8 (bz 28 63) rfl rfl HT_ HW_ (by kernel_rfl) (fun _ _ _ h => h) (by rfl) ?_ hHeld ?_ ?_
     rotate_left
     ·rintro w' ⟨s0, s1⟩
      go_simp
      with_reducible rfl
     rotate_left
     ·simp only [Act.put, ls_, lz_, lc_, i64_w, i32_w]
      rfl
     refine pu_ (v := ?_) (a' := ?_) 6 9 (bz 28 127) rfl rfl HT_ (by kernel_rfl) (fun _ _ _ h => h) (by rfl) ?_ ?_ ?_
     rotate_left; (intro w'; go_simp; with_reducible rfl); rotate_left; (simp only [Act.put, ls_, lz_, lc_, i64_w, i32_w]; rfl)
     refine pu_ (v := ?_) (a' := ?_) 7 10 (bz 28 255) rfl rfl HT_ (by kernel_rfl) (fun _ _ _ h => h) (by rfl) ?_ ?_ ?_
     rotate_left; (intro w'; go_simp; with_reducible rfl); rotate_left; (simp only [Act.put, ls_, lz_, lc_, i64_w, i32_w]; rfl)
     refine pu_ (v := ?_) (a' := ?_) 8 11 (bz 28 511) rfl rfl HT_ (by kernel_rfl) (fun _ _ _ h => h) (by rfl) ?_ ?_ ?_
     rotate_left; (intro w'; go_simp; with_reducible rfl); rotate_left; (simp only [Act.put, ls_, lz_, lc_, i64_w, i32_w]; rfl)
     refine pu_ (v := ?_) (a' := ?_) 9 12 (bz 28 1023) rfl rfl HT_ (by kernel_rfl) (fun _ _ _ h => h) (by rfl) ?_ ?_ ?_
     rotate_left; (intro w'; go_simp; with_reducible rfl); rotate_left; (simp only [Act.put, ls_, lz_, lc_, i64_w, i32_w]; rfl)
     refine ta_ (v := ?_) (a' := ?_) 10 13 (bz 28 2047) rfl rfl HT_ HW_ (by kernel_rfl) (fun _ _ _ h => h) (by rfl) ?_ hHeld ?_ ?_
     rotate_left
     ·rintro w' ⟨s0, s1⟩
      go_simp
      with_reducible rfl
     rotate_left
     ·simp only [Act.put, ls_, lz_, lc_, i64_w, i32_w]
      rfl
     refine pu_ (v := ?_) (a' := ?_) 11 14 (bz 28 4095) rfl rfl HT_ (by kernel_rfl) (fun _ _ _ h => h) (by rfl) ?_ ?_ ?_
     rotate_left; (intro w'; go_simp; with_reducible rfl); rotate_left; (simp only [Act.put, ls_, lz_, lc_, i64_w, i32_w]; rfl)
     refine pu_ (v := ?_) (a' := ?_) 12 15 (bz 28 8191) rfl rfl HT_ (by kernel_rfl) (fun _ _ _ h => h) (by rfl) ?_ ?_ ?_
     rotate_left; (intro w'; go_simp; with_reducible rfl); rotate_left; (simp only [Act.put, ls_, lz_, lc_, i64_w, i32_w]; rfl)
     refine pu_ (v := ?_) (a' := ?_) 13 16 (bz 28 16383) rfl rfl HT_ (by kernel_rfl) (fun _ _ _ h => h) (by rfl) ?_ ?_ ?_
     rotate_left; (intro w'; go_simp; with_reducible rfl); rotate_left; (simp only [Act.put, ls_, lz_, lc_, i64_w, i32_w]; rfl)
     refine pu_ (v := ?_) (a' := ?_) 14 17 (bz 28 32767) rfl rfl HT_ (by kernel_rfl) (fun _ _ _ h => h) (by rfl) ?_ ?_ ?_
     rotate_left; (intro w'; go_simp; with_reducible rfl); rotate_left; (simp only [Act.put, ls_, lz_, lc_, i64_w, i32_w]; rfl)
     refine ta_ (v := ?_) (a' := ?_) 15 18 (bz 28 65535) rfl rfl HT_ HW_ (by kernel_rfl) (fun _ _ _ h => h) (by rfl) ?_ hHeld ?_ ?_
     rotate_left
     ·rintro w' ⟨s0, s1⟩
      go_simp
      with_reducible rfl
     rotate_left
     ·simp only [Act.put, ls_, lz_, lc_, i64_w, i32_w]
      rfl
     refine pu_ (v := ?_) (a' := ?_) 16 19 (bz 28 131071) rfl rfl HT_ (by kernel_rfl) (fun _ _ _ h => h) (by rfl) ?_ ?_ ?_
     rotate_left; (intro w'; go_simp; with_reducible rfl); rotate_left; (simp only [Act.put, ls_, lz_, lc_, i64_w, i32_w]; rfl)
     refine pu_ (v := ?_) (a' := ?_) 17 20 (bz 28 262143) rfl rfl HT_ (by kernel_rfl) (fun _ _ _ h => h) (by rfl) ?_ ?_ ?_
     rotate_left; (intro w'; go_simp; with_reducible rfl); rotate_left; (simp only [Act.put, ls_, lz_, lc_, i64_w, i32_w]; rfl)
     refine pu_ (v := ?_) (a' := ?_) 18 21 (bz 28 524287) rfl rfl HT_ (by kernel_rfl) (fun _ _ _ h => h) (by rfl) ?_ ?_ ?_
     rotate_left; (intro w'; go_simp; with_reducible rfl); rotate_left; (simp only [Act.put, ls_, lz_, lc_, i64_w, i32_w]; rfl)
     refine pu_ (v := ?_) (a' := ?_) 19 22 (bz 28 1048575) rfl rfl HT_ (by kernel_rfl) (fun _ _ _ h => h) (by rfl) ?_ ?_ ?_
     rotate_left; (intro w'; go_simp; with_reducible rfl); rotate_left; (simp only [Act.put, ls_, lz_, lc_, i64_w, i32_w]; rfl)
     refine pu_ (v := ?_) (a' := ?_) 22 25 (bz 28 5242879) rfl rfl HT_ (by kernel_rfl) (fun _ _ _ h => h) (by rfl) ?_ ?_ ?_
     rotate_left; (intro w'; go_simp; with_reducible rfl); rotate_left; (simp only [Act.put, ls_, lz_, lc_, i64_w, i32_w]; rfl)
     refine ta_ (v := ?_) (a' := ?_) 20 23 (bz 28 6291455) rfl rfl HT_ HW_ (by kernel_rfl) (fun _ _ _ h => h) (by rfl) ?_ hHeld ?_ ?_
     rotate_left
     ·rintro w' ⟨s0, s1⟩
      go_simp
      with_reducible rfl
     rotate_left
     ·simp only [Act.put, ls_, lz_, lc_, i64_w, i32_w]
      rfl
     refine ta_ (v := ?_) (a' := ?_) 23 26 (bz 28 14680063) rfl rfl HT_ HW_ (by kernel_rfl) (fun _ _ _ h => h) (by rfl) ?_ hHeld ?_ ?_
     rotate_left
     ·rintro w' ⟨s0, s1⟩
      go_simp
      with_reducible rfl
     rotate_left
     ·simp only [Act.put, ls_, lz_, lc_, i64_w, i32_w]
      rfl
     refine on_ (N := some 24) 21 (bz 28 16777215) rfl rfl HT_ (by kernel_rfl) (by decide) (fun K hK => ?_)
     refine goes_ Tryz.func70 (by kernel_rfl) rfl #[.int .i64 a0_0] (by rfl) rfl rfl (by (try simp only [lm_, lq_, lx_]); first | done | rfl | (simp only [ld_, lt_]; rfl)) ?_
     with_reducible refine (neumeref02_abs.calls a0_0 t387 _ A6.out).mono ?_
     rintro e w10 ⟨rfl, hb⟩
     refine ⟨_, rfl, ?_⟩
     replace BK386 := kb_ BK386 hb
     replace HB := hb_ HB (e_ GE386 e0_) hb
     (try clear hb)
     (try clear hb2)
     (try clear hk)
     (try clear hi)
     refine hK.out _ _ ⟨(kc_ BK386.out 0).trans rfl, (kc_ BK386.out 1).trans rfl⟩ (fun hHeld => ?_)
     clear hK K
     refine norm_ (a' := ?_) ?_ ?_
     rotate_left
     ·show Act.put _ (some 24) _ = _
      simp only [Act.put, ls_, lz_, lc_, i64_w, i32_w]
      rfl
     refine on_ (N := some 27) 24 (bz 28 33554431) rfl rfl HT_ (by kernel_rfl) (by decide) (fun K hK => ?_)
     refine goes_ Tryz.func69 (by kernel_rfl) rfl #[.int .i64 t387, .int .i64 a0_1] (by rfl) rfl rfl (by (try simp only [lm_, lq_, lx_]); first | done | rfl | (simp only [ld_, lt_]; rfl)) ?_
     with_reducible refine (neumeref02_gcd.calls k t387 a0_1 t388 _ A7.out).mono ?_
     rintro e w' ⟨rfl, ⟨nd, rfl⟩⟩
     refine ⟨_, rfl, ?_⟩
     refine hK.out _ _ ⟨(kc_ BK386.out 0).trans rfl, (kc_ BK386.out 1).trans rfl⟩ (fun hHeld => ?_)
     clear hK K
     refine norm_ (a' := ?_) ?_ ?_
     rotate_left
     ·show Act.put _ (some 27) _ = _
      simp only [Act.put, ls_, lz_, lc_, i64_w, i32_w]
      rfl
     refine pu_ (v := ?_) (a' := ?_) 25 28 (bz 28 67108863) rfl rfl HT_ (by kernel_rfl) (fun _ _ _ h => h) (by rfl) ?_ ?_ ?_
     rotate_left; (intro w'; go_simp; with_reducible rfl); rotate_left; (simp only [Act.put, ls_, lz_, lc_, i64_w, i32_w]; rfl)
     refine pu_ (v := ?_) (a' := ?_) 26 29 (bz 28 134217727) rfl rfl HT_ (by kernel_rfl) (fun _ _ _ h => h) (by rfl) ?_ ?_ ?_
     rotate_left; (intro w'; go_simp; with_reducible rfl); rotate_left; (simp only [Act.put, ls_, lz_, lc_, i64_w, i32_w]; rfl)
     refine pu_ (v := ?_) (a' := ?_) 27 2 (bz 28 268435455) rfl rfl HT_ (by kernel_rfl) (fun _ _ _ h => h) (by rfl) ?_ ?_ ?_
     rotate_left; (intro w'; go_simp; with_reducible rfl); rotate_left; (simp only [Act.put, ls_, lz_, lc_, i64_w, i32_w]; rfl)
     refine done_ (done_of HT_.out (by kernel_rfl)) ?_
     try go_wp2
     go_ret
     exact ⟨by first | rfl | (simp [errW_none, errW_some] <;> rfl) | (simp [*, errW_none, errW_some] <;> rfl), by repeat (first | (with_reducible first | exact HB.out | apply ba_ | apply pd_ | apply d1_ | refine bs_ ?_ GE386.out) | exact HB.out)⟩
    ·rw [if_neg c5] at H
     have c5b0 : decide (a0_0 ≤ 1099511627776) = false := df_ c5
     clear c5
     obtain rfl := Option.some.inj H
     go_enter Tryz.func47, Tryz.ntmps47
     try go_wp2_with (first | ((with_reducible refine gate_dst (N := 1) rfl ?_); refine box_event ?hg (N := 1) ?hd (cs := #[.int .i64 a0_0, .int .i64 a0_1]) (t := 25) ?hr ?_; (case hd => rfl); (case hg => rfl); (case hr => first | (go_simp; done) | (go_simp; rfl)); intro gb386 hg w11 hbox hb; have BK386 := sd_ hbox; have GW386 := gw_ HB e0_ hg; have GE386 := GW386; replace HB := hb_ HB e0_ hb; clear hb hbox hg))
     replace BK386 := sd_ (kd_ BK386.out)
     replace HB := sd_ (d1_ HB.out)
     refine start_ (n := 28) (S := fun w' => w'.cell? ⟨gb386, 0, none⟩ = some (.int .i64 a0_0) ∧ w'.cell? ⟨gb386, 1, none⟩ = some (.int .i64 a0_1)) (ds := []) (Array.replicate 28 false) (by kernel_rfl) rfl rfl ⟨(kc_ BK386.out 0).trans rfl, (kc_ BK386.out 1).trans rfl⟩ (fun hHeld => ?_); refine with_tabW neumeref02_Check.tab1 neumeref02_Check.bits1 (fun HT_ HW_ => ?_)
     generalize w11.drew = w12 at BK386 HB hHeld ⊢
     refine pu_ (v := ?_) (a' := ?_) 0 3 (bz 28 1) rfl rfl HT_ (by kernel_rfl) (fun _ _ _ h => h) (by rfl) ?_ ?_ ?_
     rotate_left; (intro w'; go_simp; with_reducible rfl); rotate_left; (simp only [Act.put, ls_, lz_, lc_, i64_w, i32_w]; rfl)
     refine ta_ (v := ?_) (a' := ?_) 1 4 (bz 28 3) rfl rfl HT_ HW_ (by kernel_rfl) (fun _ _ _ h => h) (by rfl) ?_ hHeld ?_ ?_
     rotate_left
     ·rintro w' ⟨s0, s1⟩
      go_simp
      with_reducible rfl
     rotate_left
     ·simp only [Act.put, ls_, lz_, lc_, i64_w, i32_w]
      rfl
     refine pu_ (v := ?_) (a' := ?_) 2 5 (bz 28 7) rfl rfl HT_ (by kernel_rfl) (fun _ _ _ h => h) (by rfl) ?_ ?_ ?_
     rotate_left; (intro w'; go_simp; with_reducible rfl); rotate_left; (simp only [Act.put, ls_, lz_, lc_, i64_w, i32_w]; rfl)
     refine pu_ (v := ?_) (a' := ?_) 3 6 (bz 28 15) rfl rfl HT_ (by kernel_rfl) (fun _ _ _ h => h) (by rfl) ?_ ?_ ?_
     rotate_left; (intro w'; go_simp; with_reducible rfl); rotate_left; (simp only [Act.put, ls_, lz_, lc_, i64_w, i32_w]; rfl)
     refine pu_ (v := ?_) (a' := ?_) 4 7 (bz 28 31) rfl rfl HT_ (by kernel_rfl) (fun _ _ _ h => h) (by rfl) ?_ ?_ ?_
     rotate_left; (intro w'; go_simp; with_reducible rfl); rotate_left; (simp only [Act.put, ls_, lz_, lc_, i64_w, i32_w]; rfl)
     refine ta_ (v := ?_) (a' := ?_) 5 8 (bz 28 63) rfl rfl HT_ HW_ (by kernel_rfl) (fun _ _ _ h => h) (by rfl) ?_ hHeld ?_ ?_
     rotate_left
     ·rintro w' ⟨s0, s1⟩
      go_simp
      with_reducible rfl
     rotate_left
     ·simp only [Act.put, ls_, lz_, lc_, i64_w, i32_w]
      rfl
     refine pu_ (v := ?_) (a' := ?_) 6 9 (bz 28 127) rfl rfl HT_ (by kernel_rfl) (fun _ _ _ h => h) (by rfl) ?_ ?_ ?_
     rotate_left; (intro w'; go_simp; with_reducible rfl); rotate_left; (simp only [Act.put, ls_, lz_, lc_, i64_w, i32_w]; rfl)
     refine pu_ (v := ?_) (a' := ?_) 7 10 (bz 28 255) rfl rfl HT_ (by kernel_rfl) (fun _ _ _ h => h) (by rfl) ?_ ?_ ?_
     rotate_left; (intro w'; go_simp; with_reducible rfl); rotate_left; (simp only [Act.put, ls_, lz_, lc_, i64_w, i32_w]; rfl)
     refine pu_ (v := ?_) (a' := ?_) 8 11 (bz 28 511) rfl rfl HT_ (by kernel_rfl) (fun _ _ _ h => h) (by rfl) ?_ ?_ ?_
     rotate_left; (intro w'; go_simp; with_reducible rfl); rotate_left; (simp only [Act.put, ls_, lz_, lc_, i64_w, i32_w]; rfl)
     refine pu_ (v := ?_) (a' := ?_) 9 12 (bz 28 1023) rfl rfl HT_ (by kernel_rfl) (fun _ _ _ h => h) (by rfl) ?_ ?_ ?_
     rotate_left; (intro w'; go_simp; with_reducible rfl); rotate_left; (simp only [Act.put, ls_, lz_, lc_, i64_w, i32_w]; rfl)
     refine ta_ (v := ?_) (a' := ?_) 10 13 (bz 28 2047) rfl rfl HT_ HW_ (by kernel_rfl) (fun _ _ _ h => h) (by rfl) ?_ hHeld ?_ ?_
     rotate_left
     ·rintro w' ⟨s0, s1⟩
      go_simp
      with_reducible rfl
     rotate_left
     ·simp only [Act.put, ls_, lz_, lc_, i64_w, i32_w]
      rfl
     refine pu_ (v := ?_) (a' := ?_) 11 14 (bz 28 4095) rfl rfl HT_ (by kernel_rfl) (fun _ _ _ h => h) (by rfl) ?_ ?_ ?_
     rotate_left; (intro w'; go_simp; with_reducible rfl); rotate_left; (simp only [Act.put, ls_, lz_, lc_, i64_w, i32_w]; rfl)
     refine pu_ (v := ?_) (a' := ?_) 12 15 (bz 28 8191) rfl rfl HT_ (by kernel_rfl) (fun _ _ _ h => h) (by rfl) ?_ ?_ ?_
     rotate_left; (intro w'; go_simp; with_reducible rfl); rotate_left; (simp only [Act.put, ls_, lz_, lc_, i64_w, i32_w]; rfl)
     refine pu_ (v := ?_) (a' := ?_) 13 16 (bz 28 16383) rfl rfl HT_ (by kernel_rfl) (fun _ _ _ h => h) (by rfl) ?_ ?_ ?_
     rotate_left; (intro w'; go_simp; with_reducible rfl); rotate_left; (simp only [Act.put, ls_, lz_, lc_, i64_w, i32_w]; rfl)
     refine pu_ (v := ?_) (a' := ?_) 14 17 (bz 28 32767) rfl rfl HT_ (by kernel_rfl) (fun _ _ _ h => h) (by rfl) ?_ ?_ ?_
     rotate_left; (intro w'; go_simp; with_reducible rfl); rotate_left; (simp only [Act.put, ls_, lz_, lc_, i64_w, i32_w]; rfl)
     refine ta_ (v := ?_) (a' := ?_) 15 18 (bz 28 65535) rfl rfl HT_ HW_ (by kernel_rfl) (fun _ _ _ h => h) (by rfl) ?_ hHeld ?_ ?_
     rotate_left
     ·rintro w' ⟨s0, s1⟩
      go_simp
      with_reducible rfl
     rotate_left
     ·simp only [Act.put, ls_, lz_, lc_, i64_w, i32_w]
      rfl
     refine pu_ (v := ?_) (a' := ?_) 16 19 (bz 28 131071) rfl rfl HT_ (by kernel_rfl) (fun _ _ _ h => h) (by rfl) ?_ ?_ ?_
     rotate_left; (intro w'; go_simp; with_reducible rfl); rotate_left; (simp only [Act.put, ls_, lz_, lc_, i64_w, i32_w]; rfl)
     refine pu_ (v := ?_) (a' := ?_) 17 20 (bz 28 262143) rfl rfl HT_ (by kernel_rfl) (fun _ _ _ h => h) (by rfl) ?_ ?_ ?_
     rotate_left; (intro w'; go_simp; with_reducible rfl); rotate_left; (simp only [Act.put, ls_, lz_, lc_, i64_w, i32_w]; rfl)
     refine pu_ (v := ?_) (a' := ?_) 18 21 (bz 28 524287) rfl rfl HT_ (by kernel_rfl) (fun _ _ _ h => h) (by rfl) ?_ ?_ ?_
     rotate_left; (intro w'; go_simp; with_reducible rfl); rotate_left; (simp only [Act.put, ls_, lz_, lc_, i64_w, i32_w]; rfl)
     refine pz_ (a' := ?_) 19 22 (bz 28 1048575) rfl rfl HT_ (by kernel_rfl) (fun _ _ _ h => h) (by rfl) ?_ ?_
     rotate_left
     ·simp only [Act.put, ls_, lz_, lc_, i64_w, i32_w]
      rfl
     refine pz_ (a' := ?_) 20 23 (bz 28 2097151) rfl rfl HT_ (by kernel_rfl) (fun _ _ _ h => h) (by rfl) ?_ ?_
     rotate_left
     ·simp only [Act.put, ls_, lz_, lc_, i64_w, i32_w]
      rfl
     refine pz_ (a' := ?_) 21 24 (bz 28 4194303) rfl rfl HT_ (by kernel_rfl) (fun _ _ _ h => h) (by rfl) ?_ ?_
     rotate_left
     ·simp only [Act.put, ls_, lz_, lc_, i64_w, i32_w]
      rfl
     refine pz_ (a' := ?_) 22 25 (bz 28 8388607) rfl rfl HT_ (by kernel_rfl) (fun _ _ _ h => h) (by rfl) ?_ ?_
     rotate_left
     ·simp only [Act.put, ls_, lz_, lc_, i64_w, i32_w]
      rfl
     refine pz_ (a' := ?_) 23 26 (bz 28 16777215) rfl rfl HT_ (by kernel_rfl) (fun _ _ _ h => h) (by rfl) ?_ ?_
     rotate_left
     ·simp only [Act.put, ls_, lz_, lc_, i64_w, i32_w]
      rfl
     refine pz_ (a' := ?_) 24 27 (bz 28 33554431) rfl rfl HT_ (by kernel_rfl) (fun _ _ _ h => h) (by rfl) ?_ ?_
     rotate_left
     ·simp only [Act.put, ls_, lz_, lc_, i64_w, i32_w]
      rfl
     refine pz_ (a' := ?_) 25 28 (bz 28 67108863) rfl rfl HT_ (by kernel_rfl) (fun _ _ _ h => h) (by rfl) ?_ ?_
     rotate_left
     ·simp only [Act.put, ls_, lz_, lc_, i64_w, i32_w]
      rfl
     refine pu_ (v := ?_) (a' := ?_) 26 29 (bz 28 134217727) rfl rfl HT_ (by kernel_rfl) (fun _ _ _ h => h) (by rfl) ?_ ?_ ?_
     rotate_left; (intro w'; go_simp; with_reducible rfl); rotate_left; (simp only [Act.put, ls_, lz_, lc_, i64_w, i32_w]; rfl)
     refine pu_ (v := ?_) (a' := ?_) 27 2 (bz 28 268435455) rfl rfl HT_ (by kernel_rfl) (fun _ _ _ h => h) (by rfl) ?_ ?_ ?_
     rotate_left; (intro w'; go_simp; with_reducible rfl); rotate_left; (simp only [Act.put, ls_, lz_, lc_, i64_w, i32_w]; rfl)
     refine done_ (done_of HT_.out (by kernel_rfl)) ?_
     try go_wp2
     go_ret
     exact ⟨by first | rfl | (simp [errW_none, errW_some] <;> rfl) | (simp [*, errW_none, errW_some] <;> rfl), by repeat (first | (with_reducible first | exact HB.out | apply ba_ | apply pd_ | apply d1_ | refine bs_ ?_ GE386.out) | exact HB.out)⟩
   ·rw [if_neg c4] at H
    have c4b0 : decide ((-1099511627776) ≤ a0_0) = false := df_ c4
    clear c4
    obtain rfl := Option.some.inj H
    go_enter Tryz.func47, Tryz.ntmps47
    try go_wp2_with (first | ((with_reducible refine gate_dst (N := 1) rfl ?_); refine box_event ?hg (N := 1) ?hd (cs := #[.int .i64 a0_0, .int .i64 a0_1]) (t := 25) ?hr ?_; (case hd => rfl); (case hg => rfl); (case hr => first | (go_simp; done) | (go_simp; rfl)); intro gb386 hg w13 hbox hb; have BK386 := sd_ hbox; have GW386 := gw_ HB e0_ hg; have GE386 := GW386; replace HB := hb_ HB e0_ hb; clear hb hbox hg))
    replace BK386 := sd_ (kd_ BK386.out)
    replace HB := sd_ (d1_ HB.out)
    refine start_ (n := 28) (S := fun w' => w'.cell? ⟨gb386, 0, none⟩ = some (.int .i64 a0_0) ∧ w'.cell? ⟨gb386, 1, none⟩ = some (.int .i64 a0_1)) (ds := []) (Array.replicate 28 false) (by kernel_rfl) rfl rfl ⟨(kc_ BK386.out 0).trans rfl, (kc_ BK386.out 1).trans rfl⟩ (fun hHeld => ?_); refine with_tabW neumeref02_Check.tab1 neumeref02_Check.bits1 (fun HT_ HW_ => ?_)
    generalize w13.drew = w14 at BK386 HB hHeld ⊢
    refine pu_ (v := ?_) (a' := ?_) 0 3 (bz 28 1) rfl rfl HT_ (by kernel_rfl) (fun _ _ _ h => h) (by rfl) ?_ ?_ ?_
    rotate_left; (intro w'; go_simp; with_reducible rfl); rotate_left; (simp only [Act.put, ls_, lz_, lc_, i64_w, i32_w]; rfl)
    refine ta_ (v := ?_) (a' := ?_) 1 4 (bz 28 3) rfl rfl HT_ HW_ (by kernel_rfl) (fun _ _ _ h => h) (by rfl) ?_ hHeld ?_ ?_
    rotate_left
    ·rintro w' ⟨s0, s1⟩
     go_simp
     with_reducible rfl
    rotate_left
    ·simp only [Act.put, ls_, lz_, lc_, i64_w, i32_w]
     rfl
    refine pu_ (v := ?_) (a' := ?_) 2 5 (bz 28 7) rfl rfl HT_ (by kernel_rfl) (fun _ _ _ h => h) (by rfl) ?_ ?_ ?_
    rotate_left; (intro w'; go_simp; with_reducible rfl); rotate_left; (simp only [Act.put, ls_, lz_, lc_, i64_w, i32_w]; rfl)
    refine pu_ (v := ?_) (a' := ?_) 3 6 (bz 28 15) rfl rfl HT_ (by kernel_rfl) (fun _ _ _ h => h) (by rfl) ?_ ?_ ?_
    rotate_left; (intro w'; go_simp; with_reducible rfl); rotate_left; (simp only [Act.put, ls_, lz_, lc_, i64_w, i32_w]; rfl)
    refine pu_ (v := ?_) (a' := ?_) 4 7 (bz 28 31) rfl rfl HT_ (by kernel_rfl) (fun _ _ _ h => h) (by rfl) ?_ ?_ ?_
    rotate_left; (intro w'; go_simp; with_reducible rfl); rotate_left; (simp only [Act.put, ls_, lz_, lc_, i64_w, i32_w]; rfl)
    refine ta_ (v := ?_) (a' := ?_) 5 8 (bz 28 63) rfl rfl HT_ HW_ (by kernel_rfl) (fun _ _ _ h => h) (by rfl) ?_ hHeld ?_ ?_
    rotate_left
    ·rintro w' ⟨s0, s1⟩
     go_simp
     with_reducible rfl
    rotate_left
    ·simp only [Act.put, ls_, lz_, lc_, i64_w, i32_w]
     rfl
    refine pu_ (v := ?_) (a' := ?_) 6 9 (bz 28 127) rfl rfl HT_ (by kernel_rfl) (fun _ _ _ h => h) (by rfl) ?_ ?_ ?_
    rotate_left; (intro w'; go_simp; with_reducible rfl); rotate_left; (simp only [Act.put, ls_, lz_, lc_, i64_w, i32_w]; rfl)
    refine pu_ (v := ?_) (a' := ?_) 7 10 (bz 28 255) rfl rfl HT_ (by kernel_rfl) (fun _ _ _ h => h) (by rfl) ?_ ?_ ?_
    rotate_left; (intro w'; go_simp; with_reducible rfl); rotate_left; (simp only [Act.put, ls_, lz_, lc_, i64_w, i32_w]; rfl)
    refine pu_ (v := ?_) (a' := ?_) 8 11 (bz 28 511) rfl rfl HT_ (by kernel_rfl) (fun _ _ _ h => h) (by rfl) ?_ ?_ ?_
    rotate_left; (intro w'; go_simp; with_reducible rfl); rotate_left; (simp only [Act.put, ls_, lz_, lc_, i64_w, i32_w]; rfl)
    refine pu_ (v := ?_) (a' := ?_) 9 12 (bz 28 1023) rfl rfl HT_ (by kernel_rfl) (fun _ _ _ h => h) (by rfl) ?_ ?_ ?_
    rotate_left; (intro w'; go_simp; with_reducible rfl); rotate_left; (simp only [Act.put, ls_, lz_, lc_, i64_w, i32_w]; rfl)
    refine ta_ (v := ?_) (a' := ?_) 10 13 (bz 28 2047) rfl rfl HT_ HW_ (by kernel_rfl) (fun _ _ _ h => h) (by rfl) ?_ hHeld ?_ ?_
    rotate_left
    ·rintro w' ⟨s0, s1⟩
     go_simp
     with_reducible rfl
    rotate_left
    ·simp only [Act.put, ls_, lz_, lc_, i64_w, i32_w]
     rfl
    refine pu_ (v := ?_) (a' := ?_) 11 14 (bz 28 4095) rfl rfl HT_ (by kernel_rfl) (fun _ _ _ h => h) (by rfl) ?_ ?_ ?_
    rotate_left; (intro w'; go_simp; with_reducible rfl); rotate_left; (simp only [Act.put, ls_, lz_, lc_, i64_w, i32_w]; rfl)
    refine pu_ (v := ?_) (a' := ?_) 12 15 (bz 28 8191) rfl rfl HT_ (by kernel_rfl) (fun _ _ _ h => h) (by rfl) ?_ ?_ ?_
    rotate_left; (intro w'; go_simp; with_reducible rfl); rotate_left; (simp only [Act.put, ls_, lz_, lc_, i64_w, i32_w]; rfl)
    refine pu_ (v := ?_) (a' := ?_) 13 16 (bz 28 16383) rfl rfl HT_ (by kernel_rfl) (fun _ _ _ h => h) (by rfl) ?_ ?_ ?_
    rotate_left; (intro w'; go_simp; with_reducible rfl); rotate_left; (simp only [Act.put, ls_, lz_, lc_, i64_w, i32_w]; rfl)
    refine pz_ (a' := ?_) 14 17 (bz 28 32767) rfl rfl HT_ (by kernel_rfl) (fun _ _ _ h => h) (by rfl) ?_ ?_
    rotate_left
    ·simp only [Act.put, ls_, lz_, lc_, i64_w, i32_w]
     rfl
    refine pz_ (a' := ?_) 15 18 (bz 28 65535) rfl rfl HT_ (by kernel_rfl) (fun _ _ _ h => h) (by rfl) ?_ ?_
    rotate_left
    ·simp only [Act.put, ls_, lz_, lc_, i64_w, i32_w]
     rfl
    refine pz_ (a' := ?_) 16 19 (bz 28 131071) rfl rfl HT_ (by kernel_rfl) (fun _ _ _ h => h) (by rfl) ?_ ?_
    rotate_left
    ·simp only [Act.put, ls_, lz_, lc_, i64_w, i32_w]
     rfl
    refine pu_ (v := ?_) (a' := ?_) 17 20 (bz 28 262143) rfl rfl HT_ (by kernel_rfl) (fun _ _ _ h => h) (by rfl) ?_ ?_ ?_
    rotate_left; (intro w'; go_simp; with_reducible rfl); rotate_left; (simp only [Act.put, ls_, lz_, lc_, i64_w, i32_w]; rfl)
    refine pu_ (v := ?_) (a' := ?_) 18 21 (bz 28 524287) rfl rfl HT_ (by kernel_rfl) (fun _ _ _ h => h) (by rfl) ?_ ?_ ?_
    rotate_left; (intro w'; go_simp; with_reducible rfl); rotate_left; (simp only [Act.put, ls_, lz_, lc_, i64_w, i32_w]; rfl)
    refine pz_ (a' := ?_) 19 22 (bz 28 1048575) rfl rfl HT_ (by kernel_rfl) (fun _ _ _ h => h) (by rfl) ?_ ?_
    rotate_left
    ·simp only [Act.put, ls_, lz_, lc_, i64_w, i32_w]
     rfl
    refine pz_ (a' := ?_) 20 23 (bz 28 2097151) rfl rfl HT_ (by kernel_rfl) (fun _ _ _ h => h) (by rfl) ?_ ?_
    rotate_left
    ·simp only [Act.put, ls_, lz_, lc_, i64_w, i32_w]
     rfl
    refine pz_ (a' := ?_) 21 24 (bz 28 4194303) rfl rfl HT_ (by kernel_rfl) (fun _ _ _ h => h) (by rfl) ?_ ?_
    rotate_left
    ·simp only [Act.put, ls_, lz_, lc_, i64_w, i32_w]
     rfl
    refine pz_ (a' := ?_) 22 25 (bz 28 8388607) rfl rfl HT_ (by kernel_rfl) (fun _ _ _ h => h) (by rfl) ?_ ?_
    rotate_left
    ·simp only [Act.put, ls_, lz_, lc_, i64_w, i32_w]
     rfl
    refine pz_ (a' := ?_) 23 26 (bz 28 16777215) rfl rfl HT_ (by kernel_rfl) (fun _ _ _ h => h) (by rfl) ?_ ?_
    rotate_left
    ·simp only [Act.put, ls_, lz_, lc_, i64_w, i32_w]
     rfl
    refine pz_ (a' := ?_) 24 27 (bz 28 33554431) rfl rfl HT_ (by kernel_rfl) (fun _ _ _ h => h) (by rfl) ?_ ?_
    rotate_left
    ·simp only [Act.put, ls_, lz_, lc_, i64_w, i32_w]
     rfl
    refine pz_ (a' := ?_) 25 28 (bz 28 67108863) rfl rfl HT_ (by kernel_rfl) (fun _ _ _ h => h) (by rfl) ?_ ?_
    rotate_left
    ·simp only [Act.put, ls_, lz_, lc_, i64_w, i32_w]
     rfl
    refine pu_ (v := ?_) (a' := ?_) 26 29 (bz 28 134217727) rfl rfl HT_ (by kernel_rfl) (fun _ _ _ h => h) (by rfl) ?_ ?_ ?_
    rotate_left; (intro w'; go_simp; with_reducible rfl); rotate_left; (simp only [Act.put, ls_, lz_, lc_, i64_w, i32_w]; rfl)
    refine pu_ (v := ?_) (a' := ?_) 27 2 (bz 28 268435455) rfl rfl HT_ (by kernel_rfl) (fun _ _ _ h => h) (by rfl) ?_ ?_ ?_
    rotate_left; (intro w'; go_simp; with_reducible rfl); rotate_left; (simp only [Act.put, ls_, lz_, lc_, i64_w, i32_w]; rfl)
    refine done_ (done_of HT_.out (by kernel_rfl)) ?_
    try go_wp2
    go_ret
    exact ⟨by first | rfl | (simp [errW_none, errW_some] <;> rfl) | (simp [*, errW_none, errW_some] <;> rfl), by repeat (first | (with_reducible first | exact HB.out | apply ba_ | apply pd_ | apply d1_ | refine bs_ ?_ GE386.out) | exact HB.out)⟩
  ·rw [if_neg c3] at H
   have c3b0 : decide (a0_1 ≤ 1048576) = false := df_ c3
   clear c3
   obtain rfl := Option.some.inj H
   go_enter Tryz.func47, Tryz.ntmps47
   try go_wp2_with (first | ((with_reducible refine gate_dst (N := 1) rfl ?_); refine box_event ?hg (N := 1) ?hd (cs := #[.int .i64 a0_0, .int .i64 a0_1]) (t := 25) ?hr ?_; (case hd => rfl); (case hg => rfl); (case hr => first | (go_simp; done) | (go_simp; rfl)); intro gb386 hg w15 hbox hb; have BK386 := sd_ hbox; have GW386 := gw_ HB e0_ hg; have GE386 := GW386; replace HB := hb_ HB e0_ hb; clear hb hbox hg))
   replace BK386 := sd_ (kd_ BK386.out)
   replace HB := sd_ (d1_ HB.out)
   refine start_ (n := 28) (S := fun w' => w'.cell? ⟨gb386, 0, none⟩ = some (.int .i64 a0_0) ∧ w'.cell? ⟨gb386, 1, none⟩ = some (.int .i64 a0_1)) (ds := []) (Array.replicate 28 false) (by kernel_rfl) rfl rfl ⟨(kc_ BK386.out 0).trans rfl, (kc_ BK386.out 1).trans rfl⟩ (fun hHeld => ?_); refine with_tabW neumeref02_Check.tab1 neumeref02_Check.bits1 (fun HT_ HW_ => ?_)
   generalize w15.drew = w16 at BK386 HB hHeld ⊢
   refine pu_ (v := ?_) (a' := ?_) 0 3 (bz 28 1) rfl rfl HT_ (by kernel_rfl) (fun _ _ _ h => h) (by rfl) ?_ ?_ ?_
   rotate_left; (intro w'; go_simp; with_reducible rfl); rotate_left; (simp only [Act.put, ls_, lz_, lc_, i64_w, i32_w]; rfl)
   refine ta_ (v := ?_) (a' := ?_) 1 4 (bz 28 3) rfl rfl HT_ HW_ (by kernel_rfl) (fun _ _ _ h => h) (by rfl) ?_ hHeld ?_ ?_
   rotate_left
   ·rintro w' ⟨s0, s1⟩
    go_simp
    with_reducible rfl
   rotate_left
   ·simp only [Act.put, ls_, lz_, lc_, i64_w, i32_w]
    rfl
   refine pu_ (v := ?_) (a' := ?_) 2 5 (bz 28 7) rfl rfl HT_ (by kernel_rfl) (fun _ _ _ h => h) (by rfl) ?_ ?_ ?_
   rotate_left; (intro w'; go_simp; with_reducible rfl); rotate_left; (simp only [Act.put, ls_, lz_, lc_, i64_w, i32_w]; rfl)
   refine pu_ (v := ?_) (a' := ?_) 3 6 (bz 28 15) rfl rfl HT_ (by kernel_rfl) (fun _ _ _ h => h) (by rfl) ?_ ?_ ?_
   rotate_left; (intro w'; go_simp; with_reducible rfl); rotate_left; (simp only [Act.put, ls_, lz_, lc_, i64_w, i32_w]; rfl)
   refine pu_ (v := ?_) (a' := ?_) 4 7 (bz 28 31) rfl rfl HT_ (by kernel_rfl) (fun _ _ _ h => h) (by rfl) ?_ ?_ ?_
   rotate_left; (intro w'; go_simp; with_reducible rfl); rotate_left; (simp only [Act.put, ls_, lz_, lc_, i64_w, i32_w]; rfl)
   refine ta_ (v := ?_) (a' := ?_) 5 8 (bz 28 63) rfl rfl HT_ HW_ (by kernel_rfl) (fun _ _ _ h => h) (by rfl) ?_ hHeld ?_ ?_
   rotate_left
   ·rintro w' ⟨s0, s1⟩
    go_simp
    with_reducible rfl
   rotate_left
   ·simp only [Act.put, ls_, lz_, lc_, i64_w, i32_w]
    rfl
   refine pu_ (v := ?_) (a' := ?_) 6 9 (bz 28 127) rfl rfl HT_ (by kernel_rfl) (fun _ _ _ h => h) (by rfl) ?_ ?_ ?_
   rotate_left; (intro w'; go_simp; with_reducible rfl); rotate_left; (simp only [Act.put, ls_, lz_, lc_, i64_w, i32_w]; rfl)
   refine pu_ (v := ?_) (a' := ?_) 7 10 (bz 28 255) rfl rfl HT_ (by kernel_rfl) (fun _ _ _ h => h) (by rfl) ?_ ?_ ?_
   rotate_left; (intro w'; go_simp; with_reducible rfl); rotate_left; (simp only [Act.put, ls_, lz_, lc_, i64_w, i32_w]; rfl)
   refine pu_ (v := ?_) (a' := ?_) 8 11 (bz 28 511) rfl rfl HT_ (by kernel_rfl) (fun _ _ _ h => h) (by rfl) ?_ ?_ ?_
   rotate_left; (intro w'; go_simp; with_reducible rfl); rotate_left; (simp only [Act.put, ls_, lz_, lc_, i64_w, i32_w]; rfl)
   refine pz_ (a' := ?_) 9 12 (bz 28 1023) rfl rfl HT_ (by kernel_rfl) (fun _ _ _ h => h) (by rfl) ?_ ?_
   rotate_left
   ·simp only [Act.put, ls_, lz_, lc_, i64_w, i32_w]
    rfl
   refine pz_ (a' := ?_) 10 13 (bz 28 2047) rfl rfl HT_ (by kernel_rfl) (fun _ _ _ h => h) (by rfl) ?_ ?_
   rotate_left
   ·simp only [Act.put, ls_, lz_, lc_, i64_w, i32_w]
    rfl
   refine pz_ (a' := ?_) 11 14 (bz 28 4095) rfl rfl HT_ (by kernel_rfl) (fun _ _ _ h => h) (by rfl) ?_ ?_
   rotate_left
   ·simp only [Act.put, ls_, lz_, lc_, i64_w, i32_w]
    rfl
   refine pu_ (v := ?_) (a' := ?_) 12 15 (bz 28 8191) rfl rfl HT_ (by kernel_rfl) (fun _ _ _ h => h) (by rfl) ?_ ?_ ?_
   rotate_left; (intro w'; go_simp; with_reducible rfl); rotate_left; (simp only [Act.put, ls_, lz_, lc_, i64_w, i32_w]; rfl)
   refine pu_ (v := ?_) (a' := ?_) 13 16 (bz 28 16383) rfl rfl HT_ (by kernel_rfl) (fun _ _ _ h => h) (by rfl) ?_ ?_ ?_
   rotate_left; (intro w'; go_simp; with_reducible rfl); rotate_left; (simp only [Act.put, ls_, lz_, lc_, i64_w, i32_w]; rfl)
   refine pz_ (a' := ?_) 14 17 (bz 28 32767) rfl rfl HT_ (by kernel_rfl) (fun _ _ _ h => h) (by rfl) ?_ ?_
   rotate_left
   ·simp only [Act.put, ls_, lz_, lc_, i64_w, i32_w]
    rfl
   refine pz_ (a' := ?_) 15 18 (bz 28 65535) rfl rfl HT_ (by kernel_rfl) (fun _ _ _ h => h) (by rfl) ?_ ?_
   rotate_left
   ·simp only [Act.put, ls_, lz_, lc_, i64_w, i32_w]
    rfl
   refine pz_ (a' := ?_) 16 19 (bz 28 131071) rfl rfl HT_ (by kernel_rfl) (fun _ _ _ h => h) (by rfl) ?_ ?_
   rotate_left
   ·simp only [Act.put, ls_, lz_, lc_, i64_w, i32_w]
    rfl
   refine pu_ (v := ?_) (a' := ?_) 17 20 (bz 28 262143) rfl rfl HT_ (by kernel_rfl) (fun _ _ _ h => h) (by rfl) ?_ ?_ ?_
   rotate_left; (intro w'; go_simp; with_reducible rfl); rotate_left; (simp only [Act.put, ls_, lz_, lc_, i64_w, i32_w]; rfl)
   refine pu_ (v := ?_) (a' := ?_) 18 21 (bz 28 524287) rfl rfl HT_ (by kernel_rfl) (fun _ _ _ h => h) (by rfl) ?_ ?_ ?_
   rotate_left; (intro w'; go_simp; with_reducible rfl); rotate_left; (simp only [Act.put, ls_, lz_, lc_, i64_w, i32_w]; rfl)
   refine pz_ (a' := ?_) 19 22 (bz 28 1048575) rfl rfl HT_ (by kernel_rfl) (fun _ _ _ h => h) (by rfl) ?_ ?_
   rotate_left
   ·simp only [Act.put, ls_, lz_, lc_, i64_w, i32_w]
    rfl
   refine pz_ (a' := ?_) 20 23 (bz 28 2097151) rfl rfl HT_ (by kernel_rfl) (fun _ _ _ h => h) (by rfl) ?_ ?_
   rotate_left
   ·simp only [Act.put, ls_, lz_, lc_, i64_w, i32_w]
    rfl
   refine pz_ (a' := ?_) 21 24 (bz 28 4194303) rfl rfl HT_ (by kernel_rfl) (fun _ _ _ h => h) (by rfl) ?_ ?_
   rotate_left
   ·simp only [Act.put, ls_, lz_, lc_, i64_w, i32_w]
    rfl
   refine pz_ (a' := ?_) 22 25 (bz 28 8388607) rfl rfl HT_ (by kernel_rfl) (fun _ _ _ h => h) (by rfl) ?_ ?_
   rotate_left
   ·simp only [Act.put, ls_, lz_, lc_, i64_w, i32_w]
    rfl
   refine pz_ (a' := ?_) 23 26 (bz 28 16777215) rfl rfl HT_ (by kernel_rfl) (fun _ _ _ h => h) (by rfl) ?_ ?_
   rotate_left
   ·simp only [Act.put, ls_, lz_, lc_, i64_w, i32_w]
    rfl
   refine pz_ (a' := ?_) 24 27 (bz 28 33554431) rfl rfl HT_ (by kernel_rfl) (fun _ _ _ h => h) (by rfl) ?_ ?_
   rotate_left
   ·simp only [Act.put, ls_, lz_, lc_, i64_w, i32_w]
    rfl
   refine pz_ (a' := ?_) 25 28 (bz 28 67108863) rfl rfl HT_ (by kernel_rfl) (fun _ _ _ h => h) (by rfl) ?_ ?_
   rotate_left
   ·simp only [Act.put, ls_, lz_, lc_, i64_w, i32_w]
    rfl
   refine pu_ (v := ?_) (a' := ?_) 26 29 (bz 28 134217727) rfl rfl HT_ (by kernel_rfl) (fun _ _ _ h => h) (by rfl) ?_ ?_ ?_
   rotate_left; (intro w'; go_simp; with_reducible rfl); rotate_left; (simp only [Act.put, ls_, lz_, lc_, i64_w, i32_w]; rfl)
   refine pu_ (v := ?_) (a' := ?_) 27 2 (bz 28 268435455) rfl rfl HT_ (by kernel_rfl) (fun _ _ _ h => h) (by rfl) ?_ ?_ ?_
   rotate_left; (intro w'; go_simp; with_reducible rfl); rotate_left; (simp only [Act.put, ls_, lz_, lc_, i64_w, i32_w]; rfl)
   refine done_ (done_of HT_.out (by kernel_rfl)) ?_
   try go_wp2
   go_ret
   exact ⟨by first | rfl | (simp [errW_none, errW_some] <;> rfl) | (simp [*, errW_none, errW_some] <;> rfl), by repeat (first | (with_reducible first | exact HB.out | apply ba_ | apply pd_ | apply d1_ | refine bs_ ?_ GE386.out) | exact HB.out)⟩
 ·rw [if_neg c2] at H
  have c2b0 : decide (1 ≤ a0_1) = false := df_ c2
  clear c2
  obtain rfl := Option.some.inj H
  go_enter Tryz.func47, Tryz.ntmps47
  try go_wp2_with (first | ((with_reducible refine gate_dst (N := 1) rfl ?_); refine box_event ?hg (N := 1) ?hd (cs := #[.int .i64 a0_0, .int .i64 a0_1]) (t := 25) ?hr ?_; (case hd => rfl); (case hg => rfl); (case hr => first | (go_simp; done) | (go_simp; rfl)); intro gb386 hg w17 hbox hb; have BK386 := sd_ hbox; have GW386 := gw_ HB e0_ hg; have GE386 := GW386; replace HB := hb_ HB e0_ hb; clear hb hbox hg))
  replace BK386 := sd_ (kd_ BK386.out)
  replace HB := sd_ (d1_ HB.out)
  refine start_ (n := 28) (S := fun w' => w'.cell? ⟨gb386, 0, none⟩ = some (.int .i64 a0_0) ∧ w'.cell? ⟨gb386, 1, none⟩ = some (.int .i64 a0_1)) (ds := []) (Array.replicate 28 false) (by kernel_rfl) rfl rfl ⟨(kc_ BK386.out 0).trans rfl, (kc_ BK386.out 1).trans rfl⟩ (fun hHeld => ?_); refine with_tabW neumeref02_Check.tab1 neumeref02_Check.bits1 (fun HT_ HW_ => ?_)
  generalize w17.drew = w18 at BK386 HB hHeld ⊢
  refine pu_ (v := ?_) (a' := ?_) 0 3 (bz 28 1) rfl rfl HT_ (by kernel_rfl) (fun _ _ _ h => h) (by rfl) ?_ ?_ ?_
  rotate_left; (intro w'; go_simp; with_reducible rfl); rotate_left; (simp only [Act.put, ls_, lz_, lc_, i64_w, i32_w]; rfl)
  refine ta_ (v := ?_) (a' := ?_) 1 4 (bz 28 3) rfl rfl HT_ HW_ (by kernel_rfl) (fun _ _ _ h => h) (by rfl) ?_ hHeld ?_ ?_
  rotate_left
  ·rintro w' ⟨s0, s1⟩
   go_simp
   with_reducible rfl
  rotate_left
  ·simp only [Act.put, ls_, lz_, lc_, i64_w, i32_w]
   rfl
  refine pu_ (v := ?_) (a' := ?_) 2 5 (bz 28 7) rfl rfl HT_ (by kernel_rfl) (fun _ _ _ h => h) (by rfl) ?_ ?_ ?_
  rotate_left; (intro w'; go_simp; with_reducible rfl); rotate_left; (simp only [Act.put, ls_, lz_, lc_, i64_w, i32_w]; rfl)
  refine pu_ (v := ?_) (a' := ?_) 3 6 (bz 28 15) rfl rfl HT_ (by kernel_rfl) (fun _ _ _ h => h) (by rfl) ?_ ?_ ?_
  rotate_left; (intro w'; go_simp; with_reducible rfl); rotate_left; (simp only [Act.put, ls_, lz_, lc_, i64_w, i32_w]; rfl)
  refine pz_ (a' := ?_) 4 7 (bz 28 31) rfl rfl HT_ (by kernel_rfl) (fun _ _ _ h => h) (by rfl) ?_ ?_
  rotate_left
  ·simp only [Act.put, ls_, lz_, lc_, i64_w, i32_w]
   rfl
  refine pz_ (a' := ?_) 5 8 (bz 28 63) rfl rfl HT_ (by kernel_rfl) (fun _ _ _ h => h) (by rfl) ?_ ?_
  rotate_left
  ·simp only [Act.put, ls_, lz_, lc_, i64_w, i32_w]
   rfl
  refine pz_ (a' := ?_) 6 9 (bz 28 127) rfl rfl HT_ (by kernel_rfl) (fun _ _ _ h => h) (by rfl) ?_ ?_
  rotate_left
  ·simp only [Act.put, ls_, lz_, lc_, i64_w, i32_w]
   rfl
  refine pu_ (v := ?_) (a' := ?_) 7 10 (bz 28 255) rfl rfl HT_ (by kernel_rfl) (fun _ _ _ h => h) (by rfl) ?_ ?_ ?_
  rotate_left; (intro w'; go_simp; with_reducible rfl); rotate_left; (simp only [Act.put, ls_, lz_, lc_, i64_w, i32_w]; rfl)
  refine pu_ (v := ?_) (a' := ?_) 8 11 (bz 28 511) rfl rfl HT_ (by kernel_rfl) (fun _ _ _ h => h) (by rfl) ?_ ?_ ?_
  rotate_left; (intro w'; go_simp; with_reducible rfl); rotate_left; (simp only [Act.put, ls_, lz_, lc_, i64_w, i32_w]; rfl)
  refine pz_ (a' := ?_) 9 12 (bz 28 1023) rfl rfl HT_ (by kernel_rfl) (fun _ _ _ h => h) (by rfl) ?_ ?_
  rotate_left
  ·simp only [Act.put, ls_, lz_, lc_, i64_w, i32_w]
   rfl
  refine pz_ (a' := ?_) 10 13 (bz 28 2047) rfl rfl HT_ (by kernel_rfl) (fun _ _ _ h => h) (by rfl) ?_ ?_
  rotate_left
  ·simp only [Act.put, ls_, lz_, lc_, i64_w, i32_w]
   rfl
  refine pz_ (a' := ?_) 11 14 (bz 28 4095) rfl rfl HT_ (by kernel_rfl) (fun _ _ _ h => h) (by rfl) ?_ ?_
  rotate_left
  ·simp only [Act.put, ls_, lz_, lc_, i64_w, i32_w]
   rfl
  refine pu_ (v := ?_) (a' := ?_) 12 15 (bz 28 8191) rfl rfl HT_ (by kernel_rfl) (fun _ _ _ h => h) (by rfl) ?_ ?_ ?_
  rotate_left; (intro w'; go_simp; with_reducible rfl); rotate_left; (simp only [Act.put, ls_, lz_, lc_, i64_w, i32_w]; rfl)
  refine pu_ (v := ?_) (a' := ?_) 13 16 (bz 28 16383) rfl rfl HT_ (by kernel_rfl) (fun _ _ _ h => h) (by rfl) ?_ ?_ ?_
  rotate_left; (intro w'; go_simp; with_reducible rfl); rotate_left; (simp only [Act.put, ls_, lz_, lc_, i64_w, i32_w]; rfl)
  refine pz_ (a' := ?_) 14 17 (bz 28 32767) rfl rfl HT_ (by kernel_rfl) (fun _ _ _ h => h) (by rfl) ?_ ?_
  rotate_left
  ·simp only [Act.put, ls_, lz_, lc_, i64_w, i32_w]
   rfl
  refine pz_ (a' := ?_) 15 18 (bz 28 65535) rfl rfl HT_ (by kernel_rfl) (fun _ _ _ h => h) (by rfl) ?_ ?_
  rotate_left
  ·simp only [Act.put, ls_, lz_, lc_, i64_w, i32_w]
   rfl
  refine pz_ (a' := ?_) 16 19 (bz 28 131071) rfl rfl HT_ (by kernel_rfl) (fun _ _ _ h => h) (by rfl) ?_ ?_
  rotate_left
  ·simp only [Act.put, ls_, lz_, lc_, i64_w, i32_w]
   rfl
  refine pu_ (v := ?_) (a' := ?_) 17 20 (bz 28 262143) rfl rfl HT_ (by kernel_rfl) (fun _ _ _ h => h) (by rfl) ?_ ?_ ?_
  rotate_left; (intro w'; go_simp; with_reducible rfl); rotate_left; (simp only [Act.put, ls_, lz_, lc_, i64_w, i32_w]; rfl)
  refine pu_ (v := ?_) (a' := ?_) 18 21 (bz 28 524287) rfl rfl HT_ (by kernel_rfl) (fun _ _ _ h => h) (by rfl) ?_ ?_ ?_
  rotate_left; (intro w'; go_simp; with_reducible rfl); rotate_left; (simp only [Act.put, ls_, lz_, lc_, i64_w, i32_w]; rfl)
  refine pz_ (a' := ?_) 19 22 (bz 28 1048575) rfl rfl HT_ (by kernel_rfl) (fun _ _ _ h => h) (by rfl) ?_ ?_
  rotate_left
  ·simp only [Act.put, ls_, lz_, lc_, i64_w, i32_w]
   rfl
  refine pz_ (a' := ?_) 20 23 (bz 28 2097151) rfl rfl HT_ (by kernel_rfl) (fun _ _ _ h => h) (by rfl) ?_ ?_
  rotate_left
  ·simp only [Act.put, ls_, lz_, lc_, i64_w, i32_w]
   rfl
  refine pz_ (a' := ?_) 21 24 (bz 28 4194303) rfl rfl HT_ (by kernel_rfl) (fun _ _ _ h => h) (by rfl) ?_ ?_
  rotate_left
  ·simp only [Act.put, ls_, lz_, lc_, i64_w, i32_w]
   rfl
  refine pz_ (a' := ?_) 22 25 (bz 28 8388607) rfl rfl HT_ (by kernel_rfl) (fun _ _ _ h => h) (by rfl) ?_ ?_
  rotate_left
  ·simp only [Act.put, ls_, lz_, lc_, i64_w, i32_w]
   rfl
  refine pz_ (a' := ?_) 23 26 (bz 28 16777215) rfl rfl HT_ (by kernel_rfl) (fun _ _ _ h => h) (by rfl) ?_ ?_
  rotate_left
  ·simp only [Act.put, ls_, lz_, lc_, i64_w, i32_w]
   rfl
  refine pz_ (a' := ?_) 24 27 (bz 28 33554431) rfl rfl HT_ (by kernel_rfl) (fun _ _ _ h => h) (by rfl) ?_ ?_
  rotate_left
  ·simp only [Act.put, ls_, lz_, lc_, i64_w, i32_w]
   rfl
  refine pz_ (a' := ?_) 25 28 (bz 28 67108863) rfl rfl HT_ (by kernel_rfl) (fun _ _ _ h => h) (by rfl) ?_ ?_
  rotate_left
  ·simp only [Act.put, ls_, lz_, lc_, i64_w, i32_w]
   rfl
  refine pu_ (v := ?_) (a' := ?_) 26 29 (bz 28 134217727) rfl rfl HT_ (by kernel_rfl) (fun _ _ _ h => h) (by rfl) ?_ ?_ ?_
  rotate_left; (intro w'; go_simp; with_reducible rfl); rotate_left; (simp only [Act.put, ls_, lz_, lc_, i64_w, i32_w]; rfl)
  refine pu_ (v := ?_) (a' := ?_) 27 2 (bz 28 268435455) rfl rfl HT_ (by kernel_rfl) (fun _ _ _ h => h) (by rfl) ?_ ?_ ?_
  rotate_left; (intro w'; go_simp; with_reducible rfl); rotate_left; (simp only [Act.put, ls_, lz_, lc_, i64_w, i32_w]; rfl)
  refine done_ (done_of HT_.out (by kernel_rfl)) ?_
  try go_wp2
  go_ret
  exact ⟨by first | rfl | (simp [errW_none, errW_some] <;> rfl) | (simp [*, errW_none, errW_some] <;> rfl), by repeat (first | (with_reducible first | exact HB.out | apply ba_ | apply pd_ | apply d1_ | refine bs_ ?_ GE386.out) | exact HB.out)⟩

end Go.Proofs.YtdiccfonlojlfaaGreatDoor.P
