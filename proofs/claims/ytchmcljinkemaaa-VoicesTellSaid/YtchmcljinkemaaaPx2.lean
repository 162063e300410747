-- Written by a program of this session (wip/tools/xprint.py, over the kit's print): Lean checks it.
import Derived.Test.YtchmcljinkemaaaPx0
import Derived.Test.YtchmcljinkemaaaPx1
namespace Go.Proofs.Ytchmcljinkemaaa.P
open Go.RowKit Go.Proofs.YtchmcljinkemaaaW.PrintWords Go.Proofs.YtchmcljinkemaaaW.PrintLast Go.Proofs.YtchmcljinkemaaaW.PrintMore
attribute [local go_sem] max2_int min2_int max_two min_two max_three min_three max_four min_four   -- for this text's walks alone
set_option linter.unusedVariables false
set_option linter.unusedSimpArgs false

/-! ### slices_Reverse_int_int: function 41 -/
def slices_Reverse_int_int.l0 : Nat → List Int → Int → Int → Option (List Int)
 | 0, _, _, _ => none
 | k + 1, x0, x2, x3 => if x2 < x3 then (if 0 ≤ x3 then (if x3 < (x0.length : Int) then (if 0 ≤ x2 then (if x2 < (x0.length : Int) then (slices_Reverse_int_int.l0 k ((x0.set (x2 : Int).toNat (rd x0 x3)).set (x3 : Int).toNat (rd x0 x2)) (wrap64 (x2 + 1)) (wrap64 (x3 - 1))) else (none)) else (none)) else (none)) else (none)) else (some x0)
def slices_Reverse_int_int.f (k : Nat) (l0 : List Int) : Option (List Int) := slices_Reverse_int_int.l0 k l0 0 (wrap64 ((l0.length : Int) - 1))
theorem slices_Reverse_int_int.mono_l : ∀ k, (∀ y0 y1 y2, LeO (slices_Reverse_int_int.l0 k y0 y1 y2) (slices_Reverse_int_int.l0 (k + 1) y0 y1 y2))
 | 0 => fun _ _ _ r h => by simp [slices_Reverse_int_int.l0] at h
 | k + 1 => by
  have ih0 := slices_Reverse_int_int.mono_l k
  ·intro y0 y1 y2
   unfold slices_Reverse_int_int.l0
   repeat' first
   | (with_reducible exact ih0 _ _ _)
   | (with_reducible exact LeO.refl _)
   | (with_reducible exact LeO.none _)
   | (with_reducible refine LeO.ite ?_ ?_)
   | (with_reducible refine LeO.bind ?_ (fun _ => ?_))
   | exact ih0 _ _ _
   | exact LeO.none _
   | refine LeO.ite ?_ ?_
   | refine LeO.bind ?_ (fun _ => ?_)
theorem slices_Reverse_int_int.mono : ∀ a0 k, LeO (slices_Reverse_int_int.f k a0) (slices_Reverse_int_int.f (k + 1) a0) := by
 intro a0 k
 have ih0 := slices_Reverse_int_int.mono_l k
 unfold slices_Reverse_int_int.f
 repeat' first
   | (with_reducible exact ih0 _ _ _)
   | (with_reducible exact LeO.refl _)
   | (with_reducible exact LeO.none _)
   | (with_reducible refine LeO.ite ?_ ?_)
   | (with_reducible refine LeO.bind ?_ (fun _ => ?_))
   | exact ih0 _ _ _
   | exact LeO.none _
   | refine LeO.ite ?_ ?_
   | refine LeO.bind ?_ (fun _ => ?_)
def slices_Reverse_int_int.T3 : Bool × List (List Nat × List Nat) := (true, [([], []), ([], []), ([], []), ([], []), ([], []), ([], []), ([4, 5], [4, 5]), ([6], [6]), ([], []), ([], []), ([8, 9], [8, 9]), ([10], [10]), ([0, 1, 0, 1, 4, 5, 6, 7, 11], [0, 1]), ([12, 7, 0, 1, 4, 5, 6, 7, 11], [7, 12]), ([2, 3, 0, 1, 2, 3, 4, 5, 6, 7, 8, 9, 10, 11, 12, 13], [2, 3]), ([14, 11, 13, 0, 1, 2, 3, 4, 5, 6, 7, 8, 9, 10, 11, 12, 13], [11, 14])])
def slices_Reverse_int_int.B3 : List Nat := [0, 0, 0, 0, 0, 0, 48, 112, 0, 0, 768, 1792, 4083, 8179, 16383, 32767]
theorem slices_Reverse_int_int.tab3 : rtab .any (opsOf Try.f41 3) = slices_Reverse_int_int.T3 := by kernel_rfl
theorem slices_Reverse_int_int.bits3 : waitsOk slices_Reverse_int_int.T3.2 slices_Reverse_int_int.B3 = true := by kernel_rfl
set_option maxHeartbeats 8000000 in
set_option maxRecDepth 100000 in
theorem slices_Reverse_int_int.calls (k : Nat) (P0_ : Nat → Prop) (u9000_ : Value) (l0 : List Int) (r : List Int) (w0 w : World) (hB : Below w0.heap.size w0 w) (ho0 : Kd.R (Kd.int .i64) 3 w w0.heap.size P0_ u9000_ l0) (h : slices_Reverse_int_int.f k l0 = some r) :
  Calls Try.prog 41 #[u9000_] w fun e w' => e = .returned (.tuple #[]) ∧ Kd.R (Kd.int .i64) 3 w' w0.heap.size (fun k_ => (P0_ k_ ∨ w.heap.size ≤ k_)) u9000_ r ∧ Below w0.heap.size w0 w' ∧ Kept w w' (fun k_ => P0_ k_) := by
 have HO0 := sd_ (show Kd.R (Kd.int .i64) 3 w w0.heap.size (fun k_ => (P0_ k_ ∨ w.heap.size ≤ k_)) u9000_ l0 from Kd.R_mono ho0 (fun k_ hk => (.inl hk)))
 have HK := sd_ (Kept.refl w (fun k_ => P0_ k_))
 have HW0 := sd_ hB.size
 have HB := sd_ hB
 clear hB
 have H : (slices_Reverse_int_int.l0 k l0 0 (wrap64 ((l0.length : Int) - 1))) = some r := h
 clear h
 have H' := sd_ H
 clear H
 obtain ⟨Ao2, co2, eo2⟩ := Kd.R_slice HO0.out
 subst eo2
 go_enter Try.func41, Try.ntmps41
 go_wp2
 go_loopg [2, 3] k (fun kq v2 v3 w' => ∃ (x0_1 : List Int) (x2_1 : Int) (x3_1 : Int), v2 = .int .i64 x2_1 ∧ v3 = .int .i64 x3_1 ∧ Aside0 (slices_Reverse_int_int.l0 kq x0_1 x2_1 x3_1 = some r) ∧ Aside0 (kq ≤ k) ∧ Aside0 (Kd.R (Kd.int .i64) 3 w' w0.heap.size (fun k_ => (P0_ k_ ∨ w.heap.size ≤ k_)) (.slice Ao2 l0.length co2) x0_1) ∧ Aside0 (Kept w w' (fun k_ => P0_ k_)) ∧ Aside0 (Below w0.heap.size w0 w'))
 case atStart => exact ⟨(l0), (0), (wrap64 ((l0.length : Int) - 1)), (by first | rfl | (simp; done) | (simp [*]; done) | (simp [bne]; done)), (by first | rfl | (simp; done) | (simp [*]; done) | (simp [bne]; done)), H', ⟨Nat.le_refl _⟩, ⟨by (with_reducible repeat (first | apply Kd.R_alloc | apply Kd.R_drewN | apply Kd.R_drew)); exact HO0.out⟩, ⟨by repeat (first | (with_reducible first | exact HK.out | apply Kept.alloc | apply Kept.drewN | apply Kept.drew) | exact HK.out)⟩, ⟨by repeat (first | (with_reducible first | exact HB.out | apply ba_ | apply pd_ | apply d1_) | exact HB.out)⟩⟩
 case round =>
  clear H'
  try clear p2
  obtain ⟨x0_1, x2_1, x3_1, rfl, rfl, HA, HK1, HO_0, HK, HB⟩ := hrel
  have hl0_1 := (Kd.R_reads' HO_0.out).1
  rw [hl0_1] at HO_0
  (try simp only [hl0_1])
  cases gk with
  | zero => exact absurd HA.out (by simp [slices_Reverse_int_int.l0])
  | succ k1 =>
   have H := HA.out
   clear HA
   simp only [slices_Reverse_int_int.l0] at H
   by_cases c3 : x2_1 < x3_1
   ·rw [if_pos c3] at H
    have c3b0 : decide (x2_1 < x3_1) = true := dt_ c3
    clear c3
    by_cases c4 : 0 ≤ x3_1
    ·rw [if_pos c4] at H
     have c4b0 : decide (0 ≤ x3_1) = true := dt_ c4
     clear c4
     by_cases c5 : x3_1 < (x0_1.length : Int)
     ·rw [if_pos c5] at H
      have c5b0 : decide (x3_1 < (x0_1.length : Int)) = true := dt_ c5
      clear c5
      by_cases c6 : 0 ≤ x2_1
      ·rw [if_pos c6] at H
       have c6b0 : decide (0 ≤ x2_1) = true := dt_ c6
       clear c6
       by_cases c7 : x2_1 < (x0_1.length : Int)
       ·rw [if_pos c7] at H
        have c7b0 : decide (x2_1 < (x0_1.length : Int)) = true := dt_ c7
        clear c7
        obtain ⟨y111, hy111⟩ : ∃ y_ : List Int, y_ = (x0_1.set (x2_1 : Int).toNat (rd x0_1 x3_1)) := ⟨_, rfl⟩
        replace H : (slices_Reverse_int_int.l0 k1 (y111.set (x3_1 : Int).toNat (rd x0_1 x2_1)) (wrap64 (x2_1 + 1)) (wrap64 (x3_1 - 1))) = some r := by first | (rw [hy111]; with_reducible exact H) | (have H2_ := (Option.bind_some _ _).symm.trans H; rw [hy111]; with_reducible exact H2_) | (have H2_ := (Option.bind_some _ _).symm.trans H; with_reducible exact H2_) | with_reducible exact H | (rw [hy111]; exact H) | exact H
        have Ny111 := sd_ hy111
        clear hy111
        obtain ⟨y112, hy112⟩ : ∃ y_ : List Int, y_ = (y111.set (x3_1 : Int).toNat (rd x0_1 x2_1)) := ⟨_, rfl⟩
        replace H : (slices_Reverse_int_int.l0 k1 y112 (wrap64 (x2_1 + 1)) (wrap64 (x3_1 - 1))) = some r := by first | (rw [hy112]; with_reducible exact H) | (have H2_ := (Option.bind_some _ _).symm.trans H; rw [hy112]; with_reducible exact H2_) | (have H2_ := (Option.bind_some _ _).symm.trans H; with_reducible exact H2_) | with_reducible exact H | (rw [hy112]; exact H) | exact H
        have Ny112 := sd_ hy112
        clear hy112
        have H' := sd_ H
        clear H
        try go_wp2
        replace HO_0 := sd_ (Kd.R_drew HO_0.out)
        replace HK := sd_ (Kept.drew HK.out)
        replace HB := sd_ (d1_ HB.out)
        have p109 : 0 ≤ (x3_1 : Int) := od_ (by first | (with_reducible assumption) | assumption)
        have q109 : x3_1 < (x0_1.length : Int) := od_ (by first | (with_reducible assumption) | assumption)
        obtain ⟨ad109, e109, hx109_0⟩ := Kd.at_int (Kd.R_reads' HO_0.out).2.2 x3_1 p109 q109
        cases e109
        replace p109 := eq_true p109
        replace q109 := eq_true q109
        have p110 : 0 ≤ (x2_1 : Int) := od_ (by first | (with_reducible assumption) | assumption)
        have q110 : x2_1 < (x0_1.length : Int) := od_ (by first | (with_reducible assumption) | assumption)
        obtain ⟨ad110, e110, hx110_0⟩ := Kd.at_int (Kd.R_reads' HO_0.out).2.2 x2_1 p110 q110
        obtain rfl : ad109 = ad110 := (by injection e110)
        replace p110 := eq_true p110
        replace q110 := eq_true q110
        have p8 : 0 ≤ (x2_1 : Int) := od_ (by first | (with_reducible assumption) | assumption)
        have q8 : (x2_1 : Int) < ((x0_1.length : Int) : Int) := od_ (by first | (with_reducible assumption) | assumption)
        obtain ⟨go8, co8, eo8, gb8, gl8, cl8, HG8⟩ := Kd.R_form HO_0.out (by omega)
        (first | cases eo8 | (injection eo8 with ea_ en_ ec_; (first | subst ea_ | (injection ea_ with ea_; subst ea_)); subst ec_; clear en_))
        have GB8 := sd_ gb8
        have GG8 := sd_ HG8
        clear gb8 gl8 HG8
        have HMgo8 := sd_ (show (P0_ go8 ∨ w.heap.size ≤ go8) from (HO_0.out.1 _ rfl))
        (first | simp only [add_plain] at hx109_0 | skip)
        (first | simp only [add_plain] at hx110_0 | skip)
        obtain ⟨hx8_0, hf8_0⟩ := Kd.R_celln 0 HO_0.out (x2_1 : Int) p8 q8
        replace p8 := eq_true p8
        replace q8 := eq_true q8
        have HP11 := Kd.R_putn HO_0.out (x2_1 : Int) (rd x0_1 x3_1)
        rw [← Ny111.out] at HP11
        have HQ11 := sd_ HP11
        clear HP11
        have p9 : 0 ≤ (x3_1 : Int) := od_ (by first | (with_reducible assumption) | assumption)
        have q9 : (x3_1 : Int) < ((x0_1.length : Int) : Int) := od_ (by first | (with_reducible assumption) | assumption)
        obtain ⟨hx9_0, hf9_0⟩ := Kd.R_celln 0 HQ11.out (x3_1 : Int) p9 q9
        replace p9 := eq_true p9
        replace q9 := eq_true q9
        have HP12 := Kd.R_putn HQ11.out (x3_1 : Int) (rd x0_1 x2_1)
        rw [← Ny112.out] at HP12
        have HQ12 := sd_ HP12
        clear HP12
        refine start_ (n := 16) (S := fun w' => w'.cell? ⟨go8, (x3_1).toNat, none⟩ = some (.int .i64 (rd x0_1 x3_1)) ∧ w'.cell? ⟨go8, (x2_1).toNat, none⟩ = some (.int .i64 (rd x0_1 x2_1))) (ds := [13, 15]) (Array.replicate 16 false) (by kernel_rfl) rfl rfl ⟨hx109_0, hx110_0⟩ (fun hHeld => ?_); refine with_tabW slices_Reverse_int_int.tab3 slices_Reverse_int_int.bits3 (fun HT_ HW_ => ?_)
        generalize wr.drew = w10 at HO_0 HK HB GG8 HQ11 HQ12 hf8_0 hf9_0 hx109_0 hx110_0 hx8_0 hx9_0 hHeld ⊢
        refine pu_ (v := ?_) (a' := ?_) 0 14 (bz 16 1) rfl rfl HT_ (by kernel_rfl) (fun _ _ _ h => h) (by rfl) ?_ ?_ ?_
        rotate_left; (intro w'; go_simp; with_reducible rfl); rotate_left; (simp only [Act.put, ls_, lz_, lc_, i64_w, i32_w]; rfl)
        refine pu_ (v := ?_) (a' := ?_) 1 15 (bz 16 3) rfl rfl HT_ (by kernel_rfl) (fun _ _ _ h => h) (by rfl) ?_ ?_ ?_
        rotate_left; (intro w'; go_simp; with_reducible rfl); rotate_left; (simp only [Act.put, ls_, lz_, lc_, i64_w, i32_w]; rfl)
        refine pu_ (v := ?_) (a' := ?_) 2 16 (bz 16 7) rfl rfl HT_ (by kernel_rfl) (fun _ _ _ h => h) (by rfl) ?_ ?_ ?_
        rotate_left; (intro w'; go_simp; with_reducible rfl); rotate_left; (simp only [Act.put, ls_, lz_, lc_, i64_w, i32_w]; rfl)
        refine pu_ (v := ?_) (a' := ?_) 3 17 (bz 16 15) rfl rfl HT_ (by kernel_rfl) (fun _ _ _ h => h) (by rfl) ?_ ?_ ?_
        rotate_left; (intro w'; go_simp; with_reducible rfl); rotate_left; (simp only [Act.put, ls_, lz_, lc_, i64_w, i32_w]; rfl)
        refine pu_ (v := ?_) (a' := ?_) 4 18 (bz 16 31) rfl rfl HT_ (by kernel_rfl) (fun _ _ _ h => h) (by rfl) ?_ ?_ ?_
        rotate_left; (intro w'; go_simp; with_reducible rfl); rotate_left; (simp only [Act.put, ls_, lz_, lc_, i64_w, i32_w]; rfl)
        refine pu_ (v := ?_) (a' := ?_) 5 19 (bz 16 63) rfl rfl HT_ (by kernel_rfl) (fun _ _ _ h => h) (by rfl) ?_ ?_ ?_
        rotate_left; (intro w'; go_simp; with_reducible rfl); rotate_left; (simp only [Act.put, ls_, lz_, lc_, i64_w, i32_w]; rfl)
        refine pu_ (v := ?_) (a' := ?_) 6 20 (bz 16 127) rfl rfl HT_ (by kernel_rfl) (fun _ _ _ h => h) (by rfl) ?_ ?_ ?_
        rotate_left; (intro w'; go_simp; with_reducible rfl); rotate_left; (simp only [Act.put, ls_, lz_, lc_, i64_w, i32_w]; rfl)
        refine pu_ (v := ?_) (a' := ?_) 8 22 (bz 16 383) rfl rfl HT_ (by kernel_rfl) (fun _ _ _ h => h) (by rfl) ?_ ?_ ?_
        rotate_left; (intro w'; go_simp; with_reducible rfl); rotate_left; (simp only [Act.put, ls_, lz_, lc_, i64_w, i32_w]; rfl)
        refine pu_ (v := ?_) (a' := ?_) 9 23 (bz 16 895) rfl rfl HT_ (by kernel_rfl) (fun _ _ _ h => h) (by rfl) ?_ ?_ ?_
        rotate_left; (intro w'; go_simp; with_reducible rfl); rotate_left; (simp only [Act.put, ls_, lz_, lc_, i64_w, i32_w]; rfl)
        refine pu_ (v := ?_) (a' := ?_) 10 24 (bz 16 1919) rfl rfl HT_ (by kernel_rfl) (fun _ _ _ h => h) (by rfl) ?_ ?_ ?_
        rotate_left; (intro w'; go_simp; with_reducible rfl); rotate_left; (simp only [Act.put, ls_, lz_, lc_, i64_w, i32_w]; rfl)
        refine ta_ (v := ?_) (a' := ?_) 7 21 (bz 16 2047) rfl rfl HT_ HW_ (by kernel_rfl) (fun _ _ _ h => h) (by rfl) ?_ hHeld ?_ ?_
        rotate_left
        ·rintro w' ⟨s0, s1⟩
         go_simp
         with_reducible rfl
        rotate_left
        ·simp only [Act.put, ls_, lz_, lc_, i64_w, i32_w]
         rfl
        refine ta_ (v := ?_) (a' := ?_) 11 25 (bz 16 4095) rfl rfl HT_ HW_ (by kernel_rfl) (fun _ _ _ h => h) (by rfl) ?_ hHeld ?_ ?_
        rotate_left
        ·rintro w' ⟨s0, s1⟩
         go_simp
         with_reducible rfl
        rotate_left
        ·simp only [Act.put, ls_, lz_, lc_, i64_w, i32_w]
         rfl
        refine pu_ (v := ?_) (a' := ?_) 12 26 (bz 16 8191) rfl rfl HT_ (by kernel_rfl) (fun _ _ _ h => h) (by rfl) ?_ ?_ ?_
        rotate_left; (intro w'; go_simp; with_reducible rfl); rotate_left; (simp only [Act.put, ls_, lz_, lc_, i64_w, i32_w]; rfl)
        refine last_ (i := 13) (N := none) (bz 16 16383) rfl rfl (one_of HT_.out (by kernel_rfl)) (by decide) (fun K hK => ?_)
        refine skip_ (w1 := ?_) (by rfl) rfl ?_ ?_
        rotate_left
        ·go_simp
         rfl
        refine hK.out _ _ ?_
        clear hK K
        refine pu_ (v := ?_) (a' := ?_) 14 27 (bz 16 32767) rfl rfl HT_ (by kernel_rfl) (fun _ _ _ h => h) (by rfl) ?_ ?_ ?_
        rotate_left; (intro w'; go_simp; with_reducible rfl); rotate_left; (simp only [Act.put, ls_, lz_, lc_, i64_w, i32_w]; rfl)
        refine last_ (i := 15) (N := none) (bz 16 65535) rfl rfl (one_of HT_.out (by kernel_rfl)) (by decide) (fun K hK => ?_)
        refine skip_ (w1 := ?_) (by rfl) rfl ?_ ?_
        rotate_left
        ·go_simp
         rfl
        refine hK.out _ _ ?_
        clear hK K
        refine done_ (done_of HT_.out (by kernel_rfl)) ?_
        try go_wp2
        (try simp only [← hl0_1])
        go_roundg k1
        case measure => have := HK1.out; omega
        case rel => exact ⟨(y112), (wrap64 (x2_1 + 1)), (wrap64 (x3_1 - 1)), (by first | rfl | (simp; done) | (simp [*]; done) | (simp [bne]; done)), (by first | rfl | (simp; done) | (simp [*]; done) | (simp [bne]; done)), H', ⟨by have := HK1.out; omega⟩, ⟨by (try simp only [hl0_1]); (with_reducible repeat (first | apply Kd.R_alloc | apply Kd.R_drewN | apply Kd.R_drew)); exact HQ12.out⟩, ⟨by repeat (first | (with_reducible first | exact HK.out | apply Kept.alloc | apply Kept.drewN | apply Kept.drew | refine Kept.setCell ?_ HMgo8.out _ | refine Kept.setCell ?_ HMgo8.out _) | exact HK.out)⟩, ⟨by repeat (first | (with_reducible first | exact HB.out | apply ba_ | apply pd_ | apply d1_ | refine bs_ ?_ GB8.out | refine bs_ ?_ GB8.out) | exact HB.out)⟩⟩
       ·rw [if_neg c7] at H
        exact absurd H (by simp)
      ·rw [if_neg c6] at H
       exact absurd H (by simp)
     ·rw [if_neg c5] at H
      exact absurd H (by simp)
    ·rw [if_neg c4] at H
     exact absurd H (by simp)
   ·rw [if_neg c3] at H
    have c3b0 : decide (x2_1 < x3_1) = false := df_ c3
    clear c3
    obtain rfl := Option.some.inj H
    go_wp2
    first | go_end0 | ((try simp only [Exit.inBlock, Exit.then]); refine bodyPost_ret (results_none rfl _ _ _) rfl ?_)
    exact ⟨by first | rfl | (simp [errW_none, errW_some] <;> rfl) | (simp [*, errW_none, errW_some] <;> rfl), (by first | exact (by (with_reducible repeat (first | apply Kd.R_alloc | apply Kd.R_drewN | apply Kd.R_drew)); exact HO_0.out) | (simp only [hl0_1]; exact (by (with_reducible repeat (first | apply Kd.R_alloc | apply Kd.R_drewN | apply Kd.R_drew)); exact HO_0.out))), by repeat (first | (with_reducible first | exact HB.out | apply ba_ | apply pd_ | apply d1_) | exact HB.out), by repeat (first | (with_reducible first | exact HK.out | apply Kept.alloc | apply Kept.drewN | apply Kept.drew) | exact HK.out)⟩

/-! ### slices_Compact_int_int: function 42 -/
/-- A sorted row, each once: rising. -/
theorem compact_rises {s : List Int} (h : s.Pairwise (fun x y => x ≤ y)) : (Go.Lib.compact s).Pairwise (fun x y => x < y) := by
 have hg : ∀ i j : Nat, i ≤ j → j < s.length → s.toArray[i]! ≤ s.toArray[j]! := by
  intro i j hij hj
  rw [getElem!_pos s.toArray i (by simpa using by omega), getElem!_pos s.toArray j (by simpa using hj)]
  rcases Nat.lt_or_ge i j with c | c
  ·exact List.pairwise_iff_getElem.1 h i j (by omega) hj c
  ·obtain rfl : i = j := by omega
   exact Int.le_refl _
 unfold Go.Lib.compact Go.Lib.compactUpTo
 rw [List.pairwise_map]
 have hp : (List.range s.length).Pairwise (fun i j => i < j) := List.pairwise_lt_range
 have hf := hp.filter (Go.Lib.keeps s.toArray)
 refine hf.imp_of_mem ?_
 intro i j hi hj hij
 obtain ⟨hj1, hj2⟩ := List.mem_filter.1 hj
 have hjl : j < s.length := List.mem_range.1 hj1
 unfold Go.Lib.keeps at hj2
 have hk := od_ hj2
 have h1 := hg i (j - 1) (by omega) (by omega)
 have h2 := hg (j - 1) j (by omega) hjl
 have h3 : s.toArray[j]! ≠ s.toArray[j - 1]! := hk.resolve_left (by omega)
 have := Int.lt_iff_le_and_ne.2 ⟨h2, Ne.symm h3⟩
 omega
def slices_Compact_int_int.f (l0 : List Int) : Option (List Int) := if 1 ≤ l0.length ∧ l0.length ≤ 1000000000 then some (Go.Lib.compact l0) else none
set_option maxHeartbeats 8000000 in
set_option maxRecDepth 100000 in
open Go.Sort Go.Maps Go.ChangeMaps Go.MapKept in
theorem slices_Compact_int_int.calls (P0_ : Nat → Prop) (u9000_ : Value) (l0 : List Int) (r : List Int) (w0 w : World) (hB : Below w0.heap.size w0 w) (ho0 : Kd.R (Kd.int .i64) 3 w w0.heap.size P0_ u9000_ l0) (h : slices_Compact_int_int.f l0 = some r) :
  Calls Try.prog 42 #[u9000_] w fun e w' => ∃ v0_ : Value, e = .returned (v0_) ∧ Kd.R (Kd.int .i64) 3 w' w0.heap.size (fun k_ => (P0_ k_ ∨ w.heap.size ≤ k_)) v0_ r ∧ Below w0.heap.size w0 w' ∧ Kept w w' (fun k_ => P0_ k_) := by
 unfold slices_Compact_int_int.f at h
 split at h
 rotate_left
 ·cases h
 rename_i hl
 have h := Option.some.inj h
 have hok := ho0.1
 obtain ⟨hlen, ⟨h0, h00⟩ | ⟨g, cap, cur, rfl, hg, hb, hn, hcap, hcs, htk⟩⟩ := Kd.own_of_R ho0
 ·omega
 have hP : P0_ g := hok g rfl
 rw [Nat.mul_one] at htk hcs
 have HH := holds_of_blockI (ss := l0) hb (htk.trans (encs_int l0))
 refine (Try.slices_Compact_int g 0 cap l0 w HH (by omega) hn).mono ?_
 rintro e w3 ⟨rfl, n3, rfl⟩
 have hm : r.length ≤ l0.length := by rw [← h]; exact Go.Lib.compact_length_le l0
 rw [h]
 have hcl : (r ++ List.replicate (l0.length - r.length) 0).length = l0.length := by simp; omega
 have hG := grownBy_sortedI (w := w) (g := g) (n := n3) (os := #[]) (r ++ List.replicate (l0.length - r.length) 0).toArray
 have hH := heap_sortedI (n := n3) (os := #[]) (r ++ List.replicate (l0.length - r.length) 0).toArray hb
 rw [grow_empty] at hG hH
 have hT := take_putCellsI cur (r ++ List.replicate (l0.length - r.length) 0) (by rw [hcl]; omega)
 rw [hcl] at hT
 refine ⟨_, rfl, ?_, sort_below hB hG hg, Kept.of_grown hG (Kept.refl w _) (fun k hk => .inl (by injection hk with hk; rw [← hk]; exact hP))⟩
 refine Kd.R_of_own ⟨by simp [encs], .inr ⟨g, cap, _, rfl, hg, hH, by omega, hcap, by simp [putCells]; omega, ?_⟩⟩ (fun k hk => .inl (hok k hk))
 rw [Nat.mul_one, encs_int]
 have e1 := congrArg (List.take r.length) hT
 rw [List.take_take, Nat.min_eq_left hm, List.map_append] at e1
 rw [e1, List.take_left' (by simp)]

/-! ### voices_candidates: function 32 -/
mutual
def voices_candidates.l0 : Nat → List (S45) → Bool → List Int → List (S45) → Int → Int → Option (List Int)
 | 0, _, _, _, _, _, _ => none
 | k + 1, x1, x2, x7, x14, x15, x16 => if x16 < x15 then (if 0 ≤ x16 then (if x16 < (x14.length : Int) then (voices_candidates.l1 k x1 x2 x7 x14 x15 x16 x1 (x1.length : Int) 0 ((rd_T45 x14 x16).f0) ((rd_T45 x14 x16).f1) ((rd_T45 x14 x16).f2) ((rd_T45 x14 x16).f3)) else (none)) else (none)) else ((slices_Sort_int_int.f x7).bind fun t126 => (if x2 = true then ((slices_Compact_int_int.f t126).bind fun t127 => (some t127)) else ((slices_Reverse_int_int.f k t126).bind fun t130 => ((slices_Compact_int_int.f t130).bind fun t131 => (some t131)))))
def voices_candidates.l1 : Nat → List (S45) → Bool → List Int → List (S45) → Int → Int → List (S45) → Int → Int → Int → Int → Int → Int → Option (List Int)
 | 0, _, _, _, _, _, _, _, _, _, _, _, _, _ => none
 | k + 1, x1, x2, x7, x14, x15, x16, x20, x21, x22, x118000, x118001, x118002, x118003 => if x22 < x21 then (if 0 ≤ x22 then (if x22 < (x20.length : Int) then (if x2 = true then (if (x2 == (decide ((wrap64 (x118002 - ((rd_T45 x20 x22).f0))) > 0))) = true then (if (wrap64 (x118002 - ((rd_T45 x20 x22).f0))) = 0 then (voices_candidates.l1 k x1 x2 x7 x14 x15 x16 x20 x21 (wrap64 (x22 + 1)) x118000 x118001 x118002 x118003) else (if x7.length < 17592186044416 then (voices_candidates.l1 k x1 x2 (x7 ++ [wrap64 (x118002 - ((rd_T45 x20 x22).f0))]) x14 x15 x16 x20 x21 (wrap64 (x22 + 1)) x118000 x118001 x118002 x118003) else (none))) else (voices_candidates.l1 k x1 x2 x7 x14 x15 x16 x20 x21 (wrap64 (x22 + 1)) x118000 x118001 x118002 x118003)) else (if (x2 == (decide ((wrap64 (x118000 - ((rd_T45 x20 x22).f2))) > 0))) = true then (if (wrap64 (x118000 - ((rd_T45 x20 x22).f2))) = 0 then (voices_candidates.l1 k x1 x2 x7 x14 x15 x16 x20 x21 (wrap64 (x22 + 1)) x118000 x118001 x118002 x118003) else (if x7.length < 17592186044416 then (voices_candidates.l1 k x1 x2 (x7 ++ [wrap64 (x118000 - ((rd_T45 x20 x22).f2))]) x14 x15 x16 x20 x21 (wrap64 (x22 + 1)) x118000 x118001 x118002 x118003) else (none))) else (voices_candidates.l1 k x1 x2 x7 x14 x15 x16 x20 x21 (wrap64 (x22 + 1)) x118000 x118001 x118002 x118003))) else (none)) else (none)) else (voices_candidates.l0 k x1 x2 x7 x14 x15 (wrap64 (x16 + 1)))
end
def voices_candidates.f (k : Nat) (l0 : List (S45)) (l1 : List (S45)) (a2 : Bool) : Option (List Int) := voices_candidates.l0 k l1 a2 (([0] : List Int)) l0 (l0.length : Int) 0
theorem voices_candidates.mono_l : ∀ k, (∀ y0 y1 y2 y3 y4 y5, LeO (voices_candidates.l0 k y0 y1 y2 y3 y4 y5) (voices_candidates.l0 (k + 1) y0 y1 y2 y3 y4 y5)) ∧ (∀ y0 y1 y2 y3 y4 y5 y6 y7 y8 y9 y10 y11 y12, LeO (voices_candidates.l1 k y0 y1 y2 y3 y4 y5 y6 y7 y8 y9 y10 y11 y12) (voices_candidates.l1 (k + 1) y0 y1 y2 y3 y4 y5 y6 y7 y8 y9 y10 y11 y12))
 | 0 => ⟨fun _ _ _ _ _ _ r h => by simp [voices_candidates.l0] at h, fun _ _ _ _ _ _ _ _ _ _ _ _ _ r h => by simp [voices_candidates.l1] at h⟩
 | k + 1 => by
  obtain ⟨ih0, ih1⟩ := voices_candidates.mono_l k
  refine ⟨?_, ?_⟩
  ·intro y0 y1 y2 y3 y4 y5
   unfold voices_candidates.l0
   repeat' first
   | (with_reducible exact ih0 _ _ _ _ _ _)
   | (with_reducible exact ih1 _ _ _ _ _ _ _ _ _ _ _ _ _)
   | (with_reducible exact slices_Reverse_int_int.mono _ _)
   | (with_reducible exact LeO.refl _)
   | (with_reducible exact LeO.none _)
   | (with_reducible refine LeO.ite ?_ ?_)
   | (with_reducible refine LeO.bind ?_ (fun _ => ?_))
   | exact ih0 _ _ _ _ _ _
   | exact ih1 _ _ _ _ _ _ _ _ _ _ _ _ _
   | exact slices_Reverse_int_int.mono _ _
   | exact LeO.none _
   | refine LeO.ite ?_ ?_
   | refine LeO.bind ?_ (fun _ => ?_)
  ·intro y0 y1 y2 y3 y4 y5 y6 y7 y8 y9 y10 y11 y12
   unfold voices_candidates.l1
   repeat' first
   | (with_reducible exact ih0 _ _ _ _ _ _)
   | (with_reducible exact ih1 _ _ _ _ _ _ _ _ _ _ _ _ _)
   | (with_reducible exact slices_Reverse_int_int.mono _ _)
   | (with_reducible exact LeO.refl _)
   | (with_reducible exact LeO.none _)
   | (with_reducible refine LeO.ite ?_ ?_)
   | (with_reducible refine LeO.bind ?_ (fun _ => ?_))
   | exact ih0 _ _ _ _ _ _
   | exact ih1 _ _ _ _ _ _ _ _ _ _ _ _ _
   | exact slices_Reverse_int_int.mono _ _
   | exact LeO.none _
   | refine LeO.ite ?_ ?_
   | refine LeO.bind ?_ (fun _ => ?_)
theorem voices_candidates.mono : ∀ a0 a1 a2 k, LeO (voices_candidates.f k a0 a1 a2) (voices_candidates.f (k + 1) a0 a1 a2) := by
 intro a0 a1 a2 k
 obtain ⟨ih0, ih1⟩ := voices_candidates.mono_l k
 unfold voices_candidates.f
 repeat' first
   | (with_reducible exact ih0 _ _ _ _ _ _)
   | (with_reducible exact ih1 _ _ _ _ _ _ _ _ _ _ _ _ _)
   | (with_reducible exact slices_Reverse_int_int.mono _ _)
   | (with_reducible exact LeO.refl _)
   | (with_reducible exact LeO.none _)
   | (with_reducible refine LeO.ite ?_ ?_)
   | (with_reducible refine LeO.bind ?_ (fun _ => ?_))
   | exact ih0 _ _ _ _ _ _
   | exact ih1 _ _ _ _ _ _ _ _ _ _ _ _ _
   | exact slices_Reverse_int_int.mono _ _
   | exact LeO.none _
   | refine LeO.ite ?_ ?_
   | refine LeO.bind ?_ (fun _ => ?_)
set_option maxHeartbeats 8000000 in
set_option maxRecDepth 100000 in
theorem voices_candidates.calls (k : Nat) (A0 : Option Addr) (c0 : Nat) (l0 : List (S45)) (A1 : Option Addr) (c1 : Nat) (l1 : List (S45)) (a2 : Bool) (r : List Int) (w : World) (hr0 : Kd.C k45 w A0 l0.length l0) (hc0 : l0.length ≤ c0) (hr1 : Kd.C k45 w A1 l1.length l1) (hc1 : l1.length ≤ c1) (h : voices_candidates.f k l0 l1 a2 = some r) :
  Calls Try.prog 32 #[.slice A0 l0.length c0, .slice A1 l1.length c1, .bool a2] w fun e w' => ∃ v0_ : Value, e = .returned (v0_) ∧ Kd.R (Kd.int .i64) 3 w' w.heap.size (fun _ => True) v0_ r ∧ Below w.heap.size w w' := by
 have hu45 := Try.underlying45
 have HR0 := sd_ hr0
 have HC0 := sd_ hc0
 clear hr0 hc0
 have HR1 := sd_ hr1
 have HC1 := sd_ hc1
 clear hr1 hc1
 have HB := sd_ (Below.refl w.heap.size w)
 have H : (voices_candidates.l0 k l1 a2 (([0] : List Int)) l0 (l0.length : Int) 0) = some r := h
 clear h
 obtain ⟨y113, hy113⟩ : ∃ y_ : List Int, y_ = (([0] : List Int)) := ⟨_, rfl⟩
 replace H : (voices_candidates.l0 k l1 a2 y113 l0 (l0.length : Int) 0) = some r := by first | (rw [hy113]; with_reducible exact H) | (have H2_ := (Option.bind_some _ _).symm.trans H; rw [hy113]; with_reducible exact H2_) | (have H2_ := (Option.bind_some _ _).symm.trans H; with_reducible exact H2_) | with_reducible exact H | (rw [hy113]; exact H) | exact H
 have Ny113 := sd_ hy113
 clear hy113
 have H' := sd_ H
 clear H
 go_enter Try.func32, Try.ntmps32
 go_wp2_with (first | ((with_reducible refine gate_dst (N := 13) rfl ?_); refine Kd.R_lit (Kd.int .i64) _ 3 ?hg (N := 13) ?hd (xs := ([0] : List Int)) (inner := [.int .i64 0]) (ok := fun _ => True) (okp := fun _ => True) ?hr ?hp (fun _ hk => hk) trivial (Below.refl _ _) (Nat.le_refl _) (by simp) ?_; (case hd => rfl); (case hg => rfl); (case hr => first | (go_simp; done) | (go_simp; rfl)); (case hp => exact (Reps.one (show Kd.M (Kd.int .i64) _ _ _ 0 [.int .i64 0] from rfl) (Reps.none _ _))); intro v114 w4 ho5 hb hg_ hnew_; clear hg_ hnew_; (first | rw [← Ny113.out] at ho5 | (simp only [Int.reduceToNat] at ho5; rw [← Ny113.out] at ho5)); have HO115 := sd_ (Kd.R_lower ho5 (bz_ (bb_ HB.out e0_))); replace HB := hb_ HB e0_ hb; clear hb ho5))
 go_loopg [7, 16] k (fun kq v7 v16 w' => ∃ (x7_1 : List Int) (x16_1 : Int), v16 = .int .i64 x16_1 ∧ Aside0 (voices_candidates.l0 kq l1 a2 x7_1 l0 (l0.length : Int) x16_1 = some r) ∧ Aside0 (kq ≤ k) ∧ Aside0 (Kd.R (Kd.int .i64) 3 w' w.heap.size (fun _ => True) v7 x7_1) ∧ Aside0 (Below w.heap.size w w'))
 case atStart => exact ⟨(y113), (0), (by first | rfl | (simp; done) | (simp [*]; done) | (simp [bne]; done)), H', ⟨Nat.le_refl _⟩, ⟨by (with_reducible repeat (first | apply Kd.R_alloc | apply Kd.R_drewN | apply Kd.R_drew)); exact HO115.out⟩, ⟨by repeat (first | (with_reducible first | exact HB.out | apply ba_ | apply pd_ | apply d1_) | exact HB.out)⟩⟩
 case round =>
  clear H'
  try clear c1; try clear p2; try clear c3
  obtain ⟨x7_1, x16_1, rfl, HA, HK1, HO_7, HB⟩ := hrel
  cases gk with
  | zero => exact absurd HA.out (by simp [voices_candidates.l0])
  | succ k1 =>
   have H := HA.out
   clear HA
   simp only [voices_candidates.l0] at H
   by_cases c6 : x16_1 < (l0.length : Int)
   ·rw [if_pos c6] at H
    have c6b0 : decide (x16_1 < (l0.length : Int)) = true := dt_ c6
    clear c6
    by_cases c7 : 0 ≤ x16_1
    ·rw [if_pos c7] at H
     have c7b0 : decide (0 ≤ x16_1) = true := dt_ c7
     clear c7
     by_cases c8 : x16_1 < (l0.length : Int)
     ·rw [if_pos c8] at H
      have c8b0 : decide (x16_1 < (l0.length : Int)) = true := dt_ c8
      clear c8
      have H' := sd_ H
      clear H
      have p116 : 0 ≤ (x16_1 : Int) := od_ (by first | (with_reducible assumption) | assumption)
      have q116 : x16_1 < (l0.length : Int) := od_ (by first | (with_reducible assumption) | assumption)
      obtain ⟨ad116, e116, hx116_0, hx116_1, hx116_2, hx116_3⟩ := at_T45 HR0.out x16_1 p116 q116
      cases e116
      replace hx116_0 := (HB.out.cell (wb_ w _ hx116_0)).trans hx116_0
      replace hx116_1 := (HB.out.cell (wb_ w _ hx116_1)).trans hx116_1
      replace hx116_2 := (HB.out.cell (wb_ w _ hx116_2)).trans hx116_2
      replace hx116_3 := (HB.out.cell (wb_ w _ hx116_3)).trans hx116_3
      replace p116 := eq_true p116
      replace q116 := eq_true q116
      go_wp2_with (first | ((with_reducible refine gate_dst (N := 9) rfl ?_); refine box_event ?hg (N := 9) ?hd (cs := #[.int .i64 0, .int .i64 0, .int .i64 0, .int .i64 0]) (t := 45) ?hr ?_; (case hd => rfl); (case hg => rfl); (case hr => first | (go_simp; done) | (go_simp; rfl)); intro gb117 hg w9 hbox hb; have BK117 := sd_ hbox; have GW117 := gw_ HB e0_ hg; have GE117 := GW117; replace HO_7 := sd_ (Kd.R_below (by (with_reducible repeat (first | apply Kd.R_alloc | apply Kd.R_drewN | apply Kd.R_drew)); exact HO_7.out) hb); replace HB := hb_ HB e0_ hb; clear hb hbox hg; have hcz10_0 : w9.cell? ⟨gb117, 0, none⟩ = some (.int .i64 0) := (kc_ BK117.out 0).trans rfl; have hcz10_1 : w9.cell? ⟨gb117, 1, none⟩ = some (.int .i64 0) := (kc_ BK117.out 1).trans rfl; have hcz10_2 : w9.cell? ⟨gb117, 2, none⟩ = some (.int .i64 0) := (kc_ BK117.out 2).trans rfl; have hcz10_3 : w9.cell? ⟨gb117, 3, none⟩ = some (.int .i64 0) := (kc_ BK117.out 3).trans rfl; have hfz10_0 := kf_ BK117.out 0; have hfz10_1 := kf_ BK117.out 1; have hfz10_2 := kf_ BK117.out 2; have hfz10_3 := kf_ BK117.out 3))
      go_loopg [7, 22] k1 (fun kq v7 v22 w' => ∃ (x7_2 : List Int) (x22_2 : Int), v22 = .int .i64 x22_2 ∧ Aside0 (voices_candidates.l1 kq l1 a2 x7_2 l0 (l0.length : Int) x16_1 l1 (l1.length : Int) x22_2 ((rd_T45 l0 x16_1).f0) ((rd_T45 l0 x16_1).f1) ((rd_T45 l0 x16_1).f2) ((rd_T45 l0 x16_1).f3) = some r) ∧ Aside0 (kq ≤ k1) ∧ Aside0 (Kd.R (Kd.int .i64) 3 w' w.heap.size (fun _ => True) v7 x7_2) ∧ Aside0 (w'.heap[gb117]? = some (.cells #[.int .i64 ((rd_T45 l0 x16_1).f0), .int .i64 ((rd_T45 l0 x16_1).f1), .int .i64 ((rd_T45 l0 x16_1).f2), .int .i64 ((rd_T45 l0 x16_1).f3)] 45 (0, 0))) ∧ Aside0 (Below w.heap.size w w'))
      case atStart => exact ⟨(x7_1), (0), (by first | rfl | (simp; done) | (simp [*]; done) | (simp [bne]; done)), H', ⟨Nat.le_refl _⟩, ⟨by (with_reducible repeat (first | apply Kd.R_alloc | apply Kd.R_drewN | apply Kd.R_drew)); exact Kd.R_mono (Kd.R_far (p := ⟨gb117, 3, none⟩) (Kd.R_far (p := ⟨gb117, 2, none⟩) (Kd.R_far (p := ⟨gb117, 1, none⟩) (Kd.R_far (p := ⟨gb117, 0, none⟩) (Kd.R_types HO_7.out BK117.out (by decide)) (fun _ hk => hk.2) (.int .i64 ((rd_T45 l0 x16_1).f0))) (fun _ hk => hk.2) (.int .i64 ((rd_T45 l0 x16_1).f1))) (fun _ hk => hk.2) (.int .i64 ((rd_T45 l0 x16_1).f2))) (fun _ hk => hk.2) (.int .i64 ((rd_T45 l0 x16_1).f3))) (fun _ hk => trivial)⟩, ⟨by (with_reducible repeat first | apply kn_ | apply kd_ | apply ka_); refine blk_put (cs := #[.int .i64 ((rd_T45 l0 x16_1).f0), .int .i64 ((rd_T45 l0 x16_1).f1), .int .i64 ((rd_T45 l0 x16_1).f2), .int .i64 0]) ?_ 3 _ rfl; (with_reducible repeat first | apply kn_ | apply kd_ | apply ka_); refine blk_put (cs := #[.int .i64 ((rd_T45 l0 x16_1).f0), .int .i64 ((rd_T45 l0 x16_1).f1), .int .i64 0, .int .i64 0]) ?_ 2 _ rfl; (with_reducible repeat first | apply kn_ | apply kd_ | apply ka_); refine blk_put (cs := #[.int .i64 ((rd_T45 l0 x16_1).f0), .int .i64 0, .int .i64 0, .int .i64 0]) ?_ 1 _ rfl; (with_reducible repeat first | apply kn_ | apply kd_ | apply ka_); refine blk_put (cs := #[.int .i64 0, .int .i64 0, .int .i64 0, .int .i64 0]) ?_ 0 _ rfl; (with_reducible repeat first | apply kn_ | apply kd_ | apply ka_); exact BK117.out⟩, ⟨by repeat (first | (with_reducible first | exact HB.out | apply ba_ | apply pd_ | apply d1_ | refine bs_ ?_ GE117.out) | exact HB.out)⟩⟩
      case round =>
       clear H'
       try clear c1; try clear p1; try clear q1; try clear hx1; try clear p2; try clear c3; try clear c6; try clear c6b0; try clear c7; try clear c7b0; try clear c8; try clear c8b0; try clear hcz10_0; try clear hcz10_1; try clear hcz10_2; try clear hcz10_3; try clear hfz10_0; try clear hfz10_1; try clear hfz10_2; try clear hfz10_3; try clear hx116_0; try clear hx116_1; try clear hx116_2; try clear hx116_3; try clear p116; try clear p2; try clear q116
       obtain ⟨x7_2, x22_2, rfl, HA, HK2, HO_7, BK117, HB⟩ := hrel
       cases gk with
       | zero => exact absurd HA.out (by simp [voices_candidates.l1])
       | succ k2 =>
        have H := HA.out
        clear HA
        simp only [voices_candidates.l1] at H
        by_cases c11 : x22_2 < (l1.length : Int)
        ·rw [if_pos c11] at H
         have c11b0 : decide (x22_2 < (l1.length : Int)) = true := dt_ c11
         clear c11
         by_cases c12 : 0 ≤ x22_2
         ·rw [if_pos c12] at H
          have c12b0 : decide (0 ≤ x22_2) = true := dt_ c12
          clear c12
          by_cases c13 : x22_2 < (l1.length : Int)
          ·rw [if_pos c13] at H
           have c13b0 : decide (x22_2 < (l1.length : Int)) = true := dt_ c13
           clear c13
           by_cases c14 : a2 = true
           ·subst c14
            have H1 : (if (true == (decide ((wrap64 (((rd_T45 l0 x16_1).f2) - ((rd_T45 l1 x22_2).f0))) > 0))) = true then (if (wrap64 (((rd_T45 l0 x16_1).f2) - ((rd_T45 l1 x22_2).f0))) = 0 then (voices_candidates.l1 k2 l1 true x7_2 l0 (l0.length : Int) x16_1 l1 (l1.length : Int) (wrap64 (x22_2 + 1)) ((rd_T45 l0 x16_1).f0) ((rd_T45 l0 x16_1).f1) ((rd_T45 l0 x16_1).f2) ((rd_T45 l0 x16_1).f3)) else (if x7_2.length < 17592186044416 then (voices_candidates.l1 k2 l1 true (x7_2 ++ [wrap64 (((rd_T45 l0 x16_1).f2) - ((rd_T45 l1 x22_2).f0))]) l0 (l0.length : Int) x16_1 l1 (l1.length : Int) (wrap64 (x22_2 + 1)) ((rd_T45 l0 x16_1).f0) ((rd_T45 l0 x16_1).f1) ((rd_T45 l0 x16_1).f2) ((rd_T45 l0 x16_1).f3)) else (none))) else (voices_candidates.l1 k2 l1 true x7_2 l0 (l0.length : Int) x16_1 l1 (l1.length : Int) (wrap64 (x22_2 + 1)) ((rd_T45 l0 x16_1).f0) ((rd_T45 l0 x16_1).f1) ((rd_T45 l0 x16_1).f2) ((rd_T45 l0 x16_1).f3))) = some r := by rw [if_pos rfl] at H; exact H
            clear H; have H := H1; clear H1
            by_cases c15 : (true == (decide ((wrap64 (((rd_T45 l0 x16_1).f2) - ((rd_T45 l1 x22_2).f0))) > 0))) = true
            ·rw [if_pos c15] at H
             have c15b0 : (true == (decide ((wrap64 (((rd_T45 l0 x16_1).f2) - ((rd_T45 l1 x22_2).f0))) > 0))) = true := c15
             (try (have c15b1 : decide (true = (decide ((wrap64 (((rd_T45 l0 x16_1).f2) - ((rd_T45 l1 x22_2).f0))) > 0))) = true := by simpa using c15))
             (try (have c15b2 : (true == (decide ((wrap64 (((rd_T45 l0 x16_1).f2) - ((rd_T45 l1 x22_2).f0))) > 0))) = true := by simpa using c15))
             clear c15
             by_cases c16 : (wrap64 (((rd_T45 l0 x16_1).f2) - ((rd_T45 l1 x22_2).f0))) = 0
             ·rw [if_pos c16] at H
              have c16b0 : ((wrap64 (((rd_T45 l0 x16_1).f2) - ((rd_T45 l1 x22_2).f0))) == 0) = true := beq_iff_eq.mpr c16
              have c16b1 : ((wrap64 (((rd_T45 l0 x16_1).f2) - ((rd_T45 l1 x22_2).f0))) != 0) = false := bne_eq_false_iff_eq.mpr c16
              clear c16
              have H' := sd_ H
              clear H
              have p118 : 0 ≤ (x22_2 : Int) := od_ (by first | (with_reducible assumption) | assumption)
              have q118 : x22_2 < (l1.length : Int) := od_ (by first | (with_reducible assumption) | assumption)
              obtain ⟨ad118, e118, hx118_0, hx118_1, hx118_2, hx118_3⟩ := at_T45 HR1.out x22_2 p118 q118
              cases e118
              replace hx118_0 := (HB.out.cell (wb_ w _ hx118_0)).trans hx118_0
              replace hx118_1 := (HB.out.cell (wb_ w _ hx118_1)).trans hx118_1
              replace hx118_2 := (HB.out.cell (wb_ w _ hx118_2)).trans hx118_2
              replace hx118_3 := (HB.out.cell (wb_ w _ hx118_3)).trans hx118_3
              replace p118 := eq_true p118
              replace q118 := eq_true q118
              go_wp2_with (first | ((with_reducible refine gate_dst (N := 11) rfl ?_); refine box_event ?hg (N := 11) ?hd (cs := #[.int .i64 0, .int .i64 0, .int .i64 0, .int .i64 0]) (t := 45) ?hr ?_; (case hd => rfl); (case hg => rfl); (case hr => first | (go_simp; done) | (go_simp; rfl)); intro gb119 hg w17 hbox hb; have BK119 := sd_ hbox; have GW119 := gw_ HB (e_ GE117 e0_) hg; have GE119 := GW119; have NB117_119 := nb_ BK117 hg; have NB119_117 := sy_ NB117_119; replace HO_7 := sd_ (Kd.R_below (by (with_reducible repeat (first | apply Kd.R_alloc | apply Kd.R_drewN | apply Kd.R_drew)); exact HO_7.out) hb); replace BK117 := kb_ BK117 hb; replace HB := hb_ HB (e_ GE117 e0_) hb; clear hb hbox hg; have hnb18 := NB119_117.out; have hnc18 := NB117_119.out; have hcz19_0 : w17.cell? ⟨gb119, 0, none⟩ = some (.int .i64 0) := (kc_ BK119.out 0).trans rfl; have hcz19_1 : w17.cell? ⟨gb119, 1, none⟩ = some (.int .i64 0) := (kc_ BK119.out 1).trans rfl; have hcz19_2 : w17.cell? ⟨gb119, 2, none⟩ = some (.int .i64 0) := (kc_ BK119.out 2).trans rfl; have hcz19_3 : w17.cell? ⟨gb119, 3, none⟩ = some (.int .i64 0) := (kc_ BK119.out 3).trans rfl; have hfz19_0 := kf_ BK119.out 0; have hfz19_1 := kf_ BK119.out 1; have hfz19_2 := kf_ BK119.out 2; have hfz19_3 := kf_ BK119.out 3; have hcz20_0 : w17.cell? ⟨gb117, 0, none⟩ = some (.int .i64 ((rd_T45 l0 x16_1).f0)) := (kc_ BK117.out 0).trans rfl; have hcz20_1 : w17.cell? ⟨gb117, 1, none⟩ = some (.int .i64 ((rd_T45 l0 x16_1).f1)) := (kc_ BK117.out 1).trans rfl; have hcz20_2 : w17.cell? ⟨gb117, 2, none⟩ = some (.int .i64 ((rd_T45 l0 x16_1).f2)) := (kc_ BK117.out 2).trans rfl; have hcz20_3 : w17.cell? ⟨gb117, 3, none⟩ = some (.int .i64 ((rd_T45 l0 x16_1).f3)) := (kc_ BK117.out 3).trans rfl; have hfz20_0 := kf_ BK117.out 0; have hfz20_1 := kf_ BK117.out 1; have hfz20_2 := kf_ BK117.out 2; have hfz20_3 := kf_ BK117.out 3))
              go_roundg k2
              case measure => have := HK1.out; have := HK2.out; omega
              case rel => exact ⟨(x7_2), (wrap64 (x22_2 + 1)), (by first | rfl | (simp; done) | (simp [*]; done) | (simp [bne]; done)), H', ⟨by have := HK1.out; have := HK2.out; omega⟩, ⟨by (with_reducible repeat (first | apply Kd.R_alloc | apply Kd.R_drewN | apply Kd.R_drew)); exact Kd.R_mono (Kd.R_far (p := ⟨gb119, 3, none⟩) (Kd.R_far (p := ⟨gb119, 2, none⟩) (Kd.R_far (p := ⟨gb119, 1, none⟩) (Kd.R_far (p := ⟨gb119, 0, none⟩) (Kd.R_types HO_7.out BK119.out (by decide)) (fun _ hk => hk.2) (.int .i64 ((rd_T45 l1 x22_2).f0))) (fun _ hk => hk.2) (.int .i64 ((rd_T45 l1 x22_2).f1))) (fun _ hk => hk.2) (.int .i64 ((rd_T45 l1 x22_2).f2))) (fun _ hk => hk.2) (.int .i64 ((rd_T45 l1 x22_2).f3))) (fun _ hk => trivial)⟩, ⟨by (with_reducible repeat first | apply kn_ | apply kd_ | apply ka_); refine blk_far ?_ NB117_119.out _; (with_reducible repeat first | apply kn_ | apply kd_ | apply ka_); refine blk_far ?_ NB117_119.out _; (with_reducible repeat first | apply kn_ | apply kd_ | apply ka_); refine blk_far ?_ NB117_119.out _; (with_reducible repeat first | apply kn_ | apply kd_ | apply ka_); refine blk_far ?_ NB117_119.out _; (with_reducible repeat first | apply kn_ | apply kd_ | apply ka_); exact BK117.out⟩, ⟨by repeat (first | (with_reducible first | exact HB.out | apply ba_ | apply pd_ | apply d1_ | refine bs_ ?_ GE117.out | refine bs_ ?_ GE119.out) | exact HB.out)⟩⟩
             ·rw [if_neg c16] at H
              have c16b0 : ((wrap64 (((rd_T45 l0 x16_1).f2) - ((rd_T45 l1 x22_2).f0))) == 0) = false := beq_eq_false_iff_ne.mpr c16
              have c16b1 : ((wrap64 (((rd_T45 l0 x16_1).f2) - ((rd_T45 l1 x22_2).f0))) != 0) = true := bne_iff_ne.mpr c16
              by_cases c21 : x7_2.length < 17592186044416
              ·rw [if_pos c21] at H
               have LMc21 := sd_ c21
               clear c21
               obtain ⟨y120, hy120⟩ : ∃ y_ : List Int, y_ = (x7_2 ++ [wrap64 (((rd_T45 l0 x16_1).f2) - ((rd_T45 l1 x22_2).f0))]) := ⟨_, rfl⟩
               replace H : (voices_candidates.l1 k2 l1 true y120 l0 (l0.length : Int) x16_1 l1 (l1.length : Int) (wrap64 (x22_2 + 1)) ((rd_T45 l0 x16_1).f0) ((rd_T45 l0 x16_1).f1) ((rd_T45 l0 x16_1).f2) ((rd_T45 l0 x16_1).f3)) = some r := by first | (rw [hy120]; with_reducible exact H) | (have H2_ := (Option.bind_some _ _).symm.trans H; rw [hy120]; with_reducible exact H2_) | (have H2_ := (Option.bind_some _ _).symm.trans H; with_reducible exact H2_) | with_reducible exact H | (rw [hy120]; exact H) | exact H
               have Ny120 := sd_ hy120
               clear hy120
               have H' := sd_ H
               clear H
               have p118 : 0 ≤ (x22_2 : Int) := od_ (by first | (with_reducible assumption) | assumption)
               have q118 : x22_2 < (l1.length : Int) := od_ (by first | (with_reducible assumption) | assumption)
               obtain ⟨ad118, e118, hx118_0, hx118_1, hx118_2, hx118_3⟩ := at_T45 HR1.out x22_2 p118 q118
               cases e118
               replace hx118_0 := (HB.out.cell (wb_ w _ hx118_0)).trans hx118_0
               replace hx118_1 := (HB.out.cell (wb_ w _ hx118_1)).trans hx118_1
               replace hx118_2 := (HB.out.cell (wb_ w _ hx118_2)).trans hx118_2
               replace hx118_3 := (HB.out.cell (wb_ w _ hx118_3)).trans hx118_3
               replace p118 := eq_true p118
               replace q118 := eq_true q118
               go_wp2_with (first | ((with_reducible refine gate_dst (N := 11) rfl ?_); refine box_event ?hg (N := 11) ?hd (cs := #[.int .i64 0, .int .i64 0, .int .i64 0, .int .i64 0]) (t := 45) ?hr ?_; (case hd => rfl); (case hg => rfl); (case hr => first | (go_simp; done) | (go_simp; rfl)); intro gb119 hg w22 hbox hb; have BK119 := sd_ hbox; have GW119 := gw_ HB (e_ GE117 e0_) hg; have GE119 := GW119; have NB117_119 := nb_ BK117 hg; have NB119_117 := sy_ NB117_119; replace HO_7 := sd_ (Kd.R_below (by (with_reducible repeat (first | apply Kd.R_alloc | apply Kd.R_drewN | apply Kd.R_drew)); exact HO_7.out) hb); replace BK117 := kb_ BK117 hb; replace HB := hb_ HB (e_ GE117 e0_) hb; clear hb hbox hg; have hnb23 := NB119_117.out; have hnc23 := NB117_119.out; have hcz24_0 : w22.cell? ⟨gb119, 0, none⟩ = some (.int .i64 0) := (kc_ BK119.out 0).trans rfl; have hcz24_1 : w22.cell? ⟨gb119, 1, none⟩ = some (.int .i64 0) := (kc_ BK119.out 1).trans rfl; have hcz24_2 : w22.cell? ⟨gb119, 2, none⟩ = some (.int .i64 0) := (kc_ BK119.out 2).trans rfl; have hcz24_3 : w22.cell? ⟨gb119, 3, none⟩ = some (.int .i64 0) := (kc_ BK119.out 3).trans rfl; have hfz24_0 := kf_ BK119.out 0; have hfz24_1 := kf_ BK119.out 1; have hfz24_2 := kf_ BK119.out 2; have hfz24_3 := kf_ BK119.out 3; have hcz25_0 : w22.cell? ⟨gb117, 0, none⟩ = some (.int .i64 ((rd_T45 l0 x16_1).f0)) := (kc_ BK117.out 0).trans rfl; have hcz25_1 : w22.cell? ⟨gb117, 1, none⟩ = some (.int .i64 ((rd_T45 l0 x16_1).f1)) := (kc_ BK117.out 1).trans rfl; have hcz25_2 : w22.cell? ⟨gb117, 2, none⟩ = some (.int .i64 ((rd_T45 l0 x16_1).f2)) := (kc_ BK117.out 2).trans rfl; have hcz25_3 : w22.cell? ⟨gb117, 3, none⟩ = some (.int .i64 ((rd_T45 l0 x16_1).f3)) := (kc_ BK117.out 3).trans rfl; have hfz25_0 := kf_ BK117.out 0; have hfz25_1 := kf_ BK117.out 1; have hfz25_2 := kf_ BK117.out 2; have hfz25_3 := kf_ BK117.out 3) | ((with_reducible refine gate_builtin (b := .append) (xs := #[.tmp 45, .tmp 47]) rfl ?_); at_builtin; refine Kd.R_append (Kd.int .i64) (w0 := w) w.heap.size rfl (.tmp 45) (.tmp 47) 26 3 (.int .i64 0) 8 rfl Try.underlying26 info3 rfl (by decide) (by omega) u7 x7_2 (wrap64 (((rd_T45 l0 x16_1).f2) - ((rd_T45 l1 x22_2).f0))) [.int .i64 (wrap64 (((rd_T45 l0 x16_1).f2) - ((rd_T45 l1 x22_2).f0)))] (fun _ => True) (fun _ => False) rfl (by first | (go_simp; done) | (go_simp; rfl)) ?aP (fun _ hk => hk.elim) ?aF ?aO ?aB ?aS ?aL ?_; (case aP => exact rfl); (case aB => exact (bb_ HB.out (e_ GE117 (e_ GE119 e0_)))); (case aF => exact (fun _ _ => trivial)); (case aO => exact (by (with_reducible repeat (first | apply Kd.R_alloc | apply Kd.R_drewN | apply Kd.R_drew)); exact Kd.R_mono (Kd.R_far (p := ⟨gb119, 3, none⟩) (Kd.R_far (p := ⟨gb119, 2, none⟩) (Kd.R_far (p := ⟨gb119, 1, none⟩) (Kd.R_far (p := ⟨gb119, 0, none⟩) (Kd.R_types HO_7.out BK119.out (by decide)) (fun _ hk => hk.2) (.int .i64 ((rd_T45 l1 x22_2).f0))) (fun _ hk => hk.2) (.int .i64 ((rd_T45 l1 x22_2).f1))) (fun _ hk => hk.2) (.int .i64 ((rd_T45 l1 x22_2).f2))) (fun _ hk => hk.2) (.int .i64 ((rd_T45 l1 x22_2).f3))) (fun _ hk => trivial))); (case aS => exact (bz_ (bb_ HB.out (e_ GE117 (e_ GE119 e0_))))); (case aL => have := LMc21.out; omega); intro v121 w26 ho hb hg hat; rw [← Ny120.out] at ho; have n0_ := sd_ (blk_grown (g := gb117) (o := .cells #[.int .i64 ((rd_T45 l0 x16_1).f0), .int .i64 ((rd_T45 l0 x16_1).f1), .int .i64 ((rd_T45 l0 x16_1).f2), .int .i64 ((rd_T45 l0 x16_1).f3)] 45 (0, 0)) (by (with_reducible repeat first | apply kn_ | apply kd_ | apply ka_); refine blk_far ?_ NB117_119.out _; (with_reducible repeat first | apply kn_ | apply kd_ | apply ka_); refine blk_far ?_ NB117_119.out _; (with_reducible repeat first | apply kn_ | apply kd_ | apply ka_); refine blk_far ?_ NB117_119.out _; (with_reducible repeat first | apply kn_ | apply kd_ | apply ka_); refine blk_far ?_ NB117_119.out _; (with_reducible repeat first | apply kn_ | apply kd_ | apply ka_); exact BK117.out) hg (Kd.R_ne HO_7.out BK117.out (by decide))); have n1_ := sd_ (blk_grown (g := gb119) (o := .cells #[.int .i64 ((rd_T45 l1 x22_2).f0), .int .i64 ((rd_T45 l1 x22_2).f1), .int .i64 ((rd_T45 l1 x22_2).f2), .int .i64 ((rd_T45 l1 x22_2).f3)] 45 (0, 0)) (by (with_reducible repeat first | apply kn_ | apply kd_ | apply ka_); refine blk_put (cs := #[.int .i64 ((rd_T45 l1 x22_2).f0), .int .i64 ((rd_T45 l1 x22_2).f1), .int .i64 ((rd_T45 l1 x22_2).f2), .int .i64 0]) ?_ 3 _ rfl; (with_reducible repeat first | apply kn_ | apply kd_ | apply ka_); refine blk_put (cs := #[.int .i64 ((rd_T45 l1 x22_2).f0), .int .i64 ((rd_T45 l1 x22_2).f1), .int .i64 0, .int .i64 0]) ?_ 2 _ rfl; (with_reducible repeat first | apply kn_ | apply kd_ | apply ka_); refine blk_put (cs := #[.int .i64 ((rd_T45 l1 x22_2).f0), .int .i64 0, .int .i64 0, .int .i64 0]) ?_ 1 _ rfl; (with_reducible repeat first | apply kn_ | apply kd_ | apply ka_); refine blk_put (cs := #[.int .i64 0, .int .i64 0, .int .i64 0, .int .i64 0]) ?_ 0 _ rfl; (with_reducible repeat first | apply kn_ | apply kd_ | apply ka_); exact BK119.out) hg (Kd.R_ne HO_7.out BK119.out (by decide))); have n2_ := sd_ (hb); have n3_ := sd_ (ho); clear BK117; clear BK119; clear HB; clear HO_7; have BK117 := n0_; have BK119 := n1_; have HB := n2_; have HO122 := n3_; clear n0_ n1_ n2_ n3_; clear ho hb hg hat))
               go_roundg k2
               case measure => have := HK1.out; have := HK2.out; omega
               case rel => exact ⟨(y120), (wrap64 (x22_2 + 1)), (by first | rfl | (simp; done) | (simp [*]; done) | (simp [bne]; done)), H', ⟨by have := HK1.out; have := HK2.out; omega⟩, ⟨by (with_reducible repeat (first | apply Kd.R_alloc | apply Kd.R_drewN | apply Kd.R_drew)); exact HO122.out⟩, ⟨by (with_reducible repeat first | apply kn_ | apply kd_ | apply ka_); exact BK117.out⟩, ⟨by repeat (first | (with_reducible first | exact HB.out | apply ba_ | apply pd_ | apply d1_ | refine bs_ ?_ GE117.out | refine bs_ ?_ GE119.out) | exact HB.out)⟩⟩
              ·rw [if_neg c21] at H
               exact absurd H (by simp)
            ·rw [if_neg c15] at H
             have c15b0 : (true == (decide ((wrap64 (((rd_T45 l0 x16_1).f2) - ((rd_T45 l1 x22_2).f0))) > 0))) = false := by simpa using c15
             (try (have c15b1 : decide (true = (decide ((wrap64 (((rd_T45 l0 x16_1).f2) - ((rd_T45 l1 x22_2).f0))) > 0))) = false := by simpa using c15))
             (try (have c15b2 : (true == (decide ((wrap64 (((rd_T45 l0 x16_1).f2) - ((rd_T45 l1 x22_2).f0))) > 0))) = false := by simpa using c15))
             (try (have c15b3 : ¬ (true = (decide ((wrap64 (((rd_T45 l0 x16_1).f2) - ((rd_T45 l1 x22_2).f0))) > 0))) := by simpa using c15))
             clear c15
             have H' := sd_ H
             clear H
             have p118 : 0 ≤ (x22_2 : Int) := od_ (by first | (with_reducible assumption) | assumption)
             have q118 : x22_2 < (l1.length : Int) := od_ (by first | (with_reducible assumption) | assumption)
             obtain ⟨ad118, e118, hx118_0, hx118_1, hx118_2, hx118_3⟩ := at_T45 HR1.out x22_2 p118 q118
             cases e118
             replace hx118_0 := (HB.out.cell (wb_ w _ hx118_0)).trans hx118_0
             replace hx118_1 := (HB.out.cell (wb_ w _ hx118_1)).trans hx118_1
             replace hx118_2 := (HB.out.cell (wb_ w _ hx118_2)).trans hx118_2
             replace hx118_3 := (HB.out.cell (wb_ w _ hx118_3)).trans hx118_3
             replace p118 := eq_true p118
             replace q118 := eq_true q118
             go_wp2_with (first | ((with_reducible refine gate_dst (N := 11) rfl ?_); refine box_event ?hg (N := 11) ?hd (cs := #[.int .i64 0, .int .i64 0, .int .i64 0, .int .i64 0]) (t := 45) ?hr ?_; (case hd => rfl); (case hg => rfl); (case hr => first | (go_simp; done) | (go_simp; rfl)); intro gb119 hg w27 hbox hb; have BK119 := sd_ hbox; have GW119 := gw_ HB (e_ GE117 e0_) hg; have GE119 := GW119; have NB117_119 := nb_ BK117 hg; have NB119_117 := sy_ NB117_119; replace HO_7 := sd_ (Kd.R_below (by (with_reducible repeat (first | apply Kd.R_alloc | apply Kd.R_drewN | apply Kd.R_drew)); exact HO_7.out) hb); replace BK117 := kb_ BK117 hb; replace HB := hb_ HB (e_ GE117 e0_) hb; clear hb hbox hg; have hnb28 := NB119_117.out; have hnc28 := NB117_119.out; have hcz29_0 : w27.cell? ⟨gb119, 0, none⟩ = some (.int .i64 0) := (kc_ BK119.out 0).trans rfl; have hcz29_1 : w27.cell? ⟨gb119, 1, none⟩ = some (.int .i64 0) := (kc_ BK119.out 1).trans rfl; have hcz29_2 : w27.cell? ⟨gb119, 2, none⟩ = some (.int .i64 0) := (kc_ BK119.out 2).trans rfl; have hcz29_3 : w27.cell? ⟨gb119, 3, none⟩ = some (.int .i64 0) := (kc_ BK119.out 3).trans rfl; have hfz29_0 := kf_ BK119.out 0; have hfz29_1 := kf_ BK119.out 1; have hfz29_2 := kf_ BK119.out 2; have hfz29_3 := kf_ BK119.out 3; have hcz30_0 : w27.cell? ⟨gb117, 0, none⟩ = some (.int .i64 ((rd_T45 l0 x16_1).f0)) := (kc_ BK117.out 0).trans rfl; have hcz30_1 : w27.cell? ⟨gb117, 1, none⟩ = some (.int .i64 ((rd_T45 l0 x16_1).f1)) := (kc_ BK117.out 1).trans rfl; have hcz30_2 : w27.cell? ⟨gb117, 2, none⟩ = some (.int .i64 ((rd_T45 l0 x16_1).f2)) := (kc_ BK117.out 2).trans rfl; have hcz30_3 : w27.cell? ⟨gb117, 3, none⟩ = some (.int .i64 ((rd_T45 l0 x16_1).f3)) := (kc_ BK117.out 3).trans rfl; have hfz30_0 := kf_ BK117.out 0; have hfz30_1 := kf_ BK117.out 1; have hfz30_2 := kf_ BK117.out 2; have hfz30_3 := kf_ BK117.out 3))
             go_roundg k2
             case measure => have := HK1.out; have := HK2.out; omega
             case rel => exact ⟨(x7_2), (wrap64 (x22_2 + 1)), (by first | rfl | (simp; done) | (simp [*]; done) | (simp [bne]; done)), H', ⟨by have := HK1.out; have := HK2.out; omega⟩, ⟨by (with_reducible repeat (first | apply Kd.R_alloc | apply Kd.R_drewN | apply Kd.R_drew)); exact Kd.R_mono (Kd.R_far (p := ⟨gb119, 3, none⟩) (Kd.R_far (p := ⟨gb119, 2, none⟩) (Kd.R_far (p := ⟨gb119, 1, none⟩) (Kd.R_far (p := ⟨gb119, 0, none⟩) (Kd.R_types HO_7.out BK119.out (by decide)) (fun _ hk => hk.2) (.int .i64 ((rd_T45 l1 x22_2).f0))) (fun _ hk => hk.2) (.int .i64 ((rd_T45 l1 x22_2).f1))) (fun _ hk => hk.2) (.int .i64 ((rd_T45 l1 x22_2).f2))) (fun _ hk => hk.2) (.int .i64 ((rd_T45 l1 x22_2).f3))) (fun _ hk => trivial)⟩, ⟨by (with_reducible repeat first | apply kn_ | apply kd_ | apply ka_); refine blk_far ?_ NB117_119.out _; (with_reducible repeat first | apply kn_ | apply kd_ | apply ka_); refine blk_far ?_ NB117_119.out _; (with_reducible repeat first | apply kn_ | apply kd_ | apply ka_); refine blk_far ?_ NB117_119.out _; (with_reducible repeat first | apply kn_ | apply kd_ | apply ka_); refine blk_far ?_ NB117_119.out _; (with_reducible repeat first | apply kn_ | apply kd_ | apply ka_); exact BK117.out⟩, ⟨by repeat (first | (with_reducible first | exact HB.out | apply ba_ | apply pd_ | apply d1_ | refine bs_ ?_ GE117.out | refine bs_ ?_ GE119.out) | exact HB.out)⟩⟩
           ·replace c14 := bf_ c14
            subst c14
            have H1 : (if (false == (decide ((wrap64 (((rd_T45 l0 x16_1).f0) - ((rd_T45 l1 x22_2).f2))) > 0))) = true then (if (wrap64 (((rd_T45 l0 x16_1).f0) - ((rd_T45 l1 x22_2).f2))) = 0 then (voices_candidates.l1 k2 l1 false x7_2 l0 (l0.length : Int) x16_1 l1 (l1.length : Int) (wrap64 (x22_2 + 1)) ((rd_T45 l0 x16_1).f0) ((rd_T45 l0 x16_1).f1) ((rd_T45 l0 x16_1).f2) ((rd_T45 l0 x16_1).f3)) else (if x7_2.length < 17592186044416 then (voices_candidates.l1 k2 l1 false (x7_2 ++ [wrap64 (((rd_T45 l0 x16_1).f0) - ((rd_T45 l1 x22_2).f2))]) l0 (l0.length : Int) x16_1 l1 (l1.length : Int) (wrap64 (x22_2 + 1)) ((rd_T45 l0 x16_1).f0) ((rd_T45 l0 x16_1).f1) ((rd_T45 l0 x16_1).f2) ((rd_T45 l0 x16_1).f3)) else (none))) else (voices_candidates.l1 k2 l1 false x7_2 l0 (l0.length : Int) x16_1 l1 (l1.length : Int) (wrap64 (x22_2 + 1)) ((rd_T45 l0 x16_1).f0) ((rd_T45 l0 x16_1).f1) ((rd_T45 l0 x16_1).f2) ((rd_T45 l0 x16_1).f3))) = some r := by rw [if_neg (show ¬ (false = true) by decide)] at H; exact H
            clear H; have H := H1; clear H1
            by_cases c31 : (false == (decide ((wrap64 (((rd_T45 l0 x16_1).f0) - ((rd_T45 l1 x22_2).f2))) > 0))) = true
            ·rw [if_pos c31] at H
             have c31b0 : (false == (decide ((wrap64 (((rd_T45 l0 x16_1).f0) - ((rd_T45 l1 x22_2).f2))) > 0))) = true := c31
             (try (have c31b1 : decide (false = (decide ((wrap64 (((rd_T45 l0 x16_1).f0) - ((rd_T45 l1 x22_2).f2))) > 0))) = true := by simpa using c31))
             (try (have c31b2 : (false == (decide ((wrap64 (((rd_T45 l0 x16_1).f0) - ((rd_T45 l1 x22_2).f2))) > 0))) = true := by simpa using c31))
             clear c31
             by_cases c32 : (wrap64 (((rd_T45 l0 x16_1).f0) - ((rd_T45 l1 x22_2).f2))) = 0
             ·rw [if_pos c32] at H
              have c32b0 : ((wrap64 (((rd_T45 l0 x16_1).f0) - ((rd_T45 l1 x22_2).f2))) == 0) = true := beq_iff_eq.mpr c32
              have c32b1 : ((wrap64 (((rd_T45 l0 x16_1).f0) - ((rd_T45 l1 x22_2).f2))) != 0) = false := bne_eq_false_iff_eq.mpr c32
              clear c32
              have H' := sd_ H
              clear H
              have p118 : 0 ≤ (x22_2 : Int) := od_ (by first | (with_reducible assumption) | assumption)
              have q118 : x22_2 < (l1.length : Int) := od_ (by first | (with_reducible assumption) | assumption)
              obtain ⟨ad118, e118, hx118_0, hx118_1, hx118_2, hx118_3⟩ := at_T45 HR1.out x22_2 p118 q118
              cases e118
              replace hx118_0 := (HB.out.cell (wb_ w _ hx118_0)).trans hx118_0
              replace hx118_1 := (HB.out.cell (wb_ w _ hx118_1)).trans hx118_1
              replace hx118_2 := (HB.out.cell (wb_ w _ hx118_2)).trans hx118_2
              replace hx118_3 := (HB.out.cell (wb_ w _ hx118_3)).trans hx118_3
              replace p118 := eq_true p118
              replace q118 := eq_true q118
              go_wp2_with (first | ((with_reducible refine gate_dst (N := 11) rfl ?_); refine box_event ?hg (N := 11) ?hd (cs := #[.int .i64 0, .int .i64 0, .int .i64 0, .int .i64 0]) (t := 45) ?hr ?_; (case hd => rfl); (case hg => rfl); (case hr => first | (go_simp; done) | (go_simp; rfl)); intro gb119 hg w33 hbox hb; have BK119 := sd_ hbox; have GW119 := gw_ HB (e_ GE117 e0_) hg; have GE119 := GW119; have NB117_119 := nb_ BK117 hg; have NB119_117 := sy_ NB117_119; replace HO_7 := sd_ (Kd.R_below (by (with_reducible repeat (first | apply Kd.R_alloc | apply Kd.R_drewN | apply Kd.R_drew)); exact HO_7.out) hb); replace BK117 := kb_ BK117 hb; replace HB := hb_ HB (e_ GE117 e0_) hb; clear hb hbox hg; have hnb34 := NB119_117.out; have hnc34 := NB117_119.out; have hcz35_0 : w33.cell? ⟨gb119, 0, none⟩ = some (.int .i64 0) := (kc_ BK119.out 0).trans rfl; have hcz35_1 : w33.cell? ⟨gb119, 1, none⟩ = some (.int .i64 0) := (kc_ BK119.out 1).trans rfl; have hcz35_2 : w33.cell? ⟨gb119, 2, none⟩ = some (.int .i64 0) := (kc_ BK119.out 2).trans rfl; have hcz35_3 : w33.cell? ⟨gb119, 3, none⟩ = some (.int .i64 0) := (kc_ BK119.out 3).trans rfl; have hfz35_0 := kf_ BK119.out 0; have hfz35_1 := kf_ BK119.out 1; have hfz35_2 := kf_ BK119.out 2; have hfz35_3 := kf_ BK119.out 3; have hcz36_0 : w33.cell? ⟨gb117, 0, none⟩ = some (.int .i64 ((rd_T45 l0 x16_1).f0)) := (kc_ BK117.out 0).trans rfl; have hcz36_1 : w33.cell? ⟨gb117, 1, none⟩ = some (.int .i64 ((rd_T45 l0 x16_1).f1)) := (kc_ BK117.out 1).trans rfl; have hcz36_2 : w33.cell? ⟨gb117, 2, none⟩ = some (.int .i64 ((rd_T45 l0 x16_1).f2)) := (kc_ BK117.out 2).trans rfl; have hcz36_3 : w33.cell? ⟨gb117, 3, none⟩ = some (.int .i64 ((rd_T45 l0 x16_1).f3)) := (kc_ BK117.out 3).trans rfl; have hfz36_0 := kf_ BK117.out 0; have hfz36_1 := kf_ BK117.out 1; have hfz36_2 := kf_ BK117.out 2; have hfz36_3 := kf_ BK117.out 3))
              go_roundg k2
              case measure => have := HK1.out; have := HK2.out; omega
              case rel => exact ⟨(x7_2), (wrap64 (x22_2 + 1)), (by first | rfl | (simp; done) | (simp [*]; done) | (simp [bne]; done)), H', ⟨by have := HK1.out; have := HK2.out; omega⟩, ⟨by (with_reducible repeat (first | apply Kd.R_alloc | apply Kd.R_drewN | apply Kd.R_drew)); exact Kd.R_mono (Kd.R_far (p := ⟨gb119, 3, none⟩) (Kd.R_far (p := ⟨gb119, 2, none⟩) (Kd.R_far (p := ⟨gb119, 1, none⟩) (Kd.R_far (p := ⟨gb119, 0, none⟩) (Kd.R_types HO_7.out BK119.out (by decide)) (fun _ hk => hk.2) (.int .i64 ((rd_T45 l1 x22_2).f0))) (fun _ hk => hk.2) (.int .i64 ((rd_T45 l1 x22_2).f1))) (fun _ hk => hk.2) (.int .i64 ((rd_T45 l1 x22_2).f2))) (fun _ hk => hk.2) (.int .i64 ((rd_T45 l1 x22_2).f3))) (fun _ hk => trivial)⟩, ⟨by (with_reducible repeat first | apply kn_ | apply kd_ | apply ka_); refine blk_far ?_ NB117_119.out _; (with_reducible repeat first | apply kn_ | apply kd_ | apply ka_); refine blk_far ?_ NB117_119.out _; (with_reducible repeat first | apply kn_ | apply kd_ | apply ka_); refine blk_far ?_ NB117_119.out _; (with_reducible repeat first | apply kn_ | apply kd_ | apply ka_); refine blk_far ?_ NB117_119.out _; (with_reducible repeat first | apply kn_ | apply kd_ | apply ka_); exact BK117.out⟩, ⟨by repeat (first | (with_reducible first | exact HB.out | apply ba_ | apply pd_ | apply d1_ | refine bs_ ?_ GE117.out | refine bs_ ?_ GE119.out) | exact HB.out)⟩⟩
             ·rw [if_neg c32] at H
              have c32b0 : ((wrap64 (((rd_T45 l0 x16_1).f0) - ((rd_T45 l1 x22_2).f2))) == 0) = false := beq_eq_false_iff_ne.mpr c32
              have c32b1 : ((wrap64 (((rd_T45 l0 x16_1).f0) - ((rd_T45 l1 x22_2).f2))) != 0) = true := bne_iff_ne.mpr c32
              by_cases c37 : x7_2.length < 17592186044416
              ·rw [if_pos c37] at H
               have LMc37 := sd_ c37
               clear c37
               obtain ⟨y123, hy123⟩ : ∃ y_ : List Int, y_ = (x7_2 ++ [wrap64 (((rd_T45 l0 x16_1).f0) - ((rd_T45 l1 x22_2).f2))]) := ⟨_, rfl⟩
               replace H : (voices_candidates.l1 k2 l1 false y123 l0 (l0.length : Int) x16_1 l1 (l1.length : Int) (wrap64 (x22_2 + 1)) ((rd_T45 l0 x16_1).f0) ((rd_T45 l0 x16_1).f1) ((rd_T45 l0 x16_1).f2) ((rd_T45 l0 x16_1).f3)) = some r := by first | (rw [hy123]; with_reducible exact H) | (have H2_ := (Option.bind_some _ _).symm.trans H; rw [hy123]; with_reducible exact H2_) | (have H2_ := (Option.bind_some _ _).symm.trans H; with_reducible exact H2_) | with_reducible exact H | (rw [hy123]; exact H) | exact H
               have Ny123 := sd_ hy123
               clear hy123
               have H' := sd_ H
               clear H
               have p118 : 0 ≤ (x22_2 : Int) := od_ (by first | (with_reducible assumption) | assumption)
               have q118 : x22_2 < (l1.length : Int) := od_ (by first | (with_reducible assumption) | assumption)
               obtain ⟨ad118, e118, hx118_0, hx118_1, hx118_2, hx118_3⟩ := at_T45 HR1.out x22_2 p118 q118
               cases e118
               replace hx118_0 := (HB.out.cell (wb_ w _ hx118_0)).trans hx118_0
               replace hx118_1 := (HB.out.cell (wb_ w _ hx118_1)).trans hx118_1
               replace hx118_2 := (HB.out.cell (wb_ w _ hx118_2)).trans hx118_2
               replace hx118_3 := (HB.out.cell (wb_ w _ hx118_3)).trans hx118_3
               replace p118 := eq_true p118
               replace q118 := eq_true q118
               go_wp2_with (first | ((with_reducible refine gate_dst (N := 11) rfl ?_); refine box_event ?hg (N := 11) ?hd (cs := #[.int .i64 0, .int .i64 0, .int .i64 0, .int .i64 0]) (t := 45) ?hr ?_; (case hd => rfl); (case hg => rfl); (case hr => first | (go_simp; done) | (go_simp; rfl)); intro gb119 hg w38 hbox hb; have BK119 := sd_ hbox; have GW119 := gw_ HB (e_ GE117 e0_) hg; have GE119 := GW119; have NB117_119 := nb_ BK117 hg; have NB119_117 := sy_ NB117_119; replace HO_7 := sd_ (Kd.R_below (by (with_reducible repeat (first | apply Kd.R_alloc | apply Kd.R_drewN | apply Kd.R_drew)); exact HO_7.out) hb); replace BK117 := kb_ BK117 hb; replace HB := hb_ HB (e_ GE117 e0_) hb; clear hb hbox hg; have hnb39 := NB119_117.out; have hnc39 := NB117_119.out; have hcz40_0 : w38.cell? ⟨gb119, 0, none⟩ = some (.int .i64 0) := (kc_ BK119.out 0).trans rfl; have hcz40_1 : w38.cell? ⟨gb119, 1, none⟩ = some (.int .i64 0) := (kc_ BK119.out 1).trans rfl; have hcz40_2 : w38.cell? ⟨gb119, 2, none⟩ = some (.int .i64 0) := (kc_ BK119.out 2).trans rfl; have hcz40_3 : w38.cell? ⟨gb119, 3, none⟩ = some (.int .i64 0) := (kc_ BK119.out 3).trans rfl; have hfz40_0 := kf_ BK119.out 0; have hfz40_1 := kf_ BK119.out 1; have hfz40_2 := kf_ BK119.out 2; have hfz40_3 := kf_ BK119.out 3; have hcz41_0 : w38.cell? ⟨gb117, 0, none⟩ = some (.int .i64 ((rd_T45 l0 x16_1).f0)) := (kc_ BK117.out 0).trans rfl; have hcz41_1 : w38.cell? ⟨gb117, 1, none⟩ = some (.int .i64 ((rd_T45 l0 x16_1).f1)) := (kc_ BK117.out 1).trans rfl; have hcz41_2 : w38.cell? ⟨gb117, 2, none⟩ = some (.int .i64 ((rd_T45 l0 x16_1).f2)) := (kc_ BK117.out 2).trans rfl; have hcz41_3 : w38.cell? ⟨gb117, 3, none⟩ = some (.int .i64 ((rd_T45 l0 x16_1).f3)) := (kc_ BK117.out 3).trans rfl; have hfz41_0 := kf_ BK117.out 0; have hfz41_1 := kf_ BK117.out 1; have hfz41_2 := kf_ BK117.out 2; have hfz41_3 := kf_ BK117.out 3) | ((with_reducible refine gate_builtin (b := .append) (xs := #[.tmp 45, .tmp 47]) rfl ?_); at_builtin; refine Kd.R_append (Kd.int .i64) (w0 := w) w.heap.size rfl (.tmp 45) (.tmp 47) 26 3 (.int .i64 0) 8 rfl Try.underlying26 info3 rfl (by decide) (by omega) u7 x7_2 (wrap64 (((rd_T45 l0 x16_1).f0) - ((rd_T45 l1 x22_2).f2))) [.int .i64 (wrap64 (((rd_T45 l0 x16_1).f0) - ((rd_T45 l1 x22_2).f2)))] (fun _ => True) (fun _ => False) rfl (by first | (go_simp; done) | (go_simp; rfl)) ?aP (fun _ hk => hk.elim) ?aF ?aO ?aB ?aS ?aL ?_; (case aP => exact rfl); (case aB => exact (bb_ HB.out (e_ GE117 (e_ GE119 e0_)))); (case aF => exact (fun _ _ => trivial)); (case aO => exact (by (with_reducible repeat (first | apply Kd.R_alloc | apply Kd.R_drewN | apply Kd.R_drew)); exact Kd.R_mono (Kd.R_far (p := ⟨gb119, 3, none⟩) (Kd.R_far (p := ⟨gb119, 2, none⟩) (Kd.R_far (p := ⟨gb119, 1, none⟩) (Kd.R_far (p := ⟨gb119, 0, none⟩) (Kd.R_types HO_7.out BK119.out (by decide)) (fun _ hk => hk.2) (.int .i64 ((rd_T45 l1 x22_2).f0))) (fun _ hk => hk.2) (.int .i64 ((rd_T45 l1 x22_2).f1))) (fun _ hk => hk.2) (.int .i64 ((rd_T45 l1 x22_2).f2))) (fun _ hk => hk.2) (.int .i64 ((rd_T45 l1 x22_2).f3))) (fun _ hk => trivial))); (case aS => exact (bz_ (bb_ HB.out (e_ GE117 (e_ GE119 e0_))))); (case aL => have := LMc37.out; omega); intro v124 w42 ho hb hg hat; rw [← Ny123.out] at ho; have n0_ := sd_ (blk_grown (g := gb117) (o := .cells #[.int .i64 ((rd_T45 l0 x16_1).f0), .int .i64 ((rd_T45 l0 x16_1).f1), .int .i64 ((rd_T45 l0 x16_1).f2), .int .i64 ((rd_T45 l0 x16_1).f3)] 45 (0, 0)) (by (with_reducible repeat first | apply kn_ | apply kd_ | apply ka_); refine blk_far ?_ NB117_119.out _; (with_reducible repeat first | apply kn_ | apply kd_ | apply ka_); refine blk_far ?_ NB117_119.out _; (with_reducible repeat first | apply kn_ | apply kd_ | apply ka_); refine blk_far ?_ NB117_119.out _; (with_reducible repeat first | apply kn_ | apply kd_ | apply ka_); refine blk_far ?_ NB117_119.out _; (with_reducible repeat first | apply kn_ | apply kd_ | apply ka_); exact BK117.out) hg (Kd.R_ne HO_7.out BK117.out (by decide))); have n1_ := sd_ (blk_grown (g := gb119) (o := .cells #[.int .i64 ((rd_T45 l1 x22_2).f0), .int .i64 ((rd_T45 l1 x22_2).f1), .int .i64 ((rd_T45 l1 x22_2).f2), .int .i64 ((rd_T45 l1 x22_2).f3)] 45 (0, 0)) (by (with_reducible repeat first | apply kn_ | apply kd_ | apply ka_); refine blk_put (cs := #[.int .i64 ((rd_T45 l1 x22_2).f0), .int .i64 ((rd_T45 l1 x22_2).f1), .int .i64 ((rd_T45 l1 x22_2).f2), .int .i64 0]) ?_ 3 _ rfl; (with_reducible repeat first | apply kn_ | apply kd_ | apply ka_); refine blk_put (cs := #[.int .i64 ((rd_T45 l1 x22_2).f0), .int .i64 ((rd_T45 l1 x22_2).f1), .int .i64 0, .int .i64 0]) ?_ 2 _ rfl; (with_reducible repeat first | apply kn_ | apply kd_ | apply ka_); refine blk_put (cs := #[.int .i64 ((rd_T45 l1 x22_2).f0), .int .i64 0, .int .i64 0, .int .i64 0]) ?_ 1 _ rfl; (with_reducible repeat first | apply kn_ | apply kd_ | apply ka_); refine blk_put (cs := #[.int .i64 0, .int .i64 0, .int .i64 0, .int .i64 0]) ?_ 0 _ rfl; (with_reducible repeat first | apply kn_ | apply kd_ | apply ka_); exact BK119.out) hg (Kd.R_ne HO_7.out BK119.out (by decide))); have n2_ := sd_ (hb); have n3_ := sd_ (ho); clear BK117; clear BK119; clear HB; clear HO_7; have BK117 := n0_; have BK119 := n1_; have HB := n2_; have HO125 := n3_; clear n0_ n1_ n2_ n3_; clear ho hb hg hat))
               go_roundg k2
               case measure => have := HK1.out; have := HK2.out; omega
               case rel => exact ⟨(y123), (wrap64 (x22_2 + 1)), (by first | rfl | (simp; done) | (simp [*]; done) | (simp [bne]; done)), H', ⟨by have := HK1.out; have := HK2.out; omega⟩, ⟨by (with_reducible repeat (first | apply Kd.R_alloc | apply Kd.R_drewN | apply Kd.R_drew)); exact HO125.out⟩, ⟨by (with_reducible repeat first | apply kn_ | apply kd_ | apply ka_); exact BK117.out⟩, ⟨by repeat (first | (with_reducible first | exact HB.out | apply ba_ | apply pd_ | apply d1_ | refine bs_ ?_ GE117.out | refine bs_ ?_ GE119.out) | exact HB.out)⟩⟩
              ·rw [if_neg c37] at H
               exact absurd H (by simp)
            ·rw [if_neg c31] at H
             have c31b0 : (false == (decide ((wrap64 (((rd_T45 l0 x16_1).f0) - ((rd_T45 l1 x22_2).f2))) > 0))) = false := by simpa using c31
             (try (have c31b1 : decide (false = (decide ((wrap64 (((rd_T45 l0 x16_1).f0) - ((rd_T45 l1 x22_2).f2))) > 0))) = false := by simpa using c31))
             (try (have c31b2 : (false == (decide ((wrap64 (((rd_T45 l0 x16_1).f0) - ((rd_T45 l1 x22_2).f2))) > 0))) = false := by simpa using c31))
             (try (have c31b3 : ¬ (false = (decide ((wrap64 (((rd_T45 l0 x16_1).f0) - ((rd_T45 l1 x22_2).f2))) > 0))) := by simpa using c31))
             clear c31
             have H' := sd_ H
             clear H
             have p118 : 0 ≤ (x22_2 : Int) := od_ (by first | (with_reducible assumption) | assumption)
             have q118 : x22_2 < (l1.length : Int) := od_ (by first | (with_reducible assumption) | assumption)
             obtain ⟨ad118, e118, hx118_0, hx118_1, hx118_2, hx118_3⟩ := at_T45 HR1.out x22_2 p118 q118
             cases e118
             replace hx118_0 := (HB.out.cell (wb_ w _ hx118_0)).trans hx118_0
             replace hx118_1 := (HB.out.cell (wb_ w _ hx118_1)).trans hx118_1
             replace hx118_2 := (HB.out.cell (wb_ w _ hx118_2)).trans hx118_2
             replace hx118_3 := (HB.out.cell (wb_ w _ hx118_3)).trans hx118_3
             replace p118 := eq_true p118
             replace q118 := eq_true q118
             go_wp2_with (first | ((with_reducible refine gate_dst (N := 11) rfl ?_); refine box_event ?hg (N := 11) ?hd (cs := #[.int .i64 0, .int .i64 0, .int .i64 0, .int .i64 0]) (t := 45) ?hr ?_; (case hd => rfl); (case hg => rfl); (case hr => first | (go_simp; done) | (go_simp; rfl)); intro gb119 hg w43 hbox hb; have BK119 := sd_ hbox; have GW119 := gw_ HB (e_ GE117 e0_) hg; have GE119 := GW119; have NB117_119 := nb_ BK117 hg; have NB119_117 := sy_ NB117_119; replace HO_7 := sd_ (Kd.R_below (by (with_reducible repeat (first | apply Kd.R_alloc | apply Kd.R_drewN | apply Kd.R_drew)); exact HO_7.out) hb); replace BK117 := kb_ BK117 hb; replace HB := hb_ HB (e_ GE117 e0_) hb; clear hb hbox hg; have hnb44 := NB119_117.out; have hnc44 := NB117_119.out; have hcz45_0 : w43.cell? ⟨gb119, 0, none⟩ = some (.int .i64 0) := (kc_ BK119.out 0).trans rfl; have hcz45_1 : w43.cell? ⟨gb119, 1, none⟩ = some (.int .i64 0) := (kc_ BK119.out 1).trans rfl; have hcz45_2 : w43.cell? ⟨gb119, 2, none⟩ = some (.int .i64 0) := (kc_ BK119.out 2).trans rfl; have hcz45_3 : w43.cell? ⟨gb119, 3, none⟩ = some (.int .i64 0) := (kc_ BK119.out 3).trans rfl; have hfz45_0 := kf_ BK119.out 0; have hfz45_1 := kf_ BK119.out 1; have hfz45_2 := kf_ BK119.out 2; have hfz45_3 := kf_ BK119.out 3; have hcz46_0 : w43.cell? ⟨gb117, 0, none⟩ = some (.int .i64 ((rd_T45 l0 x16_1).f0)) := (kc_ BK117.out 0).trans rfl; have hcz46_1 : w43.cell? ⟨gb117, 1, none⟩ = some (.int .i64 ((rd_T45 l0 x16_1).f1)) := (kc_ BK117.out 1).trans rfl; have hcz46_2 : w43.cell? ⟨gb117, 2, none⟩ = some (.int .i64 ((rd_T45 l0 x16_1).f2)) := (kc_ BK117.out 2).trans rfl; have hcz46_3 : w43.cell? ⟨gb117, 3, none⟩ = some (.int .i64 ((rd_T45 l0 x16_1).f3)) := (kc_ BK117.out 3).trans rfl; have hfz46_0 := kf_ BK117.out 0; have hfz46_1 := kf_ BK117.out 1; have hfz46_2 := kf_ BK117.out 2; have hfz46_3 := kf_ BK117.out 3))
             go_roundg k2
             case measure => have := HK1.out; have := HK2.out; omega
             case rel => exact ⟨(x7_2), (wrap64 (x22_2 + 1)), (by first | rfl | (simp; done) | (simp [*]; done) | (simp [bne]; done)), H', ⟨by have := HK1.out; have := HK2.out; omega⟩, ⟨by (with_reducible repeat (first | apply Kd.R_alloc | apply Kd.R_drewN | apply Kd.R_drew)); exact Kd.R_mono (Kd.R_far (p := ⟨gb119, 3, none⟩) (Kd.R_far (p := ⟨gb119, 2, none⟩) (Kd.R_far (p := ⟨gb119, 1, none⟩) (Kd.R_far (p := ⟨gb119, 0, none⟩) (Kd.R_types HO_7.out BK119.out (by decide)) (fun _ hk => hk.2) (.int .i64 ((rd_T45 l1 x22_2).f0))) (fun _ hk => hk.2) (.int .i64 ((rd_T45 l1 x22_2).f1))) (fun _ hk => hk.2) (.int .i64 ((rd_T45 l1 x22_2).f2))) (fun _ hk => hk.2) (.int .i64 ((rd_T45 l1 x22_2).f3))) (fun _ hk => trivial)⟩, ⟨by (with_reducible repeat first | apply kn_ | apply kd_ | apply ka_); refine blk_far ?_ NB117_119.out _; (with_reducible repeat first | apply kn_ | apply kd_ | apply ka_); refine blk_far ?_ NB117_119.out _; (with_reducible repeat first | apply kn_ | apply kd_ | apply ka_); refine blk_far ?_ NB117_119.out _; (with_reducible repeat first | apply kn_ | apply kd_ | apply ka_); refine blk_far ?_ NB117_119.out _; (with_reducible repeat first | apply kn_ | apply kd_ | apply ka_); exact BK117.out⟩, ⟨by repeat (first | (with_reducible first | exact HB.out | apply ba_ | apply pd_ | apply d1_ | refine bs_ ?_ GE117.out | refine bs_ ?_ GE119.out) | exact HB.out)⟩⟩
          ·rw [if_neg c13] at H
           exact absurd H (by simp)
         ·rw [if_neg c12] at H
          exact absurd H (by simp)
        ·rw [if_neg c11] at H
         have c11b0 : decide (x22_2 < (l1.length : Int)) = false := df_ c11
         clear c11
         have H' := sd_ H
         clear H
         go_wp2
         go_roundg k2
         case measure => have := HK1.out; have := HK2.out; omega
         case rel => exact ⟨(x7_2), (wrap64 (x16_1 + 1)), (by first | rfl | (simp; done) | (simp [*]; done) | (simp [bne]; done)), H', ⟨by have := HK1.out; have := HK2.out; omega⟩, ⟨by (with_reducible repeat (first | apply Kd.R_alloc | apply Kd.R_drewN | apply Kd.R_drew)); exact HO_7.out⟩, ⟨by repeat (first | (with_reducible first | exact HB.out | apply ba_ | apply pd_ | apply d1_ | refine bs_ ?_ GE117.out) | exact HB.out)⟩⟩
     ·rw [if_neg c8] at H
      exact absurd H (by simp)
    ·rw [if_neg c7] at H
     exact absurd H (by simp)
   ·rw [if_neg c6] at H
    have c6b0 : decide (x16_1 < (l0.length : Int)) = false := df_ c6
    clear c6
    replace H := ob_ H
    obtain ⟨t126, A470, H⟩ := H
    replace H : (if a2 = true then ((slices_Compact_int_int.f t126).bind fun t127 => (some t127)) else ((slices_Reverse_int_int.f k1 t126).bind fun t130 => ((slices_Compact_int_int.f t130).bind fun t131 => (some t131)))) = some r := H
    have A47 := sd_ A470
    clear A470
    by_cases c48 : a2 = true
    ·subst c48
     have H1 : ((slices_Compact_int_int.f t126).bind fun t127 => (some t127)) = some r := by rw [if_pos rfl] at H; exact H
     clear H; have H := H1; clear H1
     replace H := ob_ H
     obtain ⟨t127, A490, H⟩ := H
     replace H : (some t127) = some r := H
     have A49 := sd_ A490
     clear A490
     obtain rfl := Option.some.inj H
     obtain ⟨Ao50, co50, eo50⟩ := Kd.R_slice HO_7.out
     subst eo50
     go_wp2_with (first | ((with_reducible refine gate_callee (f := 40) rfl ?_); refine goesL_ (some 52) rfl rfl Try.func40 (by kernel_rfl) rfl #[.slice Ao50 x7_1.length co50] rfl (by (try simp only [lm_, lq_, lx_]); first | done | rfl | (simp only [ld_, lt_]; rfl)) ?_; (with_reducible refine (slices_Sort_int_int.calls (fun k_ => some k_ = (.slice Ao50 x7_1.length co50 : Value).ownBlock) (.slice Ao50 x7_1.length co50) x7_1 t126 w _ ?side1 ?side2 A47.out).mono ?_); (case side1 => repeat (first | (with_reducible first | exact HB.out | apply ba_ | apply pd_ | apply d1_) | exact HB.out)); (case side2 => exact Kd.R_tight rfl HO_7.out); rintro e w51 ⟨rfl, hy0, hb, hkp⟩; refine ⟨_, rfl, ?_⟩; replace HO_7 := sd_ (Kd.R_reok rfl hy0 (fun k_ e_ => HO_7.out.1 k_ e_)); replace HB := sd_ (hb); (try clear hb); (try clear hkp); (try clear hy0)) | ((with_reducible refine gate_callee (f := 42) rfl ?_); refine goesL_ (some 58) rfl rfl Try.func42 (by kernel_rfl) rfl #[.slice Ao50 x7_1.length co50] rfl (by (try simp only [lm_, lq_, lx_]); first | done | rfl | (simp only [ld_, lt_]; rfl)) ?_; (with_reducible refine (slices_Compact_int_int.calls (fun k_ => some k_ = (.slice Ao50 x7_1.length co50 : Value).ownBlock) (.slice Ao50 x7_1.length co50) t126 t127 w _ ?side1 ?side2 A49.out).mono ?_); (case side1 => repeat (first | (with_reducible first | exact HB.out | apply ba_ | apply pd_ | apply d1_) | exact HB.out)); (case side2 => exact Kd.R_tight rfl HO_7.out); rintro e w52 ⟨v128, rfl, ho0, hb, hkp⟩; refine ⟨_, rfl, ?_⟩; have HO129 := sd_ (Kd.R_mono (ok' := fun k_ => True) ho0 (fun k_ hk_ => trivial)); replace HB := sd_ (hb); clear HO_7; (try clear hb); (try clear hkp); (try clear ho0)))
     go_ret
     exact ⟨_, by first | rfl | (simp [errW_none, errW_some] <;> rfl) | (simp [*, errW_none, errW_some] <;> rfl), by (with_reducible repeat (first | apply Kd.R_alloc | apply Kd.R_drewN | apply Kd.R_drew)); exact HO129.out, by repeat (first | (with_reducible first | exact HB.out | apply ba_ | apply pd_ | apply d1_) | exact HB.out)⟩
    ·replace c48 := bf_ c48
     subst c48
     have H1 : ((slices_Reverse_int_int.f k1 t126).bind fun t130 => ((slices_Compact_int_int.f t130).bind fun t131 => (some t131))) = some r := by rw [if_neg (show ¬ (false = true) by decide)] at H; exact H
     clear H; have H := H1; clear H1
     replace H := ob_ H
     obtain ⟨t130, A530, H⟩ := H
     replace H : ((slices_Compact_int_int.f t130).bind fun t131 => (some t131)) = some r := H
     have A53 := sd_ A530
     clear A530
     replace H := ob_ H
     obtain ⟨t131, A540, H⟩ := H
     replace H : (some t131) = some r := H
     have A54 := sd_ A540
     clear A540
     obtain rfl := Option.some.inj H
     obtain ⟨Ao55, co55, eo55⟩ := Kd.R_slice HO_7.out
     subst eo55
     go_wp2_with (first | ((with_reducible refine gate_callee (f := 40) rfl ?_); refine goesL_ (some 52) rfl rfl Try.func40 (by kernel_rfl) rfl #[.slice Ao55 x7_1.length co55] rfl (by (try simp only [lm_, lq_, lx_]); first | done | rfl | (simp only [ld_, lt_]; rfl)) ?_; (with_reducible refine (slices_Sort_int_int.calls (fun k_ => some k_ = (.slice Ao55 x7_1.length co55 : Value).ownBlock) (.slice Ao55 x7_1.length co55) x7_1 t126 w _ ?side1 ?side2 A47.out).mono ?_); (case side1 => repeat (first | (with_reducible first | exact HB.out | apply ba_ | apply pd_ | apply d1_) | exact HB.out)); (case side2 => exact Kd.R_tight rfl HO_7.out); rintro e w56 ⟨rfl, hy0, hb, hkp⟩; refine ⟨_, rfl, ?_⟩; replace HO_7 := sd_ (Kd.R_reok rfl hy0 (fun k_ e_ => HO_7.out.1 k_ e_)); replace HB := sd_ (hb); (try clear hb); (try clear hkp); (try clear hy0)) | ((with_reducible refine gate_callee (f := 41) rfl ?_); refine goesL_ (some 56) rfl rfl Try.func41 (by kernel_rfl) rfl #[.slice Ao55 x7_1.length co55] rfl (by (try simp only [lm_, lq_, lx_]); first | done | rfl | (simp only [ld_, lt_]; rfl)) ?_; (with_reducible refine (slices_Reverse_int_int.calls k1 (fun k_ => some k_ = (.slice Ao55 x7_1.length co55 : Value).ownBlock) (.slice Ao55 x7_1.length co55) t126 t130 w _ ?side1 ?side2 A53.out).mono ?_); (case side1 => repeat (first | (with_reducible first | exact HB.out | apply ba_ | apply pd_ | apply d1_) | exact HB.out)); (case side2 => exact Kd.R_tight rfl HO_7.out); rintro e w57 ⟨rfl, hy0, hb, hkp⟩; refine ⟨_, rfl, ?_⟩; replace HO_7 := sd_ (Kd.R_reok rfl hy0 (fun k_ e_ => HO_7.out.1 k_ e_)); replace HB := sd_ (hb); (try clear hb); (try clear hkp); (try clear hy0)) | ((with_reducible refine gate_callee (f := 42) rfl ?_); refine goesL_ (some 58) rfl rfl Try.func42 (by kernel_rfl) rfl #[.slice Ao55 x7_1.length co55] rfl (by (try simp only [lm_, lq_, lx_]); first | done | rfl | (simp only [ld_, lt_]; rfl)) ?_; (with_reducible refine (slices_Compact_int_int.calls (fun k_ => some k_ = (.slice Ao55 x7_1.length co55 : Value).ownBlock) (.slice Ao55 x7_1.length co55) t130 t131 w _ ?side1 ?side2 A54.out).mono ?_); (case side1 => repeat (first | (with_reducible first | exact HB.out | apply ba_ | apply pd_ | apply d1_) | exact HB.out)); (case side2 => exact Kd.R_tight rfl HO_7.out); rintro e w58 ⟨v132, rfl, ho0, hb, hkp⟩; refine ⟨_, rfl, ?_⟩; have HO133 := sd_ (Kd.R_mono (ok' := fun k_ => True) ho0 (fun k_ hk_ => trivial)); replace HB := sd_ (hb); clear HO_7; (try clear hb); (try clear hkp); (try clear ho0)))
     go_ret
     exact ⟨_, by first | rfl | (simp [errW_none, errW_some] <;> rfl) | (simp [*, errW_none, errW_some] <;> rfl), by (with_reducible repeat (first | apply Kd.R_alloc | apply Kd.R_drewN | apply Kd.R_drew)); exact HO133.out, by repeat (first | (with_reducible first | exact HB.out | apply ba_ | apply pd_ | apply d1_) | exact HB.out)⟩

/-! ### box_overlap: function 50 -/
def box_overlap.f (a0 : Int) (a1 : Int) (a2 : Int) (a3 : Int) : Option (Bool) := some (decide ((mx a0 a2) < (mn a1 a3)))
set_option maxHeartbeats 8000000 in
set_option maxRecDepth 100000 in
theorem box_overlap.calls (a0 : Int) (a1 : Int) (a2 : Int) (a3 : Int) (r : Bool) (w : World) (h : box_overlap.f a0 a1 a2 a3 = some r) :
  Calls Try.prog 50 #[.int .i64 a0, .int .i64 a1, .int .i64 a2, .int .i64 a3] w fun e w' => e = .returned (.bool r) ∧ Below w.heap.size w w' := by
 have HB := sd_ (Below.refl w.heap.size w)
 have H : (some (decide ((mx a0 a2) < (mn a1 a3)))) = some r := h
 clear h
 obtain ⟨ji5, hji5⟩ : ∃ j_ : Int, (mx a0 a2) = j_ := ⟨_, rfl⟩
 replace H : (some (decide ((ji5) < (mn a1 a3)))) = some r := by first | (rw [hji5] at H; exact H) | (simp only [hji5] at H ⊢; exact H)
 have hji5_ : (if a0 < a2 then a2 else a0) = ji5 := hji5
 obtain ⟨ji6, hji6⟩ : ∃ j_ : Int, (mn a1 a3) = j_ := ⟨_, rfl⟩
 replace H : (some (decide ((ji5) < (ji6)))) = some r := by first | (rw [hji6] at H; exact H) | (simp only [hji6] at H ⊢; exact H)
 have hji6_ : (if a3 < a1 then a3 else a1) = ji6 := hji6
 obtain rfl := Option.some.inj H
 go_enter Try.func50, Try.ntmps50
 go_wp2
 go_ret
 exact ⟨by first | rfl | (simp [errW_none, errW_some] <;> rfl) | (simp only [← hji5, ← hji6]; first | rfl | (simp [errW_none, errW_some] <;> rfl)) | (simp [*, errW_none, errW_some] <;> rfl), by repeat (first | (with_reducible first | exact HB.out | apply ba_ | apply pd_ | apply d1_) | exact HB.out)⟩

/-! ### box_Meet: function 44 -/
def box_Meet.f (a0_0 : Int) (a0_1 : Int) (a0_2 : Int) (a0_3 : Int) (a1_0 : Int) (a1_1 : Int) (a1_2 : Int) (a1_3 : Int) : Option (Bool) := (box_Check.f a0_0 a0_1 a0_2 a0_3).bind fun t136 => (if t136 = true then ((box_Check.f a1_0 a1_1 a1_2 a1_3).bind fun t137 => (if t137 = true then ((box_overlap.f a0_0 a0_2 a1_0 a1_2).bind fun t138 => (if t138 = true then ((box_overlap.f a0_1 a0_3 a1_1 a1_3).bind fun t139 => (some t139)) else (some false))) else (some false))) else (some false))
set_option maxHeartbeats 8000000 in
set_option maxRecDepth 100000 in
theorem box_Meet.calls (a0_0 : Int) (a0_1 : Int) (a0_2 : Int) (a0_3 : Int) (a1_0 : Int) (a1_1 : Int) (a1_2 : Int) (a1_3 : Int) (r : Bool) (w : World) (h : box_Meet.f a0_0 a0_1 a0_2 a0_3 a1_0 a1_1 a1_2 a1_3 = some r) :
  Calls Try.prog 44 #[.agg #[.int .i64 a0_0, .int .i64 a0_1, .int .i64 a0_2, .int .i64 a0_3], .agg #[.int .i64 a1_0, .int .i64 a1_1, .int .i64 a1_2, .int .i64 a1_3]] w fun e w' => e = .returned (.bool r) ∧ Below w.heap.size w w' := by
 have hu45 := Try.underlying45
 have HB := sd_ (Below.refl w.heap.size w)
 have H : ((box_Check.f a0_0 a0_1 a0_2 a0_3).bind fun t136 => (if t136 = true then ((box_Check.f a1_0 a1_1 a1_2 a1_3).bind fun t137 => (if t137 = true then ((box_overlap.f a0_0 a0_2 a1_0 a1_2).bind fun t138 => (if t138 = true then ((box_overlap.f a0_1 a0_3 a1_1 a1_3).bind fun t139 => (some t139)) else (some false))) else (some false))) else (some false))) = some r := h
 clear h
 replace H := ob_ H
 obtain ⟨t136, A30, H⟩ := H
 replace H : (if t136 = true then ((box_Check.f a1_0 a1_1 a1_2 a1_3).bind fun t137 => (if t137 = true then ((box_overlap.f a0_0 a0_2 a1_0 a1_2).bind fun t138 => (if t138 = true then ((box_overlap.f a0_1 a0_3 a1_1 a1_3).bind fun t139 => (some t139)) else (some false))) else (some false))) else (some false)) = some r := H
 have A3 := sd_ A30
 clear A30
 by_cases c4 : t136 = true
 ·subst c4
  have H1 : ((box_Check.f a1_0 a1_1 a1_2 a1_3).bind fun t137 => (if t137 = true then ((box_overlap.f a0_0 a0_2 a1_0 a1_2).bind fun t138 => (if t138 = true then ((box_overlap.f a0_1 a0_3 a1_1 a1_3).bind fun t139 => (some t139)) else (some false))) else (some false))) = some r := by rw [if_pos rfl] at H; exact H
  clear H; have H := H1; clear H1
  replace H := ob_ H
  obtain ⟨t137, A50, H⟩ := H
  replace H : (if t137 = true then ((box_overlap.f a0_0 a0_2 a1_0 a1_2).bind fun t138 => (if t138 = true then ((box_overlap.f a0_1 a0_3 a1_1 a1_3).bind fun t139 => (some t139)) else (some false))) else (some false)) = some r := H
  have A5 := sd_ A50
  clear A50
  by_cases c6 : t137 = true
  ·subst c6
   have H1 : ((box_overlap.f a0_0 a0_2 a1_0 a1_2).bind fun t138 => (if t138 = true then ((box_overlap.f a0_1 a0_3 a1_1 a1_3).bind fun t139 => (some t139)) else (some false))) = some r := by rw [if_pos rfl] at H; exact H
   clear H; have H := H1; clear H1
   replace H := ob_ H
   obtain ⟨t138, A70, H⟩ := H
   replace H : (if t138 = true then ((box_overlap.f a0_1 a0_3 a1_1 a1_3).bind fun t139 => (some t139)) else (some false)) = some r := H
   have A7 := sd_ A70
   clear A70
   by_cases c8 : t138 = true
   ·subst c8
    have H1 : ((box_overlap.f a0_1 a0_3 a1_1 a1_3).bind fun t139 => (some t139)) = some r := by rw [if_pos rfl] at H; exact H
    clear H; have H := H1; clear H1
    replace H := ob_ H
    obtain ⟨t139, A90, H⟩ := H
    replace H : (some t139) = some r := H
    have A9 := sd_ A90
    clear A90
    obtain rfl := Option.some.inj H
    go_enter Try.func44, Try.ntmps44
    go_wp2_with (first | ((with_reducible refine gate_dst (N := 2) rfl ?_); refine box_event ?hg (N := 2) ?hd (cs := #[.int .i64 a0_0, .int .i64 a0_1, .int .i64 a0_2, .int .i64 a0_3]) (t := 45) ?hr ?_; (case hd => rfl); (case hg => rfl); (case hr => first | (go_simp; done) | (go_simp; rfl)); intro gb134 hg w10 hbox hb; have BK134 := sd_ hbox; have GW134 := gw_ HB e0_ hg; have GE134 := GW134; replace HB := hb_ HB e0_ hb; clear hb hbox hg) | ((with_reducible refine gate_dst (N := 3) rfl ?_); refine box_event ?hg (N := 3) ?hd (cs := #[.int .i64 a1_0, .int .i64 a1_1, .int .i64 a1_2, .int .i64 a1_3]) (t := 45) ?hr ?_; (case hd => rfl); (case hg => rfl); (case hr => first | (go_simp; done) | (go_simp; rfl)); intro gb135 hg w11 hbox hb; have BK135 := sd_ hbox; have GW135 := gw_ HB (e_ GE134 e0_) hg; have GE135 := GW135; have NB134_135 := nb_ BK134 hg; have NB135_134 := sy_ NB134_135; replace BK134 := kb_ BK134 hb; replace HB := hb_ HB (e_ GE134 e0_) hb; clear hb hbox hg; have hnb12 := NB134_135.out; have hnc12 := NB135_134.out; have hcz13_0 : w11.cell? ⟨gb134, 0, none⟩ = some (.int .i64 a0_0) := (kc_ BK134.out 0).trans rfl; have hcz13_1 : w11.cell? ⟨gb134, 1, none⟩ = some (.int .i64 a0_1) := (kc_ BK134.out 1).trans rfl; have hcz13_2 : w11.cell? ⟨gb134, 2, none⟩ = some (.int .i64 a0_2) := (kc_ BK134.out 2).trans rfl; have hcz13_3 : w11.cell? ⟨gb134, 3, none⟩ = some (.int .i64 a0_3) := (kc_ BK134.out 3).trans rfl; have hfz13_0 := kf_ BK134.out 0; have hfz13_1 := kf_ BK134.out 1; have hfz13_2 := kf_ BK134.out 2; have hfz13_3 := kf_ BK134.out 3) | ((with_reducible refine gate_callee (f := 45) rfl ?_); refine goesL_ (some 6) rfl rfl Try.func45 (by kernel_rfl) rfl #[.agg #[.int .i64 a0_0, .int .i64 a0_1, .int .i64 a0_2, .int .i64 a0_3]] rfl (by (try simp only [lm_, lq_, lx_]); first | done | rfl | (simp only [ld_, lt_]; rfl)) ?_; (with_reducible refine (box_Check.calls a0_0 a0_1 a0_2 a0_3 true _ A3.out).mono ?_); rintro e w14 ⟨rfl, hb⟩; refine ⟨_, rfl, ?_⟩; replace BK134 := kb_ BK134 hb; replace BK135 := kb_ BK135 hb; replace HB := hb_ HB (e_ GE134 (e_ GE135 e0_)) hb; (try clear hb); (try clear hb2); (try clear hk); (try clear hi); have hcz15_0 : w14.cell? ⟨gb135, 0, none⟩ = some (.int .i64 a1_0) := (kc_ BK135.out 0).trans rfl; have hcz15_1 : w14.cell? ⟨gb135, 1, none⟩ = some (.int .i64 a1_1) := (kc_ BK135.out 1).trans rfl; have hcz15_2 : w14.cell? ⟨gb135, 2, none⟩ = some (.int .i64 a1_2) := (kc_ BK135.out 2).trans rfl; have hcz15_3 : w14.cell? ⟨gb135, 3, none⟩ = some (.int .i64 a1_3) := (kc_ BK135.out 3).trans rfl; have hfz15_0 := kf_ BK135.out 0; have hfz15_1 := kf_ BK135.out 1; have hfz15_2 := kf_ BK135.out 2; have hfz15_3 := kf_ BK135.out 3) | (go_at_call 45; (with_reducible refine (box_Check.calls a1_0 a1_1 a1_2 a1_3 true _ A5.out).mono ?_); rintro e w16 ⟨rfl, hb⟩; replace BK134 := kb_ BK134 hb; replace BK135 := kb_ BK135 hb; replace HB := hb_ HB (e_ GE134 (e_ GE135 e0_)) hb; (try clear hb); (try clear hb2); (try clear hk); (try clear hi); have hcz17_0 : w16.cell? ⟨gb134, 0, none⟩ = some (.int .i64 a0_0) := (kc_ BK134.out 0).trans rfl; have hcz17_1 : w16.cell? ⟨gb134, 1, none⟩ = some (.int .i64 a0_1) := (kc_ BK134.out 1).trans rfl; have hcz17_2 : w16.cell? ⟨gb134, 2, none⟩ = some (.int .i64 a0_2) := (kc_ BK134.out 2).trans rfl; have hcz17_3 : w16.cell? ⟨gb134, 3, none⟩ = some (.int .i64 a0_3) := (kc_ BK134.out 3).trans rfl; have hfz17_0 := kf_ BK134.out 0; have hfz17_1 := kf_ BK134.out 1; have hfz17_2 := kf_ BK134.out 2; have hfz17_3 := kf_ BK134.out 3; have hcz18_0 : w16.cell? ⟨gb135, 0, none⟩ = some (.int .i64 a1_0) := (kc_ BK135.out 0).trans rfl; have hcz18_1 : w16.cell? ⟨gb135, 1, none⟩ = some (.int .i64 a1_1) := (kc_ BK135.out 1).trans rfl; have hcz18_2 : w16.cell? ⟨gb135, 2, none⟩ = some (.int .i64 a1_2) := (kc_ BK135.out 2).trans rfl; have hcz18_3 : w16.cell? ⟨gb135, 3, none⟩ = some (.int .i64 a1_3) := (kc_ BK135.out 3).trans rfl; have hfz18_0 := kf_ BK135.out 0; have hfz18_1 := kf_ BK135.out 1; have hfz18_2 := kf_ BK135.out 2; have hfz18_3 := kf_ BK135.out 3) | (go_at_call 50; (with_reducible refine (box_overlap.calls a0_0 a0_2 a1_0 a1_2 true _ A7.out).mono ?_); rintro e w19 ⟨rfl, hb⟩; replace BK134 := kb_ BK134 hb; replace BK135 := kb_ BK135 hb; replace HB := hb_ HB (e_ GE134 (e_ GE135 e0_)) hb; (try clear hb); (try clear hb2); (try clear hk); (try clear hi); have hcz20_0 : w19.cell? ⟨gb134, 0, none⟩ = some (.int .i64 a0_0) := (kc_ BK134.out 0).trans rfl; have hcz20_1 : w19.cell? ⟨gb134, 1, none⟩ = some (.int .i64 a0_1) := (kc_ BK134.out 1).trans rfl; have hcz20_2 : w19.cell? ⟨gb134, 2, none⟩ = some (.int .i64 a0_2) := (kc_ BK134.out 2).trans rfl; have hcz20_3 : w19.cell? ⟨gb134, 3, none⟩ = some (.int .i64 a0_3) := (kc_ BK134.out 3).trans rfl; have hfz20_0 := kf_ BK134.out 0; have hfz20_1 := kf_ BK134.out 1; have hfz20_2 := kf_ BK134.out 2; have hfz20_3 := kf_ BK134.out 3; have hcz21_0 : w19.cell? ⟨gb135, 0, none⟩ = some (.int .i64 a1_0) := (kc_ BK135.out 0).trans rfl; have hcz21_1 : w19.cell? ⟨gb135, 1, none⟩ = some (.int .i64 a1_1) := (kc_ BK135.out 1).trans rfl; have hcz21_2 : w19.cell? ⟨gb135, 2, none⟩ = some (.int .i64 a1_2) := (kc_ BK135.out 2).trans rfl; have hcz21_3 : w19.cell? ⟨gb135, 3, none⟩ = some (.int .i64 a1_3) := (kc_ BK135.out 3).trans rfl; have hfz21_0 := kf_ BK135.out 0; have hfz21_1 := kf_ BK135.out 1; have hfz21_2 := kf_ BK135.out 2; have hfz21_3 := kf_ BK135.out 3) | (go_at_call 50; (with_reducible refine (box_overlap.calls a0_1 a0_3 a1_1 a1_3 t139 _ A9.out).mono ?_); rintro e w22 ⟨rfl, hb⟩; replace BK134 := kb_ BK134 hb; replace BK135 := kb_ BK135 hb; replace HB := hb_ HB (e_ GE134 (e_ GE135 e0_)) hb; (try clear hb); (try clear hb2); (try clear hk); (try clear hi)))
    go_ret
    exact ⟨by first | rfl | (simp [errW_none, errW_some] <;> rfl) | (simp [*, errW_none, errW_some] <;> rfl), by repeat (first | (with_reducible first | exact HB.out | apply ba_ | apply pd_ | apply d1_ | refine bs_ ?_ GE134.out | refine bs_ ?_ GE135.out) | exact HB.out)⟩
   ·replace c8 := bf_ c8
    subst c8
    have H1 : (some false) = some r := by rw [if_neg (show ¬ (false = true) by decide)] at H; exact H
    clear H; have H := H1; clear H1
    obtain rfl := Option.some.inj H
    go_enter Try.func44, Try.ntmps44
    go_wp2_with (first | ((with_reducible refine gate_dst (N := 2) rfl ?_); refine box_event ?hg (N := 2) ?hd (cs := #[.int .i64 a0_0, .int .i64 a0_1, .int .i64 a0_2, .int .i64 a0_3]) (t := 45) ?hr ?_; (case hd => rfl); (case hg => rfl); (case hr => first | (go_simp; done) | (go_simp; rfl)); intro gb134 hg w23 hbox hb; have BK134 := sd_ hbox; have GW134 := gw_ HB e0_ hg; have GE134 := GW134; replace HB := hb_ HB e0_ hb; clear hb hbox hg) | ((with_reducible refine gate_dst (N := 3) rfl ?_); refine box_event ?hg (N := 3) ?hd (cs := #[.int .i64 a1_0, .int .i64 a1_1, .int .i64 a1_2, .int .i64 a1_3]) (t := 45) ?hr ?_; (case hd => rfl); (case hg => rfl); (case hr => first | (go_simp; done) | (go_simp; rfl)); intro gb135 hg w24 hbox hb; have BK135 := sd_ hbox; have GW135 := gw_ HB (e_ GE134 e0_) hg; have GE135 := GW135; have NB134_135 := nb_ BK134 hg; have NB135_134 := sy_ NB134_135; replace BK134 := kb_ BK134 hb; replace HB := hb_ HB (e_ GE134 e0_) hb; clear hb hbox hg; have hnb25 := NB134_135.out; have hnc25 := NB135_134.out; have hcz26_0 : w24.cell? ⟨gb134, 0, none⟩ = some (.int .i64 a0_0) := (kc_ BK134.out 0).trans rfl; have hcz26_1 : w24.cell? ⟨gb134, 1, none⟩ = some (.int .i64 a0_1) := (kc_ BK134.out 1).trans rfl; have hcz26_2 : w24.cell? ⟨gb134, 2, none⟩ = some (.int .i64 a0_2) := (kc_ BK134.out 2).trans rfl; have hcz26_3 : w24.cell? ⟨gb134, 3, none⟩ = some (.int .i64 a0_3) := (kc_ BK134.out 3).trans rfl; have hfz26_0 := kf_ BK134.out 0; have hfz26_1 := kf_ BK134.out 1; have hfz26_2 := kf_ BK134.out 2; have hfz26_3 := kf_ BK134.out 3) | ((with_reducible refine gate_callee (f := 45) rfl ?_); refine goesL_ (some 6) rfl rfl Try.func45 (by kernel_rfl) rfl #[.agg #[.int .i64 a0_0, .int .i64 a0_1, .int .i64 a0_2, .int .i64 a0_3]] rfl (by (try simp only [lm_, lq_, lx_]); first | done | rfl | (simp only [ld_, lt_]; rfl)) ?_; (with_reducible refine (box_Check.calls a0_0 a0_1 a0_2 a0_3 true _ A3.out).mono ?_); rintro e w27 ⟨rfl, hb⟩; refine ⟨_, rfl, ?_⟩; replace BK134 := kb_ BK134 hb; replace BK135 := kb_ BK135 hb; replace HB := hb_ HB (e_ GE134 (e_ GE135 e0_)) hb; (try clear hb); (try clear hb2); (try clear hk); (try clear hi); have hcz28_0 : w27.cell? ⟨gb135, 0, none⟩ = some (.int .i64 a1_0) := (kc_ BK135.out 0).trans rfl; have hcz28_1 : w27.cell? ⟨gb135, 1, none⟩ = some (.int .i64 a1_1) := (kc_ BK135.out 1).trans rfl; have hcz28_2 : w27.cell? ⟨gb135, 2, none⟩ = some (.int .i64 a1_2) := (kc_ BK135.out 2).trans rfl; have hcz28_3 : w27.cell? ⟨gb135, 3, none⟩ = some (.int .i64 a1_3) := (kc_ BK135.out 3).trans rfl; have hfz28_0 := kf_ BK135.out 0; have hfz28_1 := kf_ BK135.out 1; have hfz28_2 := kf_ BK135.out 2; have hfz28_3 := kf_ BK135.out 3) | (go_at_call 45; (with_reducible refine (box_Check.calls a1_0 a1_1 a1_2 a1_3 true _ A5.out).mono ?_); rintro e w29 ⟨rfl, hb⟩; replace BK134 := kb_ BK134 hb; replace BK135 := kb_ BK135 hb; replace HB := hb_ HB (e_ GE134 (e_ GE135 e0_)) hb; (try clear hb); (try clear hb2); (try clear hk); (try clear hi); have hcz30_0 : w29.cell? ⟨gb134, 0, none⟩ = some (.int .i64 a0_0) := (kc_ BK134.out 0).trans rfl; have hcz30_1 : w29.cell? ⟨gb134, 1, none⟩ = some (.int .i64 a0_1) := (kc_ BK134.out 1).trans rfl; have hcz30_2 : w29.cell? ⟨gb134, 2, none⟩ = some (.int .i64 a0_2) := (kc_ BK134.out 2).trans rfl; have hcz30_3 : w29.cell? ⟨gb134, 3, none⟩ = some (.int .i64 a0_3) := (kc_ BK134.out 3).trans rfl; have hfz30_0 := kf_ BK134.out 0; have hfz30_1 := kf_ BK134.out 1; have hfz30_2 := kf_ BK134.out 2; have hfz30_3 := kf_ BK134.out 3; have hcz31_0 : w29.cell? ⟨gb135, 0, none⟩ = some (.int .i64 a1_0) := (kc_ BK135.out 0).trans rfl; have hcz31_1 : w29.cell? ⟨gb135, 1, none⟩ = some (.int .i64 a1_1) := (kc_ BK135.out 1).trans rfl; have hcz31_2 : w29.cell? ⟨gb135, 2, none⟩ = some (.int .i64 a1_2) := (kc_ BK135.out 2).trans rfl; have hcz31_3 : w29.cell? ⟨gb135, 3, none⟩ = some (.int .i64 a1_3) := (kc_ BK135.out 3).trans rfl; have hfz31_0 := kf_ BK135.out 0; have hfz31_1 := kf_ BK135.out 1; have hfz31_2 := kf_ BK135.out 2; have hfz31_3 := kf_ BK135.out 3) | (go_at_call 50; (with_reducible refine (box_overlap.calls a0_0 a0_2 a1_0 a1_2 false _ A7.out).mono ?_); rintro e w32 ⟨rfl, hb⟩; replace BK134 := kb_ BK134 hb; replace BK135 := kb_ BK135 hb; replace HB := hb_ HB (e_ GE134 (e_ GE135 e0_)) hb; (try clear hb); (try clear hb2); (try clear hk); (try clear hi)))
    go_ret
    exact ⟨by first | rfl | (simp [errW_none, errW_some] <;> rfl) | (simp [*, errW_none, errW_some] <;> rfl), by repeat (first | (with_reducible first | exact HB.out | apply ba_ | apply pd_ | apply d1_ | refine bs_ ?_ GE134.out | refine bs_ ?_ GE135.out) | exact HB.out)⟩
  ·replace c6 := bf_ c6
   subst c6
   have H1 : (some false) = some r := by rw [if_neg (show ¬ (false = true) by decide)] at H; exact H
   clear H; have H := H1; clear H1
   obtain rfl := Option.some.inj H
   go_enter Try.func44, Try.ntmps44
   go_wp2_with (first | ((with_reducible refine gate_dst (N := 2) rfl ?_); refine box_event ?hg (N := 2) ?hd (cs := #[.int .i64 a0_0, .int .i64 a0_1, .int .i64 a0_2, .int .i64 a0_3]) (t := 45) ?hr ?_; (case hd => rfl); (case hg => rfl); (case hr => first | (go_simp; done) | (go_simp; rfl)); intro gb134 hg w33 hbox hb; have BK134 := sd_ hbox; have GW134 := gw_ HB e0_ hg; have GE134 := GW134; replace HB := hb_ HB e0_ hb; clear hb hbox hg) | ((with_reducible refine gate_dst (N := 3) rfl ?_); refine box_event ?hg (N := 3) ?hd (cs := #[.int .i64 a1_0, .int .i64 a1_1, .int .i64 a1_2, .int .i64 a1_3]) (t := 45) ?hr ?_; (case hd => rfl); (case hg => rfl); (case hr => first | (go_simp; done) | (go_simp; rfl)); intro gb135 hg w34 hbox hb; have BK135 := sd_ hbox; have GW135 := gw_ HB (e_ GE134 e0_) hg; have GE135 := GW135; have NB134_135 := nb_ BK134 hg; have NB135_134 := sy_ NB134_135; replace BK134 := kb_ BK134 hb; replace HB := hb_ HB (e_ GE134 e0_) hb; clear hb hbox hg; have hnb35 := NB134_135.out; have hnc35 := NB135_134.out; have hcz36_0 : w34.cell? ⟨gb134, 0, none⟩ = some (.int .i64 a0_0) := (kc_ BK134.out 0).trans rfl; have hcz36_1 : w34.cell? ⟨gb134, 1, none⟩ = some (.int .i64 a0_1) := (kc_ BK134.out 1).trans rfl; have hcz36_2 : w34.cell? ⟨gb134, 2, none⟩ = some (.int .i64 a0_2) := (kc_ BK134.out 2).trans rfl; have hcz36_3 : w34.cell? ⟨gb134, 3, none⟩ = some (.int .i64 a0_3) := (kc_ BK134.out 3).trans rfl; have hfz36_0 := kf_ BK134.out 0; have hfz36_1 := kf_ BK134.out 1; have hfz36_2 := kf_ BK134.out 2; have hfz36_3 := kf_ BK134.out 3) | ((with_reducible refine gate_callee (f := 45) rfl ?_); refine goesL_ (some 6) rfl rfl Try.func45 (by kernel_rfl) rfl #[.agg #[.int .i64 a0_0, .int .i64 a0_1, .int .i64 a0_2, .int .i64 a0_3]] rfl (by (try simp only [lm_, lq_, lx_]); first | done | rfl | (simp only [ld_, lt_]; rfl)) ?_; (with_reducible refine (box_Check.calls a0_0 a0_1 a0_2 a0_3 true _ A3.out).mono ?_); rintro e w37 ⟨rfl, hb⟩; refine ⟨_, rfl, ?_⟩; replace BK134 := kb_ BK134 hb; replace BK135 := kb_ BK135 hb; replace HB := hb_ HB (e_ GE134 (e_ GE135 e0_)) hb; (try clear hb); (try clear hb2); (try clear hk); (try clear hi); have hcz38_0 : w37.cell? ⟨gb135, 0, none⟩ = some (.int .i64 a1_0) := (kc_ BK135.out 0).trans rfl; have hcz38_1 : w37.cell? ⟨gb135, 1, none⟩ = some (.int .i64 a1_1) := (kc_ BK135.out 1).trans rfl; have hcz38_2 : w37.cell? ⟨gb135, 2, none⟩ = some (.int .i64 a1_2) := (kc_ BK135.out 2).trans rfl; have hcz38_3 : w37.cell? ⟨gb135, 3, none⟩ = some (.int .i64 a1_3) := (kc_ BK135.out 3).trans rfl; have hfz38_0 := kf_ BK135.out 0; have hfz38_1 := kf_ BK135.out 1; have hfz38_2 := kf_ BK135.out 2; have hfz38_3 := kf_ BK135.out 3) | (go_at_call 45; (with_reducible refine (box_Check.calls a1_0 a1_1 a1_2 a1_3 false _ A5.out).mono ?_); rintro e w39 ⟨rfl, hb⟩; replace BK134 := kb_ BK134 hb; replace BK135 := kb_ BK135 hb; replace HB := hb_ HB (e_ GE134 (e_ GE135 e0_)) hb; (try clear hb); (try clear hb2); (try clear hk); (try clear hi)))
   go_ret
   exact ⟨by first | rfl | (simp [errW_none, errW_some] <;> rfl) | (simp [*, errW_none, errW_some] <;> rfl), by repeat (first | (with_reducible first | exact HB.out | apply ba_ | apply pd_ | apply d1_ | refine bs_ ?_ GE134.out | refine bs_ ?_ GE135.out) | exact HB.out)⟩
 ·replace c4 := bf_ c4
  subst c4
  have H1 : (some false) = some r := by rw [if_neg (show ¬ (false = true) by decide)] at H; exact H
  clear H; have H := H1; clear H1
  obtain rfl := Option.some.inj H
  go_enter Try.func44, Try.ntmps44
  go_wp2_with (first | ((with_reducible refine gate_dst (N := 2) rfl ?_); refine box_event ?hg (N := 2) ?hd (cs := #[.int .i64 a0_0, .int .i64 a0_1, .int .i64 a0_2, .int .i64 a0_3]) (t := 45) ?hr ?_; (case hd => rfl); (case hg => rfl); (case hr => first | (go_simp; done) | (go_simp; rfl)); intro gb134 hg w40 hbox hb; have BK134 := sd_ hbox; have GW134 := gw_ HB e0_ hg; have GE134 := GW134; replace HB := hb_ HB e0_ hb; clear hb hbox hg) | ((with_reducible refine gate_dst (N := 3) rfl ?_); refine box_event ?hg (N := 3) ?hd (cs := #[.int .i64 a1_0, .int .i64 a1_1, .int .i64 a1_2, .int .i64 a1_3]) (t := 45) ?hr ?_; (case hd => rfl); (case hg => rfl); (case hr => first | (go_simp; done) | (go_simp; rfl)); intro gb135 hg w41 hbox hb; have BK135 := sd_ hbox; have GW135 := gw_ HB (e_ GE134 e0_) hg; have GE135 := GW135; have NB134_135 := nb_ BK134 hg; have NB135_134 := sy_ NB134_135; replace BK134 := kb_ BK134 hb; replace HB := hb_ HB (e_ GE134 e0_) hb; clear hb hbox hg; have hnb42 := NB134_135.out; have hnc42 := NB135_134.out; have hcz43_0 : w41.cell? ⟨gb134, 0, none⟩ = some (.int .i64 a0_0) := (kc_ BK134.out 0).trans rfl; have hcz43_1 : w41.cell? ⟨gb134, 1, none⟩ = some (.int .i64 a0_1) := (kc_ BK134.out 1).trans rfl; have hcz43_2 : w41.cell? ⟨gb134, 2, none⟩ = some (.int .i64 a0_2) := (kc_ BK134.out 2).trans rfl; have hcz43_3 : w41.cell? ⟨gb134, 3, none⟩ = some (.int .i64 a0_3) := (kc_ BK134.out 3).trans rfl; have hfz43_0 := kf_ BK134.out 0; have hfz43_1 := kf_ BK134.out 1; have hfz43_2 := kf_ BK134.out 2; have hfz43_3 := kf_ BK134.out 3) | ((with_reducible refine gate_callee (f := 45) rfl ?_); refine goesL_ (some 6) rfl rfl Try.func45 (by kernel_rfl) rfl #[.agg #[.int .i64 a0_0, .int .i64 a0_1, .int .i64 a0_2, .int .i64 a0_3]] rfl (by (try simp only [lm_, lq_, lx_]); first | done | rfl | (simp only [ld_, lt_]; rfl)) ?_; (with_reducible refine (box_Check.calls a0_0 a0_1 a0_2 a0_3 false _ A3.out).mono ?_); rintro e w44 ⟨rfl, hb⟩; refine ⟨_, rfl, ?_⟩; replace BK134 := kb_ BK134 hb; replace BK135 := kb_ BK135 hb; replace HB := hb_ HB (e_ GE134 (e_ GE135 e0_)) hb; (try clear hb); (try clear hb2); (try clear hk); (try clear hi)))
  go_ret
  exact ⟨by first | rfl | (simp [errW_none, errW_some] <;> rfl) | (simp [*, errW_none, errW_some] <;> rfl), by repeat (first | (with_reducible first | exact HB.out | apply ba_ | apply pd_ | apply d1_ | refine bs_ ?_ GE134.out | refine bs_ ?_ GE135.out) | exact HB.out)⟩

end Go.Proofs.Ytchmcljinkemaaa.P
