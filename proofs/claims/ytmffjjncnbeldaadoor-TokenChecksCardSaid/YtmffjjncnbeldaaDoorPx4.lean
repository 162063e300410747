-- Written by a program of this session (wip/tools/xprint.py, over the kit's print): Lean checks it.
import Derived.Test.YtmffjjncnbeldaaDoorPx0
import Derived.Test.YtmffjjncnbeldaaDoorPx3
namespace Go.Proofs.YtmffjjncnbeldaaDoor.P
open Go.RowKit Go.Proofs.YtmffjjncnbeldaaDoorW.PrintWords Go.Proofs.YtmffjjncnbeldaaDoorW.PrintLast Go.Proofs.YtmffjjncnbeldaaDoorW.PrintMore
attribute [local go_sem] max2_int min2_int max_two min_two max_three min_three max_four min_four   -- for this text's walks alone
set_option linter.unusedVariables false
set_option linter.unusedSimpArgs false

/-! ### token_first: function 20 -/
def token_first.j0 : Nat → ByteArray → Int → Bool → Option (Int × Int × Int × Int)
 | 0, _, _, _ => none
 | k + 1, x0, x5, x15 => if x15 = true then (some (3, 1, 0, 0)) else ((strings_IndexByte.f (⟨#[123, 125, 60, 62, 124, 126, 40, 41, 47, 33, 46]⟩ : ByteArray) x5).bind fun t111 => (if t111 ≥ 0 then (some (4, 1, 0, 0)) else ((token_digit.f x5).bind fun t112 => (if t112 = true then ((token_number.f k x0).bind fun t113 => (some (2, t113, 0, 0))) else (if x5 = 34 then ((token_quoted.f x0).bind fun bt114 => (some (5, bt114.1, bt114.2.1, bt114.2.2))) else (if x5 = 45 then ((token_twice.f x0).bind fun bt118 => (some (6, bt118.1, bt118.2.1, bt118.2.2))) else (if x5 = 95 then ((token_twice.f x0).bind fun bt122 => (some (7, bt122.1, bt122.2.1, bt122.2.2))) else ((token_word.f x0).bind fun t126 => (if t126 = 0 then ((token_fault.f 10 0).bind fun bt127 => (some (0, 0, bt127.1, bt127.2))) else (some (1, t126, 0, 0)))))))))))
def token_first.f (k : Nat) (a0 : ByteArray) : Option (Int × Int × Int × Int) := if 0 < (a0.size : Int) then (if (bt a0 0) = 39 then (token_first.j0 k a0 (bt a0 0) true) else (token_first.j0 k a0 (bt a0 0) ((bt a0 0) == 44))) else (none)
theorem token_first.mono_l : ∀ k, (∀ y0 y1 y2, LeO (token_first.j0 k y0 y1 y2) (token_first.j0 (k + 1) y0 y1 y2))
 | 0 => fun _ _ _ r h => by simp [token_first.j0] at h
 | k + 1 => by
  have ih0 := token_first.mono_l k
  ·intro y0 y1 y2
   unfold token_first.j0
   repeat' first
   | (with_reducible exact ih0 _ _ _)
   | (with_reducible exact token_number.mono _ _)
   | (with_reducible exact LeO.refl _)
   | (with_reducible exact LeO.none _)
   | (with_reducible refine LeO.ite ?_ ?_)
   | (with_reducible refine LeO.bind ?_ (fun _ => ?_))
   | exact ih0 _ _ _
   | exact token_number.mono _ _
   | exact LeO.none _
   | refine LeO.ite ?_ ?_
   | refine LeO.bind ?_ (fun _ => ?_)
theorem token_first.mono : ∀ a0 k, LeO (token_first.f k a0) (token_first.f (k + 1) a0) := by
 intro a0 k
 have ih0 := token_first.mono_l k
 unfold token_first.f
 repeat' first
   | (with_reducible exact ih0 _ _ _)
   | (with_reducible exact token_number.mono _ _)
   | (with_reducible exact LeO.refl _)
   | (with_reducible exact LeO.none _)
   | (with_reducible refine LeO.ite ?_ ?_)
   | (with_reducible refine LeO.bind ?_ (fun _ => ?_))
   | exact ih0 _ _ _
   | exact token_number.mono _ _
   | exact LeO.none _
   | refine LeO.ite ?_ ?_
   | refine LeO.bind ?_ (fun _ => ?_)
set_option maxHeartbeats 8000000 in
set_option maxRecDepth 100000 in
theorem token_first.calls (k : Nat) (a0 : ByteArray) (r1 : Int) (r2 : Int) (r3 : Int) (r4 : Int) (w : World) (hE : Aside0 (LaidE w)) (h : token_first.f k a0 = some (r1, r2, r3, r4)) :
  Calls Tryd.prog 20 #[.string a0] w fun e w' => e = .returned (.tuple #[.int .i64 r1, .int .i64 r2, .agg #[.int .i64 r3, .int .i64 r4]]) ∧ Below w.heap.size w w' := by
 have hu26 := Tryd.underlying26
 have HB := sd_ (Below.refl w.heap.size w)
 have H : (if 0 < (a0.size : Int) then (if (bt a0 0) = 39 then (token_first.j0 k a0 (bt a0 0) true) else (token_first.j0 k a0 (bt a0 0) ((bt a0 0) == 44))) else (none)) = some (r1, r2, r3, r4) := h
 clear h
 by_cases c2 : 0 < (a0.size : Int)
 ·rw [if_pos c2] at H
  have c2b0 : decide (0 < (a0.size : Int)) = true := dt_ c2
  have c2b1 : decide (0 < a0.size) = true := dt_ (by omega)
  clear c2
  have HC4 := sd_ H
  clear H
  go_enter Tryd.func20, Tryd.ntmps20
  go_upto_region 2 with (first | ((with_reducible refine gate_dst (N := 4) rfl ?_); refine box_event ?hg (N := 4) ?hd (cs := #[.int .i64 0, .int .i64 0]) (t := 26) ?hr ?_; (case hd => rfl); (case hg => rfl); (case hr => first | (go_simp; done) | (go_simp; rfl)); intro gb110 hg w5 hbox hb; have BK110 := sd_ hbox; have GW110 := gw_ HB e0_ hg; have GE110 := GW110; replace HB := hb_ HB e0_ hb; clear hb hbox hg; have p3 : 0 ≤ (0 : Int) := (by omega); have q3 : 0 < a0.size := (by have : (0 : Int) < (a0.size : Int) := od_ (by first | (with_reducible assumption) | assumption); omega); have hx3 : ∀ h : 0 < a0.size, ((a0[0]'h).toNat : Int) = bt a0 0 := bt_at a0 0; clear p3; have qi3 : (0 < (a0.size : Int)) = True := eq_true (od_ (by first | (with_reducible assumption) | assumption)); replace q3 := eq_true q3))
  (try simp only [Act.put, ls_, lz_, lc_])
  go_cut [15] (fun v15 wc => ∃ (kq : Nat) (x15_3 : Bool), v15 = .bool x15_3 ∧ Aside0 (token_first.j0 kq a0 (bt a0 0) x15_3 = some (r1, r2, r3, r4)) ∧ Aside0 (kq ≤ k) ∧ Aside0 (wc.heap[gb110]? = some (.cells #[.int .i64 0, .int .i64 0] 26 (0, 0))) ∧ Aside0 (Below w.heap.size w wc))
  case first =>
   have H := HC4.out
   clear HC4
   by_cases c6 : (bt a0 0) = 39
   ·rw [if_pos c6] at H
    have c6b0 : ((bt a0 0) == 39) = true := beq_iff_eq.mpr c6
    have c6b1 : ((bt a0 0) != 39) = false := bne_eq_false_iff_eq.mpr c6
    clear c6
    (first | rw [c6b0] | (simp only [i64_w, i32_w]; rw [c6b0]) | skip)
    have H' := sd_ H
    clear H
    go_wp2
    go_meet
    case rel => exact ⟨_, (true), (by first | rfl | (simp; done) | (simp [*]; done) | (simp [bne]; done)), H', ⟨by first | omega | exact Nat.le_refl _⟩, ⟨by (with_reducible repeat first | apply kn_ | apply kd_ | apply ka_); exact BK110.out⟩, ⟨by repeat (first | (with_reducible first | exact HB.out | apply ba_ | apply pd_ | apply d1_ | refine bs_ ?_ GE110.out) | exact HB.out)⟩⟩
   ·rw [if_neg c6] at H
    have c6b0 : ((bt a0 0) == 39) = false := beq_eq_false_iff_ne.mpr c6
    have c6b1 : ((bt a0 0) != 39) = true := bne_iff_ne.mpr c6
    (first | rw [c6b0] | (simp only [i64_w, i32_w]; rw [c6b0]) | skip)
    have H' := sd_ H
    clear H
    go_wp2
    go_meet
    case rel => exact ⟨_, (((bt a0 0) == 44)), (by first | rfl | (simp; done) | (simp [*]; done) | (simp [bne]; done)), H', ⟨by first | omega | exact Nat.le_refl _⟩, ⟨by (with_reducible repeat first | apply kn_ | apply kd_ | apply ka_); exact BK110.out⟩, ⟨by repeat (first | (with_reducible first | exact HB.out | apply ba_ | apply pd_ | apply d1_ | refine bs_ ?_ GE110.out) | exact HB.out)⟩⟩
  case rest =>
   clear HC4
   try clear c2; try clear c2b0; try clear c2b1; try clear p2; try clear p3; try clear q3; try clear hx3; try clear qi3; try clear c6; try clear c6b0; try clear c6b1; try clear p3; try clear q3
   obtain ⟨kq, x15_3, rfl, HA, HJ3, BK110, HB⟩ := hcut
   cases kq with
   | zero => exact absurd HA.out (by simp [token_first.j0])
   | succ kj3 =>
    have H := HA.out
    clear HA
    simp only [token_first.j0] at H
    by_cases c7 : x15_3 = true
    ·subst c7
     have H1 : (some (3, 1, 0, 0)) = some (r1, r2, r3, r4) := by rw [if_pos rfl] at H; exact H
     clear H; have H := H1; clear H1
     simp only [Option.some.injEq, Prod.mk.injEq] at H
     obtain ⟨rfl, rfl, rfl, rfl⟩ := H
     have hcz8_0 : wc.cell? ⟨gb110, 0, none⟩ = some (.int .i64 0) := (kc_ BK110.out 0).trans rfl
     have hcz8_1 : wc.cell? ⟨gb110, 1, none⟩ = some (.int .i64 0) := (kc_ BK110.out 1).trans rfl
     have hfz8_0 := kf_ BK110.out 0
     have hfz8_1 := kf_ BK110.out 1
     go_wp2
     refine bodyPost_ret (results_list (rs := [.tmp 2, .tmp 3, .cell 4 26]) rfl (by simp) (.tmp (.tmp (.cell gb110 26 #[.int .i64 0, .int .i64 0] (0, 0) _ rfl (by (with_reducible repeat first | apply kn_ | apply kd_ | apply ka_); refine blk_put (cs := #[.int .i64 0, .int .i64 0]) ?_ 1 _ rfl; (with_reducible repeat first | apply kn_ | apply kd_ | apply ka_); refine blk_put (cs := #[.int .i64 0, .int .i64 0]) ?_ 0 _ rfl; (with_reducible repeat first | apply kn_ | apply kd_ | apply ka_); exact BK110.out) Tryd.underlying26 rfl (by kernel_rfl) .nil)))) rfl ?_
     exact ⟨by first | rfl | (simp [errW_none, errW_some] <;> rfl) | (simp [*, errW_none, errW_some] <;> rfl), by repeat (first | (with_reducible first | exact HB.out | apply ba_ | apply pd_ | apply d1_ | refine bs_ ?_ GE110.out) | exact HB.out)⟩
    ·replace c7 := bf_ c7
     subst c7
     have H1 : ((strings_IndexByte.f (⟨#[123, 125, 60, 62, 124, 126, 40, 41, 47, 33, 46]⟩ : ByteArray) (bt a0 0)).bind fun t111 => (if t111 ≥ 0 then (some (4, 1, 0, 0)) else ((token_digit.f (bt a0 0)).bind fun t112 => (if t112 = true then ((token_number.f kj3 a0).bind fun t113 => (some (2, t113, 0, 0))) else (if (bt a0 0) = 34 then ((token_quoted.f a0).bind fun bt114 => (some (5, bt114.1, bt114.2.1, bt114.2.2))) else (if (bt a0 0) = 45 then ((token_twice.f a0).bind fun bt118 => (some (6, bt118.1, bt118.2.1, bt118.2.2))) else (if (bt a0 0) = 95 then ((token_twice.f a0).bind fun bt122 => (some (7, bt122.1, bt122.2.1, bt122.2.2))) else ((token_word.f a0).bind fun t126 => (if t126 = 0 then ((token_fault.f 10 0).bind fun bt127 => (some (0, 0, bt127.1, bt127.2))) else (some (1, t126, 0, 0))))))))))) = some (r1, r2, r3, r4) := by rw [if_neg (show ¬ (false = true) by decide)] at H; exact H
     clear H; have H := H1; clear H1
     replace H := ob_ H
     obtain ⟨t111, A90, H⟩ := H
     replace H : (if t111 ≥ 0 then (some (4, 1, 0, 0)) else ((token_digit.f (bt a0 0)).bind fun t112 => (if t112 = true then ((token_number.f kj3 a0).bind fun t113 => (some (2, t113, 0, 0))) else (if (bt a0 0) = 34 then ((token_quoted.f a0).bind fun bt114 => (some (5, bt114.1, bt114.2.1, bt114.2.2))) else (if (bt a0 0) = 45 then ((token_twice.f a0).bind fun bt118 => (some (6, bt118.1, bt118.2.1, bt118.2.2))) else (if (bt a0 0) = 95 then ((token_twice.f a0).bind fun bt122 => (some (7, bt122.1, bt122.2.1, bt122.2.2))) else ((token_word.f a0).bind fun t126 => (if t126 = 0 then ((token_fault.f 10 0).bind fun bt127 => (some (0, 0, bt127.1, bt127.2))) else (some (1, t126, 0, 0)))))))))) = some (r1, r2, r3, r4) := H
     have A9 := sd_ A90
     clear A90
     by_cases c10 : t111 ≥ 0
     ·rw [if_pos c10] at H
      have c10b0 : decide (0 ≤ t111) = true := dt_ c10
      clear c10
      simp only [Option.some.injEq, Prod.mk.injEq] at H
      obtain ⟨rfl, rfl, rfl, rfl⟩ := H
      go_wp2_with (first | ((with_reducible refine gate_callee (f := 31) rfl ?_); refine goesL_ (some 25) rfl rfl Tryd.func31 (by kernel_rfl) rfl #[.string (⟨#[123, 125, 60, 62, 124, 126, 40, 41, 47, 33, 46]⟩ : ByteArray), .int .u8 (bt a0 0)] rfl (by (try simp only [lm_, lq_, lx_]); first | done | rfl | (simp only [ld_, lt_]; rfl)) ?_; (with_reducible refine (strings_IndexByte.calls (⟨#[123, 125, 60, 62, 124, 126, 40, 41, 47, 33, 46]⟩ : ByteArray) (bt a0 0) t111 _ A9.out).mono ?_); rintro e w' ⟨rfl, ⟨nd, rfl⟩⟩; refine ⟨_, rfl, ?_⟩; (repeat (rw [drewN_self wc]; generalize hq_ : World.drewN wc _ = wc; have n0_ : Aside0 (wc.heap[gb110]? = some (.cells #[.int .i64 0, .int .i64 0] 26 (0, 0))) := ⟨by rw [← hq_]; exact (kk_ BK110.out)⟩; have n1_ : Aside0 (Below w.heap.size w wc) := ⟨by rw [← hq_]; exact (bb_ HB.out (e_ GE110 e0_))⟩; clear BK110 HB hq_; have BK110 := n0_; have HB := n1_; clear n0_ n1_)); have hcz11_0 : wc.cell? ⟨gb110, 0, none⟩ = some (.int .i64 0) := (kc_ BK110.out 0).trans rfl; have hcz11_1 : wc.cell? ⟨gb110, 1, none⟩ = some (.int .i64 0) := (kc_ BK110.out 1).trans rfl; have hfz11_0 := kf_ BK110.out 0; have hfz11_1 := kf_ BK110.out 1))
      refine bodyPost_ret (results_list (rs := [.tmp 2, .tmp 3, .cell 4 26]) rfl (by simp) (.tmp (.tmp (.cell gb110 26 #[.int .i64 0, .int .i64 0] (0, 0) _ rfl (by (with_reducible repeat first | apply kn_ | apply kd_ | apply ka_); refine blk_put (cs := #[.int .i64 0, .int .i64 0]) ?_ 1 _ rfl; (with_reducible repeat first | apply kn_ | apply kd_ | apply ka_); refine blk_put (cs := #[.int .i64 0, .int .i64 0]) ?_ 0 _ rfl; (with_reducible repeat first | apply kn_ | apply kd_ | apply ka_); exact BK110.out) Tryd.underlying26 rfl (by kernel_rfl) .nil)))) rfl ?_
      exact ⟨by first | rfl | (simp [errW_none, errW_some] <;> rfl) | (simp [*, errW_none, errW_some] <;> rfl), by repeat (first | (with_reducible first | exact HB.out | apply ba_ | apply pd_ | apply d1_ | refine bs_ ?_ GE110.out) | exact HB.out)⟩
     ·rw [if_neg c10] at H
      have c10b0 : decide (0 ≤ t111) = false := df_ c10
      clear c10
      replace H := ob_ H
      obtain ⟨t112, A120, H⟩ := H
      replace H : (if t112 = true then ((token_number.f kj3 a0).bind fun t113 => (some (2, t113, 0, 0))) else (if (bt a0 0) = 34 then ((token_quoted.f a0).bind fun bt114 => (some (5, bt114.1, bt114.2.1, bt114.2.2))) else (if (bt a0 0) = 45 then ((token_twice.f a0).bind fun bt118 => (some (6, bt118.1, bt118.2.1, bt118.2.2))) else (if (bt a0 0) = 95 then ((token_twice.f a0).bind fun bt122 => (some (7, bt122.1, bt122.2.1, bt122.2.2))) else ((token_word.f a0).bind fun t126 => (if t126 = 0 then ((token_fault.f 10 0).bind fun bt127 => (some (0, 0, bt127.1, bt127.2))) else (some (1, t126, 0, 0)))))))) = some (r1, r2, r3, r4) := H
      have A12 := sd_ A120
      clear A120
      by_cases c13 : t112 = true
      ·subst c13
       have H1 : ((token_number.f kj3 a0).bind fun t113 => (some (2, t113, 0, 0))) = some (r1, r2, r3, r4) := by rw [if_pos rfl] at H; exact H
       clear H; have H := H1; clear H1
       replace H := ob_ H
       obtain ⟨t113, A140, H⟩ := H
       replace H : (some (2, t113, 0, 0)) = some (r1, r2, r3, r4) := H
       have A14 := sd_ A140
       clear A140
       simp only [Option.some.injEq, Prod.mk.injEq] at H
       obtain ⟨rfl, rfl, rfl, rfl⟩ := H
       go_wp2_with (first | ((with_reducible refine gate_callee (f := 31) rfl ?_); refine goesL_ (some 25) rfl rfl Tryd.func31 (by kernel_rfl) rfl #[.string (⟨#[123, 125, 60, 62, 124, 126, 40, 41, 47, 33, 46]⟩ : ByteArray), .int .u8 (bt a0 0)] rfl (by (try simp only [lm_, lq_, lx_]); first | done | rfl | (simp only [ld_, lt_]; rfl)) ?_; (with_reducible refine (strings_IndexByte.calls (⟨#[123, 125, 60, 62, 124, 126, 40, 41, 47, 33, 46]⟩ : ByteArray) (bt a0 0) t111 _ A9.out).mono ?_); rintro e w' ⟨rfl, ⟨nd, rfl⟩⟩; refine ⟨_, rfl, ?_⟩; (repeat (rw [drewN_self wc]; generalize hq_ : World.drewN wc _ = wc; have n0_ : Aside0 (wc.heap[gb110]? = some (.cells #[.int .i64 0, .int .i64 0] 26 (0, 0))) := ⟨by rw [← hq_]; exact (kk_ BK110.out)⟩; have n1_ : Aside0 (Below w.heap.size w wc) := ⟨by rw [← hq_]; exact (bb_ HB.out (e_ GE110 e0_))⟩; clear BK110 HB hq_; have BK110 := n0_; have HB := n1_; clear n0_ n1_))) | ((with_reducible refine gate_callee (f := 32) rfl ?_); refine goesL_ (some 30) rfl rfl Tryd.func32 (by kernel_rfl) rfl #[.int .u8 (bt a0 0)] rfl (by (try simp only [lm_, lq_, lx_]); first | done | rfl | (simp only [ld_, lt_]; rfl)) ?_; (with_reducible refine (token_digit.calls (bt a0 0) true _ A12.out).mono ?_); rintro e w' ⟨rfl, ⟨nd, rfl⟩⟩; refine ⟨_, rfl, ?_⟩; (repeat (rw [drewN_self wc]; generalize hq_ : World.drewN wc _ = wc; have n0_ : Aside0 (wc.heap[gb110]? = some (.cells #[.int .i64 0, .int .i64 0] 26 (0, 0))) := ⟨by rw [← hq_]; exact (kk_ BK110.out)⟩; have n1_ : Aside0 (Below w.heap.size w wc) := ⟨by rw [← hq_]; exact (bb_ HB.out (e_ GE110 e0_))⟩; clear BK110 HB hq_; have BK110 := n0_; have HB := n1_; clear n0_ n1_))) | ((with_reducible refine gate_callee (f := 33) rfl ?_); refine goesL_ (some 32) rfl rfl Tryd.func33 (by kernel_rfl) rfl #[.string a0] rfl (by (try simp only [lm_, lq_, lx_]); first | done | rfl | (simp only [ld_, lt_]; rfl)) ?_; (with_reducible refine (token_number.calls kj3 a0 t113 _ A14.out).mono ?_); rintro e w' ⟨rfl, ⟨nd, rfl⟩⟩; refine ⟨_, rfl, ?_⟩; (repeat (rw [drewN_self wc]; generalize hq_ : World.drewN wc _ = wc; have n0_ : Aside0 (wc.heap[gb110]? = some (.cells #[.int .i64 0, .int .i64 0] 26 (0, 0))) := ⟨by rw [← hq_]; exact (kk_ BK110.out)⟩; have n1_ : Aside0 (Below w.heap.size w wc) := ⟨by rw [← hq_]; exact (bb_ HB.out (e_ GE110 e0_))⟩; clear BK110 HB hq_; have BK110 := n0_; have HB := n1_; clear n0_ n1_)); have hcz15_0 : wc.cell? ⟨gb110, 0, none⟩ = some (.int .i64 0) := (kc_ BK110.out 0).trans rfl; have hcz15_1 : wc.cell? ⟨gb110, 1, none⟩ = some (.int .i64 0) := (kc_ BK110.out 1).trans rfl; have hfz15_0 := kf_ BK110.out 0; have hfz15_1 := kf_ BK110.out 1))
       refine bodyPost_ret (results_list (rs := [.tmp 2, .tmp 3, .cell 4 26]) rfl (by simp) (.tmp (.tmp (.cell gb110 26 #[.int .i64 0, .int .i64 0] (0, 0) _ rfl (by (with_reducible repeat first | apply kn_ | apply kd_ | apply ka_); refine blk_put (cs := #[.int .i64 0, .int .i64 0]) ?_ 1 _ rfl; (with_reducible repeat first | apply kn_ | apply kd_ | apply ka_); refine blk_put (cs := #[.int .i64 0, .int .i64 0]) ?_ 0 _ rfl; (with_reducible repeat first | apply kn_ | apply kd_ | apply ka_); exact BK110.out) Tryd.underlying26 rfl (by kernel_rfl) .nil)))) rfl ?_
       exact ⟨by first | rfl | (simp [errW_none, errW_some] <;> rfl) | (simp [*, errW_none, errW_some] <;> rfl), by repeat (first | (with_reducible first | exact HB.out | apply ba_ | apply pd_ | apply d1_ | refine bs_ ?_ GE110.out) | exact HB.out)⟩
      ·replace c13 := bf_ c13
       subst c13
       have H1 : (if (bt a0 0) = 34 then ((token_quoted.f a0).bind fun bt114 => (some (5, bt114.1, bt114.2.1, bt114.2.2))) else (if (bt a0 0) = 45 then ((token_twice.f a0).bind fun bt118 => (some (6, bt118.1, bt118.2.1, bt118.2.2))) else (if (bt a0 0) = 95 then ((token_twice.f a0).bind fun bt122 => (some (7, bt122.1, bt122.2.1, bt122.2.2))) else ((token_word.f a0).bind fun t126 => (if t126 = 0 then ((token_fault.f 10 0).bind fun bt127 => (some (0, 0, bt127.1, bt127.2))) else (some (1, t126, 0, 0))))))) = some (r1, r2, r3, r4) := by rw [if_neg (show ¬ (false = true) by decide)] at H; exact H
       clear H; have H := H1; clear H1
       by_cases c16 : (bt a0 0) = 34
       ·rw [if_pos c16] at H
        have c16b0 : ((bt a0 0) == 34) = true := beq_iff_eq.mpr c16
        have c16b1 : ((bt a0 0) != 34) = false := bne_eq_false_iff_eq.mpr c16
        clear c16
        replace H := ob_ H
        obtain ⟨⟨t114, t115, t116⟩, A170, H⟩ := H
        replace H : (some (5, t114, t115, t116)) = some (r1, r2, r3, r4) := H
        have A17 := sd_ A170
        clear A170
        simp only [Option.some.injEq, Prod.mk.injEq] at H
        obtain ⟨rfl, rfl, rfl, rfl⟩ := H
        try go_wp2_with (first | ((with_reducible refine gate_callee (f := 31) rfl ?_); refine goesL_ (some 25) rfl rfl Tryd.func31 (by kernel_rfl) rfl #[.string (⟨#[123, 125, 60, 62, 124, 126, 40, 41, 47, 33, 46]⟩ : ByteArray), .int .u8 (bt a0 0)] rfl (by (try simp only [lm_, lq_, lx_]); first | done | rfl | (simp only [ld_, lt_]; rfl)) ?_; (with_reducible refine (strings_IndexByte.calls (⟨#[123, 125, 60, 62, 124, 126, 40, 41, 47, 33, 46]⟩ : ByteArray) (bt a0 0) t111 _ A9.out).mono ?_); rintro e w' ⟨rfl, ⟨nd, rfl⟩⟩; refine ⟨_, rfl, ?_⟩; (repeat (rw [drewN_self wc]; generalize hq_ : World.drewN wc _ = wc; have n0_ : Aside0 (wc.heap[gb110]? = some (.cells #[.int .i64 0, .int .i64 0] 26 (0, 0))) := ⟨by rw [← hq_]; exact (kk_ BK110.out)⟩; have n1_ : Aside0 (Below w.heap.size w wc) := ⟨by rw [← hq_]; exact (bb_ HB.out (e_ GE110 e0_))⟩; clear BK110 HB hq_; have BK110 := n0_; have HB := n1_; clear n0_ n1_))) | ((with_reducible refine gate_callee (f := 32) rfl ?_); refine goesL_ (some 30) rfl rfl Tryd.func32 (by kernel_rfl) rfl #[.int .u8 (bt a0 0)] rfl (by (try simp only [lm_, lq_, lx_]); first | done | rfl | (simp only [ld_, lt_]; rfl)) ?_; (with_reducible refine (token_digit.calls (bt a0 0) false _ A12.out).mono ?_); rintro e w' ⟨rfl, ⟨nd, rfl⟩⟩; refine ⟨_, rfl, ?_⟩; (repeat (rw [drewN_self wc]; generalize hq_ : World.drewN wc _ = wc; have n0_ : Aside0 (wc.heap[gb110]? = some (.cells #[.int .i64 0, .int .i64 0] 26 (0, 0))) := ⟨by rw [← hq_]; exact (kk_ BK110.out)⟩; have n1_ : Aside0 (Below w.heap.size w wc) := ⟨by rw [← hq_]; exact (bb_ HB.out (e_ GE110 e0_))⟩; clear BK110 HB hq_; have BK110 := n0_; have HB := n1_; clear n0_ n1_))) | ((with_reducible refine gate_callee (f := 34) rfl ?_); refine goesL_ (some 39) rfl rfl Tryd.func34 (by kernel_rfl) rfl #[.string a0] rfl (by (try simp only [lm_, lq_, lx_]); first | done | rfl | (simp only [ld_, lt_]; rfl)) ?_; (with_reducible refine (token_quoted.calls a0 t114 t115 t116 _ ?side1 A17.out).mono ?_); (case side1 => first | (with_reducible exact hE) | exact sd_ (LaidE.below hE.out (bb_ HB.out (e_ GE110 e0_)))); rintro e w18 ⟨rfl, hb⟩; refine ⟨_, rfl, ?_⟩; replace BK110 := kb_ BK110 hb; replace HB := hb_ HB (e_ GE110 e0_) hb; (try clear hb); (try clear hb2); (try clear hk); (try clear hi)) | ((with_reducible refine gate_dst (N := 7) rfl ?_); refine box_event ?hg (N := 7) ?hd (cs := #[.int .i64 0, .int .i64 0]) (t := 26) ?hr ?_; (case hd => rfl); (case hg => rfl); (case hr => first | (go_simp; done) | (go_simp; rfl)); intro gb117 hg w19 hbox hb; have BK117 := sd_ hbox; have GW117 := gw_ HB (e_ GE110 e0_) hg; have GE117 := GW117; have NB110_117 := nb_ BK110 hg; have NB117_110 := sy_ NB110_117; replace BK110 := kb_ BK110 hb; replace HB := hb_ HB (e_ GE110 e0_) hb; clear hb hbox hg; have hnb20 := NB117_110.out; have hnc20 := NB110_117.out; have hcz21_0 : w19.cell? ⟨gb117, 0, none⟩ = some (.int .i64 0) := (kc_ BK117.out 0).trans rfl; have hcz21_1 : w19.cell? ⟨gb117, 1, none⟩ = some (.int .i64 0) := (kc_ BK117.out 1).trans rfl; have hfz21_0 := kf_ BK117.out 0; have hfz21_1 := kf_ BK117.out 1))
        have n0_ : Aside0 (((w19.setCell ⟨gb117, 0, none⟩ (.int .i64 t115)).setCell ⟨gb117, 1, none⟩ (.int .i64 t116)).heap[gb110]? = some (.cells #[.int .i64 0, .int .i64 0] 26 (0, 0))) := ⟨by (with_reducible repeat first | apply kn_ | apply kd_ | apply ka_); refine blk_far ?_ NB110_117.out _; (with_reducible repeat first | apply kn_ | apply kd_ | apply ka_); refine blk_far ?_ NB110_117.out _; (with_reducible repeat first | apply kn_ | apply kd_ | apply ka_); exact BK110.out⟩
        have n1_ : Aside0 (((w19.setCell ⟨gb117, 0, none⟩ (.int .i64 t115)).setCell ⟨gb117, 1, none⟩ (.int .i64 t116)).heap[gb117]? = some (.cells #[.int .i64 t115, .int .i64 t116] 26 (0, 0))) := ⟨by (with_reducible repeat first | apply kn_ | apply kd_ | apply ka_); refine blk_put (cs := #[.int .i64 t115, .int .i64 0]) ?_ 1 _ rfl; (with_reducible repeat first | apply kn_ | apply kd_ | apply ka_); refine blk_put (cs := #[.int .i64 0, .int .i64 0]) ?_ 0 _ rfl; (with_reducible repeat first | apply kn_ | apply kd_ | apply ka_); exact BK117.out⟩
        have n2_ : Aside0 (Below w.heap.size w ((w19.setCell ⟨gb117, 0, none⟩ (.int .i64 t115)).setCell ⟨gb117, 1, none⟩ (.int .i64 t116))) := ⟨by repeat (first | (with_reducible first | exact HB.out | apply ba_ | apply pd_ | apply d1_ | refine bs_ ?_ GE110.out | refine bs_ ?_ GE117.out) | exact HB.out)⟩
        (try clear BK110)
        (try clear BK117)
        (try clear HB)
        generalize ((w19.setCell ⟨gb117, 0, none⟩ (.int .i64 t115)).setCell ⟨gb117, 1, none⟩ (.int .i64 t116)) = w22 at n0_ n1_ n2_ ⊢
        have BK110 := n0_
        have BK117 := n1_
        have HB := n2_
        clear n0_ n1_ n2_
        replace BK110 := sd_ (kd_ BK110.out)
        replace BK117 := sd_ (kd_ BK117.out)
        replace HB := sd_ (d1_ HB.out)
        refine start_ (n := 5) (S := fun w' => w'.cell? ⟨gb117, 0, none⟩ = some (.int .i64 t115) ∧ w'.cell? ⟨gb117, 1, none⟩ = some (.int .i64 t116)) (ds := []) #[false, false, false, false, false] (by kernel_rfl) rfl rfl ⟨(kc_ BK117.out 0).trans rfl, (kc_ BK117.out 1).trans rfl⟩ (fun hHeld => ?_)
        generalize w22.drew = w23 at BK110 BK117 HB hHeld ⊢
        refine pure_ (i := 0) (N := some 42) (v := ?_) (a' := ?_) #[true, false, false, false, false] rfl rfl (by kernel_rfl) (fun _ _ _ h => h) (Or.inl ⟨by rfl, ?_⟩) ?_ ?_
        rotate_left; (intro w'; go_simp; with_reducible rfl); rotate_left; (simp only [Act.put, ls_, lz_, lc_, i64_w, i32_w]; rfl)
        refine pure_ (i := 2) (N := some 2) (v := ?_) (a' := ?_) #[true, false, true, false, false] rfl rfl (by kernel_rfl) (fun _ _ _ h => h) (Or.inl ⟨by rfl, ?_⟩) ?_ ?_
        rotate_left; (intro w'; go_simp; with_reducible rfl); rotate_left; (simp only [Act.put, ls_, lz_, lc_, i64_w, i32_w]; rfl)
        refine pure_ (i := 3) (N := some 3) (v := ?_) (a' := ?_) #[true, false, true, true, false] rfl rfl (by kernel_rfl) (fun _ _ _ h => h) (Or.inl ⟨by rfl, ?_⟩) ?_ ?_
        rotate_left; (intro w'; go_simp; with_reducible rfl); rotate_left; (simp only [Act.put, ls_, lz_, lc_, i64_w, i32_w]; rfl)
        refine take_ (i := 1) (N := some 43) (v := ?_) (a' := ?_) #[true, true, true, true, false] rfl rfl (by kernel_rfl) (fun _ _ _ h => h) (Or.inl ⟨by rfl, ?_⟩) hHeld ?_ ?_
        rotate_left
        ·rintro w' ⟨s0, s1⟩
         go_simp
         with_reducible rfl
        rotate_left
        ·simp only [Act.put, ls_, lz_, lc_, i64_w, i32_w]
         rfl
        refine one_ (i := 4) (N := none) #[true, true, true, true, true] rfl rfl (by kernel_rfl) (by decide) (fun K hK => ?_)
        have hs24 : w23.cell? ⟨gb110, 0, none⟩ = some (.int .i64 0) := (kc_ BK110.out 0).trans rfl
        have hfs24 := kf_ BK110.out 0
        have hns24_1 := NB117_110.out
        have hms24_1 := NB110_117.out
        have hs25 : w23.cell? ⟨gb110, 1, none⟩ = some (.int .i64 0) := (kc_ BK110.out 1).trans rfl
        have hfs25 := kf_ BK110.out 1
        have hns25_1 := NB117_110.out
        have hms25_1 := NB110_117.out
        refine skip_ (w1 := ?_) (by rfl) rfl ?_ ?_
        rotate_left
        ·go_simp
         rfl
        refine hK.out _ _ ⟨((cell_far (p := ⟨gb110, _, none⟩) NB117_110.out _).trans (((cell_far (p := ⟨gb110, _, none⟩) NB117_110.out _).trans (hHeld.1)))), ((cell_far (p := ⟨gb110, _, none⟩) NB117_110.out _).trans (((cell_far (p := ⟨gb110, _, none⟩) NB117_110.out _).trans (hHeld.2))))⟩ (fun hHeld => ?_)
        clear hK K
        refine done_ (by kernel_rfl) ?_
        try go_wp2
        refine bodyPost_ret (results_list (rs := [.tmp 2, .tmp 3, .cell 4 26]) rfl (by simp) (.tmp (.tmp (.cell gb110 26 #[.int .i64 t115, .int .i64 t116] (0, 0) _ rfl (by (with_reducible repeat first | apply kn_ | apply kd_ | apply ka_); refine blk_put (cs := #[.int .i64 t115, .int .i64 0]) ?_ 1 _ rfl; (with_reducible repeat first | apply kn_ | apply kd_ | apply ka_); refine blk_put (cs := #[.int .i64 0, .int .i64 0]) ?_ 0 _ rfl; (with_reducible repeat first | apply kn_ | apply kd_ | apply ka_); exact BK110.out) Tryd.underlying26 rfl (by kernel_rfl) .nil)))) rfl ?_
        exact ⟨by first | rfl | (simp [errW_none, errW_some] <;> rfl) | (simp [*, errW_none, errW_some] <;> rfl), by repeat (first | (with_reducible first | exact HB.out | apply ba_ | apply pd_ | apply d1_ | refine bs_ ?_ GE110.out | refine bs_ ?_ GE117.out) | exact HB.out)⟩
       ·rw [if_neg c16] at H
        have c16b0 : ((bt a0 0) == 34) = false := beq_eq_false_iff_ne.mpr c16
        have c16b1 : ((bt a0 0) != 34) = true := bne_iff_ne.mpr c16
        by_cases c26 : (bt a0 0) = 45
        ·rw [if_pos c26] at H
         have c26b0 : ((bt a0 0) == 45) = true := beq_iff_eq.mpr c26
         have c26b1 : ((bt a0 0) != 45) = false := bne_eq_false_iff_eq.mpr c26
         clear c26
         replace H := ob_ H
         obtain ⟨⟨t118, t119, t120⟩, A270, H⟩ := H
         replace H : (some (6, t118, t119, t120)) = some (r1, r2, r3, r4) := H
         have A27 := sd_ A270
         clear A270
         simp only [Option.some.injEq, Prod.mk.injEq] at H
         obtain ⟨rfl, rfl, rfl, rfl⟩ := H
         try go_wp2_with (first | ((with_reducible refine gate_callee (f := 31) rfl ?_); refine goesL_ (some 25) rfl rfl Tryd.func31 (by kernel_rfl) rfl #[.string (⟨#[123, 125, 60, 62, 124, 126, 40, 41, 47, 33, 46]⟩ : ByteArray), .int .u8 (bt a0 0)] rfl (by (try simp only [lm_, lq_, lx_]); first | done | rfl | (simp only [ld_, lt_]; rfl)) ?_; (with_reducible refine (strings_IndexByte.calls (⟨#[123, 125, 60, 62, 124, 126, 40, 41, 47, 33, 46]⟩ : ByteArray) (bt a0 0) t111 _ A9.out).mono ?_); rintro e w' ⟨rfl, ⟨nd, rfl⟩⟩; refine ⟨_, rfl, ?_⟩; (repeat (rw [drewN_self wc]; generalize hq_ : World.drewN wc _ = wc; have n0_ : Aside0 (wc.heap[gb110]? = some (.cells #[.int .i64 0, .int .i64 0] 26 (0, 0))) := ⟨by rw [← hq_]; exact (kk_ BK110.out)⟩; have n1_ : Aside0 (Below w.heap.size w wc) := ⟨by rw [← hq_]; exact (bb_ HB.out (e_ GE110 e0_))⟩; clear BK110 HB hq_; have BK110 := n0_; have HB := n1_; clear n0_ n1_))) | ((with_reducible refine gate_callee (f := 32) rfl ?_); refine goesL_ (some 30) rfl rfl Tryd.func32 (by kernel_rfl) rfl #[.int .u8 (bt a0 0)] rfl (by (try simp only [lm_, lq_, lx_]); first | done | rfl | (simp only [ld_, lt_]; rfl)) ?_; (with_reducible refine (token_digit.calls (bt a0 0) false _ A12.out).mono ?_); rintro e w' ⟨rfl, ⟨nd, rfl⟩⟩; refine ⟨_, rfl, ?_⟩; (repeat (rw [drewN_self wc]; generalize hq_ : World.drewN wc _ = wc; have n0_ : Aside0 (wc.heap[gb110]? = some (.cells #[.int .i64 0, .int .i64 0] 26 (0, 0))) := ⟨by rw [← hq_]; exact (kk_ BK110.out)⟩; have n1_ : Aside0 (Below w.heap.size w wc) := ⟨by rw [← hq_]; exact (bb_ HB.out (e_ GE110 e0_))⟩; clear BK110 HB hq_; have BK110 := n0_; have HB := n1_; clear n0_ n1_))) | ((with_reducible refine gate_callee (f := 35) rfl ?_); refine goesL_ (some 49) rfl rfl Tryd.func35 (by kernel_rfl) rfl #[.string a0] rfl (by (try simp only [lm_, lq_, lx_]); first | done | rfl | (simp only [ld_, lt_]; rfl)) ?_; (with_reducible refine (token_twice.calls a0 t118 t119 t120 _ A27.out).mono ?_); rintro e w28 ⟨rfl, hb⟩; refine ⟨_, rfl, ?_⟩; replace BK110 := kb_ BK110 hb; replace HB := hb_ HB (e_ GE110 e0_) hb; (try clear hb); (try clear hb2); (try clear hk); (try clear hi)) | ((with_reducible refine gate_dst (N := 9) rfl ?_); refine box_event ?hg (N := 9) ?hd (cs := #[.int .i64 0, .int .i64 0]) (t := 26) ?hr ?_; (case hd => rfl); (case hg => rfl); (case hr => first | (go_simp; done) | (go_simp; rfl)); intro gb121 hg w29 hbox hb; have BK121 := sd_ hbox; have GW121 := gw_ HB (e_ GE110 e0_) hg; have GE121 := GW121; have NB110_121 := nb_ BK110 hg; have NB121_110 := sy_ NB110_121; replace BK110 := kb_ BK110 hb; replace HB := hb_ HB (e_ GE110 e0_) hb; clear hb hbox hg; have hnb30 := NB121_110.out; have hnc30 := NB110_121.out; have hcz31_0 : w29.cell? ⟨gb121, 0, none⟩ = some (.int .i64 0) := (kc_ BK121.out 0).trans rfl; have hcz31_1 : w29.cell? ⟨gb121, 1, none⟩ = some (.int .i64 0) := (kc_ BK121.out 1).trans rfl; have hfz31_0 := kf_ BK121.out 0; have hfz31_1 := kf_ BK121.out 1))
         have n0_ : Aside0 (((w29.setCell ⟨gb121, 0, none⟩ (.int .i64 t119)).setCell ⟨gb121, 1, none⟩ (.int .i64 t120)).heap[gb110]? = some (.cells #[.int .i64 0, .int .i64 0] 26 (0, 0))) := ⟨by (with_reducible repeat first | apply kn_ | apply kd_ | apply ka_); refine blk_far ?_ NB110_121.out _; (with_reducible repeat first | apply kn_ | apply kd_ | apply ka_); refine blk_far ?_ NB110_121.out _; (with_reducible repeat first | apply kn_ | apply kd_ | apply ka_); exact BK110.out⟩
         have n1_ : Aside0 (((w29.setCell ⟨gb121, 0, none⟩ (.int .i64 t119)).setCell ⟨gb121, 1, none⟩ (.int .i64 t120)).heap[gb121]? = some (.cells #[.int .i64 t119, .int .i64 t120] 26 (0, 0))) := ⟨by (with_reducible repeat first | apply kn_ | apply kd_ | apply ka_); refine blk_put (cs := #[.int .i64 t119, .int .i64 0]) ?_ 1 _ rfl; (with_reducible repeat first | apply kn_ | apply kd_ | apply ka_); refine blk_put (cs := #[.int .i64 0, .int .i64 0]) ?_ 0 _ rfl; (with_reducible repeat first | apply kn_ | apply kd_ | apply ka_); exact BK121.out⟩
         have n2_ : Aside0 (Below w.heap.size w ((w29.setCell ⟨gb121, 0, none⟩ (.int .i64 t119)).setCell ⟨gb121, 1, none⟩ (.int .i64 t120))) := ⟨by repeat (first | (with_reducible first | exact HB.out | apply ba_ | apply pd_ | apply d1_ | refine bs_ ?_ GE110.out | refine bs_ ?_ GE121.out) | exact HB.out)⟩
         (try clear BK110)
         (try clear BK121)
         (try clear HB)
         generalize ((w29.setCell ⟨gb121, 0, none⟩ (.int .i64 t119)).setCell ⟨gb121, 1, none⟩ (.int .i64 t120)) = w32 at n0_ n1_ n2_ ⊢
         have BK110 := n0_
         have BK121 := n1_
         have HB := n2_
         clear n0_ n1_ n2_
         replace BK110 := sd_ (kd_ BK110.out)
         replace BK121 := sd_ (kd_ BK121.out)
         replace HB := sd_ (d1_ HB.out)
         refine start_ (n := 5) (S := fun w' => w'.cell? ⟨gb121, 0, none⟩ = some (.int .i64 t119) ∧ w'.cell? ⟨gb121, 1, none⟩ = some (.int .i64 t120)) (ds := []) #[false, false, false, false, false] (by kernel_rfl) rfl rfl ⟨(kc_ BK121.out 0).trans rfl, (kc_ BK121.out 1).trans rfl⟩ (fun hHeld => ?_)
         generalize w32.drew = w33 at BK110 BK121 HB hHeld ⊢
         refine pure_ (i := 0) (N := some 52) (v := ?_) (a' := ?_) #[true, false, false, false, false] rfl rfl (by kernel_rfl) (fun _ _ _ h => h) (Or.inl ⟨by rfl, ?_⟩) ?_ ?_
         rotate_left; (intro w'; go_simp; with_reducible rfl); rotate_left; (simp only [Act.put, ls_, lz_, lc_, i64_w, i32_w]; rfl)
         refine pure_ (i := 2) (N := some 2) (v := ?_) (a' := ?_) #[true, false, true, false, false] rfl rfl (by kernel_rfl) (fun _ _ _ h => h) (Or.inl ⟨by rfl, ?_⟩) ?_ ?_
         rotate_left; (intro w'; go_simp; with_reducible rfl); rotate_left; (simp only [Act.put, ls_, lz_, lc_, i64_w, i32_w]; rfl)
         refine pure_ (i := 3) (N := some 3) (v := ?_) (a' := ?_) #[true, false, true, true, false] rfl rfl (by kernel_rfl) (fun _ _ _ h => h) (Or.inl ⟨by rfl, ?_⟩) ?_ ?_
         rotate_left; (intro w'; go_simp; with_reducible rfl); rotate_left; (simp only [Act.put, ls_, lz_, lc_, i64_w, i32_w]; rfl)
         refine take_ (i := 1) (N := some 53) (v := ?_) (a' := ?_) #[true, true, true, true, false] rfl rfl (by kernel_rfl) (fun _ _ _ h => h) (Or.inl ⟨by rfl, ?_⟩) hHeld ?_ ?_
         rotate_left
         ·rintro w' ⟨s0, s1⟩
          go_simp
          with_reducible rfl
         rotate_left
         ·simp only [Act.put, ls_, lz_, lc_, i64_w, i32_w]
          rfl
         refine one_ (i := 4) (N := none) #[true, true, true, true, true] rfl rfl (by kernel_rfl) (by decide) (fun K hK => ?_)
         have hs34 : w33.cell? ⟨gb110, 0, none⟩ = some (.int .i64 0) := (kc_ BK110.out 0).trans rfl
         have hfs34 := kf_ BK110.out 0
         have hns34_1 := NB121_110.out
         have hms34_1 := NB110_121.out
         have hs35 : w33.cell? ⟨gb110, 1, none⟩ = some (.int .i64 0) := (kc_ BK110.out 1).trans rfl
         have hfs35 := kf_ BK110.out 1
         have hns35_1 := NB121_110.out
         have hms35_1 := NB110_121.out
         refine skip_ (w1 := ?_) (by rfl) rfl ?_ ?_
         rotate_left
         ·go_simp
          rfl
         refine hK.out _ _ ⟨((cell_far (p := ⟨gb110, _, none⟩) NB121_110.out _).trans (((cell_far (p := ⟨gb110, _, none⟩) NB121_110.out _).trans (hHeld.1)))), ((cell_far (p := ⟨gb110, _, none⟩) NB121_110.out _).trans (((cell_far (p := ⟨gb110, _, none⟩) NB121_110.out _).trans (hHeld.2))))⟩ (fun hHeld => ?_)
         clear hK K
         refine done_ (by kernel_rfl) ?_
         try go_wp2
         refine bodyPost_ret (results_list (rs := [.tmp 2, .tmp 3, .cell 4 26]) rfl (by simp) (.tmp (.tmp (.cell gb110 26 #[.int .i64 t119, .int .i64 t120] (0, 0) _ rfl (by (with_reducible repeat first | apply kn_ | apply kd_ | apply ka_); refine blk_put (cs := #[.int .i64 t119, .int .i64 0]) ?_ 1 _ rfl; (with_reducible repeat first | apply kn_ | apply kd_ | apply ka_); refine blk_put (cs := #[.int .i64 0, .int .i64 0]) ?_ 0 _ rfl; (with_reducible repeat first | apply kn_ | apply kd_ | apply ka_); exact BK110.out) Tryd.underlying26 rfl (by kernel_rfl) .nil)))) rfl ?_
         exact ⟨by first | rfl | (simp [errW_none, errW_some] <;> rfl) | (simp [*, errW_none, errW_some] <;> rfl), by repeat (first | (with_reducible first | exact HB.out | apply ba_ | apply pd_ | apply d1_ | refine bs_ ?_ GE110.out | refine bs_ ?_ GE121.out) | exact HB.out)⟩
        ·rw [if_neg c26] at H
         have c26b0 : ((bt a0 0) == 45) = false := beq_eq_false_iff_ne.mpr c26
         have c26b1 : ((bt a0 0) != 45) = true := bne_iff_ne.mpr c26
         by_cases c36 : (bt a0 0) = 95
         ·rw [if_pos c36] at H
          have c36b0 : ((bt a0 0) == 95) = true := beq_iff_eq.mpr c36
          have c36b1 : ((bt a0 0) != 95) = false := bne_eq_false_iff_eq.mpr c36
          clear c36
          replace H := ob_ H
          obtain ⟨⟨t122, t123, t124⟩, A370, H⟩ := H
          replace H : (some (7, t122, t123, t124)) = some (r1, r2, r3, r4) := H
          have A37 := sd_ A370
          clear A370
          simp only [Option.some.injEq, Prod.mk.injEq] at H
          obtain ⟨rfl, rfl, rfl, rfl⟩ := H
          try go_wp2_with (first | ((with_reducible refine gate_callee (f := 31) rfl ?_); refine goesL_ (some 25) rfl rfl Tryd.func31 (by kernel_rfl) rfl #[.string (⟨#[123, 125, 60, 62, 124, 126, 40, 41, 47, 33, 46]⟩ : ByteArray), .int .u8 (bt a0 0)] rfl (by (try simp only [lm_, lq_, lx_]); first | done | rfl | (simp only [ld_, lt_]; rfl)) ?_; (with_reducible refine (strings_IndexByte.calls (⟨#[123, 125, 60, 62, 124, 126, 40, 41, 47, 33, 46]⟩ : ByteArray) (bt a0 0) t111 _ A9.out).mono ?_); rintro e w' ⟨rfl, ⟨nd, rfl⟩⟩; refine ⟨_, rfl, ?_⟩; (repeat (rw [drewN_self wc]; generalize hq_ : World.drewN wc _ = wc; have n0_ : Aside0 (wc.heap[gb110]? = some (.cells #[.int .i64 0, .int .i64 0] 26 (0, 0))) := ⟨by rw [← hq_]; exact (kk_ BK110.out)⟩; have n1_ : Aside0 (Below w.heap.size w wc) := ⟨by rw [← hq_]; exact (bb_ HB.out (e_ GE110 e0_))⟩; clear BK110 HB hq_; have BK110 := n0_; have HB := n1_; clear n0_ n1_))) | ((with_reducible refine gate_callee (f := 32) rfl ?_); refine goesL_ (some 30) rfl rfl Tryd.func32 (by kernel_rfl) rfl #[.int .u8 (bt a0 0)] rfl (by (try simp only [lm_, lq_, lx_]); first | done | rfl | (simp only [ld_, lt_]; rfl)) ?_; (with_reducible refine (token_digit.calls (bt a0 0) false _ A12.out).mono ?_); rintro e w' ⟨rfl, ⟨nd, rfl⟩⟩; refine ⟨_, rfl, ?_⟩; (repeat (rw [drewN_self wc]; generalize hq_ : World.drewN wc _ = wc; have n0_ : Aside0 (wc.heap[gb110]? = some (.cells #[.int .i64 0, .int .i64 0] 26 (0, 0))) := ⟨by rw [← hq_]; exact (kk_ BK110.out)⟩; have n1_ : Aside0 (Below w.heap.size w wc) := ⟨by rw [← hq_]; exact (bb_ HB.out (e_ GE110 e0_))⟩; clear BK110 HB hq_; have BK110 := n0_; have HB := n1_; clear n0_ n1_))) | ((with_reducible refine gate_callee (f := 35) rfl ?_); refine goesL_ (some 59) rfl rfl Tryd.func35 (by kernel_rfl) rfl #[.string a0] rfl (by (try simp only [lm_, lq_, lx_]); first | done | rfl | (simp only [ld_, lt_]; rfl)) ?_; (with_reducible refine (token_twice.calls a0 t122 t123 t124 _ A37.out).mono ?_); rintro e w38 ⟨rfl, hb⟩; refine ⟨_, rfl, ?_⟩; replace BK110 := kb_ BK110 hb; replace HB := hb_ HB (e_ GE110 e0_) hb; (try clear hb); (try clear hb2); (try clear hk); (try clear hi)) | ((with_reducible refine gate_dst (N := 11) rfl ?_); refine box_event ?hg (N := 11) ?hd (cs := #[.int .i64 0, .int .i64 0]) (t := 26) ?hr ?_; (case hd => rfl); (case hg => rfl); (case hr => first | (go_simp; done) | (go_simp; rfl)); intro gb125 hg w39 hbox hb; have BK125 := sd_ hbox; have GW125 := gw_ HB (e_ GE110 e0_) hg; have GE125 := GW125; have NB110_125 := nb_ BK110 hg; have NB125_110 := sy_ NB110_125; replace BK110 := kb_ BK110 hb; replace HB := hb_ HB (e_ GE110 e0_) hb; clear hb hbox hg; have hnb40 := NB125_110.out; have hnc40 := NB110_125.out; have hcz41_0 : w39.cell? ⟨gb125, 0, none⟩ = some (.int .i64 0) := (kc_ BK125.out 0).trans rfl; have hcz41_1 : w39.cell? ⟨gb125, 1, none⟩ = some (.int .i64 0) := (kc_ BK125.out 1).trans rfl; have hfz41_0 := kf_ BK125.out 0; have hfz41_1 := kf_ BK125.out 1))
          have n0_ : Aside0 (((w39.setCell ⟨gb125, 0, none⟩ (.int .i64 t123)).setCell ⟨gb125, 1, none⟩ (.int .i64 t124)).heap[gb110]? = some (.cells #[.int .i64 0, .int .i64 0] 26 (0, 0))) := ⟨by (with_reducible repeat first | apply kn_ | apply kd_ | apply ka_); refine blk_far ?_ NB110_125.out _; (with_reducible repeat first | apply kn_ | apply kd_ | apply ka_); refine blk_far ?_ NB110_125.out _; (with_reducible repeat first | apply kn_ | apply kd_ | apply ka_); exact BK110.out⟩
          have n1_ : Aside0 (((w39.setCell ⟨gb125, 0, none⟩ (.int .i64 t123)).setCell ⟨gb125, 1, none⟩ (.int .i64 t124)).heap[gb125]? = some (.cells #[.int .i64 t123, .int .i64 t124] 26 (0, 0))) := ⟨by (with_reducible repeat first | apply kn_ | apply kd_ | apply ka_); refine blk_put (cs := #[.int .i64 t123, .int .i64 0]) ?_ 1 _ rfl; (with_reducible repeat first | apply kn_ | apply kd_ | apply ka_); refine blk_put (cs := #[.int .i64 0, .int .i64 0]) ?_ 0 _ rfl; (with_reducible repeat first | apply kn_ | apply kd_ | apply ka_); exact BK125.out⟩
          have n2_ : Aside0 (Below w.heap.size w ((w39.setCell ⟨gb125, 0, none⟩ (.int .i64 t123)).setCell ⟨gb125, 1, none⟩ (.int .i64 t124))) := ⟨by repeat (first | (with_reducible first | exact HB.out | apply ba_ | apply pd_ | apply d1_ | refine bs_ ?_ GE110.out | refine bs_ ?_ GE125.out) | exact HB.out)⟩
          (try clear BK110)
          (try clear BK125)
          (try clear HB)
          generalize ((w39.setCell ⟨gb125, 0, none⟩ (.int .i64 t123)).setCell ⟨gb125, 1, none⟩ (.int .i64 t124)) = w42 at n0_ n1_ n2_ ⊢
          have BK110 := n0_
          have BK125 := n1_
          have HB := n2_
          clear n0_ n1_ n2_
          replace BK110 := sd_ (kd_ BK110.out)
          replace BK125 := sd_ (kd_ BK125.out)
          replace HB := sd_ (d1_ HB.out)
          refine start_ (n := 5) (S := fun w' => w'.cell? ⟨gb125, 0, none⟩ = some (.int .i64 t123) ∧ w'.cell? ⟨gb125, 1, none⟩ = some (.int .i64 t124)) (ds := []) #[false, false, false, false, false] (by kernel_rfl) rfl rfl ⟨(kc_ BK125.out 0).trans rfl, (kc_ BK125.out 1).trans rfl⟩ (fun hHeld => ?_)
          generalize w42.drew = w43 at BK110 BK125 HB hHeld ⊢
          refine pure_ (i := 0) (N := some 62) (v := ?_) (a' := ?_) #[true, false, false, false, false] rfl rfl (by kernel_rfl) (fun _ _ _ h => h) (Or.inl ⟨by rfl, ?_⟩) ?_ ?_
          rotate_left; (intro w'; go_simp; with_reducible rfl); rotate_left; (simp only [Act.put, ls_, lz_, lc_, i64_w, i32_w]; rfl)
          refine pure_ (i := 2) (N := some 2) (v := ?_) (a' := ?_) #[true, false, true, false, false] rfl rfl (by kernel_rfl) (fun _ _ _ h => h) (Or.inl ⟨by rfl, ?_⟩) ?_ ?_
          rotate_left; (intro w'; go_simp; with_reducible rfl); rotate_left; (simp only [Act.put, ls_, lz_, lc_, i64_w, i32_w]; rfl)
          refine pure_ (i := 3) (N := some 3) (v := ?_) (a' := ?_) #[true, false, true, true, false] rfl rfl (by kernel_rfl) (fun _ _ _ h => h) (Or.inl ⟨by rfl, ?_⟩) ?_ ?_
          rotate_left; (intro w'; go_simp; with_reducible rfl); rotate_left; (simp only [Act.put, ls_, lz_, lc_, i64_w, i32_w]; rfl)
          refine take_ (i := 1) (N := some 63) (v := ?_) (a' := ?_) #[true, true, true, true, false] rfl rfl (by kernel_rfl) (fun _ _ _ h => h) (Or.inl ⟨by rfl, ?_⟩) hHeld ?_ ?_
          rotate_left
          ·rintro w' ⟨s0, s1⟩
           go_simp
           with_reducible rfl
          rotate_left
          ·simp only [Act.put, ls_, lz_, lc_, i64_w, i32_w]
           rfl
          refine one_ (i := 4) (N := none) #[true, true, true, true, true] rfl rfl (by kernel_rfl) (by decide) (fun K hK => ?_)
          have hs44 : w43.cell? ⟨gb110, 0, none⟩ = some (.int .i64 0) := (kc_ BK110.out 0).trans rfl
          have hfs44 := kf_ BK110.out 0
          have hns44_1 := NB125_110.out
          have hms44_1 := NB110_125.out
          have hs45 : w43.cell? ⟨gb110, 1, none⟩ = some (.int .i64 0) := (kc_ BK110.out 1).trans rfl
          have hfs45 := kf_ BK110.out 1
          have hns45_1 := NB125_110.out
          have hms45_1 := NB110_125.out
          refine skip_ (w1 := ?_) (by rfl) rfl ?_ ?_
          rotate_left
          ·go_simp
           rfl
          refine hK.out _ _ ⟨((cell_far (p := ⟨gb110, _, none⟩) NB125_110.out _).trans (((cell_far (p := ⟨gb110, _, none⟩) NB125_110.out _).trans (hHeld.1)))), ((cell_far (p := ⟨gb110, _, none⟩) NB125_110.out _).trans (((cell_far (p := ⟨gb110, _, none⟩) NB125_110.out _).trans (hHeld.2))))⟩ (fun hHeld => ?_)
          clear hK K
          refine done_ (by kernel_rfl) ?_
          try go_wp2
          refine bodyPost_ret (results_list (rs := [.tmp 2, .tmp 3, .cell 4 26]) rfl (by simp) (.tmp (.tmp (.cell gb110 26 #[.int .i64 t123, .int .i64 t124] (0, 0) _ rfl (by (with_reducible repeat first | apply kn_ | apply kd_ | apply ka_); refine blk_put (cs := #[.int .i64 t123, .int .i64 0]) ?_ 1 _ rfl; (with_reducible repeat first | apply kn_ | apply kd_ | apply ka_); refine blk_put (cs := #[.int .i64 0, .int .i64 0]) ?_ 0 _ rfl; (with_reducible repeat first | apply kn_ | apply kd_ | apply ka_); exact BK110.out) Tryd.underlying26 rfl (by kernel_rfl) .nil)))) rfl ?_
          exact ⟨by first | rfl | (simp [errW_none, errW_some] <;> rfl) | (simp [*, errW_none, errW_some] <;> rfl), by repeat (first | (with_reducible first | exact HB.out | apply ba_ | apply pd_ | apply d1_ | refine bs_ ?_ GE110.out | refine bs_ ?_ GE125.out) | exact HB.out)⟩
         ·rw [if_neg c36] at H
          have c36b0 : ((bt a0 0) == 95) = false := beq_eq_false_iff_ne.mpr c36
          have c36b1 : ((bt a0 0) != 95) = true := bne_iff_ne.mpr c36
          replace H := ob_ H
          obtain ⟨t126, A460, H⟩ := H
          replace H : (if t126 = 0 then ((token_fault.f 10 0).bind fun bt127 => (some (0, 0, bt127.1, bt127.2))) else (some (1, t126, 0, 0))) = some (r1, r2, r3, r4) := H
          have A46 := sd_ A460
          clear A460
          by_cases c47 : t126 = 0
          ·rw [if_pos c47] at H
           have c47b0 : (t126 == 0) = true := beq_iff_eq.mpr c47
           have c47b1 : (t126 != 0) = false := bne_eq_false_iff_eq.mpr c47
           clear c47
           replace H := ob_ H
           obtain ⟨⟨t127, t128⟩, A480, H⟩ := H
           replace H : (some (0, 0, t127, t128)) = some (r1, r2, r3, r4) := H
           have A48 := sd_ A480
           clear A480
           simp only [Option.some.injEq, Prod.mk.injEq] at H
           obtain ⟨rfl, rfl, rfl, rfl⟩ := H
           go_wp2_with (first | ((with_reducible refine gate_callee (f := 31) rfl ?_); refine goesL_ (some 25) rfl rfl Tryd.func31 (by kernel_rfl) rfl #[.string (⟨#[123, 125, 60, 62, 124, 126, 40, 41, 47, 33, 46]⟩ : ByteArray), .int .u8 (bt a0 0)] rfl (by (try simp only [lm_, lq_, lx_]); first | done | rfl | (simp only [ld_, lt_]; rfl)) ?_; (with_reducible refine (strings_IndexByte.calls (⟨#[123, 125, 60, 62, 124, 126, 40, 41, 47, 33, 46]⟩ : ByteArray) (bt a0 0) t111 _ A9.out).mono ?_); rintro e w' ⟨rfl, ⟨nd, rfl⟩⟩; refine ⟨_, rfl, ?_⟩; (repeat (rw [drewN_self wc]; generalize hq_ : World.drewN wc _ = wc; have n0_ : Aside0 (wc.heap[gb110]? = some (.cells #[.int .i64 0, .int .i64 0] 26 (0, 0))) := ⟨by rw [← hq_]; exact (kk_ BK110.out)⟩; have n1_ : Aside0 (Below w.heap.size w wc) := ⟨by rw [← hq_]; exact (bb_ HB.out (e_ GE110 e0_))⟩; clear BK110 HB hq_; have BK110 := n0_; have HB := n1_; clear n0_ n1_))) | ((with_reducible refine gate_callee (f := 32) rfl ?_); refine goesL_ (some 30) rfl rfl Tryd.func32 (by kernel_rfl) rfl #[.int .u8 (bt a0 0)] rfl (by (try simp only [lm_, lq_, lx_]); first | done | rfl | (simp only [ld_, lt_]; rfl)) ?_; (with_reducible refine (token_digit.calls (bt a0 0) false _ A12.out).mono ?_); rintro e w' ⟨rfl, ⟨nd, rfl⟩⟩; refine ⟨_, rfl, ?_⟩; (repeat (rw [drewN_self wc]; generalize hq_ : World.drewN wc _ = wc; have n0_ : Aside0 (wc.heap[gb110]? = some (.cells #[.int .i64 0, .int .i64 0] 26 (0, 0))) := ⟨by rw [← hq_]; exact (kk_ BK110.out)⟩; have n1_ : Aside0 (Below w.heap.size w wc) := ⟨by rw [← hq_]; exact (bb_ HB.out (e_ GE110 e0_))⟩; clear BK110 HB hq_; have BK110 := n0_; have HB := n1_; clear n0_ n1_))) | ((with_reducible refine gate_callee (f := 36) rfl ?_); refine goesL_ (some 65) rfl rfl Tryd.func36 (by kernel_rfl) rfl #[.string a0] rfl (by (try simp only [lm_, lq_, lx_]); first | done | rfl | (simp only [ld_, lt_]; rfl)) ?_; (with_reducible refine (token_word.calls a0 t126 _ ?side1 A46.out).mono ?_); (case side1 => first | (with_reducible exact hE) | exact sd_ (LaidE.below hE.out (bb_ HB.out (e_ GE110 e0_)))); rintro e w49 ⟨rfl, hb⟩; refine ⟨_, rfl, ?_⟩; replace BK110 := kb_ BK110 hb; replace HB := hb_ HB (e_ GE110 e0_) hb; (try clear hb); (try clear hb2); (try clear hk); (try clear hi)) | ((with_reducible refine gate_callee (f := 18) rfl ?_); refine goesL_ (some 68) rfl rfl Tryd.func18 (by kernel_rfl) rfl #[.int .i64 10, .int .i64 0] rfl (by (try simp only [lm_, lq_, lx_]); first | done | rfl | (simp only [ld_, lt_]; rfl)) ?_; (with_reducible refine (token_fault.calls 10 0 t127 t128 _ A48.out).mono ?_); rintro e w50 ⟨rfl, hb⟩; refine ⟨_, rfl, ?_⟩; replace BK110 := kb_ BK110 hb; replace HB := hb_ HB (e_ GE110 e0_) hb; (try clear hb); (try clear hb2); (try clear hk); (try clear hi); have hcz51_0 : w50.cell? ⟨gb110, 0, none⟩ = some (.int .i64 0) := (kc_ BK110.out 0).trans rfl; have hcz51_1 : w50.cell? ⟨gb110, 1, none⟩ = some (.int .i64 0) := (kc_ BK110.out 1).trans rfl; have hfz51_0 := kf_ BK110.out 0; have hfz51_1 := kf_ BK110.out 1))
           refine bodyPost_ret (results_list (rs := [.tmp 2, .tmp 3, .cell 4 26]) rfl (by simp) (.tmp (.tmp (.cell gb110 26 #[.int .i64 t127, .int .i64 t128] (0, 0) _ rfl (by (with_reducible repeat first | apply kn_ | apply kd_ | apply ka_); refine blk_put (cs := #[.int .i64 t127, .int .i64 0]) ?_ 1 _ rfl; (with_reducible repeat first | apply kn_ | apply kd_ | apply ka_); refine blk_put (cs := #[.int .i64 0, .int .i64 0]) ?_ 0 _ rfl; (with_reducible repeat first | apply kn_ | apply kd_ | apply ka_); exact BK110.out) Tryd.underlying26 rfl (by kernel_rfl) .nil)))) rfl ?_
           exact ⟨by first | rfl | (simp [errW_none, errW_some] <;> rfl) | (simp [*, errW_none, errW_some] <;> rfl), by repeat (first | (with_reducible first | exact HB.out | apply ba_ | apply pd_ | apply d1_ | refine bs_ ?_ GE110.out) | exact HB.out)⟩
          ·rw [if_neg c47] at H
           have c47b0 : (t126 == 0) = false := beq_eq_false_iff_ne.mpr c47
           have c47b1 : (t126 != 0) = true := bne_iff_ne.mpr c47
           simp only [Option.some.injEq, Prod.mk.injEq] at H
           obtain ⟨rfl, rfl, rfl, rfl⟩ := H
           go_wp2_with (first | ((with_reducible refine gate_callee (f := 31) rfl ?_); refine goesL_ (some 25) rfl rfl Tryd.func31 (by kernel_rfl) rfl #[.string (⟨#[123, 125, 60, 62, 124, 126, 40, 41, 47, 33, 46]⟩ : ByteArray), .int .u8 (bt a0 0)] rfl (by (try simp only [lm_, lq_, lx_]); first | done | rfl | (simp only [ld_, lt_]; rfl)) ?_; (with_reducible refine (strings_IndexByte.calls (⟨#[123, 125, 60, 62, 124, 126, 40, 41, 47, 33, 46]⟩ : ByteArray) (bt a0 0) t111 _ A9.out).mono ?_); rintro e w' ⟨rfl, ⟨nd, rfl⟩⟩; refine ⟨_, rfl, ?_⟩; (repeat (rw [drewN_self wc]; generalize hq_ : World.drewN wc _ = wc; have n0_ : Aside0 (wc.heap[gb110]? = some (.cells #[.int .i64 0, .int .i64 0] 26 (0, 0))) := ⟨by rw [← hq_]; exact (kk_ BK110.out)⟩; have n1_ : Aside0 (Below w.heap.size w wc) := ⟨by rw [← hq_]; exact (bb_ HB.out (e_ GE110 e0_))⟩; clear BK110 HB hq_; have BK110 := n0_; have HB := n1_; clear n0_ n1_))) | ((with_reducible refine gate_callee (f := 32) rfl ?_); refine goesL_ (some 30) rfl rfl Tryd.func32 (by kernel_rfl) rfl #[.int .u8 (bt a0 0)] rfl (by (try simp only [lm_, lq_, lx_]); first | done | rfl | (simp only [ld_, lt_]; rfl)) ?_; (with_reducible refine (token_digit.calls (bt a0 0) false _ A12.out).mono ?_); rintro e w' ⟨rfl, ⟨nd, rfl⟩⟩; refine ⟨_, rfl, ?_⟩; (repeat (rw [drewN_self wc]; generalize hq_ : World.drewN wc _ = wc; have n0_ : Aside0 (wc.heap[gb110]? = some (.cells #[.int .i64 0, .int .i64 0] 26 (0, 0))) := ⟨by rw [← hq_]; exact (kk_ BK110.out)⟩; have n1_ : Aside0 (Below w.heap.size w wc) := ⟨by rw [← hq_]; exact (bb_ HB.out (e_ GE110 e0_))⟩; clear BK110 HB hq_; have BK110 := n0_; have HB := n1_; clear n0_ n1_))) | ((with_reducible refine gate_callee (f := 36) rfl ?_); refine goesL_ (some 65) rfl rfl Tryd.func36 (by kernel_rfl) rfl #[.string a0] rfl (by (try simp only [lm_, lq_, lx_]); first | done | rfl | (simp only [ld_, lt_]; rfl)) ?_; (with_reducible refine (token_word.calls a0 t126 _ ?side1 A46.out).mono ?_); (case side1 => first | (with_reducible exact hE) | exact sd_ (LaidE.below hE.out (bb_ HB.out (e_ GE110 e0_)))); rintro e w52 ⟨rfl, hb⟩; refine ⟨_, rfl, ?_⟩; replace BK110 := kb_ BK110 hb; replace HB := hb_ HB (e_ GE110 e0_) hb; (try clear hb); (try clear hb2); (try clear hk); (try clear hi); have hcz53_0 : w52.cell? ⟨gb110, 0, none⟩ = some (.int .i64 0) := (kc_ BK110.out 0).trans rfl; have hcz53_1 : w52.cell? ⟨gb110, 1, none⟩ = some (.int .i64 0) := (kc_ BK110.out 1).trans rfl; have hfz53_0 := kf_ BK110.out 0; have hfz53_1 := kf_ BK110.out 1))
           refine bodyPost_ret (results_list (rs := [.tmp 2, .tmp 3, .cell 4 26]) rfl (by simp) (.tmp (.tmp (.cell gb110 26 #[.int .i64 0, .int .i64 0] (0, 0) _ rfl (by (with_reducible repeat first | apply kn_ | apply kd_ | apply ka_); refine blk_put (cs := #[.int .i64 0, .int .i64 0]) ?_ 1 _ rfl; (with_reducible repeat first | apply kn_ | apply kd_ | apply ka_); refine blk_put (cs := #[.int .i64 0, .int .i64 0]) ?_ 0 _ rfl; (with_reducible repeat first | apply kn_ | apply kd_ | apply ka_); exact BK110.out) Tryd.underlying26 rfl (by kernel_rfl) .nil)))) rfl ?_
           exact ⟨by first | rfl | (simp [errW_none, errW_some] <;> rfl) | (simp [*, errW_none, errW_some] <;> rfl), by repeat (first | (with_reducible first | exact HB.out | apply ba_ | apply pd_ | apply d1_ | refine bs_ ?_ GE110.out) | exact HB.out)⟩
 ·rw [if_neg c2] at H
  exact absurd H (by simp)

/-! ### token_bare: function 21 -/
def token_bare.f (a0 : Int) (a1 : ByteArray) : Option (ByteArray) := if a0 = 5 then (if 1 ≤ (wrap64 ((a1.size : Int) - 1)) then (if (wrap64 ((a1.size : Int) - 1)) ≤ (a1.size : Int) then (some (a1.extract 1 ((wrap64 ((a1.size : Int) - 1)) : Int).toNat)) else (none)) else (none)) else (some a1)
set_option maxHeartbeats 8000000 in
set_option maxRecDepth 100000 in
theorem token_bare.calls (a0 : Int) (a1 : ByteArray) (r : ByteArray) (w : World) (h : token_bare.f a0 a1 = some r) :
  Calls Tryd.prog 21 #[.int .i64 a0, .string a1] w fun e w' => e = .returned (.string r) ∧ Drawn0 w w' := by
 have H : (if a0 = 5 then (if 1 ≤ (wrap64 ((a1.size : Int) - 1)) then (if (wrap64 ((a1.size : Int) - 1)) ≤ (a1.size : Int) then (some (a1.extract 1 ((wrap64 ((a1.size : Int) - 1)) : Int).toNat)) else (none)) else (none)) else (some a1)) = some r := h
 clear h
 by_cases c3 : a0 = 5
 ·rw [if_pos c3] at H
  have c3b0 : (a0 == 5) = true := beq_iff_eq.mpr c3
  have c3b1 : (a0 != 5) = false := bne_eq_false_iff_eq.mpr c3
  clear c3
  by_cases c4 : 1 ≤ (wrap64 ((a1.size : Int) - 1))
  ·rw [if_pos c4] at H
   have c4b0 := eq_true c4
   have c4b1 : decide (1 ≤ (wrap64 ((a1.size : Int) - 1))) = true := dt_ c4
   clear c4
   by_cases c5 : (wrap64 ((a1.size : Int) - 1)) ≤ (a1.size : Int)
   ·rw [if_pos c5] at H
    have c5b0 := eq_true c5
    have c5b1 : decide ((wrap64 ((a1.size : Int) - 1)) ≤ (a1.size : Int)) = true := dt_ c5
    clear c5
    obtain rfl := Option.some.inj H
    go_enter Tryd.func21, Tryd.ntmps21
    go_wp2
    go_ret
    exact ⟨by first | rfl | (simp; done) | (simp [*]; done), by repeat (first | exact Drawn0.refl _ | apply Drawn0.step)⟩
   ·rw [if_neg c5] at H
    exact absurd H (by simp)
  ·rw [if_neg c4] at H
   exact absurd H (by simp)
 ·rw [if_neg c3] at H
  have c3b0 : (a0 == 5) = false := beq_eq_false_iff_ne.mpr c3
  have c3b1 : (a0 != 5) = true := bne_iff_ne.mpr c3
  obtain rfl := Option.some.inj H
  go_enter Tryd.func21, Tryd.ntmps21
  go_wp2
  go_ret
  exact ⟨by first | rfl | (simp; done) | (simp [*]; done), by repeat (first | exact Drawn0.refl _ | apply Drawn0.step)⟩

/-! ### token_Scan: function 9 -/
def token_Scan.l0 : Nat → ByteArray → List (S34) → Int → Option ((List (S34)) × Int × Int)
 | 0, _, _, _ => none
 | k + 1, x0, x4, x5 => if x5 < (x0.size : Int) then (if 0 ≤ x5 then (if x5 ≤ (x0.size : Int) then ((token_first.f k (x0.extract (x5 : Int).toNat x0.size)).bind fun bt136 => (if bt136.2.2.1 = 0 then (if x5 ≤ (wrap64 (x5 + bt136.2.1)) then (if (wrap64 (x5 + bt136.2.1)) ≤ (x0.size : Int) then ((token_bare.f bt136.1 (x0.extract (x5 : Int).toNat ((wrap64 (x5 + bt136.2.1)) : Int).toNat)).bind fun t141 => (if x4.length < 4398046511104 then (if 0 ≤ (wrap64 (x5 + bt136.2.1)) then ((token_gap.f k (x0.extract ((wrap64 (x5 + bt136.2.1)) : Int).toNat x0.size)).bind fun t145 => (token_Scan.l0 k x0 (x4 ++ [(⟨bt136.1, t141, x5⟩ : S34)]) (wrap64 ((wrap64 (x5 + bt136.2.1)) + t145)))) else (none)) else (none))) else (none)) else (none)) else (some (([] : List (S34)), bt136.2.2.1, wrap64 (bt136.2.2.2 + x5))))) else (none)) else (none)) else (if x4.length < 4398046511104 then (some ((x4 ++ [(⟨8, (⟨#[]⟩ : ByteArray), (x0.size : Int)⟩ : S34)]), 0, 0)) else (none))
def token_Scan.f (k : Nat) (a0 : ByteArray) : Option ((List (S34)) × Int × Int) := if (a0.size : Int) > 65536 then ((token_fault.f 4 65536).bind fun bt130 => (some (([] : List (S34)), bt130.1, bt130.2))) else ((token_gap.f k a0).bind fun t132 => (token_Scan.l0 k a0 ([] : List (S34)) t132))
theorem token_Scan.mono_l : ∀ k, (∀ y0 y1 y2, LeO (token_Scan.l0 k y0 y1 y2) (token_Scan.l0 (k + 1) y0 y1 y2))
 | 0 => fun _ _ _ r h => by simp [token_Scan.l0] at h
 | k + 1 => by
  have ih0 := token_Scan.mono_l k
  ·intro y0 y1 y2
   unfold token_Scan.l0
   repeat' first
   | (with_reducible exact ih0 _ _ _)
   | (with_reducible exact token_first.mono _ _)
   | (with_reducible exact token_gap.mono _ _)
   | (with_reducible exact LeO.refl _)
   | (with_reducible exact LeO.none _)
   | (with_reducible refine LeO.ite ?_ ?_)
   | (with_reducible refine LeO.bind ?_ (fun _ => ?_))
   | exact ih0 _ _ _
   | exact token_first.mono _ _
   | exact token_gap.mono _ _
   | exact LeO.none _
   | refine LeO.ite ?_ ?_
   | refine LeO.bind ?_ (fun _ => ?_)
theorem token_Scan.mono : ∀ a0 k, LeO (token_Scan.f k a0) (token_Scan.f (k + 1) a0) := by
 intro a0 k
 have ih0 := token_Scan.mono_l k
 unfold token_Scan.f
 repeat' first
   | (with_reducible exact ih0 _ _ _)
   | (with_reducible exact token_first.mono _ _)
   | (with_reducible exact token_gap.mono _ _)
   | (with_reducible exact LeO.refl _)
   | (with_reducible exact LeO.none _)
   | (with_reducible refine LeO.ite ?_ ?_)
   | (with_reducible refine LeO.bind ?_ (fun _ => ?_))
   | exact ih0 _ _ _
   | exact token_first.mono _ _
   | exact token_gap.mono _ _
   | exact LeO.none _
   | refine LeO.ite ?_ ?_
   | refine LeO.bind ?_ (fun _ => ?_)
set_option maxHeartbeats 8000000 in
set_option maxRecDepth 100000 in
theorem token_Scan.calls (k : Nat) (a0 : ByteArray) (r1 : List (S34)) (r2 : Int) (r3 : Int) (w : World) (hE : Aside0 (LaidE w)) (h : token_Scan.f k a0 = some (r1, r2, r3)) :
  Calls Tryd.prog 9 #[.string a0] w fun e w' => ∃ v0_ : Value, e = .returned (.tuple #[v0_, .agg #[.int .i64 r2, .int .i64 r3]]) ∧ Kd.R k34 34 w' w.heap.size (fun _ => True) v0_ r1 ∧ Below w.heap.size w w' := by
 have hu26 := Tryd.underlying26
 have hu34 := Tryd.underlying34
 have HB := sd_ (Below.refl w.heap.size w)
 have H : (if (a0.size : Int) > 65536 then ((token_fault.f 4 65536).bind fun bt130 => (some (([] : List (S34)), bt130.1, bt130.2))) else ((token_gap.f k a0).bind fun t132 => (token_Scan.l0 k a0 ([] : List (S34)) t132))) = some (r1, r2, r3) := h
 clear h
 by_cases c2 : (a0.size : Int) > 65536
 ·rw [if_pos c2] at H
  have c2b0 : decide (65536 < (a0.size : Int)) = true := dt_ c2
  have c2b1 : decide (65536 < a0.size) = true := dt_ (by omega)
  clear c2
  replace H := ob_ H
  obtain ⟨⟨t130, t131⟩, A30, H⟩ := H
  replace H : (some (([] : List (S34)), t130, t131)) = some (r1, r2, r3) := H
  have A3 := sd_ A30
  clear A30
  simp only [Option.some.injEq, Prod.mk.injEq] at H
  obtain ⟨rfl, rfl, rfl⟩ := H
  go_enter Tryd.func9, Tryd.ntmps9
  go_wp2_with (first | ((with_reducible refine gate_dst (N := 3) rfl ?_); refine box_event ?hg (N := 3) ?hd (cs := #[.int .i64 0, .int .i64 0]) (t := 26) ?hr ?_; (case hd => rfl); (case hg => rfl); (case hr => first | (go_simp; done) | (go_simp; rfl)); intro gb129 hg w4 hbox hb; have BK129 := sd_ hbox; have GW129 := gw_ HB e0_ hg; have GE129 := GW129; replace HB := hb_ HB e0_ hb; clear hb hbox hg) | ((with_reducible refine gate_callee (f := 18) rfl ?_); refine goesL_ (some 12) rfl rfl Tryd.func18 (by kernel_rfl) rfl #[.int .i64 4, .int .i64 65536] rfl (by (try simp only [lm_, lq_, lx_]); first | done | rfl | (simp only [ld_, lt_]; rfl)) ?_; (with_reducible refine (token_fault.calls 4 65536 t130 t131 _ A3.out).mono ?_); rintro e w5 ⟨rfl, hb⟩; refine ⟨_, rfl, ?_⟩; replace BK129 := kb_ BK129 hb; replace HB := hb_ HB (e_ GE129 e0_) hb; (try clear hb); (try clear hb2); (try clear hk); (try clear hi); have hcz6_0 : w5.cell? ⟨gb129, 0, none⟩ = some (.int .i64 0) := (kc_ BK129.out 0).trans rfl; have hcz6_1 : w5.cell? ⟨gb129, 1, none⟩ = some (.int .i64 0) := (kc_ BK129.out 1).trans rfl; have hfz6_0 := kf_ BK129.out 0; have hfz6_1 := kf_ BK129.out 1))
  refine bodyPost_ret (results_tc rfl _ _ gb129 26 #[.int .i64 t130, .int .i64 t131] (0, 0) _ rfl (by (with_reducible repeat first | apply kn_ | apply kd_ | apply ka_); refine blk_put (cs := #[.int .i64 t130, .int .i64 0]) ?_ 1 _ rfl; (with_reducible repeat first | apply kn_ | apply kd_ | apply ka_); refine blk_put (cs := #[.int .i64 0, .int .i64 0]) ?_ 0 _ rfl; (with_reducible repeat first | apply kn_ | apply kd_ | apply ka_); exact BK129.out) Tryd.underlying26 rfl (by kernel_rfl)) rfl ?_
  exact ⟨_, by first | rfl | (simp [errW_none, errW_some] <;> rfl) | (simp [*, errW_none, errW_some] <;> rfl), by first | exact Kd.R_nil _ _ _ _ _ | exact Kd.N_nil _ _ _ _ _ | exact Kd.V_nil _ _ _ _ _ | exact Kd.Q_nil _ _ _ _ _ | exact Kd.S_nil _ _ _ _ _, by repeat (first | (with_reducible first | exact HB.out | apply ba_ | apply pd_ | apply d1_ | refine bs_ ?_ GE129.out) | exact HB.out)⟩
 ·rw [if_neg c2] at H
  have c2b0 : decide (65536 < (a0.size : Int)) = false := df_ c2
  have c2b1 : decide (65536 < a0.size) = false := df_ (by omega)
  clear c2
  replace H := ob_ H
  obtain ⟨t132, A70, H⟩ := H
  replace H : (token_Scan.l0 k a0 ([] : List (S34)) t132) = some (r1, r2, r3) := H
  have A7 := sd_ A70
  clear A70
  have H' := sd_ H
  clear H
  go_enter Tryd.func9, Tryd.ntmps9
  go_wp2_with (first | ((with_reducible refine gate_dst (N := 3) rfl ?_); refine box_event ?hg (N := 3) ?hd (cs := #[.int .i64 0, .int .i64 0]) (t := 26) ?hr ?_; (case hd => rfl); (case hg => rfl); (case hr => first | (go_simp; done) | (go_simp; rfl)); intro gb129 hg w8 hbox hb; have BK129 := sd_ hbox; have GW129 := gw_ HB e0_ hg; have GE129 := GW129; replace HB := hb_ HB e0_ hb; clear hb hbox hg) | ((with_reducible refine gate_callee (f := 19) rfl ?_); refine goesL_ (some 14) rfl rfl Tryd.func19 (by kernel_rfl) rfl #[.string a0] rfl (by (try simp only [lm_, lq_, lx_]); first | done | rfl | (simp only [ld_, lt_]; rfl)) ?_; (with_reducible refine (token_gap.calls k a0 t132 _ A7.out).mono ?_); rintro e w' ⟨rfl, ⟨nd, rfl⟩⟩; refine ⟨_, rfl, ?_⟩))
  go_loopg [4, 5] k (fun kq v4 v5 w' => ∃ (x4_1 : List (S34)) (x5_1 : Int) (x130000_1 : Int) (x130001_1 : Int), v5 = .int .i64 x5_1 ∧ Aside0 (token_Scan.l0 kq a0 x4_1 x5_1 = some (r1, r2, r3)) ∧ Aside0 (kq ≤ k) ∧ Aside0 (Kd.R k34 34 w' w.heap.size (fun _ => True) v4 x4_1) ∧ Aside0 (w'.heap[gb129]? = some (.cells #[.int .i64 x130000_1, .int .i64 x130001_1] 26 (0, 0))) ∧ Aside0 (Below w.heap.size w w'))
  case atStart => exact ⟨(([] : List (S34))), (t132), (0), (0), (by first | rfl | (simp; done) | (simp [*]; done) | (simp [bne]; done)), H', ⟨Nat.le_refl _⟩, ⟨by first | exact Kd.R_nil _ _ _ _ _ | exact Kd.N_nil _ _ _ _ _ | exact Kd.V_nil _ _ _ _ _ | exact Kd.Q_nil _ _ _ _ _ | exact Kd.S_nil _ _ _ _ _⟩, ⟨by (with_reducible repeat first | apply kn_ | apply kd_ | apply ka_); exact BK129.out⟩, ⟨by repeat (first | (with_reducible first | exact HB.out | apply ba_ | apply pd_ | apply d1_ | refine bs_ ?_ GE129.out) | exact HB.out)⟩⟩
  case round =>
   clear H'
   try clear c1; try clear c2; try clear c2b0; try clear c2b1; try clear p2; try clear hcz6_0; try clear hcz6_1; try clear hfz6_0; try clear hfz6_1
   obtain ⟨x4_1, x5_1, x130000_1, x130001_1, rfl, HA, HK1, HO_4, BK129, HB⟩ := hrel
   cases gk with
   | zero => exact absurd HA.out (by simp [token_Scan.l0])
   | succ k1 =>
    have H := HA.out
    clear HA
    simp only [token_Scan.l0] at H
    by_cases c9 : x5_1 < (a0.size : Int)
    ·rw [if_pos c9] at H
     have c9b0 : decide (x5_1 < (a0.size : Int)) = true := dt_ c9
     clear c9
     by_cases c10 : 0 ≤ x5_1
     ·rw [if_pos c10] at H
      have c10b0 := eq_true c10
      have c10b1 : decide (0 ≤ x5_1) = true := dt_ c10
      clear c10
      by_cases c11 : x5_1 ≤ (a0.size : Int)
      ·rw [if_pos c11] at H
       have c11b0 := eq_true c11
       have c11b1 : decide (x5_1 ≤ (a0.size : Int)) = true := dt_ c11
       clear c11
       replace H := ob_ H
       obtain ⟨⟨t136, t137, t138, t139⟩, A120, H⟩ := H
       replace H : (if t138 = 0 then (if x5_1 ≤ (wrap64 (x5_1 + t137)) then (if (wrap64 (x5_1 + t137)) ≤ (a0.size : Int) then ((token_bare.f t136 (a0.extract (x5_1 : Int).toNat ((wrap64 (x5_1 + t137)) : Int).toNat)).bind fun t141 => (if x4_1.length < 4398046511104 then (if 0 ≤ (wrap64 (x5_1 + t137)) then ((token_gap.f k1 (a0.extract ((wrap64 (x5_1 + t137)) : Int).toNat a0.size)).bind fun t145 => (token_Scan.l0 k1 a0 (x4_1 ++ [(⟨t136, t141, x5_1⟩ : S34)]) (wrap64 ((wrap64 (x5_1 + t137)) + t145)))) else (none)) else (none))) else (none)) else (none)) else (some (([] : List (S34)), t138, wrap64 (t139 + x5_1)))) = some (r1, r2, r3) := H
       have A12 := sd_ A120
       clear A120
       by_cases c13 : t138 = 0
       ·rw [if_pos c13] at H
        have c13b0 : (t138 == 0) = true := beq_iff_eq.mpr c13
        have c13b1 : (t138 != 0) = false := bne_eq_false_iff_eq.mpr c13
        clear c13
        have c14b0 := eq_true (od_ (by first | (with_reducible assumption) | assumption) : 0 ≤ x5_1)
        by_cases c15 : x5_1 ≤ (wrap64 (x5_1 + t137))
        ·rw [if_pos c15] at H
         have c15b0 := eq_true c15
         have c15b1 : decide (x5_1 ≤ (wrap64 (x5_1 + t137))) = true := dt_ c15
         by_cases c16 : (wrap64 (x5_1 + t137)) ≤ (a0.size : Int)
         ·rw [if_pos c16] at H
          have c16b0 := eq_true c16
          have c16b1 : decide ((wrap64 (x5_1 + t137)) ≤ (a0.size : Int)) = true := dt_ c16
          replace H := ob_ H
          obtain ⟨t141, A170, H⟩ := H
          replace H : (if x4_1.length < 4398046511104 then (if 0 ≤ (wrap64 (x5_1 + t137)) then ((token_gap.f k1 (a0.extract ((wrap64 (x5_1 + t137)) : Int).toNat a0.size)).bind fun t145 => (token_Scan.l0 k1 a0 (x4_1 ++ [(⟨t136, t141, x5_1⟩ : S34)]) (wrap64 ((wrap64 (x5_1 + t137)) + t145)))) else (none)) else (none)) = some (r1, r2, r3) := H
          have A17 := sd_ A170
          clear A170
          by_cases c18 : x4_1.length < 4398046511104
          ·rw [if_pos c18] at H
           have LMc18 := sd_ c18
           clear c18
           obtain ⟨y142, hy142⟩ : ∃ y_ : List (S34), y_ = (x4_1 ++ [(⟨t136, t141, x5_1⟩ : S34)]) := ⟨_, rfl⟩
           replace H : (if 0 ≤ (wrap64 (x5_1 + t137)) then ((token_gap.f k1 (a0.extract ((wrap64 (x5_1 + t137)) : Int).toNat a0.size)).bind fun t145 => (token_Scan.l0 k1 a0 y142 (wrap64 ((wrap64 (x5_1 + t137)) + t145)))) else (none)) = some (r1, r2, r3) := by first | (rw [hy142]; with_reducible exact H) | (have H2_ := (Option.bind_some _ _).symm.trans H; rw [hy142]; with_reducible exact H2_) | (have H2_ := (Option.bind_some _ _).symm.trans H; with_reducible exact H2_) | with_reducible exact H | (rw [hy142]; exact H) | exact H
           have Ny142 := sd_ hy142
           clear hy142
           obtain ⟨ji19, hji19⟩ : ∃ j_ : Int, (wrap64 (x5_1 + t137)) = j_ := ⟨_, rfl⟩
           replace H : (if 0 ≤ (ji19) then ((token_gap.f k1 (a0.extract ((ji19) : Int).toNat a0.size)).bind fun t145 => (token_Scan.l0 k1 a0 y142 (wrap64 ((ji19) + t145)))) else (none)) = some (r1, r2, r3) := by first | (rw [hji19] at H; exact H) | (simp only [hji19] at H ⊢; exact H)
           (try rw [hji19] at c15b0)
           (try rw [hji19] at c15b1)
           (try rw [hji19] at c15)
           (try rw [hji19] at c16b0)
           (try rw [hji19] at c16b1)
           (try rw [hji19] at c16)
           (try rw [hji19] at A12)
           (try rw [hji19] at A17)
           have hji19w : (IntKind.i64.wrap (x5_1 + t137)) = ji19 := (i64_w _).trans hji19
           by_cases c20 : 0 ≤ (ji19)
           ·rw [if_pos c20] at H
            have c20b0 := eq_true c20
            have c20b1 : decide (0 ≤ (ji19)) = true := dt_ c20
            clear c20
            have c21b0 := eq_true (od_ (by first | (with_reducible assumption) | assumption) : (ji19) ≤ (a0.size : Int))
            replace H := ob_ H
            obtain ⟨t145, A220, H⟩ := H
            replace H : (token_Scan.l0 k1 a0 y142 (wrap64 ((ji19) + t145))) = some (r1, r2, r3) := H
            have A22 := sd_ A220
            clear A220
            have H' := sd_ H
            clear H
            go_wp2_with (first | ((with_reducible refine gate_callee (f := 20) rfl ?_); refine goesL_ (some 23) rfl rfl Tryd.func20 (by kernel_rfl) rfl #[.string (a0.extract (x5_1 : Int).toNat a0.size)] rfl (by (try simp only [lm_, lq_, lx_]); first | done | rfl | (simp only [ld_, lt_]; rfl) | ((conv => rhs; simp); rfl)) ?_; (with_reducible refine (token_first.calls k1 (a0.extract (x5_1 : Int).toNat a0.size) t136 t137 t138 t139 _ ?side1 A12.out).mono ?_); (case side1 => first | (with_reducible exact hE) | exact sd_ (LaidE.below hE.out (bb_ HB.out (e_ GE129 e0_)))); rintro e w23 ⟨rfl, hb⟩; refine ⟨_, rfl, ?_⟩; replace HO_4 := sd_ (Kd.R_below (by (with_reducible repeat (first | apply Kd.R_alloc | apply Kd.R_drewN | apply Kd.R_drew)); exact HO_4.out) hb); replace BK129 := kb_ BK129 hb; replace HB := hb_ HB (e_ GE129 e0_) hb; (try clear hb); (try clear hb2); (try clear hk); (try clear hi)) | ((with_reducible refine gate_dst (N := 8) rfl ?_); refine box_event ?hg (N := 8) ?hd (cs := #[.int .i64 0, .int .i64 0]) (t := 26) ?hr ?_; (case hd => rfl); (case hg => rfl); (case hr => first | (go_simp; done) | (go_simp; rfl)); intro gb140 hg w24 hbox hb; have BK140 := sd_ hbox; have GW140 := gw_ HB (e_ GE129 e0_) hg; have GE140 := GW140; have NB129_140 := nb_ BK129 hg; have NB140_129 := sy_ NB129_140; replace HO_4 := sd_ (Kd.R_below (by (with_reducible repeat (first | apply Kd.R_alloc | apply Kd.R_drewN | apply Kd.R_drew)); exact HO_4.out) hb); replace BK129 := kb_ BK129 hb; replace HB := hb_ HB (e_ GE129 e0_) hb; clear hb hbox hg; have hnb25 := NB140_129.out; have hnc25 := NB129_140.out; have hcz26_0 : w24.cell? ⟨gb140, 0, none⟩ = some (.int .i64 0) := (kc_ BK140.out 0).trans rfl; have hcz26_1 : w24.cell? ⟨gb140, 1, none⟩ = some (.int .i64 0) := (kc_ BK140.out 1).trans rfl; have hfz26_0 := kf_ BK140.out 0; have hfz26_1 := kf_ BK140.out 1) | ((with_reducible refine gate_callee (f := 21) rfl ?_); refine goesL_ (some 45) rfl rfl Tryd.func21 (by kernel_rfl) rfl #[.int .i64 t136, .string (a0.extract (x5_1 : Int).toNat ((ji19) : Int).toNat)] rfl (by (try simp only [lm_, lq_, lx_]); first | done | (simp only [hji19]; rfl) | rfl | (simp only [ld_, lt_]; rfl)) ?_; (with_reducible refine (token_bare.calls t136 (a0.extract (x5_1 : Int).toNat ((ji19) : Int).toNat) t141 _ A17.out).mono ?_); rintro e w' ⟨rfl, ⟨nd, rfl⟩⟩; refine ⟨_, rfl, ?_⟩) | ((with_reducible refine gate_builtin (b := .append) (xs := #[.tmp 36, .tmp 48]) rfl ?_); at_builtin; refine Kd.R_append k34 (w0 := w) w.heap.size rfl (.tmp 36) (.tmp 48) 23 34 (.agg #[(.int .i64 0), (.string ⟨#[]⟩), (.int .i64 0)]) 32 rfl Tryd.underlying23 info34 rfl (by decide) (by omega) u4 x4_1 (⟨t136, t141, x5_1⟩ : S34) [.int .i64 t136, .string t141, .int .i64 x5_1] (fun _ => True) (fun _ => False) rfl (by first | (go_simp; done) | (go_simp; rfl)) ?aP (fun _ hk => hk.elim) ?aF ?aO ?aB ?aS ?aL ?_; (case aP => exact k34_mkM _ _ _ (⟨t136, t141, x5_1⟩ : S34)); (case aB => exact (bb_ HB.out (e_ GE129 (e_ GE140 e0_)))); (case aF => exact (fun _ _ => trivial)); (case aO => exact (by (with_reducible repeat (first | apply Kd.R_alloc | apply Kd.R_drewN | apply Kd.R_drew)); exact Kd.R_mono (Kd.R_far (p := ⟨gb140, 1, none⟩) (Kd.R_far (p := ⟨gb140, 0, none⟩) (Kd.R_types HO_4.out BK140.out (by decide)) (fun _ hk => hk.2) (.int .i64 t138)) (fun _ hk => hk.2) (.int .i64 t139)) (fun _ hk => trivial))); (case aS => exact (bz_ (bb_ HB.out (e_ GE129 (e_ GE140 e0_))))); (case aL => have := LMc18.out; omega); intro v143 w27 ho hb hg hat; rw [← Ny142.out] at ho; have n0_ := sd_ (blk_grown (g := gb129) (o := .cells #[.int .i64 x130000_1, .int .i64 x130001_1] 26 (0, 0)) (by (with_reducible repeat first | apply kn_ | apply kd_ | apply ka_); refine blk_far ?_ NB129_140.out _; (with_reducible repeat first | apply kn_ | apply kd_ | apply ka_); refine blk_far ?_ NB129_140.out _; (with_reducible repeat first | apply kn_ | apply kd_ | apply ka_); exact BK129.out) hg (Kd.R_ne HO_4.out BK129.out (by decide))); have n1_ := sd_ (blk_grown (g := gb140) (o := .cells #[.int .i64 t138, .int .i64 t139] 26 (0, 0)) (by (with_reducible repeat first | apply kn_ | apply kd_ | apply ka_); refine blk_put (cs := #[.int .i64 t138, .int .i64 0]) ?_ 1 _ rfl; (with_reducible repeat first | apply kn_ | apply kd_ | apply ka_); refine blk_put (cs := #[.int .i64 0, .int .i64 0]) ?_ 0 _ rfl; (with_reducible repeat first | apply kn_ | apply kd_ | apply ka_); exact BK140.out) hg (Kd.R_ne HO_4.out BK140.out (by decide))); have n2_ := sd_ (hb); have n3_ := sd_ (ho); clear BK129; clear BK140; clear HB; clear HO_4; have BK129 := n0_; have BK140 := n1_; have HB := n2_; have HO144 := n3_; clear n0_ n1_ n2_ n3_; clear ho hb hg hat) | ((with_reducible refine gate_callee (f := 19) rfl ?_); refine goesL_ (some 57) rfl rfl Tryd.func19 (by kernel_rfl) rfl #[.string (a0.extract ((ji19) : Int).toNat a0.size)] rfl (by (try simp only [lm_, lq_, lx_]); first | done | (simp only [hji19]; rfl) | rfl | (simp only [ld_, lt_]; rfl)) ?_; (with_reducible refine (token_gap.calls k1 (a0.extract ((ji19) : Int).toNat a0.size) t145 _ A22.out).mono ?_); rintro e w' ⟨rfl, ⟨nd, rfl⟩⟩; refine ⟨_, rfl, ?_⟩))
            go_roundg k1
            case measure => have := HK1.out; omega
            case rel => exact ⟨(y142), (wrap64 ((ji19) + t145)), (x130000_1), (x130001_1), (by first | rfl | (simp; done) | (simp only [← hji19] <;> (first | rfl | simp)) | (simp [*]; done)), H', ⟨by have := HK1.out; omega⟩, ⟨by (with_reducible repeat (first | apply Kd.R_alloc | apply Kd.R_drewN | apply Kd.R_drew)); exact HO144.out⟩, ⟨by (with_reducible repeat first | apply kn_ | apply kd_ | apply ka_); exact BK129.out⟩, ⟨by repeat (first | (with_reducible first | exact HB.out | apply ba_ | apply pd_ | apply d1_ | refine bs_ ?_ GE129.out | refine bs_ ?_ GE140.out) | exact HB.out)⟩⟩
           ·rw [if_neg c20] at H
            exact absurd H (by simp)
          ·rw [if_neg c18] at H
           exact absurd H (by simp)
         ·rw [if_neg c16] at H
          exact absurd H (by simp)
        ·rw [if_neg c15] at H
         exact absurd H (by simp)
       ·rw [if_neg c13] at H
        have c13b0 : (t138 == 0) = false := beq_eq_false_iff_ne.mpr c13
        have c13b1 : (t138 != 0) = true := bne_iff_ne.mpr c13
        simp only [Option.some.injEq, Prod.mk.injEq] at H
        obtain ⟨rfl, rfl, rfl⟩ := H
        try go_wp2_with (first | ((with_reducible refine gate_callee (f := 20) rfl ?_); refine goesL_ (some 23) rfl rfl Tryd.func20 (by kernel_rfl) rfl #[.string (a0.extract (x5_1 : Int).toNat a0.size)] rfl (by (try simp only [lm_, lq_, lx_]); first | done | rfl | (simp only [ld_, lt_]; rfl) | ((conv => rhs; simp); rfl)) ?_; (with_reducible refine (token_first.calls k1 (a0.extract (x5_1 : Int).toNat a0.size) t136 t137 t138 t139 _ ?side1 A12.out).mono ?_); (case side1 => first | (with_reducible exact hE) | exact sd_ (LaidE.below hE.out (bb_ HB.out (e_ GE129 e0_)))); rintro e w28 ⟨rfl, hb⟩; refine ⟨_, rfl, ?_⟩; replace HO_4 := sd_ (Kd.R_below (by (with_reducible repeat (first | apply Kd.R_alloc | apply Kd.R_drewN | apply Kd.R_drew)); exact HO_4.out) hb); replace BK129 := kb_ BK129 hb; replace HB := hb_ HB (e_ GE129 e0_) hb; (try clear hb); (try clear hb2); (try clear hk); (try clear hi)) | ((with_reducible refine gate_dst (N := 8) rfl ?_); refine box_event ?hg (N := 8) ?hd (cs := #[.int .i64 0, .int .i64 0]) (t := 26) ?hr ?_; (case hd => rfl); (case hg => rfl); (case hr => first | (go_simp; done) | (go_simp; rfl)); intro gb140 hg w29 hbox hb; have BK140 := sd_ hbox; have GW140 := gw_ HB (e_ GE129 e0_) hg; have GE140 := GW140; have NB129_140 := nb_ BK129 hg; have NB140_129 := sy_ NB129_140; replace HO_4 := sd_ (Kd.R_below (by (with_reducible repeat (first | apply Kd.R_alloc | apply Kd.R_drewN | apply Kd.R_drew)); exact HO_4.out) hb); replace BK129 := kb_ BK129 hb; replace HB := hb_ HB (e_ GE129 e0_) hb; clear hb hbox hg; have hnb30 := NB140_129.out; have hnc30 := NB129_140.out; have hcz31_0 : w29.cell? ⟨gb140, 0, none⟩ = some (.int .i64 0) := (kc_ BK140.out 0).trans rfl; have hcz31_1 : w29.cell? ⟨gb140, 1, none⟩ = some (.int .i64 0) := (kc_ BK140.out 1).trans rfl; have hfz31_0 := kf_ BK140.out 0; have hfz31_1 := kf_ BK140.out 1))
        have n0_ : Aside0 (Kd.R k34 34 (((w29.setCell ⟨gb140, 0, none⟩ (.int .i64 t138)).setCell ⟨gb140, 1, none⟩ (.int .i64 t139)).setCell ⟨gb140, 1, none⟩ (.int .i64 (wrap64 (t139 + x5_1)))) w.heap.size (fun _ => True) u4 x4_1) := ⟨by (with_reducible repeat (first | apply Kd.R_alloc | apply Kd.R_drewN | apply Kd.R_drew)); exact Kd.R_mono (Kd.R_far (p := ⟨gb140, 1, none⟩) (Kd.R_far (p := ⟨gb140, 1, none⟩) (Kd.R_far (p := ⟨gb140, 0, none⟩) (Kd.R_types HO_4.out BK140.out (by decide)) (fun _ hk => hk.2) (.int .i64 t138)) (fun _ hk => hk.2) (.int .i64 t139)) (fun _ hk => hk.2) (.int .i64 (wrap64 (t139 + x5_1)))) (fun _ hk => trivial)⟩
        have n1_ : Aside0 ((((w29.setCell ⟨gb140, 0, none⟩ (.int .i64 t138)).setCell ⟨gb140, 1, none⟩ (.int .i64 t139)).setCell ⟨gb140, 1, none⟩ (.int .i64 (wrap64 (t139 + x5_1)))).heap[gb129]? = some (.cells #[.int .i64 x130000_1, .int .i64 x130001_1] 26 (0, 0))) := ⟨by (with_reducible repeat first | apply kn_ | apply kd_ | apply ka_); refine blk_far ?_ NB129_140.out _; (with_reducible repeat first | apply kn_ | apply kd_ | apply ka_); refine blk_far ?_ NB129_140.out _; (with_reducible repeat first | apply kn_ | apply kd_ | apply ka_); refine blk_far ?_ NB129_140.out _; (with_reducible repeat first | apply kn_ | apply kd_ | apply ka_); exact BK129.out⟩
        have n2_ : Aside0 ((((w29.setCell ⟨gb140, 0, none⟩ (.int .i64 t138)).setCell ⟨gb140, 1, none⟩ (.int .i64 t139)).setCell ⟨gb140, 1, none⟩ (.int .i64 (wrap64 (t139 + x5_1)))).heap[gb140]? = some (.cells #[.int .i64 t138, .int .i64 (wrap64 (t139 + x5_1))] 26 (0, 0))) := ⟨by (with_reducible repeat first | apply kn_ | apply kd_ | apply ka_); refine blk_put (cs := #[.int .i64 t138, .int .i64 t139]) ?_ 1 _ rfl; (with_reducible repeat first | apply kn_ | apply kd_ | apply ka_); refine blk_put (cs := #[.int .i64 t138, .int .i64 0]) ?_ 1 _ rfl; (with_reducible repeat first | apply kn_ | apply kd_ | apply ka_); refine blk_put (cs := #[.int .i64 0, .int .i64 0]) ?_ 0 _ rfl; (with_reducible repeat first | apply kn_ | apply kd_ | apply ka_); exact BK140.out⟩
        have n3_ : Aside0 (Below w.heap.size w (((w29.setCell ⟨gb140, 0, none⟩ (.int .i64 t138)).setCell ⟨gb140, 1, none⟩ (.int .i64 t139)).setCell ⟨gb140, 1, none⟩ (.int .i64 (wrap64 (t139 + x5_1))))) := ⟨by repeat (first | (with_reducible first | exact HB.out | apply ba_ | apply pd_ | apply d1_ | refine bs_ ?_ GE129.out | refine bs_ ?_ GE140.out) | exact HB.out)⟩
        (try clear HO_4)
        (try clear BK129)
        (try clear BK140)
        (try clear HB)
        generalize (((w29.setCell ⟨gb140, 0, none⟩ (.int .i64 t138)).setCell ⟨gb140, 1, none⟩ (.int .i64 t139)).setCell ⟨gb140, 1, none⟩ (.int .i64 (wrap64 (t139 + x5_1)))) = w32 at n0_ n1_ n2_ n3_ ⊢
        have HO_4 := n0_
        have BK129 := n1_
        have BK140 := n2_
        have HB := n3_
        clear n0_ n1_ n2_ n3_
        replace HO_4 := sd_ (Kd.R_drew HO_4.out)
        replace BK129 := sd_ (kd_ BK129.out)
        replace BK140 := sd_ (kd_ BK140.out)
        replace HB := sd_ (d1_ HB.out)
        refine start_ (n := 3) (S := fun w' => w'.cell? ⟨gb140, 0, none⟩ = some (.int .i64 t138) ∧ w'.cell? ⟨gb140, 1, none⟩ = some (.int .i64 (wrap64 (t139 + x5_1)))) (ds := []) #[false, false, false] (by kernel_rfl) rfl rfl ⟨(kc_ BK140.out 0).trans rfl, (kc_ BK140.out 1).trans rfl⟩ (fun hHeld => ?_)
        generalize w32.drew = w33 at HO_4 BK129 BK140 HB hHeld ⊢
        refine pure_ (i := 1) (N := some 2) (v := ?_) (a' := ?_) #[false, true, false] rfl rfl (by kernel_rfl) (fun _ _ _ h => h) (Or.inl ⟨by rfl, ?_⟩) ?_ ?_
        rotate_left; (intro w'; go_simp; with_reducible rfl); rotate_left; (simp only [Act.put, ls_, lz_, lc_, i64_w, i32_w]; rfl)
        refine take_ (i := 0) (N := some 35) (v := ?_) (a' := ?_) #[true, true, false] rfl rfl (by kernel_rfl) (fun _ _ _ h => h) (Or.inl ⟨by rfl, ?_⟩) hHeld ?_ ?_
        rotate_left
        ·rintro w' ⟨s0, s1⟩
         go_simp
         with_reducible rfl
        rotate_left
        ·simp only [Act.put, ls_, lz_, lc_, i64_w, i32_w]
         rfl
        refine one_ (i := 2) (N := none) #[true, true, true] rfl rfl (by kernel_rfl) (by decide) (fun K hK => ?_)
        have hs34 : w33.cell? ⟨gb129, 0, none⟩ = some (.int .i64 x130000_1) := (kc_ BK129.out 0).trans rfl
        have hfs34 := kf_ BK129.out 0
        have hns34_1 := NB140_129.out
        have hms34_1 := NB129_140.out
        have hs35 : w33.cell? ⟨gb129, 1, none⟩ = some (.int .i64 x130001_1) := (kc_ BK129.out 1).trans rfl
        have hfs35 := kf_ BK129.out 1
        have hns35_1 := NB140_129.out
        have hms35_1 := NB129_140.out
        refine skip_ (w1 := ?_) (by rfl) rfl ?_ ?_
        rotate_left
        ·go_simp
         rfl
        refine hK.out _ _ ⟨((cell_far (p := ⟨gb129, _, none⟩) NB140_129.out _).trans (((cell_far (p := ⟨gb129, _, none⟩) NB140_129.out _).trans (hHeld.1)))), ((cell_far (p := ⟨gb129, _, none⟩) NB140_129.out _).trans (((cell_far (p := ⟨gb129, _, none⟩) NB140_129.out _).trans (hHeld.2))))⟩ (fun hHeld => ?_)
        clear hK K
        refine done_ (by kernel_rfl) ?_
        try go_wp2
        refine bodyPost_ret (results_tc rfl _ _ gb129 26 #[.int .i64 t138, .int .i64 (wrap64 (t139 + x5_1))] (0, 0) _ rfl (by (with_reducible repeat first | apply kn_ | apply kd_ | apply ka_); refine blk_put (cs := #[.int .i64 t138, .int .i64 x130001_1]) ?_ 1 _ rfl; (with_reducible repeat first | apply kn_ | apply kd_ | apply ka_); refine blk_put (cs := #[.int .i64 x130000_1, .int .i64 x130001_1]) ?_ 0 _ rfl; (with_reducible repeat first | apply kn_ | apply kd_ | apply ka_); exact BK129.out) Tryd.underlying26 rfl (by kernel_rfl)) rfl ?_
        exact ⟨_, by first | rfl | (simp [errW_none, errW_some] <;> rfl) | (simp [*, errW_none, errW_some] <;> rfl), by first | exact Kd.R_nil _ _ _ _ _ | exact Kd.N_nil _ _ _ _ _ | exact Kd.V_nil _ _ _ _ _ | exact Kd.Q_nil _ _ _ _ _ | exact Kd.S_nil _ _ _ _ _, by repeat (first | (with_reducible first | exact HB.out | apply ba_ | apply pd_ | apply d1_ | refine bs_ ?_ GE129.out | refine bs_ ?_ GE140.out) | exact HB.out)⟩
      ·rw [if_neg c11] at H
       exact absurd H (by simp)
     ·rw [if_neg c10] at H
      exact absurd H (by simp)
    ·rw [if_neg c9] at H
     have c9b0 : decide (x5_1 < (a0.size : Int)) = false := df_ c9
     clear c9
     by_cases c36 : x4_1.length < 4398046511104
     ·rw [if_pos c36] at H
      have LMc36 := sd_ c36
      clear c36
      obtain ⟨y133, hy133⟩ : ∃ y_ : List (S34), y_ = (x4_1 ++ [(⟨8, (⟨#[]⟩ : ByteArray), (a0.size : Int)⟩ : S34)]) := ⟨_, rfl⟩
      replace H : (some (y133, 0, 0)) = some (r1, r2, r3) := by first | (rw [hy133]; with_reducible exact H) | (have H2_ := (Option.bind_some _ _).symm.trans H; rw [hy133]; with_reducible exact H2_) | (have H2_ := (Option.bind_some _ _).symm.trans H; with_reducible exact H2_) | with_reducible exact H | (rw [hy133]; exact H) | exact H
      have Ny133 := sd_ hy133
      clear hy133
      simp only [Option.some.injEq, Prod.mk.injEq] at H
      obtain ⟨rfl, rfl, rfl⟩ := H
      go_wp2_with (first | ((with_reducible refine gate_builtin (b := .append) (xs := #[.tmp 59, .tmp 63]) rfl ?_); at_builtin; refine Kd.R_append k34 (w0 := w) w.heap.size rfl (.tmp 59) (.tmp 63) 23 34 (.agg #[(.int .i64 0), (.string ⟨#[]⟩), (.int .i64 0)]) 32 rfl Tryd.underlying23 info34 rfl (by decide) (by omega) u4 x4_1 (⟨8, (⟨#[]⟩ : ByteArray), (a0.size : Int)⟩ : S34) [.int .i64 8, .string (⟨#[]⟩ : ByteArray), .int .i64 (a0.size : Int)] (fun _ => True) (fun _ => False) rfl rfl ?aP (fun _ hk => hk.elim) ?aF ?aO ?aB ?aS ?aL ?_; (case aP => exact k34_mkM _ _ _ (⟨8, (⟨#[]⟩ : ByteArray), (a0.size : Int)⟩ : S34)); (case aB => exact (bb_ HB.out (e_ GE129 e0_))); (case aF => exact (fun _ _ => trivial)); (case aO => exact (by (with_reducible repeat (first | apply Kd.R_alloc | apply Kd.R_drewN | apply Kd.R_drew)); exact HO_4.out)); (case aS => exact (bz_ (bb_ HB.out (e_ GE129 e0_)))); (case aL => have := LMc36.out; omega); intro v134 w37 ho hb hg hat; rw [← Ny133.out] at ho; have n0_ := sd_ (blk_grown (kk_ BK129.out) hg (Kd.R_ne HO_4.out BK129.out (by decide))); have n1_ := sd_ (hb); have n2_ := sd_ (ho); clear BK129; clear HB; clear HO_4; have BK129 := n0_; have HB := n1_; have HO135 := n2_; clear n0_ n1_ n2_; clear ho hb hg hat; have hcz38_0 : w37.cell? ⟨gb129, 0, none⟩ = some (.int .i64 x130000_1) := (kc_ BK129.out 0).trans rfl; have hcz38_1 : w37.cell? ⟨gb129, 1, none⟩ = some (.int .i64 x130001_1) := (kc_ BK129.out 1).trans rfl; have hfz38_0 := kf_ BK129.out 0; have hfz38_1 := kf_ BK129.out 1))
      refine bodyPost_ret (results_tc rfl _ _ gb129 26 #[.int .i64 0, .int .i64 0] (0, 0) _ rfl (by (with_reducible repeat first | apply kn_ | apply kd_ | apply ka_); refine blk_put (cs := #[.int .i64 0, .int .i64 x130001_1]) ?_ 1 _ rfl; (with_reducible repeat first | apply kn_ | apply kd_ | apply ka_); refine blk_put (cs := #[.int .i64 x130000_1, .int .i64 x130001_1]) ?_ 0 _ rfl; (with_reducible repeat first | apply kn_ | apply kd_ | apply ka_); exact BK129.out) Tryd.underlying26 rfl (by kernel_rfl)) rfl ?_
      exact ⟨_, by first | rfl | (simp [errW_none, errW_some] <;> rfl) | (simp [*, errW_none, errW_some] <;> rfl), by (with_reducible repeat (first | apply Kd.R_alloc | apply Kd.R_drewN | apply Kd.R_drew)); exact Kd.R_mono (Kd.R_far (p := ⟨gb129, 1, none⟩) (Kd.R_far (p := ⟨gb129, 0, none⟩) (Kd.R_types HO135.out BK129.out (by decide)) (fun _ hk => hk.2) (.int .i64 0)) (fun _ hk => hk.2) (.int .i64 0)) (fun _ hk => trivial), by repeat (first | (with_reducible first | exact HB.out | apply ba_ | apply pd_ | apply d1_ | refine bs_ ?_ GE129.out) | exact HB.out)⟩
     ·rw [if_neg c36] at H
      exact absurd H (by simp)

/-! ### token_raw: function 26 -/
def token_raw.f (a0_0 : Int) (a0_1 : ByteArray) (a0_2 : Int) : Option (ByteArray) := if a0_0 = 5 then (if 1 + a0_1.size ≤ 9223372036854775807 then (if 1 + a0_1.size + 1 ≤ 9223372036854775807 then (some (((⟨#[34]⟩ : ByteArray) ++ a0_1) ++ (⟨#[34]⟩ : ByteArray))) else (none)) else (none)) else (some a0_1)
set_option maxHeartbeats 8000000 in
set_option maxRecDepth 100000 in
theorem token_raw.calls (a0_0 : Int) (a0_1 : ByteArray) (a0_2 : Int) (r : ByteArray) (w : World) (h : token_raw.f a0_0 a0_1 a0_2 = some r) :
  Calls Tryd.prog 26 #[.agg #[.int .i64 a0_0, .string a0_1, .int .i64 a0_2]] w fun e w' => e = .returned (.string r) ∧ Below w.heap.size w w' := by
 have hu34 := Tryd.underlying34
 have HB := sd_ (Below.refl w.heap.size w)
 have H : (if a0_0 = 5 then (if 1 + a0_1.size ≤ 9223372036854775807 then (if 1 + a0_1.size + 1 ≤ 9223372036854775807 then (some (((⟨#[34]⟩ : ByteArray) ++ a0_1) ++ (⟨#[34]⟩ : ByteArray))) else (none)) else (none)) else (some a0_1)) = some r := h
 clear h
 by_cases c2 : a0_0 = 5
 ·rw [if_pos c2] at H
  have c2b0 : (a0_0 == 5) = true := beq_iff_eq.mpr c2
  have c2b1 : (a0_0 != 5) = false := bne_eq_false_iff_eq.mpr c2
  clear c2
  by_cases c3 : 1 + a0_1.size ≤ 9223372036854775807
  ·rw [if_pos c3] at H
   have c3b0 := eq_true c3
   have c3b1 : decide (1 + a0_1.size ≤ 9223372036854775807) = true := dt_ c3
   try have c3b2 : (9223372036854775807 < 1 + a0_1.size) = False := eq_false (Nat.not_lt.2 c3)
   by_cases c4 : 1 + a0_1.size + 1 ≤ 9223372036854775807
   ·rw [if_pos c4] at H
    have c4b0 := eq_true c4
    have c4b1 : decide (1 + a0_1.size + 1 ≤ 9223372036854775807) = true := dt_ c4
    try have c4b2 : (9223372036854775807 < 1 + a0_1.size + 1) = False := eq_false (Nat.not_lt.2 c4)
    obtain rfl := Option.some.inj H
    go_enter Tryd.func26, Tryd.ntmps26
    go_wp2_with (first | ((with_reducible refine gate_dst (N := 1) rfl ?_); refine box_event ?hg (N := 1) ?hd (cs := #[.int .i64 a0_0, .string a0_1, .int .i64 a0_2]) (t := 34) ?hr ?_; (case hd => rfl); (case hg => rfl); (case hr => first | (go_simp; done) | (go_simp; rfl)); intro gb146 hg w5 hbox hb; have BK146 := sd_ hbox; have GW146 := gw_ HB e0_ hg; have GE146 := GW146; replace HB := hb_ HB e0_ hb; clear hb hbox hg; have hcz6_0 : w5.cell? ⟨gb146, 0, none⟩ = some (.int .i64 a0_0) := (kc_ BK146.out 0).trans rfl; have hcz6_1 : w5.cell? ⟨gb146, 1, none⟩ = some (.string a0_1) := (kc_ BK146.out 1).trans rfl; have hcz6_2 : w5.cell? ⟨gb146, 2, none⟩ = some (.int .i64 a0_2) := (kc_ BK146.out 2).trans rfl; have hfz6_0 := kf_ BK146.out 0; have hfz6_1 := kf_ BK146.out 1; have hfz6_2 := kf_ BK146.out 2))
    go_ret
    exact ⟨by first | rfl | (simp [errW_none, errW_some] <;> rfl) | (simp [*, errW_none, errW_some] <;> rfl), by repeat (first | (with_reducible first | exact HB.out | apply ba_ | apply pd_ | apply d1_ | refine bs_ ?_ GE146.out) | exact HB.out)⟩
   ·rw [if_neg c4] at H
    exact absurd H (by simp)
  ·rw [if_neg c3] at H
   exact absurd H (by simp)
 ·rw [if_neg c2] at H
  have c2b0 : (a0_0 == 5) = false := beq_eq_false_iff_ne.mpr c2
  have c2b1 : (a0_0 != 5) = true := bne_iff_ne.mpr c2
  obtain rfl := Option.some.inj H
  go_enter Tryd.func26, Tryd.ntmps26
  go_wp2_with (first | ((with_reducible refine gate_dst (N := 1) rfl ?_); refine box_event ?hg (N := 1) ?hd (cs := #[.int .i64 a0_0, .string a0_1, .int .i64 a0_2]) (t := 34) ?hr ?_; (case hd => rfl); (case hg => rfl); (case hr => first | (go_simp; done) | (go_simp; rfl)); intro gb146 hg w7 hbox hb; have BK146 := sd_ hbox; have GW146 := gw_ HB e0_ hg; have GE146 := GW146; replace HB := hb_ HB e0_ hb; clear hb hbox hg; have hcz8_0 : w7.cell? ⟨gb146, 0, none⟩ = some (.int .i64 a0_0) := (kc_ BK146.out 0).trans rfl; have hcz8_1 : w7.cell? ⟨gb146, 1, none⟩ = some (.string a0_1) := (kc_ BK146.out 1).trans rfl; have hcz8_2 : w7.cell? ⟨gb146, 2, none⟩ = some (.int .i64 a0_2) := (kc_ BK146.out 2).trans rfl; have hfz8_0 := kf_ BK146.out 0; have hfz8_1 := kf_ BK146.out 1; have hfz8_2 := kf_ BK146.out 2))
  go_ret
  exact ⟨by first | rfl | (simp [errW_none, errW_some] <;> rfl) | (simp [*, errW_none, errW_some] <;> rfl), by repeat (first | (with_reducible first | exact HB.out | apply ba_ | apply pd_ | apply d1_ | refine bs_ ?_ GE146.out) | exact HB.out)⟩

end Go.Proofs.YtmffjjncnbeldaaDoor.P
