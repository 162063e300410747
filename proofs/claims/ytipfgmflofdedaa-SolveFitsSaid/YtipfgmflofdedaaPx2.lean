-- Written by a program of this session (wip/tools/xprint.py, over the kit's print): Lean checks it.
import Derived.Test.YtipfgmflofdedaaPx0
namespace Go.Proofs.Ytipfgmflofdedaa.P
open Go.RowKit Go.Proofs.YtipfgmflofdedaaW.PrintWords Go.Proofs.YtipfgmflofdedaaW.PrintLast Go.Proofs.YtipfgmflofdedaaW.PrintMore
attribute [local go_sem] max2_int min2_int max_two min_two max_three min_three max_four min_four   -- for this text's walks alone
set_option linter.unusedVariables false
set_option linter.unusedSimpArgs false

/-! ### neumeref27_rod: function 24 -/
def neumeref27_rod.f (a0_0 : Int) (a0_1 : Int) (a0_2 : Int) (a1 : Int) : Option (Bool) := if a0_0 ≥ 0 then (if a0_1 > a0_0 then (if a0_1 < a1 then (if a0_2 ≥ 1 then (some (decide (a0_2 ≤ 1073741824))) else (some false)) else (some false)) else (some false)) else (some false)
set_option maxHeartbeats 8000000 in
set_option maxRecDepth 100000 in
theorem neumeref27_rod.calls (a0_0 : Int) (a0_1 : Int) (a0_2 : Int) (a1 : Int) (r : Bool) (w : World) (h : neumeref27_rod.f a0_0 a0_1 a0_2 a1 = some r) :
  Calls Try.prog 24 #[.agg #[.int .i64 a0_0, .int .i64 a0_1, .int .i64 a0_2], .int .i64 a1] w fun e w' => e = .returned (.bool r) ∧ Below w.heap.size w w' := by
 have hu36 := Try.underlying36
 have HB := sd_ (Below.refl w.heap.size w)
 have H : (if a0_0 ≥ 0 then (if a0_1 > a0_0 then (if a0_1 < a1 then (if a0_2 ≥ 1 then (some (decide (a0_2 ≤ 1073741824))) else (some false)) else (some false)) else (some false)) else (some false)) = some r := h
 clear h
 by_cases c3 : a0_0 ≥ 0
 ·rw [if_pos c3] at H
  have c3b0 : decide (0 ≤ a0_0) = true := dt_ c3
  clear c3
  by_cases c4 : a0_1 > a0_0
  ·rw [if_pos c4] at H
   have c4b0 : decide (a0_0 < a0_1) = true := dt_ c4
   clear c4
   by_cases c5 : a0_1 < a1
   ·rw [if_pos c5] at H
    have c5b0 : decide (a0_1 < a1) = true := dt_ c5
    clear c5
    by_cases c6 : a0_2 ≥ 1
    ·rw [if_pos c6] at H
     have c6b0 : decide (1 ≤ a0_2) = true := dt_ c6
     clear c6
     obtain rfl := Option.some.inj H
     go_enter Try.func24, Try.ntmps24
     go_wp2_with (first | ((with_reducible refine gate_dst (N := 2) rfl ?_); refine box_event ?hg (N := 2) ?hd (cs := #[.int .i64 a0_0, .int .i64 a0_1, .int .i64 a0_2]) (t := 36) ?hr ?_; (case hd => rfl); (case hg => rfl); (case hr => first | (go_simp; done) | (go_simp; rfl)); intro gb169 hg w7 hbox hb; have n0_ := sd_ (bt_ (by repeat first | exact HB.out | apply ba_ | apply pd_ | apply d1_) hb); have n1_ := sd_ (hbox); have n2_ := sd_ ((by rw [hg]; exact (bz_ (by repeat first | exact HB.out | apply ba_ | apply pd_ | apply d1_)) : w.heap.size ≤ gb169)); have n3_ := sd_ ((by rw [hg]; exact (bz_ (by repeat first | exact HB.out | apply ba_ | apply pd_ | apply d1_)) : w.heap.size ≤ gb169)); clear HB; have HB := n0_; have BK169 := n1_; have GW169 := n2_; have GE169 := n3_; clear n0_ n1_ n2_ n3_; clear hb hbox hg; have hcz8_0 : w7.cell? ⟨gb169, 0, none⟩ = some (.int .i64 a0_0) := (kc_ BK169.out 0).trans rfl; have hcz8_1 : w7.cell? ⟨gb169, 1, none⟩ = some (.int .i64 a0_1) := (kc_ BK169.out 1).trans rfl; have hcz8_2 : w7.cell? ⟨gb169, 2, none⟩ = some (.int .i64 a0_2) := (kc_ BK169.out 2).trans rfl; have hfz8_0 := kf_ BK169.out 0; have hfz8_1 := kf_ BK169.out 1; have hfz8_2 := kf_ BK169.out 2))
     go_ret
     exact ⟨by first | rfl | (simp [errW_none, errW_some] <;> rfl) | (simp [*, errW_none, errW_some] <;> rfl), by repeat first | exact HB.out | apply ba_ | apply pd_ | apply d1_ | refine bs_ ?_ GE169.out⟩
    ·rw [if_neg c6] at H
     have c6b0 : decide (1 ≤ a0_2) = false := df_ c6
     clear c6
     obtain rfl := Option.some.inj H
     go_enter Try.func24, Try.ntmps24
     go_wp2_with (first | ((with_reducible refine gate_dst (N := 2) rfl ?_); refine box_event ?hg (N := 2) ?hd (cs := #[.int .i64 a0_0, .int .i64 a0_1, .int .i64 a0_2]) (t := 36) ?hr ?_; (case hd => rfl); (case hg => rfl); (case hr => first | (go_simp; done) | (go_simp; rfl)); intro gb169 hg w9 hbox hb; have n0_ := sd_ (bt_ (by repeat first | exact HB.out | apply ba_ | apply pd_ | apply d1_) hb); have n1_ := sd_ (hbox); have n2_ := sd_ ((by rw [hg]; exact (bz_ (by repeat first | exact HB.out | apply ba_ | apply pd_ | apply d1_)) : w.heap.size ≤ gb169)); have n3_ := sd_ ((by rw [hg]; exact (bz_ (by repeat first | exact HB.out | apply ba_ | apply pd_ | apply d1_)) : w.heap.size ≤ gb169)); clear HB; have HB := n0_; have BK169 := n1_; have GW169 := n2_; have GE169 := n3_; clear n0_ n1_ n2_ n3_; clear hb hbox hg; have hcz10_0 : w9.cell? ⟨gb169, 0, none⟩ = some (.int .i64 a0_0) := (kc_ BK169.out 0).trans rfl; have hcz10_1 : w9.cell? ⟨gb169, 1, none⟩ = some (.int .i64 a0_1) := (kc_ BK169.out 1).trans rfl; have hcz10_2 : w9.cell? ⟨gb169, 2, none⟩ = some (.int .i64 a0_2) := (kc_ BK169.out 2).trans rfl; have hfz10_0 := kf_ BK169.out 0; have hfz10_1 := kf_ BK169.out 1; have hfz10_2 := kf_ BK169.out 2))
     go_ret
     exact ⟨by first | rfl | (simp [errW_none, errW_some] <;> rfl) | (simp [*, errW_none, errW_some] <;> rfl), by repeat first | exact HB.out | apply ba_ | apply pd_ | apply d1_ | refine bs_ ?_ GE169.out⟩
   ·rw [if_neg c5] at H
    have c5b0 : decide (a0_1 < a1) = false := df_ c5
    clear c5
    obtain rfl := Option.some.inj H
    go_enter Try.func24, Try.ntmps24
    go_wp2_with (first | ((with_reducible refine gate_dst (N := 2) rfl ?_); refine box_event ?hg (N := 2) ?hd (cs := #[.int .i64 a0_0, .int .i64 a0_1, .int .i64 a0_2]) (t := 36) ?hr ?_; (case hd => rfl); (case hg => rfl); (case hr => first | (go_simp; done) | (go_simp; rfl)); intro gb169 hg w11 hbox hb; have n0_ := sd_ (bt_ (by repeat first | exact HB.out | apply ba_ | apply pd_ | apply d1_) hb); have n1_ := sd_ (hbox); have n2_ := sd_ ((by rw [hg]; exact (bz_ (by repeat first | exact HB.out | apply ba_ | apply pd_ | apply d1_)) : w.heap.size ≤ gb169)); have n3_ := sd_ ((by rw [hg]; exact (bz_ (by repeat first | exact HB.out | apply ba_ | apply pd_ | apply d1_)) : w.heap.size ≤ gb169)); clear HB; have HB := n0_; have BK169 := n1_; have GW169 := n2_; have GE169 := n3_; clear n0_ n1_ n2_ n3_; clear hb hbox hg; have hcz12_0 : w11.cell? ⟨gb169, 0, none⟩ = some (.int .i64 a0_0) := (kc_ BK169.out 0).trans rfl; have hcz12_1 : w11.cell? ⟨gb169, 1, none⟩ = some (.int .i64 a0_1) := (kc_ BK169.out 1).trans rfl; have hcz12_2 : w11.cell? ⟨gb169, 2, none⟩ = some (.int .i64 a0_2) := (kc_ BK169.out 2).trans rfl; have hfz12_0 := kf_ BK169.out 0; have hfz12_1 := kf_ BK169.out 1; have hfz12_2 := kf_ BK169.out 2))
    go_ret
    exact ⟨by first | rfl | (simp [errW_none, errW_some] <;> rfl) | (simp [*, errW_none, errW_some] <;> rfl), by repeat first | exact HB.out | apply ba_ | apply pd_ | apply d1_ | refine bs_ ?_ GE169.out⟩
  ·rw [if_neg c4] at H
   have c4b0 : decide (a0_0 < a0_1) = false := df_ c4
   clear c4
   obtain rfl := Option.some.inj H
   go_enter Try.func24, Try.ntmps24
   go_wp2_with (first | ((with_reducible refine gate_dst (N := 2) rfl ?_); refine box_event ?hg (N := 2) ?hd (cs := #[.int .i64 a0_0, .int .i64 a0_1, .int .i64 a0_2]) (t := 36) ?hr ?_; (case hd => rfl); (case hg => rfl); (case hr => first | (go_simp; done) | (go_simp; rfl)); intro gb169 hg w13 hbox hb; have n0_ := sd_ (bt_ (by repeat first | exact HB.out | apply ba_ | apply pd_ | apply d1_) hb); have n1_ := sd_ (hbox); have n2_ := sd_ ((by rw [hg]; exact (bz_ (by repeat first | exact HB.out | apply ba_ | apply pd_ | apply d1_)) : w.heap.size ≤ gb169)); have n3_ := sd_ ((by rw [hg]; exact (bz_ (by repeat first | exact HB.out | apply ba_ | apply pd_ | apply d1_)) : w.heap.size ≤ gb169)); clear HB; have HB := n0_; have BK169 := n1_; have GW169 := n2_; have GE169 := n3_; clear n0_ n1_ n2_ n3_; clear hb hbox hg; have hcz14_0 : w13.cell? ⟨gb169, 0, none⟩ = some (.int .i64 a0_0) := (kc_ BK169.out 0).trans rfl; have hcz14_1 : w13.cell? ⟨gb169, 1, none⟩ = some (.int .i64 a0_1) := (kc_ BK169.out 1).trans rfl; have hcz14_2 : w13.cell? ⟨gb169, 2, none⟩ = some (.int .i64 a0_2) := (kc_ BK169.out 2).trans rfl; have hfz14_0 := kf_ BK169.out 0; have hfz14_1 := kf_ BK169.out 1; have hfz14_2 := kf_ BK169.out 2))
   go_ret
   exact ⟨by first | rfl | (simp [errW_none, errW_some] <;> rfl) | (simp [*, errW_none, errW_some] <;> rfl), by repeat first | exact HB.out | apply ba_ | apply pd_ | apply d1_ | refine bs_ ?_ GE169.out⟩
 ·rw [if_neg c3] at H
  have c3b0 : decide (0 ≤ a0_0) = false := df_ c3
  clear c3
  obtain rfl := Option.some.inj H
  go_enter Try.func24, Try.ntmps24
  go_wp2_with (first | ((with_reducible refine gate_dst (N := 2) rfl ?_); refine box_event ?hg (N := 2) ?hd (cs := #[.int .i64 a0_0, .int .i64 a0_1, .int .i64 a0_2]) (t := 36) ?hr ?_; (case hd => rfl); (case hg => rfl); (case hr => first | (go_simp; done) | (go_simp; rfl)); intro gb169 hg w15 hbox hb; have n0_ := sd_ (bt_ (by repeat first | exact HB.out | apply ba_ | apply pd_ | apply d1_) hb); have n1_ := sd_ (hbox); have n2_ := sd_ ((by rw [hg]; exact (bz_ (by repeat first | exact HB.out | apply ba_ | apply pd_ | apply d1_)) : w.heap.size ≤ gb169)); have n3_ := sd_ ((by rw [hg]; exact (bz_ (by repeat first | exact HB.out | apply ba_ | apply pd_ | apply d1_)) : w.heap.size ≤ gb169)); clear HB; have HB := n0_; have BK169 := n1_; have GW169 := n2_; have GE169 := n3_; clear n0_ n1_ n2_ n3_; clear hb hbox hg; have hcz16_0 : w15.cell? ⟨gb169, 0, none⟩ = some (.int .i64 a0_0) := (kc_ BK169.out 0).trans rfl; have hcz16_1 : w15.cell? ⟨gb169, 1, none⟩ = some (.int .i64 a0_1) := (kc_ BK169.out 1).trans rfl; have hcz16_2 : w15.cell? ⟨gb169, 2, none⟩ = some (.int .i64 a0_2) := (kc_ BK169.out 2).trans rfl; have hfz16_0 := kf_ BK169.out 0; have hfz16_1 := kf_ BK169.out 1; have hfz16_2 := kf_ BK169.out 2))
  go_ret
  exact ⟨by first | rfl | (simp [errW_none, errW_some] <;> rfl) | (simp [*, errW_none, errW_some] <;> rfl), by repeat first | exact HB.out | apply ba_ | apply pd_ | apply d1_ | refine bs_ ?_ GE169.out⟩

/-! ### neumeref27_Check: function 18 -/
mutual
def neumeref27_Check.j0 : Nat → List (S36) → Int → Bool → Option (Bool)
 | 0, _, _, _ => none
 | k + 1, x0, x1, x16 => if x16 = true then (some false) else (neumeref27_Check.l0 k x0 x1 0)
def neumeref27_Check.l0 : Nat → List (S36) → Int → Int → Option (Bool)
 | 0, _, _, _ => none
 | k + 1, x0, x1, x5 => if x5 < (x0.length : Int) then (if 0 ≤ x5 then ((neumeref27_rod.f ((rd_T36 x0 x5).f0) ((rd_T36 x0 x5).f1) ((rd_T36 x0 x5).f2) x1).bind fun t171 => (if t171 = true then (neumeref27_Check.l0 k x0 x1 (wrap64 (x5 + 1))) else (some false))) else (none)) else (some true)
end
def neumeref27_Check.f (k : Nat) (l0 : List (S36)) (a1 : Int) : Option (Bool) := if a1 < 0 then (neumeref27_Check.j0 k l0 a1 true) else (if a1 > 4096 then (neumeref27_Check.j0 k l0 a1 true) else (neumeref27_Check.j0 k l0 a1 (decide ((l0.length : Int) > 400000))))
theorem neumeref27_Check.mono_l : ∀ k, (∀ y0 y1 y2, LeO (neumeref27_Check.j0 k y0 y1 y2) (neumeref27_Check.j0 (k + 1) y0 y1 y2)) ∧ (∀ y0 y1 y2, LeO (neumeref27_Check.l0 k y0 y1 y2) (neumeref27_Check.l0 (k + 1) y0 y1 y2))
 | 0 => ⟨fun _ _ _ r h => by simp [neumeref27_Check.j0] at h, fun _ _ _ r h => by simp [neumeref27_Check.l0] at h⟩
 | k + 1 => by
  obtain ⟨ih0, ih1⟩ := neumeref27_Check.mono_l k
  refine ⟨?_, ?_⟩
  ·intro y0 y1 y2
   unfold neumeref27_Check.j0
   repeat' first
   | (with_reducible exact ih0 _ _ _)
   | (with_reducible exact ih1 _ _ _)
   | (with_reducible exact LeO.refl _)
   | (with_reducible exact LeO.none _)
   | (with_reducible refine LeO.ite ?_ ?_)
   | (with_reducible refine LeO.bind ?_ (fun _ => ?_))
   | exact ih0 _ _ _
   | exact ih1 _ _ _
   | exact LeO.none _
   | refine LeO.ite ?_ ?_
   | refine LeO.bind ?_ (fun _ => ?_)
  ·intro y0 y1 y2
   unfold neumeref27_Check.l0
   repeat' first
   | (with_reducible exact ih0 _ _ _)
   | (with_reducible exact ih1 _ _ _)
   | (with_reducible exact LeO.refl _)
   | (with_reducible exact LeO.none _)
   | (with_reducible refine LeO.ite ?_ ?_)
   | (with_reducible refine LeO.bind ?_ (fun _ => ?_))
   | exact ih0 _ _ _
   | exact ih1 _ _ _
   | exact LeO.none _
   | refine LeO.ite ?_ ?_
   | refine LeO.bind ?_ (fun _ => ?_)
theorem neumeref27_Check.mono : ∀ a0 a1 k, LeO (neumeref27_Check.f k a0 a1) (neumeref27_Check.f (k + 1) a0 a1) := by
 intro a0 a1 k
 obtain ⟨ih0, ih1⟩ := neumeref27_Check.mono_l k
 unfold neumeref27_Check.f
 repeat' first
   | (with_reducible exact ih0 _ _ _)
   | (with_reducible exact ih1 _ _ _)
   | (with_reducible exact LeO.refl _)
   | (with_reducible exact LeO.none _)
   | (with_reducible refine LeO.ite ?_ ?_)
   | (with_reducible refine LeO.bind ?_ (fun _ => ?_))
   | exact ih0 _ _ _
   | exact ih1 _ _ _
   | exact LeO.none _
   | refine LeO.ite ?_ ?_
   | refine LeO.bind ?_ (fun _ => ?_)
set_option maxHeartbeats 8000000 in
set_option maxRecDepth 100000 in
theorem neumeref27_Check.calls (k : Nat) (A0 : Option Addr) (c0 : Nat) (l0 : List (S36)) (a1 : Int) (r : Bool) (w : World) (hr0 : Kd.C k36 w A0 l0.length l0) (hc0 : l0.length ≤ c0) (h : neumeref27_Check.f k l0 a1 = some r) :
  Calls Try.prog 18 #[.slice A0 l0.length c0, .int .i64 a1] w fun e w' => e = .returned (.bool r) ∧ Below w.heap.size w w' := by
 have hu36 := Try.underlying36
 have HR0 := sd_ hr0
 have HC0 := sd_ hc0
 clear hr0 hc0
 have HB := sd_ (Below.refl w.heap.size w)
 have H : (if a1 < 0 then (neumeref27_Check.j0 k l0 a1 true) else (if a1 > 4096 then (neumeref27_Check.j0 k l0 a1 true) else (neumeref27_Check.j0 k l0 a1 (decide ((l0.length : Int) > 400000))))) = some r := h
 clear h
 have HC3 := sd_ H
 clear H
 go_enter Try.func18, Try.ntmps18
 go_upto_region 1 with (fail)
 go_cut [16] (fun v16 wc => ∃ (kq : Nat) (x16_2 : Bool), v16 = .bool x16_2 ∧ Aside0 (neumeref27_Check.j0 kq l0 a1 x16_2 = some r) ∧ Aside0 (kq ≤ k) ∧ Aside0 (Below w.heap.size w wc))
 case first =>
  have H := HC3.out
  clear HC3
  by_cases c4 : a1 < 0
  ·rw [if_pos c4] at H
   have c4b0 : decide (a1 < 0) = true := dt_ c4
   clear c4
   (first | rw [c4b0] | (simp only [i64_w, i32_w]; rw [c4b0]) | skip)
   have H' := sd_ H
   clear H
   go_wp2
   go_meet
   case rel => exact ⟨_, (true), (by first | rfl | (simp; done) | (simp [*]; done)), H', ⟨by first | omega | exact Nat.le_refl _⟩, ⟨by repeat first | exact HB.out | apply ba_ | apply pd_ | apply d1_⟩⟩
  ·rw [if_neg c4] at H
   have c4b0 : decide (a1 < 0) = false := df_ c4
   clear c4
   (first | rw [c4b0] | (simp only [i64_w, i32_w]; rw [c4b0]) | skip)
   by_cases c5 : a1 > 4096
   ·rw [if_pos c5] at H
    have c5b0 : decide (4096 < a1) = true := dt_ c5
    clear c5
    have H' := sd_ H
    clear H
    go_wp2
    go_meet
    case rel => exact ⟨_, (true), (by first | rfl | (simp; done) | (simp [*]; done)), H', ⟨by first | omega | exact Nat.le_refl _⟩, ⟨by repeat first | exact HB.out | apply ba_ | apply pd_ | apply d1_⟩⟩
   ·rw [if_neg c5] at H
    have c5b0 : decide (4096 < a1) = false := df_ c5
    clear c5
    have H' := sd_ H
    clear H
    go_wp2
    go_meet
    case rel => exact ⟨_, (decide ((l0.length : Int) > 400000)), (by first | rfl | (simp; done) | (simp [*]; done)), H', ⟨by first | omega | exact Nat.le_refl _⟩, ⟨by repeat first | exact HB.out | apply ba_ | apply pd_ | apply d1_⟩⟩
 case rest =>
  clear HC3
  try clear c1; try clear p2; try clear c4; try clear c4b0; try clear c5; try clear c5b0
  obtain ⟨kq, x16_2, rfl, HA, HJ2, HB⟩ := hcut
  cases kq with
  | zero => exact absurd HA.out (by simp [neumeref27_Check.j0])
  | succ kj2 =>
   have H := HA.out
   clear HA
   simp only [neumeref27_Check.j0] at H
   by_cases c6 : x16_2 = true
   ·subst c6
    have H1 : (some false) = some r := by rw [if_pos rfl] at H; exact H
    clear H; have H := H1; clear H1
    obtain rfl := Option.some.inj H
    go_wp2
    go_ret
    exact ⟨by first | rfl | (simp [errW_none, errW_some] <;> rfl) | (simp [*, errW_none, errW_some] <;> rfl), by repeat first | exact HB.out | apply ba_ | apply pd_ | apply d1_⟩
   ·replace c6 := bf_ c6
    subst c6
    have H1 : (neumeref27_Check.l0 kj2 l0 a1 0) = some r := by rw [if_neg (show ¬ (false = true) by decide)] at H; exact H
    clear H; have H := H1; clear H1
    have H' := sd_ H
    clear H
    go_wp2
    go_loopg [5] kj2 (fun kq v5 w' => ∃ (x5_2 : Int), v5 = .int .i64 x5_2 ∧ Aside0 (neumeref27_Check.l0 kq l0 a1 x5_2 = some r) ∧ Aside0 (kq ≤ kj2) ∧ Aside0 (Below w.heap.size w w'))
    case atStart => exact ⟨(0), (by first | rfl | (simp; done) | (simp [*]; done)), H', ⟨Nat.le_refl _⟩, ⟨by repeat first | exact HB.out | apply ba_ | apply pd_ | apply d1_⟩⟩
    case round =>
     clear H'
     try clear c1; try clear p2; try clear c4; try clear c4b0; try clear c5; try clear c5b0; try clear c6; try clear p2
     obtain ⟨x5_2, rfl, HA, HK2, HB⟩ := hrel
     cases gk with
     | zero => exact absurd HA.out (by simp [neumeref27_Check.l0])
     | succ k2 =>
      have H := HA.out
      clear HA
      simp only [neumeref27_Check.l0] at H
      by_cases c7 : x5_2 < (l0.length : Int)
      ·rw [if_pos c7] at H
       have c7b0 : decide (x5_2 < (l0.length : Int)) = true := dt_ c7
       clear c7
       by_cases c8 : 0 ≤ x5_2
       ·rw [if_pos c8] at H
        have c8b0 : decide (0 ≤ x5_2) = true := dt_ c8
        clear c8
        replace H := ob_ H
        obtain ⟨t171, A90, H⟩ := H
        replace H : (if t171 = true then (neumeref27_Check.l0 k2 l0 a1 (wrap64 (x5_2 + 1))) else (some false)) = some r := H
        have A9 := sd_ A90
        clear A90
        by_cases c10 : t171 = true
        ·subst c10
         have H1 : (neumeref27_Check.l0 k2 l0 a1 (wrap64 (x5_2 + 1))) = some r := by rw [if_pos rfl] at H; exact H
         clear H; have H := H1; clear H1
         have H' := sd_ H
         clear H
         have p170 : 0 ≤ (x5_2 : Int) := od_ (by first | (with_reducible assumption) | assumption)
         have q170 : x5_2 < (l0.length : Int) := od_ (by first | (with_reducible assumption) | assumption)
         obtain ⟨ad170, e170, hx170_0, hx170_1, hx170_2⟩ := at_T36 HR0.out x5_2 p170 q170
         cases e170
         replace hx170_0 := (HB.out.cell (wb_ w _ hx170_0)).trans hx170_0
         replace hx170_1 := (HB.out.cell (wb_ w _ hx170_1)).trans hx170_1
         replace hx170_2 := (HB.out.cell (wb_ w _ hx170_2)).trans hx170_2
         replace p170 := eq_true p170
         replace q170 := eq_true q170
         go_wp2_with (first | ((with_reducible refine gate_callee (f := 24) rfl ?_); refine goesL_ (some 28) rfl rfl Try.func24 (by kernel_rfl) rfl #[.agg #[.int .i64 ((rd_T36 l0 x5_2).f0), .int .i64 ((rd_T36 l0 x5_2).f1), .int .i64 ((rd_T36 l0 x5_2).f2)], .int .i64 a1] rfl (by (try simp only [lm_, lq_, lx_]); first | done | rfl | (simp only [ld_, lt_]; rfl)) ?_; (with_reducible refine (neumeref27_rod.calls ((rd_T36 l0 x5_2).f0) ((rd_T36 l0 x5_2).f1) ((rd_T36 l0 x5_2).f2) a1 true _ A9.out).mono ?_); rintro e w11 ⟨rfl, hb⟩; refine ⟨_, rfl, ?_⟩; have n0_ := sd_ (bt_ (by repeat first | exact HB.out | apply ba_ | apply pd_ | apply d1_) hb); clear HB; have HB := n0_; clear n0_; (try clear hb); (try clear hb2); (try clear hk); (try clear hi)))
         go_roundg k2
         case measure => have := HJ2.out; have := HK2.out; omega
         case rel => exact ⟨(wrap64 (x5_2 + 1)), (by first | rfl | (simp; done) | (simp [*]; done)), H', ⟨by have := HJ2.out; have := HK2.out; omega⟩, ⟨by repeat first | exact HB.out | apply ba_ | apply pd_ | apply d1_⟩⟩
        ·replace c10 := bf_ c10
         subst c10
         have H1 : (some false) = some r := by rw [if_neg (show ¬ (false = true) by decide)] at H; exact H
         clear H; have H := H1; clear H1
         obtain rfl := Option.some.inj H
         have p170 : 0 ≤ (x5_2 : Int) := od_ (by first | (with_reducible assumption) | assumption)
         have q170 : x5_2 < (l0.length : Int) := od_ (by first | (with_reducible assumption) | assumption)
         obtain ⟨ad170, e170, hx170_0, hx170_1, hx170_2⟩ := at_T36 HR0.out x5_2 p170 q170
         cases e170
         replace hx170_0 := (HB.out.cell (wb_ w _ hx170_0)).trans hx170_0
         replace hx170_1 := (HB.out.cell (wb_ w _ hx170_1)).trans hx170_1
         replace hx170_2 := (HB.out.cell (wb_ w _ hx170_2)).trans hx170_2
         replace p170 := eq_true p170
         replace q170 := eq_true q170
         go_wp2_with (first | ((with_reducible refine gate_callee (f := 24) rfl ?_); refine goesL_ (some 28) rfl rfl Try.func24 (by kernel_rfl) rfl #[.agg #[.int .i64 ((rd_T36 l0 x5_2).f0), .int .i64 ((rd_T36 l0 x5_2).f1), .int .i64 ((rd_T36 l0 x5_2).f2)], .int .i64 a1] rfl (by (try simp only [lm_, lq_, lx_]); first | done | rfl | (simp only [ld_, lt_]; rfl)) ?_; (with_reducible refine (neumeref27_rod.calls ((rd_T36 l0 x5_2).f0) ((rd_T36 l0 x5_2).f1) ((rd_T36 l0 x5_2).f2) a1 false _ A9.out).mono ?_); rintro e w12 ⟨rfl, hb⟩; refine ⟨_, rfl, ?_⟩; have n0_ := sd_ (bt_ (by repeat first | exact HB.out | apply ba_ | apply pd_ | apply d1_) hb); clear HB; have HB := n0_; clear n0_; (try clear hb); (try clear hb2); (try clear hk); (try clear hi)))
         go_ret
         exact ⟨by first | rfl | (simp [errW_none, errW_some] <;> rfl) | (simp [*, errW_none, errW_some] <;> rfl), by repeat first | exact HB.out | apply ba_ | apply pd_ | apply d1_⟩
       ·rw [if_neg c8] at H
        exact absurd H (by simp)
      ·rw [if_neg c7] at H
       have c7b0 : decide (x5_2 < (l0.length : Int)) = false := df_ c7
       clear c7
       obtain rfl := Option.some.inj H
       go_wp2
       go_ret
       exact ⟨by first | rfl | (simp [errW_none, errW_some] <;> rfl) | (simp [*, errW_none, errW_some] <;> rfl), by repeat first | exact HB.out | apply ba_ | apply pd_ | apply d1_⟩

/-! ### neumeref27_Holds: function 9 -/
mutual
def neumeref27_Holds.l0 : Nat → List (S36) → List Int → Int → Option (Bool)
 | 0, _, _, _ => none
 | k + 1, x0, x1, x5 => if x5 < (x1.length : Int) then (if 0 ≤ x5 then (if (rd x1 x5) < (-1125899906842624) then (some false) else (if (rd x1 x5) > 1125899906842624 then (some false) else (neumeref27_Holds.l0 k x0 x1 (wrap64 (x5 + 1))))) else (none)) else (neumeref27_Holds.l1 k x0 x1 0)
def neumeref27_Holds.l1 : Nat → List (S36) → List Int → Int → Option (Bool)
 | 0, _, _, _ => none
 | k + 1, x0, x1, x6 => if x6 < (x0.length : Int) then (if 0 ≤ x6 then (if 0 ≤ ((rd_T36 x0 x6).f1) then (if ((rd_T36 x0 x6).f1) < (x1.length : Int) then (if 0 ≤ ((rd_T36 x0 x6).f0) then (if ((rd_T36 x0 x6).f0) < (x1.length : Int) then (if (wrap64 ((rd x1 ((rd_T36 x0 x6).f1)) - (rd x1 ((rd_T36 x0 x6).f0)))) < ((rd_T36 x0 x6).f2) then (some false) else (neumeref27_Holds.l1 k x0 x1 (wrap64 (x6 + 1)))) else (none)) else (none)) else (none)) else (none)) else (none)) else (some true)
end
def neumeref27_Holds.f (k : Nat) (l0 : List (S36)) (l1 : List Int) : Option (Bool) := (neumeref27_Check.f k l0 (l1.length : Int)).bind fun t172 => (if t172 = true then (neumeref27_Holds.l0 k l0 l1 0) else (some false))
theorem neumeref27_Holds.mono_l : ∀ k, (∀ y0 y1 y2, LeO (neumeref27_Holds.l0 k y0 y1 y2) (neumeref27_Holds.l0 (k + 1) y0 y1 y2)) ∧ (∀ y0 y1 y2, LeO (neumeref27_Holds.l1 k y0 y1 y2) (neumeref27_Holds.l1 (k + 1) y0 y1 y2))
 | 0 => ⟨fun _ _ _ r h => by simp [neumeref27_Holds.l0] at h, fun _ _ _ r h => by simp [neumeref27_Holds.l1] at h⟩
 | k + 1 => by
  obtain ⟨ih0, ih1⟩ := neumeref27_Holds.mono_l k
  refine ⟨?_, ?_⟩
  ·intro y0 y1 y2
   unfold neumeref27_Holds.l0
   repeat' first
   | (with_reducible exact ih0 _ _ _)
   | (with_reducible exact ih1 _ _ _)
   | (with_reducible exact neumeref27_Check.mono _ _ _)
   | (with_reducible exact LeO.refl _)
   | (with_reducible exact LeO.none _)
   | (with_reducible refine LeO.ite ?_ ?_)
   | (with_reducible refine LeO.bind ?_ (fun _ => ?_))
   | exact ih0 _ _ _
   | exact ih1 _ _ _
   | exact neumeref27_Check.mono _ _ _
   | exact LeO.none _
   | refine LeO.ite ?_ ?_
   | refine LeO.bind ?_ (fun _ => ?_)
  ·intro y0 y1 y2
   unfold neumeref27_Holds.l1
   repeat' first
   | (with_reducible exact ih0 _ _ _)
   | (with_reducible exact ih1 _ _ _)
   | (with_reducible exact neumeref27_Check.mono _ _ _)
   | (with_reducible exact LeO.refl _)
   | (with_reducible exact LeO.none _)
   | (with_reducible refine LeO.ite ?_ ?_)
   | (with_reducible refine LeO.bind ?_ (fun _ => ?_))
   | exact ih0 _ _ _
   | exact ih1 _ _ _
   | exact neumeref27_Check.mono _ _ _
   | exact LeO.none _
   | refine LeO.ite ?_ ?_
   | refine LeO.bind ?_ (fun _ => ?_)
theorem neumeref27_Holds.mono : ∀ a0 a1 k, LeO (neumeref27_Holds.f k a0 a1) (neumeref27_Holds.f (k + 1) a0 a1) := by
 intro a0 a1 k
 obtain ⟨ih0, ih1⟩ := neumeref27_Holds.mono_l k
 unfold neumeref27_Holds.f
 repeat' first
   | (with_reducible exact ih0 _ _ _)
   | (with_reducible exact ih1 _ _ _)
   | (with_reducible exact neumeref27_Check.mono _ _ _)
   | (with_reducible exact LeO.refl _)
   | (with_reducible exact LeO.none _)
   | (with_reducible refine LeO.ite ?_ ?_)
   | (with_reducible refine LeO.bind ?_ (fun _ => ?_))
   | exact ih0 _ _ _
   | exact ih1 _ _ _
   | exact neumeref27_Check.mono _ _ _
   | exact LeO.none _
   | refine LeO.ite ?_ ?_
   | refine LeO.bind ?_ (fun _ => ?_)
set_option maxHeartbeats 8000000 in
set_option maxRecDepth 100000 in
theorem neumeref27_Holds.calls (k : Nat) (A0 : Option Addr) (c0 : Nat) (l0 : List (S36)) (A1 : Option Addr) (c1 : Nat) (l1 : List Int) (r : Bool) (w : World) (hr0 : Kd.C k36 w A0 l0.length l0) (hc0 : l0.length ≤ c0) (hr1 : Kd.C (Kd.int .i64) w A1 l1.length l1) (hc1 : l1.length ≤ c1) (h : neumeref27_Holds.f k l0 l1 = some r) :
  Calls Try.prog 9 #[.slice A0 l0.length c0, .slice A1 l1.length c1] w fun e w' => e = .returned (.bool r) ∧ Below w.heap.size w w' := by
 have HR0 := sd_ hr0
 have HC0 := sd_ hc0
 clear hr0 hc0
 have HR1 := sd_ hr1
 have HC1 := sd_ hc1
 clear hr1 hc1
 have HB := sd_ (Below.refl w.heap.size w)
 have H : ((neumeref27_Check.f k l0 (l1.length : Int)).bind fun t172 => (if t172 = true then (neumeref27_Holds.l0 k l0 l1 0) else (some false))) = some r := h
 clear h
 replace H := ob_ H
 obtain ⟨t172, A30, H⟩ := H
 replace H : (if t172 = true then (neumeref27_Holds.l0 k l0 l1 0) else (some false)) = some r := H
 have A3 := sd_ A30
 clear A30
 by_cases c4 : t172 = true
 ·subst c4
  have H1 : (neumeref27_Holds.l0 k l0 l1 0) = some r := by rw [if_pos rfl] at H; exact H
  clear H; have H := H1; clear H1
  have H' := sd_ H
  clear H
  go_enter Try.func9, Try.ntmps9
  go_wp2_with (first | (go_at_call 18; (with_reducible refine (neumeref27_Check.calls k _ _ l0 (l1.length : Int) true _ ?side1 ?side2 A3.out).mono ?_); (case side1 => repeat (first | exact HR0.out | (with_reducible refine Kd.C_alloc ?_ _) | (with_reducible refine Kd.C_drewN ?_ _) | (with_reducible refine Kd.C_drew ?_))); (case side2 => exact HC0.out); rintro e w5 ⟨rfl, hb⟩; have n0_ := sd_ (bt_ (by repeat first | exact HB.out | apply ba_ | apply pd_ | apply d1_) hb); clear HB; have HB := n0_; clear n0_; (try clear hb); (try clear hb2); (try clear hk); (try clear hi)))
  repeat (go_quiet (first | (go_at_call 18; (with_reducible refine (neumeref27_Check.calls k _ _ l0 (l1.length : Int) true _ ?side1 ?side2 A3.out).mono ?_); (case side1 => repeat (first | exact HR0.out | (with_reducible refine Kd.C_alloc ?_ _) | (with_reducible refine Kd.C_drewN ?_ _) | (with_reducible refine Kd.C_drew ?_))); (case side2 => exact HC0.out); rintro e w5 ⟨rfl, hb⟩; have n0_ := sd_ (bt_ (by repeat first | exact HB.out | apply ba_ | apply pd_ | apply d1_) hb); clear HB; have HB := n0_; clear n0_; (try clear hb); (try clear hb2); (try clear hk); (try clear hi))); try go_wp2_with (first | (go_at_call 18; (with_reducible refine (neumeref27_Check.calls k _ _ l0 (l1.length : Int) true _ ?side1 ?side2 A3.out).mono ?_); (case side1 => repeat (first | exact HR0.out | (with_reducible refine Kd.C_alloc ?_ _) | (with_reducible refine Kd.C_drewN ?_ _) | (with_reducible refine Kd.C_drew ?_))); (case side2 => exact HC0.out); rintro e w5 ⟨rfl, hb⟩; have n0_ := sd_ (bt_ (by repeat first | exact HB.out | apply ba_ | apply pd_ | apply d1_) hb); clear HB; have HB := n0_; clear n0_; (try clear hb); (try clear hb2); (try clear hk); (try clear hi))))
  go_loopg [5] k (fun kq v5 w' => ∃ (x5_1 : Int), v5 = .int .i64 x5_1 ∧ Aside0 (neumeref27_Holds.l0 kq l0 l1 x5_1 = some r) ∧ Aside0 (kq ≤ k) ∧ Aside0 (Below w.heap.size w w'))
  case atStart => exact ⟨(0), (by first | rfl | (simp; done) | (simp [*]; done)), H', ⟨Nat.le_refl _⟩, ⟨by repeat first | exact HB.out | apply ba_ | apply pd_ | apply d1_⟩⟩
  case round =>
   clear H'
   try clear c1; try clear p2; try clear c4
   obtain ⟨x5_1, rfl, HA, HK1, HB⟩ := hrel
   cases gk with
   | zero => exact absurd HA.out (by simp [neumeref27_Holds.l0])
   | succ k1 =>
    have H := HA.out
    clear HA
    simp only [neumeref27_Holds.l0] at H
    by_cases c6 : x5_1 < (l1.length : Int)
    ·rw [if_pos c6] at H
     have c6b0 : decide (x5_1 < (l1.length : Int)) = true := dt_ c6
     clear c6
     by_cases c7 : 0 ≤ x5_1
     ·rw [if_pos c7] at H
      have c7b0 : decide (0 ≤ x5_1) = true := dt_ c7
      clear c7
      by_cases c8 : (rd l1 x5_1) < (-1125899906842624)
      ·rw [if_pos c8] at H
       have c8b0 : decide ((rd l1 x5_1) < (-1125899906842624)) = true := dt_ c8
       clear c8
       obtain rfl := Option.some.inj H
       have p173 : 0 ≤ (x5_1 : Int) := od_ (by first | (with_reducible assumption) | assumption)
       have q173 : x5_1 < (l1.length : Int) := od_ (by first | (with_reducible assumption) | assumption)
       obtain ⟨ad173, e173, hx173_0⟩ := Kd.at_int HR1.out x5_1 p173 q173
       cases e173
       replace hx173_0 := (HB.out.cell (wb_ w _ hx173_0)).trans hx173_0
       replace p173 := eq_true p173
       replace q173 := eq_true q173
       go_wp2
       repeat (go_quiet (fail); try go_wp2)
       go_ret
       exact ⟨by first | rfl | (simp [errW_none, errW_some] <;> rfl) | (simp [*, errW_none, errW_some] <;> rfl), by repeat first | exact HB.out | apply ba_ | apply pd_ | apply d1_⟩
      ·rw [if_neg c8] at H
       have c8b0 : decide ((rd l1 x5_1) < (-1125899906842624)) = false := df_ c8
       clear c8
       by_cases c9 : (rd l1 x5_1) > 1125899906842624
       ·rw [if_pos c9] at H
        have c9b0 : decide (1125899906842624 < (rd l1 x5_1)) = true := dt_ c9
        clear c9
        obtain rfl := Option.some.inj H
        have p173 : 0 ≤ (x5_1 : Int) := od_ (by first | (with_reducible assumption) | assumption)
        have q173 : x5_1 < (l1.length : Int) := od_ (by first | (with_reducible assumption) | assumption)
        obtain ⟨ad173, e173, hx173_0⟩ := Kd.at_int HR1.out x5_1 p173 q173
        cases e173
        replace hx173_0 := (HB.out.cell (wb_ w _ hx173_0)).trans hx173_0
        replace p173 := eq_true p173
        replace q173 := eq_true q173
        have p174 : 0 ≤ (x5_1 : Int) := od_ (by first | (with_reducible assumption) | assumption)
        have q174 : x5_1 < (l1.length : Int) := od_ (by first | (with_reducible assumption) | assumption)
        obtain ⟨ad174, e174, hx174_0⟩ := Kd.at_int HR1.out x5_1 p174 q174
        obtain rfl : ad173 = ad174 := (by injection e174)
        replace hx174_0 := (HB.out.cell (wb_ w _ hx174_0)).trans hx174_0
        replace p174 := eq_true p174
        replace q174 := eq_true q174
        go_wp2
        repeat (go_quiet (fail); try go_wp2)
        go_ret
        exact ⟨by first | rfl | (simp [errW_none, errW_some] <;> rfl) | (simp [*, errW_none, errW_some] <;> rfl), by repeat first | exact HB.out | apply ba_ | apply pd_ | apply d1_⟩
       ·rw [if_neg c9] at H
        have c9b0 : decide (1125899906842624 < (rd l1 x5_1)) = false := df_ c9
        clear c9
        have H' := sd_ H
        clear H
        have p173 : 0 ≤ (x5_1 : Int) := od_ (by first | (with_reducible assumption) | assumption)
        have q173 : x5_1 < (l1.length : Int) := od_ (by first | (with_reducible assumption) | assumption)
        obtain ⟨ad173, e173, hx173_0⟩ := Kd.at_int HR1.out x5_1 p173 q173
        cases e173
        replace hx173_0 := (HB.out.cell (wb_ w _ hx173_0)).trans hx173_0
        replace p173 := eq_true p173
        replace q173 := eq_true q173
        have p174 : 0 ≤ (x5_1 : Int) := od_ (by first | (with_reducible assumption) | assumption)
        have q174 : x5_1 < (l1.length : Int) := od_ (by first | (with_reducible assumption) | assumption)
        obtain ⟨ad174, e174, hx174_0⟩ := Kd.at_int HR1.out x5_1 p174 q174
        obtain rfl : ad173 = ad174 := (by injection e174)
        replace hx174_0 := (HB.out.cell (wb_ w _ hx174_0)).trans hx174_0
        replace p174 := eq_true p174
        replace q174 := eq_true q174
        go_wp2
        repeat (go_quiet (fail); try go_wp2)
        go_roundg k1
        case measure => have := HK1.out; omega
        case rel => exact ⟨(wrap64 (x5_1 + 1)), (by first | rfl | (simp; done) | (simp [*]; done)), H', ⟨by have := HK1.out; omega⟩, ⟨by repeat first | exact HB.out | apply ba_ | apply pd_ | apply d1_⟩⟩
     ·rw [if_neg c7] at H
      exact absurd H (by simp)
    ·rw [if_neg c6] at H
     have c6b0 : decide (x5_1 < (l1.length : Int)) = false := df_ c6
     clear c6
     have H' := sd_ H
     clear H
     go_wp2
     repeat (go_quiet (fail); try go_wp2)
     go_loopg [6] k1 (fun kq v6 w' => ∃ (x6_2 : Int), v6 = .int .i64 x6_2 ∧ Aside0 (neumeref27_Holds.l1 kq l0 l1 x6_2 = some r) ∧ Aside0 (kq ≤ k1) ∧ Aside0 (Below w.heap.size w w'))
     case atStart => exact ⟨(0), (by first | rfl | (simp; done) | (simp [*]; done)), H', ⟨Nat.le_refl _⟩, ⟨by repeat first | exact HB.out | apply ba_ | apply pd_ | apply d1_⟩⟩
     case round =>
      clear H'
      try clear c1; try clear p1; try clear q1; try clear hx1; try clear p2; try clear c4; try clear c6; try clear c6b0; try clear p6; try clear c7; try clear c7b0; try clear c8; try clear c8b0; try clear c9; try clear c9b0; try clear hx173_0; try clear hx174_0; try clear p173; try clear p174; try clear p2; try clear q173; try clear q174
      obtain ⟨x6_2, rfl, HA, HK2, HB⟩ := hrel
      cases gk with
      | zero => exact absurd HA.out (by simp [neumeref27_Holds.l1])
      | succ k2 =>
       have H := HA.out
       clear HA
       simp only [neumeref27_Holds.l1] at H
       by_cases c10 : x6_2 < (l0.length : Int)
       ·rw [if_pos c10] at H
        have c10b0 : decide (x6_2 < (l0.length : Int)) = true := dt_ c10
        clear c10
        by_cases c11 : 0 ≤ x6_2
        ·rw [if_pos c11] at H
         have c11b0 : decide (0 ≤ x6_2) = true := dt_ c11
         clear c11
         by_cases c12 : 0 ≤ ((rd_T36 l0 x6_2).f1)
         ·rw [if_pos c12] at H
          have c12b0 : decide (0 ≤ ((rd_T36 l0 x6_2).f1)) = true := dt_ c12
          clear c12
          by_cases c13 : ((rd_T36 l0 x6_2).f1) < (l1.length : Int)
          ·rw [if_pos c13] at H
           have c13b0 : decide (((rd_T36 l0 x6_2).f1) < (l1.length : Int)) = true := dt_ c13
           clear c13
           by_cases c14 : 0 ≤ ((rd_T36 l0 x6_2).f0)
           ·rw [if_pos c14] at H
            have c14b0 : decide (0 ≤ ((rd_T36 l0 x6_2).f0)) = true := dt_ c14
            clear c14
            by_cases c15 : ((rd_T36 l0 x6_2).f0) < (l1.length : Int)
            ·rw [if_pos c15] at H
             have c15b0 : decide (((rd_T36 l0 x6_2).f0) < (l1.length : Int)) = true := dt_ c15
             clear c15
             by_cases c16 : (wrap64 ((rd l1 ((rd_T36 l0 x6_2).f1)) - (rd l1 ((rd_T36 l0 x6_2).f0)))) < ((rd_T36 l0 x6_2).f2)
             ·rw [if_pos c16] at H
              have c16b0 : decide ((wrap64 ((rd l1 ((rd_T36 l0 x6_2).f1)) - (rd l1 ((rd_T36 l0 x6_2).f0)))) < ((rd_T36 l0 x6_2).f2)) = true := dt_ c16
              clear c16
              obtain rfl := Option.some.inj H
              have p175 : 0 ≤ (x6_2 : Int) := od_ (by first | (with_reducible assumption) | assumption)
              have q175 : x6_2 < (l0.length : Int) := od_ (by first | (with_reducible assumption) | assumption)
              obtain ⟨ad175, e175, hx175_0, hx175_1, hx175_2⟩ := at_T36 HR0.out x6_2 p175 q175
              cases e175
              replace hx175_0 := (HB.out.cell (wb_ w _ hx175_0)).trans hx175_0
              replace hx175_1 := (HB.out.cell (wb_ w _ hx175_1)).trans hx175_1
              replace hx175_2 := (HB.out.cell (wb_ w _ hx175_2)).trans hx175_2
              replace p175 := eq_true p175
              replace q175 := eq_true q175
              have p176 : 0 ≤ (((rd_T36 l0 x6_2).f1) : Int) := od_ (by first | (with_reducible assumption) | assumption)
              have q176 : ((rd_T36 l0 x6_2).f1) < (l1.length : Int) := od_ (by first | (with_reducible assumption) | assumption)
              obtain ⟨ad176, e176, hx176_0⟩ := Kd.at_int HR1.out ((rd_T36 l0 x6_2).f1) p176 q176
              cases e176
              replace hx176_0 := (HB.out.cell (wb_ w _ hx176_0)).trans hx176_0
              replace p176 := eq_true p176
              replace q176 := eq_true q176
              have p177 : 0 ≤ (x6_2 : Int) := od_ (by first | (with_reducible assumption) | assumption)
              have q177 : x6_2 < (l0.length : Int) := od_ (by first | (with_reducible assumption) | assumption)
              obtain ⟨ad177, e177, hx177_0, hx177_1, hx177_2⟩ := at_T36 HR0.out x6_2 p177 q177
              obtain rfl : ad175 = ad177 := (by injection e177)
              replace hx177_0 := (HB.out.cell (wb_ w _ hx177_0)).trans hx177_0
              replace hx177_1 := (HB.out.cell (wb_ w _ hx177_1)).trans hx177_1
              replace hx177_2 := (HB.out.cell (wb_ w _ hx177_2)).trans hx177_2
              replace p177 := eq_true p177
              replace q177 := eq_true q177
              have p178 : 0 ≤ (((rd_T36 l0 x6_2).f0) : Int) := od_ (by first | (with_reducible assumption) | assumption)
              have q178 : ((rd_T36 l0 x6_2).f0) < (l1.length : Int) := od_ (by first | (with_reducible assumption) | assumption)
              obtain ⟨ad178, e178, hx178_0⟩ := Kd.at_int HR1.out ((rd_T36 l0 x6_2).f0) p178 q178
              obtain rfl : ad176 = ad178 := (by injection e178)
              replace hx178_0 := (HB.out.cell (wb_ w _ hx178_0)).trans hx178_0
              replace p178 := eq_true p178
              replace q178 := eq_true q178
              have p179 : 0 ≤ (x6_2 : Int) := od_ (by first | (with_reducible assumption) | assumption)
              have q179 : x6_2 < (l0.length : Int) := od_ (by first | (with_reducible assumption) | assumption)
              obtain ⟨ad179, e179, hx179_0, hx179_1, hx179_2⟩ := at_T36 HR0.out x6_2 p179 q179
              obtain rfl : ad175 = ad179 := (by injection e179)
              replace hx179_0 := (HB.out.cell (wb_ w _ hx179_0)).trans hx179_0
              replace hx179_1 := (HB.out.cell (wb_ w _ hx179_1)).trans hx179_1
              replace hx179_2 := (HB.out.cell (wb_ w _ hx179_2)).trans hx179_2
              replace p179 := eq_true p179
              replace q179 := eq_true q179
              go_wp2
              repeat (go_quiet (fail); try go_wp2)
              go_ret
              exact ⟨by first | rfl | (simp [errW_none, errW_some] <;> rfl) | (simp [*, errW_none, errW_some] <;> rfl), by repeat first | exact HB.out | apply ba_ | apply pd_ | apply d1_⟩
             ·rw [if_neg c16] at H
              have c16b0 : decide ((wrap64 ((rd l1 ((rd_T36 l0 x6_2).f1)) - (rd l1 ((rd_T36 l0 x6_2).f0)))) < ((rd_T36 l0 x6_2).f2)) = false := df_ c16
              clear c16
              have H' := sd_ H
              clear H
              have p175 : 0 ≤ (x6_2 : Int) := od_ (by first | (with_reducible assumption) | assumption)
              have q175 : x6_2 < (l0.length : Int) := od_ (by first | (with_reducible assumption) | assumption)
              obtain ⟨ad175, e175, hx175_0, hx175_1, hx175_2⟩ := at_T36 HR0.out x6_2 p175 q175
              cases e175
              replace hx175_0 := (HB.out.cell (wb_ w _ hx175_0)).trans hx175_0
              replace hx175_1 := (HB.out.cell (wb_ w _ hx175_1)).trans hx175_1
              replace hx175_2 := (HB.out.cell (wb_ w _ hx175_2)).trans hx175_2
              replace p175 := eq_true p175
              replace q175 := eq_true q175
              have p176 : 0 ≤ (((rd_T36 l0 x6_2).f1) : Int) := od_ (by first | (with_reducible assumption) | assumption)
              have q176 : ((rd_T36 l0 x6_2).f1) < (l1.length : Int) := od_ (by first | (with_reducible assumption) | assumption)
              obtain ⟨ad176, e176, hx176_0⟩ := Kd.at_int HR1.out ((rd_T36 l0 x6_2).f1) p176 q176
              cases e176
              replace hx176_0 := (HB.out.cell (wb_ w _ hx176_0)).trans hx176_0
              replace p176 := eq_true p176
              replace q176 := eq_true q176
              have p177 : 0 ≤ (x6_2 : Int) := od_ (by first | (with_reducible assumption) | assumption)
              have q177 : x6_2 < (l0.length : Int) := od_ (by first | (with_reducible assumption) | assumption)
              obtain ⟨ad177, e177, hx177_0, hx177_1, hx177_2⟩ := at_T36 HR0.out x6_2 p177 q177
              obtain rfl : ad175 = ad177 := (by injection e177)
              replace hx177_0 := (HB.out.cell (wb_ w _ hx177_0)).trans hx177_0
              replace hx177_1 := (HB.out.cell (wb_ w _ hx177_1)).trans hx177_1
              replace hx177_2 := (HB.out.cell (wb_ w _ hx177_2)).trans hx177_2
              replace p177 := eq_true p177
              replace q177 := eq_true q177
              have p178 : 0 ≤ (((rd_T36 l0 x6_2).f0) : Int) := od_ (by first | (with_reducible assumption) | assumption)
              have q178 : ((rd_T36 l0 x6_2).f0) < (l1.length : Int) := od_ (by first | (with_reducible assumption) | assumption)
              obtain ⟨ad178, e178, hx178_0⟩ := Kd.at_int HR1.out ((rd_T36 l0 x6_2).f0) p178 q178
              obtain rfl : ad176 = ad178 := (by injection e178)
              replace hx178_0 := (HB.out.cell (wb_ w _ hx178_0)).trans hx178_0
              replace p178 := eq_true p178
              replace q178 := eq_true q178
              have p179 : 0 ≤ (x6_2 : Int) := od_ (by first | (with_reducible assumption) | assumption)
              have q179 : x6_2 < (l0.length : Int) := od_ (by first | (with_reducible assumption) | assumption)
              obtain ⟨ad179, e179, hx179_0, hx179_1, hx179_2⟩ := at_T36 HR0.out x6_2 p179 q179
              obtain rfl : ad175 = ad179 := (by injection e179)
              replace hx179_0 := (HB.out.cell (wb_ w _ hx179_0)).trans hx179_0
              replace hx179_1 := (HB.out.cell (wb_ w _ hx179_1)).trans hx179_1
              replace hx179_2 := (HB.out.cell (wb_ w _ hx179_2)).trans hx179_2
              replace p179 := eq_true p179
              replace q179 := eq_true q179
              go_wp2
              repeat (go_quiet (fail); try go_wp2)
              go_roundg k2
              case measure => have := HK1.out; have := HK2.out; omega
              case rel => exact ⟨(wrap64 (x6_2 + 1)), (by first | rfl | (simp; done) | (simp [*]; done)), H', ⟨by have := HK1.out; have := HK2.out; omega⟩, ⟨by repeat first | exact HB.out | apply ba_ | apply pd_ | apply d1_⟩⟩
            ·rw [if_neg c15] at H
             exact absurd H (by simp)
           ·rw [if_neg c14] at H
            exact absurd H (by simp)
          ·rw [if_neg c13] at H
           exact absurd H (by simp)
         ·rw [if_neg c12] at H
          exact absurd H (by simp)
        ·rw [if_neg c11] at H
         exact absurd H (by simp)
       ·rw [if_neg c10] at H
        have c10b0 : decide (x6_2 < (l0.length : Int)) = false := df_ c10
        clear c10
        obtain rfl := Option.some.inj H
        go_wp2
        repeat (go_quiet (fail); try go_wp2)
        go_ret
        exact ⟨by first | rfl | (simp [errW_none, errW_some] <;> rfl) | (simp [*, errW_none, errW_some] <;> rfl), by repeat first | exact HB.out | apply ba_ | apply pd_ | apply d1_⟩
 ·replace c4 := bf_ c4
  subst c4
  have H1 : (some false) = some r := by rw [if_neg (show ¬ (false = true) by decide)] at H; exact H
  clear H; have H := H1; clear H1
  obtain rfl := Option.some.inj H
  go_enter Try.func9, Try.ntmps9
  go_wp2_with (first | (go_at_call 18; (with_reducible refine (neumeref27_Check.calls k _ _ l0 (l1.length : Int) false _ ?side1 ?side2 A3.out).mono ?_); (case side1 => repeat (first | exact HR0.out | (with_reducible refine Kd.C_alloc ?_ _) | (with_reducible refine Kd.C_drewN ?_ _) | (with_reducible refine Kd.C_drew ?_))); (case side2 => exact HC0.out); rintro e w17 ⟨rfl, hb⟩; have n0_ := sd_ (bt_ (by repeat first | exact HB.out | apply ba_ | apply pd_ | apply d1_) hb); clear HB; have HB := n0_; clear n0_; (try clear hb); (try clear hb2); (try clear hk); (try clear hi)))
  repeat (go_quiet (first | (go_at_call 18; (with_reducible refine (neumeref27_Check.calls k _ _ l0 (l1.length : Int) false _ ?side1 ?side2 A3.out).mono ?_); (case side1 => repeat (first | exact HR0.out | (with_reducible refine Kd.C_alloc ?_ _) | (with_reducible refine Kd.C_drewN ?_ _) | (with_reducible refine Kd.C_drew ?_))); (case side2 => exact HC0.out); rintro e w17 ⟨rfl, hb⟩; have n0_ := sd_ (bt_ (by repeat first | exact HB.out | apply ba_ | apply pd_ | apply d1_) hb); clear HB; have HB := n0_; clear n0_; (try clear hb); (try clear hb2); (try clear hk); (try clear hi))); try go_wp2_with (first | (go_at_call 18; (with_reducible refine (neumeref27_Check.calls k _ _ l0 (l1.length : Int) false _ ?side1 ?side2 A3.out).mono ?_); (case side1 => repeat (first | exact HR0.out | (with_reducible refine Kd.C_alloc ?_ _) | (with_reducible refine Kd.C_drewN ?_ _) | (with_reducible refine Kd.C_drew ?_))); (case side2 => exact HC0.out); rintro e w17 ⟨rfl, hb⟩; have n0_ := sd_ (bt_ (by repeat first | exact HB.out | apply ba_ | apply pd_ | apply d1_) hb); clear HB; have HB := n0_; clear n0_; (try clear hb); (try clear hb2); (try clear hk); (try clear hi))))
  go_ret
  exact ⟨by first | rfl | (simp [errW_none, errW_some] <;> rfl) | (simp [*, errW_none, errW_some] <;> rfl), by repeat first | exact HB.out | apply ba_ | apply pd_ | apply d1_⟩

end Go.Proofs.Ytipfgmflofdedaa.P
