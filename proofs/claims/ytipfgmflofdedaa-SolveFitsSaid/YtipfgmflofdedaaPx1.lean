-- Written by a program of this session (wip/tools/xprint.py, over the kit's print): Lean checks it.
import Derived.Test.YtipfgmflofdedaaPx0
namespace Go.Proofs.Ytipfgmflofdedaa.P
open Go.RowKit Go.Proofs.YtipfgmflofdedaaW.PrintWords Go.Proofs.YtipfgmflofdedaaW.PrintLast Go.Proofs.YtipfgmflofdedaaW.PrintMore
attribute [local go_sem] max2_int min2_int max_two min_two max_three min_three max_four min_four   -- for this text's walks alone
set_option linter.unusedVariables false
set_option linter.unusedSimpArgs false

/-! ### neumelaw29_few: function 5 -/
def neumelaw29_few.f (l0 : List Int) (l1 : List (S36)) : Option (Bool) := if (l0.length : Int) ≤ 100 then (some (decide ((l1.length : Int) ≤ 200))) else (some false)
set_option maxHeartbeats 8000000 in
set_option maxRecDepth 100000 in
theorem neumelaw29_few.calls (A0 : Option Addr) (c0 : Nat) (l0 : List Int) (A1 : Option Addr) (c1 : Nat) (l1 : List (S36)) (r : Bool) (w : World) (hr0 : Kd.C (Kd.int .i64) w A0 l0.length l0) (hc0 : l0.length ≤ c0) (hr1 : Kd.C k36 w A1 l1.length l1) (hc1 : l1.length ≤ c1) (h : neumelaw29_few.f l0 l1 = some r) :
  Calls Try.prog 5 #[.slice A0 l0.length c0, .slice A1 l1.length c1] w fun e w' => e = .returned (.bool r) ∧ Drawn0 w w' := by
 have HR0 := sd_ hr0
 have HC0 := sd_ hc0
 clear hr0 hc0
 have HR1 := sd_ hr1
 have HC1 := sd_ hc1
 clear hr1 hc1
 have H : (if (l0.length : Int) ≤ 100 then (some (decide ((l1.length : Int) ≤ 200))) else (some false)) = some r := h
 clear h
 by_cases c3 : (l0.length : Int) ≤ 100
 ·rw [if_pos c3] at H
  have c3b0 : decide ((l0.length : Int) ≤ 100) = true := dt_ c3
  have c3b1 : decide (l0.length ≤ 100) = true := dt_ (by omega)
  clear c3
  obtain rfl := Option.some.inj H
  go_enter Try.func5, Try.ntmps5
  go_wp2
  go_ret
  exact ⟨by first | rfl | (simp; done) | (simp [*]; done), by repeat (first | exact Drawn0.refl _ | apply Drawn0.step)⟩
 ·rw [if_neg c3] at H
  have c3b0 : decide ((l0.length : Int) ≤ 100) = false := df_ c3
  have c3b1 : decide (l0.length ≤ 100) = false := df_ (by omega)
  clear c3
  obtain rfl := Option.some.inj H
  go_enter Try.func5, Try.ntmps5
  go_wp2
  go_ret
  exact ⟨by first | rfl | (simp; done) | (simp [*]; done), by repeat (first | exact Drawn0.refl _ | apply Drawn0.step)⟩

-- NOT PRINTED: function 25 (slices_IndexFunc_int_int)

-- NOT PRINTED: function 19 (slices_ContainsFunc_int_int)

/-! ### rod_within: function 26 -/
def rod_within.f (a0 : Int) (a1 : Int) (a2 : Int) : Option (Bool) := if a1 ≤ a0 then (some (decide (a0 ≤ a2))) else (some false)
set_option maxHeartbeats 8000000 in
set_option maxRecDepth 100000 in
theorem rod_within.calls (a0 : Int) (a1 : Int) (a2 : Int) (r : Bool) (w : World) (h : rod_within.f a0 a1 a2 = some r) :
  Calls Try.prog 26 #[.int .i64 a0, .int .i64 a1, .int .i64 a2] w fun e w' => e = .returned (.bool r) ∧ Drawn0 w w' := by
 have H : (if a1 ≤ a0 then (some (decide (a0 ≤ a2))) else (some false)) = some r := h
 clear h
 by_cases c4 : a1 ≤ a0
 ·rw [if_pos c4] at H
  have c4b0 : decide (a1 ≤ a0) = true := dt_ c4
  clear c4
  obtain rfl := Option.some.inj H
  go_enter Try.func26, Try.ntmps26
  go_wp2
  go_ret
  exact ⟨by first | rfl | (simp; done) | (simp [*]; done), by repeat (first | exact Drawn0.refl _ | apply Drawn0.step)⟩
 ·rw [if_neg c4] at H
  have c4b0 : decide (a1 ≤ a0) = false := df_ c4
  clear c4
  obtain rfl := Option.some.inj H
  go_enter Try.func26, Try.ntmps26
  go_wp2
  go_ret
  exact ⟨by first | rfl | (simp; done) | (simp [*]; done), by repeat (first | exact Drawn0.refl _ | apply Drawn0.step)⟩

/-! ### rod_Check: function 21 -/
mutual
def rod_Check.j0 : Nat → List (S36) → Int → Bool → Option (Bool)
 | 0, _, _, _ => none
 | k + 1, x0, x1, x14 => if x14 = true then (some false) else (rod_Check.l0 k x1 x0 (x0.length : Int) 0)
def rod_Check.l0 : Nat → Int → List (S36) → Int → Int → Option (Bool)
 | 0, _, _, _, _ => none
 | k + 1, x1, x15, x16, x17 => if x17 < x16 then (if 0 ≤ x17 then (if x17 < (x15.length : Int) then (if ((rd_T36 x15 x17).f0) < 0 then (some false) else (if ((rd_T36 x15 x17).f1) ≤ ((rd_T36 x15 x17).f0) then (some false) else (if ((rd_T36 x15 x17).f1) ≥ x1 then (some false) else ((rod_within.f ((rd_T36 x15 x17).f2) 1 1073741824).bind fun t104 => (if t104 = true then (rod_Check.l0 k x1 x15 x16 (wrap64 (x17 + 1))) else (some false)))))) else (none)) else (none)) else (some true)
end
def rod_Check.f (k : Nat) (l0 : List (S36)) (a1 : Int) : Option (Bool) := (rod_within.f a1 0 4096).bind fun t101 => (if t101 = true then (rod_Check.j0 k l0 a1 (decide ((l0.length : Int) > 400000))) else (rod_Check.j0 k l0 a1 true))
theorem rod_Check.mono_l : ∀ k, (∀ y0 y1 y2, LeO (rod_Check.j0 k y0 y1 y2) (rod_Check.j0 (k + 1) y0 y1 y2)) ∧ (∀ y0 y1 y2 y3, LeO (rod_Check.l0 k y0 y1 y2 y3) (rod_Check.l0 (k + 1) y0 y1 y2 y3))
 | 0 => ⟨fun _ _ _ r h => by simp [rod_Check.j0] at h, fun _ _ _ _ r h => by simp [rod_Check.l0] at h⟩
 | k + 1 => by
  obtain ⟨ih0, ih1⟩ := rod_Check.mono_l k
  refine ⟨?_, ?_⟩
  ·intro y0 y1 y2
   unfold rod_Check.j0
   repeat' first
   | (with_reducible exact ih0 _ _ _)
   | (with_reducible exact ih1 _ _ _ _)
   | (with_reducible exact LeO.refl _)
   | (with_reducible exact LeO.none _)
   | (with_reducible refine LeO.ite ?_ ?_)
   | (with_reducible refine LeO.bind ?_ (fun _ => ?_))
   | exact ih0 _ _ _
   | exact ih1 _ _ _ _
   | exact LeO.none _
   | refine LeO.ite ?_ ?_
   | refine LeO.bind ?_ (fun _ => ?_)
  ·intro y0 y1 y2 y3
   unfold rod_Check.l0
   repeat' first
   | (with_reducible exact ih0 _ _ _)
   | (with_reducible exact ih1 _ _ _ _)
   | (with_reducible exact LeO.refl _)
   | (with_reducible exact LeO.none _)
   | (with_reducible refine LeO.ite ?_ ?_)
   | (with_reducible refine LeO.bind ?_ (fun _ => ?_))
   | exact ih0 _ _ _
   | exact ih1 _ _ _ _
   | exact LeO.none _
   | refine LeO.ite ?_ ?_
   | refine LeO.bind ?_ (fun _ => ?_)
theorem rod_Check.mono : ∀ a0 a1 k, LeO (rod_Check.f k a0 a1) (rod_Check.f (k + 1) a0 a1) := by
 intro a0 a1 k
 obtain ⟨ih0, ih1⟩ := rod_Check.mono_l k
 unfold rod_Check.f
 repeat' first
   | (with_reducible exact ih0 _ _ _)
   | (with_reducible exact ih1 _ _ _ _)
   | (with_reducible exact LeO.refl _)
   | (with_reducible exact LeO.none _)
   | (with_reducible refine LeO.ite ?_ ?_)
   | (with_reducible refine LeO.bind ?_ (fun _ => ?_))
   | exact ih0 _ _ _
   | exact ih1 _ _ _ _
   | exact LeO.none _
   | refine LeO.ite ?_ ?_
   | refine LeO.bind ?_ (fun _ => ?_)
set_option maxHeartbeats 8000000 in
set_option maxRecDepth 100000 in
theorem rod_Check.calls (k : Nat) (A0 : Option Addr) (c0 : Nat) (l0 : List (S36)) (a1 : Int) (r : Bool) (w : World) (hr0 : Kd.C k36 w A0 l0.length l0) (hc0 : l0.length ≤ c0) (h : rod_Check.f k l0 a1 = some r) :
  Calls Try.prog 21 #[.slice A0 l0.length c0, .int .i64 a1] w fun e w' => e = .returned (.bool r) ∧ Below w.heap.size w w' := by
 have hu36 := Try.underlying36
 have HR0 := sd_ hr0
 have HC0 := sd_ hc0
 clear hr0 hc0
 have HB := sd_ (Below.refl w.heap.size w)
 have H : ((rod_within.f a1 0 4096).bind fun t101 => (if t101 = true then (rod_Check.j0 k l0 a1 (decide ((l0.length : Int) > 400000))) else (rod_Check.j0 k l0 a1 true))) = some r := h
 clear h
 have HC3 := sd_ H
 clear H
 go_enter Try.func21, Try.ntmps21
 go_upto_region 1 with (fail)
 go_cut [14] (fun v14 wc => ∃ (kq : Nat) (x14_2 : Bool), v14 = .bool x14_2 ∧ Aside0 (rod_Check.j0 kq l0 a1 x14_2 = some r) ∧ Aside0 (kq ≤ k) ∧ Aside0 (Below w.heap.size w wc))
 case first =>
  have H := HC3.out
  clear HC3
  replace H := ob_ H
  obtain ⟨t101, A40, H⟩ := H
  replace H : (if t101 = true then (rod_Check.j0 k l0 a1 (decide ((l0.length : Int) > 400000))) else (rod_Check.j0 k l0 a1 true)) = some r := H
  have A4 := sd_ A40
  clear A40
  by_cases c5 : t101 = true
  ·subst c5
   have H1 : (rod_Check.j0 k l0 a1 (decide ((l0.length : Int) > 400000))) = some r := by rw [if_pos rfl] at H; exact H
   clear H; have H := H1; clear H1
   have H' := sd_ H
   clear H
   go_wp2_with (first | ((with_reducible refine gate_callee (f := 26) rfl ?_); refine goesL_ (some 8) rfl rfl Try.func26 (by kernel_rfl) rfl #[.int .i64 a1, .int .i64 0, .int .i64 4096] rfl (by (try simp only [lm_, lq_, lx_]); first | done | rfl | (simp only [ld_, lt_]; rfl)) ?_; (with_reducible refine (rod_within.calls a1 0 4096 true _ A4.out).mono ?_); rintro e w' ⟨rfl, ⟨nd, rfl⟩⟩; refine ⟨_, rfl, ?_⟩))
   go_meet
   case rel => exact ⟨_, (decide ((l0.length : Int) > 400000)), (by first | rfl | (simp; done) | (simp [*]; done)), H', ⟨by first | omega | exact Nat.le_refl _⟩, ⟨by repeat first | exact HB.out | apply ba_ | apply pd_ | apply d1_⟩⟩
  ·replace c5 := bf_ c5
   subst c5
   have H1 : (rod_Check.j0 k l0 a1 true) = some r := by rw [if_neg (show ¬ (false = true) by decide)] at H; exact H
   clear H; have H := H1; clear H1
   have H' := sd_ H
   clear H
   go_wp2_with (first | ((with_reducible refine gate_callee (f := 26) rfl ?_); refine goesL_ (some 8) rfl rfl Try.func26 (by kernel_rfl) rfl #[.int .i64 a1, .int .i64 0, .int .i64 4096] rfl (by (try simp only [lm_, lq_, lx_]); first | done | rfl | (simp only [ld_, lt_]; rfl)) ?_; (with_reducible refine (rod_within.calls a1 0 4096 false _ A4.out).mono ?_); rintro e w' ⟨rfl, ⟨nd, rfl⟩⟩; refine ⟨_, rfl, ?_⟩))
   go_meet
   case rel => exact ⟨_, (true), (by first | rfl | (simp; done) | (simp [*]; done)), H', ⟨by first | omega | exact Nat.le_refl _⟩, ⟨by repeat first | exact HB.out | apply ba_ | apply pd_ | apply d1_⟩⟩
 case rest =>
  clear HC3
  try clear c2; try clear p2; try clear c5
  obtain ⟨kq, x14_2, rfl, HA, HJ2, HB⟩ := hcut
  cases kq with
  | zero => exact absurd HA.out (by simp [rod_Check.j0])
  | succ kj2 =>
   have H := HA.out
   clear HA
   simp only [rod_Check.j0] at H
   by_cases c6 : x14_2 = true
   ·subst c6
    have H1 : (some false) = some r := by rw [if_pos rfl] at H; exact H
    clear H; have H := H1; clear H1
    obtain rfl := Option.some.inj H
    go_wp2
    go_ret
    exact ⟨by first | rfl | (simp [errW_none, errW_some] <;> rfl) | (simp [*, errW_none, errW_some] <;> rfl), by repeat first | exact HB.out | apply ba_ | apply pd_ | apply d1_⟩
   ·replace c6 := bf_ c6
    subst c6
    have H1 : (rod_Check.l0 kj2 a1 l0 (l0.length : Int) 0) = some r := by rw [if_neg (show ¬ (false = true) by decide)] at H; exact H
    clear H; have H := H1; clear H1
    have H' := sd_ H
    clear H
    go_wp2
    go_loopg [17] kj2 (fun kq v17 w' => ∃ (x17_2 : Int), v17 = .int .i64 x17_2 ∧ Aside0 (rod_Check.l0 kq a1 l0 (l0.length : Int) x17_2 = some r) ∧ Aside0 (kq ≤ kj2) ∧ Aside0 (Below w.heap.size w w'))
    case atStart => exact ⟨(0), (by first | rfl | (simp; done) | (simp [*]; done)), H', ⟨Nat.le_refl _⟩, ⟨by repeat first | exact HB.out | apply ba_ | apply pd_ | apply d1_⟩⟩
    case round =>
     clear H'
     try clear c2; try clear p2; try clear c5; try clear c6; try clear p2
     obtain ⟨x17_2, rfl, HA, HK2, HB⟩ := hrel
     cases gk with
     | zero => exact absurd HA.out (by simp [rod_Check.l0])
     | succ k2 =>
      have H := HA.out
      clear HA
      simp only [rod_Check.l0] at H
      by_cases c7 : x17_2 < (l0.length : Int)
      ·rw [if_pos c7] at H
       have c7b0 : decide (x17_2 < (l0.length : Int)) = true := dt_ c7
       clear c7
       by_cases c8 : 0 ≤ x17_2
       ·rw [if_pos c8] at H
        have c8b0 : decide (0 ≤ x17_2) = true := dt_ c8
        clear c8
        by_cases c9 : x17_2 < (l0.length : Int)
        ·rw [if_pos c9] at H
         have c9b0 : decide (x17_2 < (l0.length : Int)) = true := dt_ c9
         clear c9
         by_cases c10 : ((rd_T36 l0 x17_2).f0) < 0
         ·rw [if_pos c10] at H
          have c10b0 : decide (((rd_T36 l0 x17_2).f0) < 0) = true := dt_ c10
          clear c10
          obtain rfl := Option.some.inj H
          have p102 : 0 ≤ (x17_2 : Int) := od_ (by first | (with_reducible assumption) | assumption)
          have q102 : x17_2 < (l0.length : Int) := od_ (by first | (with_reducible assumption) | assumption)
          obtain ⟨ad102, e102, hx102_0, hx102_1, hx102_2⟩ := at_T36 HR0.out x17_2 p102 q102
          cases e102
          replace hx102_0 := (HB.out.cell (wb_ w _ hx102_0)).trans hx102_0
          replace hx102_1 := (HB.out.cell (wb_ w _ hx102_1)).trans hx102_1
          replace hx102_2 := (HB.out.cell (wb_ w _ hx102_2)).trans hx102_2
          replace p102 := eq_true p102
          replace q102 := eq_true q102
          go_wp2_with (first | ((with_reducible refine gate_dst (N := 6) rfl ?_); (try (refine gate_guard (by rfl) ?_; dsimp only)); refine box_event ?hg (N := 6) ?hd (cs := #[.int .i64 0, .int .i64 0, .int .i64 0]) (t := 36) ?hr ?_; (case hd => rfl); (case hg => rfl); (case hr => first | (go_simp; done) | (go_simp; rfl)); intro gb103 hg w11 hbox hb; have n0_ := sd_ (bt_ (by repeat first | exact HB.out | apply ba_ | apply pd_ | apply d1_) hb); have n1_ := sd_ (hbox); have n2_ := sd_ ((by rw [hg]; exact (bz_ (by repeat first | exact HB.out | apply ba_ | apply pd_ | apply d1_)) : w.heap.size ≤ gb103)); have n3_ := sd_ ((by rw [hg]; exact (bz_ (by repeat first | exact HB.out | apply ba_ | apply pd_ | apply d1_)) : w.heap.size ≤ gb103)); clear HB; have HB := n0_; have BK103 := n1_; have GW103 := n2_; have GE103 := n3_; clear n0_ n1_ n2_ n3_; clear hb hbox hg; have hcz12_0 : w11.cell? ⟨gb103, 0, none⟩ = some (.int .i64 0) := (kc_ BK103.out 0).trans rfl; have hcz12_1 : w11.cell? ⟨gb103, 1, none⟩ = some (.int .i64 0) := (kc_ BK103.out 1).trans rfl; have hcz12_2 : w11.cell? ⟨gb103, 2, none⟩ = some (.int .i64 0) := (kc_ BK103.out 2).trans rfl; have hfz12_0 := kf_ BK103.out 0; have hfz12_1 := kf_ BK103.out 1; have hfz12_2 := kf_ BK103.out 2))
          go_ret
          exact ⟨by first | rfl | (simp [errW_none, errW_some] <;> rfl) | (simp [*, errW_none, errW_some] <;> rfl), by repeat first | exact HB.out | apply ba_ | apply pd_ | apply d1_ | refine bs_ ?_ GE103.out⟩
         ·rw [if_neg c10] at H
          have c10b0 : decide (((rd_T36 l0 x17_2).f0) < 0) = false := df_ c10
          clear c10
          by_cases c13 : ((rd_T36 l0 x17_2).f1) ≤ ((rd_T36 l0 x17_2).f0)
          ·rw [if_pos c13] at H
           have c13b0 : decide (((rd_T36 l0 x17_2).f1) ≤ ((rd_T36 l0 x17_2).f0)) = true := dt_ c13
           clear c13
           obtain rfl := Option.some.inj H
           have p102 : 0 ≤ (x17_2 : Int) := od_ (by first | (with_reducible assumption) | assumption)
           have q102 : x17_2 < (l0.length : Int) := od_ (by first | (with_reducible assumption) | assumption)
           obtain ⟨ad102, e102, hx102_0, hx102_1, hx102_2⟩ := at_T36 HR0.out x17_2 p102 q102
           cases e102
           replace hx102_0 := (HB.out.cell (wb_ w _ hx102_0)).trans hx102_0
           replace hx102_1 := (HB.out.cell (wb_ w _ hx102_1)).trans hx102_1
           replace hx102_2 := (HB.out.cell (wb_ w _ hx102_2)).trans hx102_2
           replace p102 := eq_true p102
           replace q102 := eq_true q102
           go_wp2_with (first | ((with_reducible refine gate_dst (N := 6) rfl ?_); (try (refine gate_guard (by rfl) ?_; dsimp only)); refine box_event ?hg (N := 6) ?hd (cs := #[.int .i64 0, .int .i64 0, .int .i64 0]) (t := 36) ?hr ?_; (case hd => rfl); (case hg => rfl); (case hr => first | (go_simp; done) | (go_simp; rfl)); intro gb103 hg w14 hbox hb; have n0_ := sd_ (bt_ (by repeat first | exact HB.out | apply ba_ | apply pd_ | apply d1_) hb); have n1_ := sd_ (hbox); have n2_ := sd_ ((by rw [hg]; exact (bz_ (by repeat first | exact HB.out | apply ba_ | apply pd_ | apply d1_)) : w.heap.size ≤ gb103)); have n3_ := sd_ ((by rw [hg]; exact (bz_ (by repeat first | exact HB.out | apply ba_ | apply pd_ | apply d1_)) : w.heap.size ≤ gb103)); clear HB; have HB := n0_; have BK103 := n1_; have GW103 := n2_; have GE103 := n3_; clear n0_ n1_ n2_ n3_; clear hb hbox hg; have hcz15_0 : w14.cell? ⟨gb103, 0, none⟩ = some (.int .i64 0) := (kc_ BK103.out 0).trans rfl; have hcz15_1 : w14.cell? ⟨gb103, 1, none⟩ = some (.int .i64 0) := (kc_ BK103.out 1).trans rfl; have hcz15_2 : w14.cell? ⟨gb103, 2, none⟩ = some (.int .i64 0) := (kc_ BK103.out 2).trans rfl; have hfz15_0 := kf_ BK103.out 0; have hfz15_1 := kf_ BK103.out 1; have hfz15_2 := kf_ BK103.out 2))
           go_ret
           exact ⟨by first | rfl | (simp [errW_none, errW_some] <;> rfl) | (simp [*, errW_none, errW_some] <;> rfl), by repeat first | exact HB.out | apply ba_ | apply pd_ | apply d1_ | refine bs_ ?_ GE103.out⟩
          ·rw [if_neg c13] at H
           have c13b0 : decide (((rd_T36 l0 x17_2).f1) ≤ ((rd_T36 l0 x17_2).f0)) = false := df_ c13
           clear c13
           by_cases c16 : ((rd_T36 l0 x17_2).f1) ≥ a1
           ·rw [if_pos c16] at H
            have c16b0 : decide (a1 ≤ ((rd_T36 l0 x17_2).f1)) = true := dt_ c16
            clear c16
            obtain rfl := Option.some.inj H
            have p102 : 0 ≤ (x17_2 : Int) := od_ (by first | (with_reducible assumption) | assumption)
            have q102 : x17_2 < (l0.length : Int) := od_ (by first | (with_reducible assumption) | assumption)
            obtain ⟨ad102, e102, hx102_0, hx102_1, hx102_2⟩ := at_T36 HR0.out x17_2 p102 q102
            cases e102
            replace hx102_0 := (HB.out.cell (wb_ w _ hx102_0)).trans hx102_0
            replace hx102_1 := (HB.out.cell (wb_ w _ hx102_1)).trans hx102_1
            replace hx102_2 := (HB.out.cell (wb_ w _ hx102_2)).trans hx102_2
            replace p102 := eq_true p102
            replace q102 := eq_true q102
            go_wp2_with (first | ((with_reducible refine gate_dst (N := 6) rfl ?_); (try (refine gate_guard (by rfl) ?_; dsimp only)); refine box_event ?hg (N := 6) ?hd (cs := #[.int .i64 0, .int .i64 0, .int .i64 0]) (t := 36) ?hr ?_; (case hd => rfl); (case hg => rfl); (case hr => first | (go_simp; done) | (go_simp; rfl)); intro gb103 hg w17 hbox hb; have n0_ := sd_ (bt_ (by repeat first | exact HB.out | apply ba_ | apply pd_ | apply d1_) hb); have n1_ := sd_ (hbox); have n2_ := sd_ ((by rw [hg]; exact (bz_ (by repeat first | exact HB.out | apply ba_ | apply pd_ | apply d1_)) : w.heap.size ≤ gb103)); have n3_ := sd_ ((by rw [hg]; exact (bz_ (by repeat first | exact HB.out | apply ba_ | apply pd_ | apply d1_)) : w.heap.size ≤ gb103)); clear HB; have HB := n0_; have BK103 := n1_; have GW103 := n2_; have GE103 := n3_; clear n0_ n1_ n2_ n3_; clear hb hbox hg; have hcz18_0 : w17.cell? ⟨gb103, 0, none⟩ = some (.int .i64 0) := (kc_ BK103.out 0).trans rfl; have hcz18_1 : w17.cell? ⟨gb103, 1, none⟩ = some (.int .i64 0) := (kc_ BK103.out 1).trans rfl; have hcz18_2 : w17.cell? ⟨gb103, 2, none⟩ = some (.int .i64 0) := (kc_ BK103.out 2).trans rfl; have hfz18_0 := kf_ BK103.out 0; have hfz18_1 := kf_ BK103.out 1; have hfz18_2 := kf_ BK103.out 2))
            go_ret
            exact ⟨by first | rfl | (simp [errW_none, errW_some] <;> rfl) | (simp [*, errW_none, errW_some] <;> rfl), by repeat first | exact HB.out | apply ba_ | apply pd_ | apply d1_ | refine bs_ ?_ GE103.out⟩
           ·rw [if_neg c16] at H
            have c16b0 : decide (a1 ≤ ((rd_T36 l0 x17_2).f1)) = false := df_ c16
            clear c16
            replace H := ob_ H
            obtain ⟨t104, A190, H⟩ := H
            replace H : (if t104 = true then (rod_Check.l0 k2 a1 l0 (l0.length : Int) (wrap64 (x17_2 + 1))) else (some false)) = some r := H
            have A19 := sd_ A190
            clear A190
            by_cases c20 : t104 = true
            ·subst c20
             have H1 : (rod_Check.l0 k2 a1 l0 (l0.length : Int) (wrap64 (x17_2 + 1))) = some r := by rw [if_pos rfl] at H; exact H
             clear H; have H := H1; clear H1
             have H' := sd_ H
             clear H
             have p102 : 0 ≤ (x17_2 : Int) := od_ (by first | (with_reducible assumption) | assumption)
             have q102 : x17_2 < (l0.length : Int) := od_ (by first | (with_reducible assumption) | assumption)
             obtain ⟨ad102, e102, hx102_0, hx102_1, hx102_2⟩ := at_T36 HR0.out x17_2 p102 q102
             cases e102
             replace hx102_0 := (HB.out.cell (wb_ w _ hx102_0)).trans hx102_0
             replace hx102_1 := (HB.out.cell (wb_ w _ hx102_1)).trans hx102_1
             replace hx102_2 := (HB.out.cell (wb_ w _ hx102_2)).trans hx102_2
             replace p102 := eq_true p102
             replace q102 := eq_true q102
             go_wp2_with (first | ((with_reducible refine gate_dst (N := 6) rfl ?_); (try (refine gate_guard (by rfl) ?_; dsimp only)); refine box_event ?hg (N := 6) ?hd (cs := #[.int .i64 0, .int .i64 0, .int .i64 0]) (t := 36) ?hr ?_; (case hd => rfl); (case hg => rfl); (case hr => first | (go_simp; done) | (go_simp; rfl)); intro gb103 hg w21 hbox hb; have n0_ := sd_ (bt_ (by repeat first | exact HB.out | apply ba_ | apply pd_ | apply d1_) hb); have n1_ := sd_ (hbox); have n2_ := sd_ ((by rw [hg]; exact (bz_ (by repeat first | exact HB.out | apply ba_ | apply pd_ | apply d1_)) : w.heap.size ≤ gb103)); have n3_ := sd_ ((by rw [hg]; exact (bz_ (by repeat first | exact HB.out | apply ba_ | apply pd_ | apply d1_)) : w.heap.size ≤ gb103)); clear HB; have HB := n0_; have BK103 := n1_; have GW103 := n2_; have GE103 := n3_; clear n0_ n1_ n2_ n3_; clear hb hbox hg; have hcz22_0 : w21.cell? ⟨gb103, 0, none⟩ = some (.int .i64 0) := (kc_ BK103.out 0).trans rfl; have hcz22_1 : w21.cell? ⟨gb103, 1, none⟩ = some (.int .i64 0) := (kc_ BK103.out 1).trans rfl; have hcz22_2 : w21.cell? ⟨gb103, 2, none⟩ = some (.int .i64 0) := (kc_ BK103.out 2).trans rfl; have hfz22_0 := kf_ BK103.out 0; have hfz22_1 := kf_ BK103.out 1; have hfz22_2 := kf_ BK103.out 2) | (go_at_call 26; (with_reducible refine (rod_within.calls ((rd_T36 l0 x17_2).f2) 1 1073741824 true _ A19.out).mono ?_); rintro e w' ⟨rfl, ⟨nd, rfl⟩⟩))
             go_roundg k2
             case measure => have := HJ2.out; have := HK2.out; omega
             case rel => exact ⟨(wrap64 (x17_2 + 1)), (by first | rfl | (simp; done) | (simp [*]; done)), H', ⟨by have := HJ2.out; have := HK2.out; omega⟩, ⟨by repeat first | exact HB.out | apply ba_ | apply pd_ | apply d1_ | refine bs_ ?_ GE103.out⟩⟩
            ·replace c20 := bf_ c20
             subst c20
             have H1 : (some false) = some r := by rw [if_neg (show ¬ (false = true) by decide)] at H; exact H
             clear H; have H := H1; clear H1
             obtain rfl := Option.some.inj H
             have p102 : 0 ≤ (x17_2 : Int) := od_ (by first | (with_reducible assumption) | assumption)
             have q102 : x17_2 < (l0.length : Int) := od_ (by first | (with_reducible assumption) | assumption)
             obtain ⟨ad102, e102, hx102_0, hx102_1, hx102_2⟩ := at_T36 HR0.out x17_2 p102 q102
             cases e102
             replace hx102_0 := (HB.out.cell (wb_ w _ hx102_0)).trans hx102_0
             replace hx102_1 := (HB.out.cell (wb_ w _ hx102_1)).trans hx102_1
             replace hx102_2 := (HB.out.cell (wb_ w _ hx102_2)).trans hx102_2
             replace p102 := eq_true p102
             replace q102 := eq_true q102
             go_wp2_with (first | ((with_reducible refine gate_dst (N := 6) rfl ?_); (try (refine gate_guard (by rfl) ?_; dsimp only)); refine box_event ?hg (N := 6) ?hd (cs := #[.int .i64 0, .int .i64 0, .int .i64 0]) (t := 36) ?hr ?_; (case hd => rfl); (case hg => rfl); (case hr => first | (go_simp; done) | (go_simp; rfl)); intro gb103 hg w23 hbox hb; have n0_ := sd_ (bt_ (by repeat first | exact HB.out | apply ba_ | apply pd_ | apply d1_) hb); have n1_ := sd_ (hbox); have n2_ := sd_ ((by rw [hg]; exact (bz_ (by repeat first | exact HB.out | apply ba_ | apply pd_ | apply d1_)) : w.heap.size ≤ gb103)); have n3_ := sd_ ((by rw [hg]; exact (bz_ (by repeat first | exact HB.out | apply ba_ | apply pd_ | apply d1_)) : w.heap.size ≤ gb103)); clear HB; have HB := n0_; have BK103 := n1_; have GW103 := n2_; have GE103 := n3_; clear n0_ n1_ n2_ n3_; clear hb hbox hg; have hcz24_0 : w23.cell? ⟨gb103, 0, none⟩ = some (.int .i64 0) := (kc_ BK103.out 0).trans rfl; have hcz24_1 : w23.cell? ⟨gb103, 1, none⟩ = some (.int .i64 0) := (kc_ BK103.out 1).trans rfl; have hcz24_2 : w23.cell? ⟨gb103, 2, none⟩ = some (.int .i64 0) := (kc_ BK103.out 2).trans rfl; have hfz24_0 := kf_ BK103.out 0; have hfz24_1 := kf_ BK103.out 1; have hfz24_2 := kf_ BK103.out 2) | (go_at_call 26; (with_reducible refine (rod_within.calls ((rd_T36 l0 x17_2).f2) 1 1073741824 false _ A19.out).mono ?_); rintro e w' ⟨rfl, ⟨nd, rfl⟩⟩))
             go_ret
             exact ⟨by first | rfl | (simp [errW_none, errW_some] <;> rfl) | (simp [*, errW_none, errW_some] <;> rfl), by repeat first | exact HB.out | apply ba_ | apply pd_ | apply d1_ | refine bs_ ?_ GE103.out⟩
        ·rw [if_neg c9] at H
         exact absurd H (by simp)
       ·rw [if_neg c8] at H
        exact absurd H (by simp)
      ·rw [if_neg c7] at H
       have c7b0 : decide (x17_2 < (l0.length : Int)) = false := df_ c7
       clear c7
       obtain rfl := Option.some.inj H
       go_wp2
       go_ret
       exact ⟨by first | rfl | (simp [errW_none, errW_some] <;> rfl) | (simp [*, errW_none, errW_some] <;> rfl), by repeat first | exact HB.out | apply ba_ | apply pd_ | apply d1_⟩

/-! ### solve_Check: function 13 -/
theorem xret_int {k : IntKind} {a b : Int} (h : a = b) : Ending.returned (.int k a) = .returned (.int k b) := by rw [h]
theorem xret_bool {a b : Bool} (h : a = b) : Ending.returned (.bool a) = .returned (.bool b) := by rw [h]
/-- Is an ideal out of bounds? -/
def solve_Check.bad (x : Int) : Bool := if x < 0 then true else decide (1048576 < x)
theorem solve_Check1.calls (x : Int) (w : World) : Calls Try.prog 20 #[.int .i64 x] w fun e w' => e = .returned (.bool (solve_Check.bad x)) ∧ w' = w := by
 unfold solve_Check.bad
 by_cases c : x < 0
 ·rw [if_pos c]
  go_enter Try.func20, Try.ntmps20
  go_wp2
  go_ret
  exact ⟨rfl, rfl⟩
 ·rw [if_neg c]
  go_enter Try.func20, Try.ntmps20
  go_wp2
  go_ret
  exact ⟨rfl, rfl⟩
/-- Where the first one is that is out of bounds, from i on. -/
def solve_Check.idx (l : List Int) (i : Nat) : Int := match l with
 | [] => -1
 | x :: r => if solve_Check.bad x = true then i else solve_Check.idx r (i + 1)
theorem solve_Check.idx_any : ∀ (l : List Int) (i : Nat), (0 ≤ solve_Check.idx l i) ↔ l.any solve_Check.bad = true
 | [], i => by simp [solve_Check.idx]
 | x :: r, i => by
  simp only [List.any_cons, Bool.or_eq_true]
  by_cases c : solve_Check.bad x = true
  ·have e : solve_Check.idx (x :: r) i = i := if_pos c
   rw [e]
   exact ⟨fun _ => .inl c, fun _ => by omega⟩
  ·have e : solve_Check.idx (x :: r) i = solve_Check.idx r (i + 1) := if_neg c
   rw [e, solve_Check.idx_any r (i + 1)]
   exact ⟨.inr, fun h => h.resolve_left c⟩
theorem solve_Index.calls (A0 : Option Addr) (c0 : Nat) (l0 : List Int) (w : World) (hr0 : Kd.C (Kd.int .i64) w A0 l0.length l0) :
  Calls Try.prog 25 #[.slice A0 l0.length c0, .func (.func 20) #[] #[]] w fun e w' => e = .returned (.int .i64 (solve_Check.idx l0 0)) ∧ w' = w := by
 have hlen : l0.length ≤ 9223372036854775807 := hr0.2.1
 have HR0 := sd_ hr0
 clear hr0
 go_enter Try.func25, Try.ntmps25
 go_wp2
 go_loop [8] (fun v8 => ∃ j : Nat, j ≤ l0.length ∧ v8 = .int .i64 j ∧ Aside0 (solve_Check.idx (l0.drop j) j = solve_Check.idx l0 0)) (fun v8 => l0.length - (intOf v8).toNat)
 case atStart => exact ⟨0, Nat.zero_le _, rfl, ⟨rfl⟩⟩
 case round =>
  obtain ⟨j, hj, rfl, hA⟩ := hrel
  by_cases hlt : j < l0.length
  ·obtain ⟨ad, e, hcell⟩ := Kd.at_int HR0.out (j : Int) (by omega) (by omega)
   cases e
   obtain ⟨x, hx⟩ : ∃ x, rd l0 (j : Int) = x := ⟨_, rfl⟩
   rw [hx] at hcell
   simp only [Int.toNat_natCast] at hcell
   have hd : solve_Check.idx (l0.drop j) j = if solve_Check.bad x = true then (j : Int) else solve_Check.idx (l0.drop (j + 1)) (j + 1) := by
    rw [← hx]
    unfold rd
    rw [List.drop_eq_getElem_cons hlt, Int.toNat_natCast, List.getD_eq_getElem?_getD, List.getElem?_eq_getElem hlt]
    rfl
   clear hx
   have HD := sd_ hd
   clear hd
   by_cases cb : solve_Check.bad x = true
   ·go_wp2_with (go_at_call 20; refine (solve_Check1.calls x _).mono ?_; rintro e w' ⟨rfl, rfl⟩)
    go_ret
    refine ⟨xret_int ?_, rfl⟩
    rw [← hA.out, HD.out, if_pos cb]
   ·go_wp2_with (go_at_call 20; refine (solve_Check1.calls x _).mono ?_; rintro e w' ⟨rfl, rfl⟩)
    go_round
    case rel => exact ⟨j + 1, by omega, by go_num, ⟨by rw [← hA.out, HD.out, if_neg cb]⟩⟩
    case measure => simp [intOf]; omega
  ·obtain rfl : j = l0.length := by omega
   go_wp2
   go_ret
   refine ⟨xret_int ?_, rfl⟩
   rw [← hA.out, List.drop_length]
   rfl
theorem solve_Contains.calls (A0 : Option Addr) (c0 : Nat) (l0 : List Int) (w : World) (hr0 : Kd.C (Kd.int .i64) w A0 l0.length l0) :
  Calls Try.prog 19 #[.slice A0 l0.length c0, .func (.func 20) #[] #[]] w fun e w' => e = .returned (.bool (l0.any solve_Check.bad)) ∧ w' = w := by
 have HR0 := sd_ hr0
 clear hr0
 go_enter Try.func19, Try.ntmps19
 go_wp2_with (go_at_call 25; refine (solve_Index.calls A0 c0 l0 _ HR0.out).mono ?_; rintro e w' ⟨rfl, rfl⟩)
 go_ret
 refine ⟨xret_bool ?_, rfl⟩
 have h := solve_Check.idx_any l0 0
 by_cases c : l0.any solve_Check.bad = true
 ·rw [c, dt_ (h.2 c)]
 ·rw [bf_ c, df_ (fun q => c (h.1 q))]
def solve_Check.f (k : Nat) (l0 : List Int) (l1 : List S36) : Option Bool :=
 if (l0.length : Int) ≥ 4096 then some false else if l0.any solve_Check.bad = true then some false else rod_Check.f k l1 ((l0.length : Int) + 1)
theorem solve_Check.mono : ∀ a0 a1 k, LeO (solve_Check.f k a0 a1) (solve_Check.f (k + 1) a0 a1) := by
 intro a0 a1 k
 unfold solve_Check.f
 exact LeO.ite (LeO.refl _) (LeO.ite (LeO.refl _) (rod_Check.mono _ _ _))
theorem solve_Check.calls (k : Nat) (A0 : Option Addr) (c0 : Nat) (l0 : List Int) (A1 : Option Addr) (c1 : Nat) (l1 : List (S36)) (r : Bool) (w : World) (hr0 : Kd.C (Kd.int .i64) w A0 l0.length l0) (hc0 : l0.length ≤ c0) (hr1 : Kd.C k36 w A1 l1.length l1) (hc1 : l1.length ≤ c1) (h : solve_Check.f k l0 l1 = some r) :
  Calls Try.prog 13 #[.slice A0 l0.length c0, .slice A1 l1.length c1] w fun e w' => e = .returned (.bool r) ∧ Below w.heap.size w w' := by
 have HR0 := sd_ hr0
 have HR1 := sd_ hr1
 have HC1 := sd_ hc1
 have H := sd_ h
 clear hr0 hr1 hc1 h
 unfold solve_Check.f at H
 by_cases c : (l0.length : Int) ≥ 4096
 ·have e : r = false := by have := H.out; rw [if_pos c] at this; exact (Option.some.inj this).symm
  subst e
  have cb : decide ((4096 : Int) ≤ (l0.length : Int)) = true := dt_ c
  go_enter Try.func13, Try.ntmps13
  go_wp2
  go_ret
  exact ⟨rfl, Below.refl _ _⟩
 ·have H1 : Aside0 ((if l0.any solve_Check.bad = true then some false else rod_Check.f k l1 ((l0.length : Int) + 1)) = some r) := ⟨by have := H.out; rwa [if_neg c] at this⟩
  clear H
  have cb : decide ((4096 : Int) ≤ (l0.length : Int)) = false := df_ c
  have hlt : (l0.length : Int) < 4096 := by omega
  clear c
  by_cases c2 : l0.any solve_Check.bad = true
  ·have e : r = false := by have := H1.out; rw [if_pos c2] at this; exact (Option.some.inj this).symm
   subst e
   go_enter Try.func13, Try.ntmps13
   go_wp2_with (go_at_call 19; refine (solve_Contains.calls A0 c0 l0 _ HR0.out).mono ?_; rintro e w' ⟨rfl, rfl⟩)
   go_ret
   exact ⟨rfl, Below.refl _ _⟩
  ·have H2 : Aside0 (rod_Check.f k l1 ((l0.length : Int) + 1) = some r) := ⟨by have := H1.out; rwa [if_neg c2] at this⟩
   clear H1
   go_enter Try.func13, Try.ntmps13
   go_wp2_with (first | (go_at_call 19; refine (solve_Contains.calls A0 c0 l0 _ HR0.out).mono ?_; rintro e w' ⟨rfl, rfl⟩) | (go_at_call 21; refine (rod_Check.calls k A1 c1 l1 _ r _ HR1.out HC1.out H2.out).mono ?_; rintro e w' ⟨rfl, hb⟩))
   go_ret
   exact ⟨rfl, by assumption⟩

/-! ### spring_Length: function 22 -/
def spring_Length.f (a0 : Int) (a1 : Int) : Option (Int × Int) := if a0 < 0 then (some (0, 2)) else (if a0 > 1048576 then (some (0, 2)) else (if a1 < (-1024) then (some (0, 2)) else (if a1 > 8192 then (some (0, 2)) else (some (wrap64 (Int.tdiv (wrap64 (a0 * (wrap64 (1024 + a1)))) 1024), 0)))))
set_option maxHeartbeats 8000000 in
set_option maxRecDepth 100000 in
theorem spring_Length.calls (a0 : Int) (a1 : Int) (r1 : Int) (r2 : Int) (w : World) (h : spring_Length.f a0 a1 = some (r1, r2)) :
  Calls Try.prog 22 #[.int .i64 a0, .int .i64 a1] w fun e w' => e = .returned (.tuple #[.int .i64 r1, .int .i64 r2]) ∧ Drawn0 w w' := by
 have H : (if a0 < 0 then (some (0, 2)) else (if a0 > 1048576 then (some (0, 2)) else (if a1 < (-1024) then (some (0, 2)) else (if a1 > 8192 then (some (0, 2)) else (some (wrap64 (Int.tdiv (wrap64 (a0 * (wrap64 (1024 + a1)))) 1024), 0)))))) = some (r1, r2) := h
 clear h
 by_cases c3 : a0 < 0
 ·rw [if_pos c3] at H
  have c3b0 : decide (a0 < 0) = true := dt_ c3
  clear c3
  simp only [Option.some.injEq, Prod.mk.injEq] at H
  obtain ⟨rfl, rfl⟩ := H
  go_enter Try.func22, Try.ntmps22
  go_wp2
  go_ret2
  exact ⟨by first | rfl | (simp; done) | (simp [*]; done), by repeat (first | exact Drawn0.refl _ | apply Drawn0.step)⟩
 ·rw [if_neg c3] at H
  have c3b0 : decide (a0 < 0) = false := df_ c3
  clear c3
  by_cases c4 : a0 > 1048576
  ·rw [if_pos c4] at H
   have c4b0 : decide (1048576 < a0) = true := dt_ c4
   clear c4
   simp only [Option.some.injEq, Prod.mk.injEq] at H
   obtain ⟨rfl, rfl⟩ := H
   go_enter Try.func22, Try.ntmps22
   go_wp2
   go_ret2
   exact ⟨by first | rfl | (simp; done) | (simp [*]; done), by repeat (first | exact Drawn0.refl _ | apply Drawn0.step)⟩
  ·rw [if_neg c4] at H
   have c4b0 : decide (1048576 < a0) = false := df_ c4
   clear c4
   by_cases c5 : a1 < (-1024)
   ·rw [if_pos c5] at H
    have c5b0 : decide (a1 < (-1024)) = true := dt_ c5
    clear c5
    simp only [Option.some.injEq, Prod.mk.injEq] at H
    obtain ⟨rfl, rfl⟩ := H
    go_enter Try.func22, Try.ntmps22
    go_wp2
    go_ret2
    exact ⟨by first | rfl | (simp; done) | (simp [*]; done), by repeat (first | exact Drawn0.refl _ | apply Drawn0.step)⟩
   ·rw [if_neg c5] at H
    have c5b0 : decide (a1 < (-1024)) = false := df_ c5
    clear c5
    by_cases c6 : a1 > 8192
    ·rw [if_pos c6] at H
     have c6b0 : decide (8192 < a1) = true := dt_ c6
     clear c6
     simp only [Option.some.injEq, Prod.mk.injEq] at H
     obtain ⟨rfl, rfl⟩ := H
     go_enter Try.func22, Try.ntmps22
     go_wp2
     go_ret2
     exact ⟨by first | rfl | (simp; done) | (simp [*]; done), by repeat (first | exact Drawn0.refl _ | apply Drawn0.step)⟩
    ·rw [if_neg c6] at H
     have c6b0 : decide (8192 < a1) = false := df_ c6
     clear c6
     simp only [Option.some.injEq, Prod.mk.injEq] at H
     obtain ⟨rfl, rfl⟩ := H
     go_enter Try.func22, Try.ntmps22
     go_wp2
     go_ret2
     exact ⟨by first | rfl | (simp; done) | (simp [*]; done), by repeat (first | exact Drawn0.refl _ | apply Drawn0.step)⟩

/-! ### solve_greatest_int: function 23 -/
def solve_greatest_int.l0 : Nat → Int → List Int → Int → Int → Option (Int)
 | 0, _, _, _, _ => none
 | k + 1, x0, x7, x8, x9 => if x9 < x8 then (if 0 ≤ x9 then (if x9 < (x7.length : Int) then (solve_greatest_int.l0 k (mx x0 (rd x7 x9)) x7 x8 (wrap64 (x9 + 1))) else (none)) else (none)) else (some x0)
def solve_greatest_int.f (k : Nat) (a0 : Int) (l1 : List Int) : Option (Int) := solve_greatest_int.l0 k a0 l1 (l1.length : Int) 0
theorem solve_greatest_int.mono_l : ∀ k, (∀ y0 y1 y2 y3, LeO (solve_greatest_int.l0 k y0 y1 y2 y3) (solve_greatest_int.l0 (k + 1) y0 y1 y2 y3))
 | 0 => fun _ _ _ _ r h => by simp [solve_greatest_int.l0] at h
 | k + 1 => by
  have ih0 := solve_greatest_int.mono_l k
  ·intro y0 y1 y2 y3
   unfold solve_greatest_int.l0
   repeat' first
   | (with_reducible exact ih0 _ _ _ _)
   | (with_reducible exact LeO.refl _)
   | (with_reducible exact LeO.none _)
   | (with_reducible refine LeO.ite ?_ ?_)
   | (with_reducible refine LeO.bind ?_ (fun _ => ?_))
   | exact ih0 _ _ _ _
   | exact LeO.none _
   | refine LeO.ite ?_ ?_
   | refine LeO.bind ?_ (fun _ => ?_)
theorem solve_greatest_int.mono : ∀ a0 a1 k, LeO (solve_greatest_int.f k a0 a1) (solve_greatest_int.f (k + 1) a0 a1) := by
 intro a0 a1 k
 have ih0 := solve_greatest_int.mono_l k
 unfold solve_greatest_int.f
 repeat' first
   | (with_reducible exact ih0 _ _ _ _)
   | (with_reducible exact LeO.refl _)
   | (with_reducible exact LeO.none _)
   | (with_reducible refine LeO.ite ?_ ?_)
   | (with_reducible refine LeO.bind ?_ (fun _ => ?_))
   | exact ih0 _ _ _ _
   | exact LeO.none _
   | refine LeO.ite ?_ ?_
   | refine LeO.bind ?_ (fun _ => ?_)
set_option maxHeartbeats 8000000 in
set_option maxRecDepth 100000 in
theorem solve_greatest_int.calls (k : Nat) (a0 : Int) (A1 : Option Addr) (c1 : Nat) (l1 : List Int) (r : Int) (w : World) (hr1 : Kd.C (Kd.int .i64) w A1 l1.length l1) (hc1 : l1.length ≤ c1) (h : solve_greatest_int.f k a0 l1 = some r) :
  Calls Try.prog 23 #[.int .i64 a0, .slice A1 l1.length c1] w fun e w' => e = .returned (.int .i64 r) ∧ Below w.heap.size w w' := by
 have HR1 := sd_ hr1
 have HC1 := sd_ hc1
 clear hr1 hc1
 have HB := sd_ (Below.refl w.heap.size w)
 have H : (solve_greatest_int.l0 k a0 l1 (l1.length : Int) 0) = some r := h
 clear h
 have H' := sd_ H
 clear H
 go_enter Try.func23, Try.ntmps23
 go_wp2
 go_loopg [0, 9] k (fun kq v0 v9 w' => ∃ (x0_1 : Int) (x9_1 : Int), v0 = .int .i64 x0_1 ∧ v9 = .int .i64 x9_1 ∧ Aside0 (solve_greatest_int.l0 kq x0_1 l1 (l1.length : Int) x9_1 = some r) ∧ Aside0 (kq ≤ k) ∧ Aside0 (Below w.heap.size w w'))
 case atStart => exact ⟨(a0), (0), (by first | rfl | (simp; done) | (simp [*]; done)), (by first | rfl | (simp; done) | (simp [*]; done)), H', ⟨Nat.le_refl _⟩, ⟨by repeat first | exact HB.out | apply ba_ | apply pd_ | apply d1_⟩⟩
 case round =>
  clear H'
  try clear c1; try clear c2; try clear p2
  obtain ⟨x0_1, x9_1, rfl, rfl, HA, HK1, HB⟩ := hrel
  cases gk with
  | zero => exact absurd HA.out (by simp [solve_greatest_int.l0])
  | succ k1 =>
   have H := HA.out
   clear HA
   simp only [solve_greatest_int.l0] at H
   by_cases c3 : x9_1 < (l1.length : Int)
   ·rw [if_pos c3] at H
    have c3b0 : decide (x9_1 < (l1.length : Int)) = true := dt_ c3
    clear c3
    by_cases c4 : 0 ≤ x9_1
    ·rw [if_pos c4] at H
     have c4b0 : decide (0 ≤ x9_1) = true := dt_ c4
     clear c4
     by_cases c5 : x9_1 < (l1.length : Int)
     ·rw [if_pos c5] at H
      have c5b0 : decide (x9_1 < (l1.length : Int)) = true := dt_ c5
      clear c5
      obtain ⟨ji6, hji6⟩ : ∃ j_ : Int, (mx x0_1 (rd l1 x9_1)) = j_ := ⟨_, rfl⟩
      replace H : (solve_greatest_int.l0 k1 ji6 l1 (l1.length : Int) (wrap64 (x9_1 + 1))) = some r := by first | (rw [hji6] at H; exact H) | (simp only [hji6] at H ⊢; exact H)
      have hji6_ : (if x0_1 < (rd l1 x9_1) then (rd l1 x9_1) else x0_1) = ji6 := hji6
      have H' := sd_ H
      clear H
      have p105 : 0 ≤ (x9_1 : Int) := od_ (by first | (with_reducible assumption) | assumption)
      have q105 : x9_1 < (l1.length : Int) := od_ (by first | (with_reducible assumption) | assumption)
      obtain ⟨ad105, e105, hx105_0⟩ := Kd.at_int HR1.out x9_1 p105 q105
      cases e105
      replace hx105_0 := (HB.out.cell (wb_ w _ hx105_0)).trans hx105_0
      replace p105 := eq_true p105
      replace q105 := eq_true q105
      go_wp2
      go_roundg k1
      case measure => have := HK1.out; omega
      case rel => exact ⟨(ji6), (wrap64 (x9_1 + 1)), (by first | rfl | (simp; done) | (simp only [← hji6] <;> (first | rfl | simp)) | (simp [*]; done)), (by first | rfl | (simp; done) | (simp [*]; done)), H', ⟨by have := HK1.out; omega⟩, ⟨by repeat first | exact HB.out | apply ba_ | apply pd_ | apply d1_⟩⟩
     ·rw [if_neg c5] at H
      exact absurd H (by simp)
    ·rw [if_neg c4] at H
     exact absurd H (by simp)
   ·rw [if_neg c3] at H
    have c3b0 : decide (x9_1 < (l1.length : Int)) = false := df_ c3
    clear c3
    obtain rfl := Option.some.inj H
    go_wp2
    go_ret
    exact ⟨by first | rfl | (simp [errW_none, errW_some] <;> rfl) | (simp [*, errW_none, errW_some] <;> rfl), by repeat first | exact HB.out | apply ba_ | apply pd_ | apply d1_⟩

/-! ### neumeref18_Numbers: function 11 -/
def neumeref18_Numbers.l0 : Nat → List Int → List Int → Int → Option (Bool)
 | 0, _, _, _ => none
 | k + 1, x0, x1, x5 => if x5 < (x0.length : Int) then (if 0 ≤ x5 then (if x5 < (x1.length : Int) then (if (rd x0 x5) = (rd x1 x5) then (neumeref18_Numbers.l0 k x0 x1 (wrap64 (x5 + 1))) else (some false)) else (none)) else (none)) else (some true)
def neumeref18_Numbers.f (k : Nat) (l0 : List Int) (l1 : List Int) : Option (Bool) := if (l0.length : Int) = (l1.length : Int) then (neumeref18_Numbers.l0 k l0 l1 0) else (some false)
theorem neumeref18_Numbers.mono_l : ∀ k, (∀ y0 y1 y2, LeO (neumeref18_Numbers.l0 k y0 y1 y2) (neumeref18_Numbers.l0 (k + 1) y0 y1 y2))
 | 0 => fun _ _ _ r h => by simp [neumeref18_Numbers.l0] at h
 | k + 1 => by
  have ih0 := neumeref18_Numbers.mono_l k
  ·intro y0 y1 y2
   unfold neumeref18_Numbers.l0
   repeat' first
   | (with_reducible exact ih0 _ _ _)
   | (with_reducible exact LeO.refl _)
   | (with_reducible exact LeO.none _)
   | (with_reducible refine LeO.ite ?_ ?_)
   | (with_reducible refine LeO.bind ?_ (fun _ => ?_))
   | exact ih0 _ _ _
   | exact LeO.none _
   | refine LeO.ite ?_ ?_
   | refine LeO.bind ?_ (fun _ => ?_)
theorem neumeref18_Numbers.mono : ∀ a0 a1 k, LeO (neumeref18_Numbers.f k a0 a1) (neumeref18_Numbers.f (k + 1) a0 a1) := by
 intro a0 a1 k
 have ih0 := neumeref18_Numbers.mono_l k
 unfold neumeref18_Numbers.f
 repeat' first
   | (with_reducible exact ih0 _ _ _)
   | (with_reducible exact LeO.refl _)
   | (with_reducible exact LeO.none _)
   | (with_reducible refine LeO.ite ?_ ?_)
   | (with_reducible refine LeO.bind ?_ (fun _ => ?_))
   | exact ih0 _ _ _
   | exact LeO.none _
   | refine LeO.ite ?_ ?_
   | refine LeO.bind ?_ (fun _ => ?_)
set_option maxHeartbeats 8000000 in
set_option maxRecDepth 100000 in
theorem neumeref18_Numbers.calls (k : Nat) (A0 : Option Addr) (c0 : Nat) (l0 : List Int) (A1 : Option Addr) (c1 : Nat) (l1 : List Int) (r : Bool) (w : World) (hr0 : Kd.C (Kd.int .i64) w A0 l0.length l0) (hc0 : l0.length ≤ c0) (hr1 : Kd.C (Kd.int .i64) w A1 l1.length l1) (hc1 : l1.length ≤ c1) (h : neumeref18_Numbers.f k l0 l1 = some r) :
  Calls Try.prog 11 #[.slice A0 l0.length c0, .slice A1 l1.length c1] w fun e w' => e = .returned (.bool r) ∧ Drawn0 w w' := by
 have HR0 := sd_ hr0
 have HC0 := sd_ hc0
 clear hr0 hc0
 have HR1 := sd_ hr1
 have HC1 := sd_ hc1
 clear hr1 hc1
 have H : (if (l0.length : Int) = (l1.length : Int) then (neumeref18_Numbers.l0 k l0 l1 0) else (some false)) = some r := h
 clear h
 by_cases c3 : (l0.length : Int) = (l1.length : Int)
 ·rw [if_pos c3] at H
  have c3b0 : ((l0.length : Int) == (l1.length : Int)) = true := beq_iff_eq.mpr c3
  have c3b1 : ((l0.length : Int) != (l1.length : Int)) = false := bne_eq_false_iff_eq.mpr c3
  have c3b2 : (l0.length == l1.length) = true := by first | simpa using c3 | (simp at c3 ⊢; omega)
  clear c3
  have H' := sd_ H
  clear H
  go_enter Try.func11, Try.ntmps11
  go_wp2
  repeat (go_quiet (fail); try go_wp2)
  go_loopg [5] k (fun kq v5 w' => ∃ (x5_1 : Int), v5 = .int .i64 x5_1 ∧ Aside0 (neumeref18_Numbers.l0 kq l0 l1 x5_1 = some r) ∧ Aside0 (kq ≤ k) ∧ Drawn0 w w')
  case atStart => exact ⟨(0), (by first | rfl | (simp; done) | (simp [*]; done)), H', ⟨Nat.le_refl _⟩, by repeat (first | exact Drawn0.refl _ | apply Drawn0.step)⟩
  case round =>
   clear H'
   try clear c1; try clear p2; try clear c3; try clear c3b0; try clear c3b1; try clear c3b2
   obtain ⟨x5_1, rfl, HA, HK1, ⟨m1, rfl⟩⟩ := hrel
   cases gk with
   | zero => exact absurd HA.out (by simp [neumeref18_Numbers.l0])
   | succ k1 =>
    have H := HA.out
    clear HA
    simp only [neumeref18_Numbers.l0] at H
    by_cases c4 : x5_1 < (l0.length : Int)
    ·rw [if_pos c4] at H
     have c4b0 : decide (x5_1 < (l0.length : Int)) = true := dt_ c4
     clear c4
     by_cases c5 : 0 ≤ x5_1
     ·rw [if_pos c5] at H
      have c5b0 : decide (0 ≤ x5_1) = true := dt_ c5
      clear c5
      by_cases c6 : x5_1 < (l1.length : Int)
      ·rw [if_pos c6] at H
       have c6b0 : decide (x5_1 < (l1.length : Int)) = true := dt_ c6
       clear c6
       by_cases c7 : (rd l0 x5_1) = (rd l1 x5_1)
       ·rw [if_pos c7] at H
        have c7b0 : ((rd l0 x5_1) == (rd l1 x5_1)) = true := beq_iff_eq.mpr c7
        have c7b1 : ((rd l0 x5_1) != (rd l1 x5_1)) = false := bne_eq_false_iff_eq.mpr c7
        clear c7
        have H' := sd_ H
        clear H
        have p106 : 0 ≤ (x5_1 : Int) := od_ (by first | (with_reducible assumption) | assumption)
        have q106 : x5_1 < (l0.length : Int) := od_ (by first | (with_reducible assumption) | assumption)
        obtain ⟨ad106, e106, hx106_0⟩ := Kd.at_int HR0.out x5_1 p106 q106
        cases e106
        replace p106 := eq_true p106
        replace q106 := eq_true q106
        have p107 : 0 ≤ (x5_1 : Int) := od_ (by first | (with_reducible assumption) | assumption)
        have q107 : x5_1 < (l1.length : Int) := od_ (by first | (with_reducible assumption) | assumption)
        obtain ⟨ad107, e107, hx107_0⟩ := Kd.at_int HR1.out x5_1 p107 q107
        cases e107
        replace p107 := eq_true p107
        replace q107 := eq_true q107
        go_wp2
        repeat (go_quiet (fail); try go_wp2)
        go_roundg k1
        case measure => have := HK1.out; omega
        case rel => exact ⟨(wrap64 (x5_1 + 1)), (by first | rfl | (simp; done) | (simp [*]; done)), H', ⟨by have := HK1.out; omega⟩, by repeat (first | exact Drawn0.refl _ | apply Drawn0.step)⟩
       ·rw [if_neg c7] at H
        have c7b0 : ((rd l0 x5_1) == (rd l1 x5_1)) = false := beq_eq_false_iff_ne.mpr c7
        have c7b1 : ((rd l0 x5_1) != (rd l1 x5_1)) = true := bne_iff_ne.mpr c7
        obtain rfl := Option.some.inj H
        have p106 : 0 ≤ (x5_1 : Int) := od_ (by first | (with_reducible assumption) | assumption)
        have q106 : x5_1 < (l0.length : Int) := od_ (by first | (with_reducible assumption) | assumption)
        obtain ⟨ad106, e106, hx106_0⟩ := Kd.at_int HR0.out x5_1 p106 q106
        cases e106
        replace p106 := eq_true p106
        replace q106 := eq_true q106
        have p107 : 0 ≤ (x5_1 : Int) := od_ (by first | (with_reducible assumption) | assumption)
        have q107 : x5_1 < (l1.length : Int) := od_ (by first | (with_reducible assumption) | assumption)
        obtain ⟨ad107, e107, hx107_0⟩ := Kd.at_int HR1.out x5_1 p107 q107
        cases e107
        replace p107 := eq_true p107
        replace q107 := eq_true q107
        go_wp2
        repeat (go_quiet (fail); try go_wp2)
        go_ret
        exact ⟨by first | rfl | (simp; done) | (simp [*]; done), by repeat (first | exact Drawn0.refl _ | apply Drawn0.step)⟩
      ·rw [if_neg c6] at H
       exact absurd H (by simp)
     ·rw [if_neg c5] at H
      exact absurd H (by simp)
    ·rw [if_neg c4] at H
     have c4b0 : decide (x5_1 < (l0.length : Int)) = false := df_ c4
     clear c4
     obtain rfl := Option.some.inj H
     go_wp2
     repeat (go_quiet (fail); try go_wp2)
     go_ret
     exact ⟨by first | rfl | (simp; done) | (simp [*]; done), by repeat (first | exact Drawn0.refl _ | apply Drawn0.step)⟩
 ·rw [if_neg c3] at H
  have c3b0 : ((l0.length : Int) == (l1.length : Int)) = false := beq_eq_false_iff_ne.mpr c3
  have c3b1 : ((l0.length : Int) != (l1.length : Int)) = true := bne_iff_ne.mpr c3
  have c3b2 : (l0.length == l1.length) = false := by first | simpa using c3 | (simp at c3 ⊢; omega)
  obtain rfl := Option.some.inj H
  go_enter Try.func11, Try.ntmps11
  go_wp2
  repeat (go_quiet (fail); try go_wp2)
  go_ret
  exact ⟨by first | rfl | (simp; done) | (simp [*]; done), by repeat (first | exact Drawn0.refl _ | apply Drawn0.step)⟩

end Go.Proofs.Ytipfgmflofdedaa.P
