-- Written by a program of this session (wip/tools/xprint.py, over the kit's print): Lean checks it.
import Derived.Test.YtcbeibmoblgaeaaPx0
import Derived.Test.YtcbeibmoblgaeaaPx3
import Derived.Test.YtcbeibmoblgaeaaPx4
namespace Go.Proofs.Ytcbeibmoblgaeaa.P
open Go.RowKit Go.Proofs.YtcbeibmoblgaeaaW.PrintWords Go.Proofs.YtcbeibmoblgaeaaW.PrintLast Go.Proofs.YtcbeibmoblgaeaaW.PrintMore
attribute [local go_sem] max2_int min2_int max_two min_two max_three min_three max_four min_four   -- for this text's walks alone
set_option linter.unusedVariables false
set_option linter.unusedSimpArgs false

/-! ### neumelaw28_SpringForce: function 5 -/
mutual
def neumelaw28_SpringForce.j0 : Nat → Int → Int → Int → Int → Int → Int → Int → Bool → Option (Bool)
  | 0, _, _, _, _, _, _, _, _ => none
  | k + 1, x0, x1, x2, x7, x9, x11, x12, x41 => if x41 = true then (if x12 = 0 then (if x11 = x0 then ((neumelaw28_heads.f k).bind fun t294 => (some t294)) else (some false)) else ((neumelaw28_heads.f k).bind fun t295 => (some t295))) else (if x1 ≤ x2 then (if x7 > x9 then (neumelaw28_SpringForce.j1 k x1 x2 true) else (if x11 = x0 then (neumelaw28_SpringForce.j1 k x1 x2 (decide (x7 < 0))) else (neumelaw28_SpringForce.j1 k x1 x2 true))) else (if x11 = x0 then (neumelaw28_SpringForce.j1 k x1 x2 (decide (x7 < 0))) else (neumelaw28_SpringForce.j1 k x1 x2 true)))
def neumelaw28_SpringForce.j1 : Nat → Int → Int → Bool → Option (Bool)
  | 0, _, _, _ => none
  | k + 1, x1, x2, x68 => if x68 = true then (some false) else ((spring_Price.f k x1).bind fun t296 => ((spring_Price.f k x2).bind fun t297 => (if 0 ≤ x1 then (if x1 ≤ x2 then (if t296 > t297 then (some false) else (if x2 ≤ 0 then (if t296 < t297 then (some false) else (if ((t296 == 0) == (x1 == 0)) = true then ((neumelaw28_heads.f k).bind fun t298 => (some t298)) else (some false))) else (if ((t296 == 0) == (x1 == 0)) = true then ((neumelaw28_heads.f k).bind fun t299 => (some t299)) else (some false)))) else (if ((t296 == 0) == (x1 == 0)) = true then ((neumelaw28_heads.f k).bind fun t300 => (some t300)) else (some false))) else (if x1 ≤ x2 then (if x2 ≤ 0 then (if t296 < t297 then (some false) else (if ((t296 == 0) == (x1 == 0)) = true then ((neumelaw28_heads.f k).bind fun t301 => (some t301)) else (some false))) else (if ((t296 == 0) == (x1 == 0)) = true then ((neumelaw28_heads.f k).bind fun t302 => (some t302)) else (some false))) else (if ((t296 == 0) == (x1 == 0)) = true then ((neumelaw28_heads.f k).bind fun t303 => (some t303)) else (some false))))))
end
def neumelaw28_SpringForce.f (k : Nat) (a0 : Int) (a1 : Int) (a2 : Int) : Option (Bool) := (spring_Length.f a0 a1).bind fun bt288 => ((spring_Length.f a0 a2).bind fun bt290 => ((spring_Length.f a0 0).bind fun bt292 => (if bt292.2 = 0 then (if bt288.2 = 0 then (neumelaw28_SpringForce.j0 k a0 a1 a2 bt288.1 bt290.1 bt292.1 bt292.2 (bt290.2 != 0)) else (neumelaw28_SpringForce.j0 k a0 a1 a2 bt288.1 bt290.1 bt292.1 bt292.2 true)) else (neumelaw28_SpringForce.j0 k a0 a1 a2 bt288.1 bt290.1 bt292.1 bt292.2 true))))
theorem neumelaw28_SpringForce.mono_l : ∀ k, (∀ y0 y1 y2 y3 y4 y5 y6 y7, LeO (neumelaw28_SpringForce.j0 k y0 y1 y2 y3 y4 y5 y6 y7) (neumelaw28_SpringForce.j0 (k + 1) y0 y1 y2 y3 y4 y5 y6 y7)) ∧ (∀ y0 y1 y2, LeO (neumelaw28_SpringForce.j1 k y0 y1 y2) (neumelaw28_SpringForce.j1 (k + 1) y0 y1 y2))
  | 0 => ⟨fun _ _ _ _ _ _ _ _ r h => by simp [neumelaw28_SpringForce.j0] at h, fun _ _ _ r h => by simp [neumelaw28_SpringForce.j1] at h⟩
  | k + 1 => by
    obtain ⟨ih0, ih1⟩ := neumelaw28_SpringForce.mono_l k
    refine ⟨?_, ?_⟩
    · intro y0 y1 y2 y3 y4 y5 y6 y7
      unfold neumelaw28_SpringForce.j0
      repeat' first
      | (with_reducible exact ih0 _ _ _ _ _ _ _ _)
      | (with_reducible exact ih1 _ _ _)
      | (with_reducible exact neumelaw28_heads.mono _)
      | (with_reducible exact spring_Price.mono _ _)
      | (with_reducible exact LeO.refl _)
      | (with_reducible exact LeO.none _)
      | (with_reducible refine LeO.ite ?_ ?_)
      | (with_reducible refine LeO.bind ?_ (fun _ => ?_))
      | exact ih0 _ _ _ _ _ _ _ _
      | exact ih1 _ _ _
      | exact neumelaw28_heads.mono _
      | exact spring_Price.mono _ _
      | exact LeO.none _
      | refine LeO.ite ?_ ?_
      | refine LeO.bind ?_ (fun _ => ?_)
    · intro y0 y1 y2
      unfold neumelaw28_SpringForce.j1
      repeat' first
      | (with_reducible exact ih0 _ _ _ _ _ _ _ _)
      | (with_reducible exact ih1 _ _ _)
      | (with_reducible exact neumelaw28_heads.mono _)
      | (with_reducible exact spring_Price.mono _ _)
      | (with_reducible exact LeO.refl _)
      | (with_reducible exact LeO.none _)
      | (with_reducible refine LeO.ite ?_ ?_)
      | (with_reducible refine LeO.bind ?_ (fun _ => ?_))
      | exact ih0 _ _ _ _ _ _ _ _
      | exact ih1 _ _ _
      | exact neumelaw28_heads.mono _
      | exact spring_Price.mono _ _
      | exact LeO.none _
      | refine LeO.ite ?_ ?_
      | refine LeO.bind ?_ (fun _ => ?_)
theorem neumelaw28_SpringForce.mono : ∀ a0 a1 a2 k, LeO (neumelaw28_SpringForce.f k a0 a1 a2) (neumelaw28_SpringForce.f (k + 1) a0 a1 a2) := by
  intro a0 a1 a2 k
  obtain ⟨ih0, ih1⟩ := neumelaw28_SpringForce.mono_l k
  unfold neumelaw28_SpringForce.f
  repeat' first
      | (with_reducible exact ih0 _ _ _ _ _ _ _ _)
      | (with_reducible exact ih1 _ _ _)
      | (with_reducible exact neumelaw28_heads.mono _)
      | (with_reducible exact spring_Price.mono _ _)
      | (with_reducible exact LeO.refl _)
      | (with_reducible exact LeO.none _)
      | (with_reducible refine LeO.ite ?_ ?_)
      | (with_reducible refine LeO.bind ?_ (fun _ => ?_))
      | exact ih0 _ _ _ _ _ _ _ _
      | exact ih1 _ _ _
      | exact neumelaw28_heads.mono _
      | exact spring_Price.mono _ _
      | exact LeO.none _
      | refine LeO.ite ?_ ?_
      | refine LeO.bind ?_ (fun _ => ?_)
set_option maxHeartbeats 8000000 in
set_option maxRecDepth 100000 in
theorem neumelaw28_SpringForce.calls (k : Nat) (a0 : Int) (a1 : Int) (a2 : Int) (r : Bool) (w : World) (h : neumelaw28_SpringForce.f k a0 a1 a2 = some r) :
    Calls Try.prog 5 #[.int .i64 a0, .int .i64 a1, .int .i64 a2] w fun e w' => e = .returned (.bool r) ∧ Below w.heap.size w w' := by
  have HB := Aside0.mk (Below.refl w.heap.size w)
  have H : ((spring_Length.f a0 a1).bind fun bt288 => ((spring_Length.f a0 a2).bind fun bt290 => ((spring_Length.f a0 0).bind fun bt292 => (if bt292.2 = 0 then (if bt288.2 = 0 then (neumelaw28_SpringForce.j0 k a0 a1 a2 bt288.1 bt290.1 bt292.1 bt292.2 (bt290.2 != 0)) else (neumelaw28_SpringForce.j0 k a0 a1 a2 bt288.1 bt290.1 bt292.1 bt292.2 true)) else (neumelaw28_SpringForce.j0 k a0 a1 a2 bt288.1 bt290.1 bt292.1 bt292.2 true))))) = some r := h
  clear h
  replace H := Option.bind_eq_some_iff.mp H
  obtain ⟨⟨t288, t289⟩, A40, H⟩ := H
  replace H : ((spring_Length.f a0 a2).bind fun bt290 => ((spring_Length.f a0 0).bind fun bt292 => (if bt292.2 = 0 then (if t289 = 0 then (neumelaw28_SpringForce.j0 k a0 a1 a2 t288 bt290.1 bt292.1 bt292.2 (bt290.2 != 0)) else (neumelaw28_SpringForce.j0 k a0 a1 a2 t288 bt290.1 bt292.1 bt292.2 true)) else (neumelaw28_SpringForce.j0 k a0 a1 a2 t288 bt290.1 bt292.1 bt292.2 true)))) = some r := H
  have A4 := Aside0.mk A40
  clear A40
  replace H := Option.bind_eq_some_iff.mp H
  obtain ⟨⟨t290, t291⟩, A50, H⟩ := H
  replace H : ((spring_Length.f a0 0).bind fun bt292 => (if bt292.2 = 0 then (if t289 = 0 then (neumelaw28_SpringForce.j0 k a0 a1 a2 t288 t290 bt292.1 bt292.2 (t291 != 0)) else (neumelaw28_SpringForce.j0 k a0 a1 a2 t288 t290 bt292.1 bt292.2 true)) else (neumelaw28_SpringForce.j0 k a0 a1 a2 t288 t290 bt292.1 bt292.2 true))) = some r := H
  have A5 := Aside0.mk A50
  clear A50
  replace H := Option.bind_eq_some_iff.mp H
  obtain ⟨⟨t292, t293⟩, A60, H⟩ := H
  replace H : (if t293 = 0 then (if t289 = 0 then (neumelaw28_SpringForce.j0 k a0 a1 a2 t288 t290 t292 t293 (t291 != 0)) else (neumelaw28_SpringForce.j0 k a0 a1 a2 t288 t290 t292 t293 true)) else (neumelaw28_SpringForce.j0 k a0 a1 a2 t288 t290 t292 t293 true)) = some r := H
  have A6 := Aside0.mk A60
  clear A60
  have HC7 := Aside0.mk H
  clear H
  go_enter Try.func5, Try.ntmps5
  go_upto_region 4 with (first | ((with_reducible refine gate_callee (f := 11) rfl ?_); refine goesL_ (some 18) rfl rfl Try.func11 (by kernel_rfl) rfl #[.int .i64 a0, .int .i64 a1] rfl (by (try simp only [List.map_toArray, List.map_cons, List.map_nil]); first | done | rfl | (simp only [List.length_drop, List.length_take]; rfl)) ?_; (with_reducible refine (spring_Length.calls a0 a1 t288 t289 _ A4.out).mono ?_); rintro e w' ⟨rfl, ⟨nd, rfl⟩⟩; refine ⟨_, rfl, ?_⟩) | ((with_reducible refine gate_callee (f := 11) rfl ?_); refine goesL_ (some 24) rfl rfl Try.func11 (by kernel_rfl) rfl #[.int .i64 a0, .int .i64 a2] rfl (by (try simp only [List.map_toArray, List.map_cons, List.map_nil]); first | done | rfl | (simp only [List.length_drop, List.length_take]; rfl)) ?_; (with_reducible refine (spring_Length.calls a0 a2 t290 t291 _ A5.out).mono ?_); rintro e w' ⟨rfl, ⟨nd, rfl⟩⟩; refine ⟨_, rfl, ?_⟩) | ((with_reducible refine gate_callee (f := 11) rfl ?_); refine goesL_ (some 29) rfl rfl Try.func11 (by kernel_rfl) rfl #[.int .i64 a0, .int .i64 0] rfl (by (try simp only [List.map_toArray, List.map_cons, List.map_nil]); first | done | rfl | (simp only [List.length_drop, List.length_take]; rfl)) ?_; (with_reducible refine (spring_Length.calls a0 0 t292 t293 _ A6.out).mono ?_); rintro e w' ⟨rfl, ⟨nd, rfl⟩⟩; refine ⟨_, rfl, ?_⟩))
  (try simp only [Act.put, List.setIfInBounds_toArray, List.set_cons_zero, List.set_cons_succ])
  go_cut [41] (fun v41 wc => ∃ (kq : Nat) (x41_6 : Bool), v41 = .bool x41_6 ∧ Aside0 (neumelaw28_SpringForce.j0 kq a0 a1 a2 t288 t290 t292 t293 x41_6 = some r) ∧ Aside0 (kq ≤ k) ∧ Aside0 (Below w.heap.size w wc))
  case first =>
    have H := HC7.out
    clear HC7
    by_cases c8 : t293 = 0
    · rw [if_pos c8] at H
      have c8b0 : (t293 == 0) = true := beq_iff_eq.mpr c8
      have c8b1 : (t293 != 0) = false := bne_eq_false_iff_eq.mpr c8
      clear c8
      (first | rw [c8b0] | (simp only [i64_w, i32_w]; rw [c8b0]) | skip)
      by_cases c9 : t289 = 0
      · rw [if_pos c9] at H
        have c9b0 : (t289 == 0) = true := beq_iff_eq.mpr c9
        have c9b1 : (t289 != 0) = false := bne_eq_false_iff_eq.mpr c9
        clear c9
        have H' := Aside0.mk H
        clear H
        go_wp2
        go_meet
        case rel => exact ⟨_, ((t291 != 0)), (by first | rfl | (simp; done) | (simp [*]; done)), H', ⟨by first | omega | exact Nat.le_refl _⟩, ⟨by repeat (first | (with_reducible first | exact HB.out | apply below_alloc | apply pw_below_drewN | apply below_drew1) | exact HB.out)⟩⟩
      · rw [if_neg c9] at H
        have c9b0 : (t289 == 0) = false := beq_eq_false_iff_ne.mpr c9
        have c9b1 : (t289 != 0) = true := bne_iff_ne.mpr c9
        have H' := Aside0.mk H
        clear H
        go_wp2
        go_meet
        case rel => exact ⟨_, (true), (by first | rfl | (simp; done) | (simp [*]; done)), H', ⟨by first | omega | exact Nat.le_refl _⟩, ⟨by repeat (first | (with_reducible first | exact HB.out | apply below_alloc | apply pw_below_drewN | apply below_drew1) | exact HB.out)⟩⟩
    · rw [if_neg c8] at H
      have c8b0 : (t293 == 0) = false := beq_eq_false_iff_ne.mpr c8
      have c8b1 : (t293 != 0) = true := bne_iff_ne.mpr c8
      (first | rw [c8b0] | (simp only [i64_w, i32_w]; rw [c8b0]) | skip)
      have H' := Aside0.mk H
      clear H
      go_wp2
      go_meet
      case rel => exact ⟨_, (true), (by first | rfl | (simp; done) | (simp [*]; done)), H', ⟨by first | omega | exact Nat.le_refl _⟩, ⟨by repeat (first | (with_reducible first | exact HB.out | apply below_alloc | apply pw_below_drewN | apply below_drew1) | exact HB.out)⟩⟩
  case rest =>
    clear HC7
    try clear c1
    try clear p2
    try clear c5
    try clear c8
    try clear c8b0
    try clear c8b1
    try clear c9
    try clear c9b0
    try clear c9b1
    obtain ⟨kq, x41_6, rfl, HA, HJ6, HB⟩ := hcut
    cases kq with
    | zero => exact absurd HA.out (by simp [neumelaw28_SpringForce.j0])
    | succ kj6 =>
      have H := HA.out
      clear HA
      simp only [neumelaw28_SpringForce.j0] at H
      by_cases c10 : x41_6 = true
      · subst c10
        have H1 : (if t293 = 0 then (if t292 = a0 then ((neumelaw28_heads.f kj6).bind fun t294 => (some t294)) else (some false)) else ((neumelaw28_heads.f kj6).bind fun t295 => (some t295))) = some r := by rw [if_pos rfl] at H; exact H
        clear H
        have H := H1
        clear H1
        by_cases c11 : t293 = 0
        · rw [if_pos c11] at H
          have c11b0 : (t293 == 0) = true := beq_iff_eq.mpr c11
          have c11b1 : (t293 != 0) = false := bne_eq_false_iff_eq.mpr c11
          clear c11
          by_cases c12 : t292 = a0
          · rw [if_pos c12] at H
            have c12b0 : (t292 == a0) = true := beq_iff_eq.mpr c12
            have c12b1 : (t292 != a0) = false := bne_eq_false_iff_eq.mpr c12
            clear c12
            replace H := Option.bind_eq_some_iff.mp H
            obtain ⟨t294, A130, H⟩ := H
            replace H : (some t294) = some r := H
            have A13 := Aside0.mk A130
            clear A130
            obtain rfl := Option.some.inj H
            go_wp2_with (first | (go_at_call 6; (with_reducible refine (neumelaw28_heads.calls kj6  t294 _ A13.out).mono ?_); rintro e w14 ⟨rfl, hb⟩; have n0_ := Aside0.mk (below_step (by repeat (first | (with_reducible first | exact HB.out | apply below_alloc | apply pw_below_drewN | apply below_drew1) | exact HB.out)) hb); clear HB; have HB := n0_; clear n0_; (try clear hb); (try clear hb2); (try clear hk); (try clear hi)))
            go_ret
            exact ⟨by first | rfl | (simp [errW_none, errW_some] <;> rfl) | (simp [*, errW_none, errW_some] <;> rfl), by repeat (first | (with_reducible first | exact HB.out | apply below_alloc | apply pw_below_drewN | apply below_drew1) | exact HB.out)⟩
          · rw [if_neg c12] at H
            have c12b0 : (t292 == a0) = false := beq_eq_false_iff_ne.mpr c12
            have c12b1 : (t292 != a0) = true := bne_iff_ne.mpr c12
            obtain rfl := Option.some.inj H
            go_wp2
            go_ret
            exact ⟨by first | rfl | (simp [errW_none, errW_some] <;> rfl) | (simp [*, errW_none, errW_some] <;> rfl), by repeat (first | (with_reducible first | exact HB.out | apply below_alloc | apply pw_below_drewN | apply below_drew1) | exact HB.out)⟩
        · rw [if_neg c11] at H
          have c11b0 : (t293 == 0) = false := beq_eq_false_iff_ne.mpr c11
          have c11b1 : (t293 != 0) = true := bne_iff_ne.mpr c11
          replace H := Option.bind_eq_some_iff.mp H
          obtain ⟨t295, A150, H⟩ := H
          replace H : (some t295) = some r := H
          have A15 := Aside0.mk A150
          clear A150
          obtain rfl := Option.some.inj H
          go_wp2_with (first | (go_at_call 6; (with_reducible refine (neumelaw28_heads.calls kj6  t295 _ A15.out).mono ?_); rintro e w16 ⟨rfl, hb⟩; have n0_ := Aside0.mk (below_step (by repeat (first | (with_reducible first | exact HB.out | apply below_alloc | apply pw_below_drewN | apply below_drew1) | exact HB.out)) hb); clear HB; have HB := n0_; clear n0_; (try clear hb); (try clear hb2); (try clear hk); (try clear hi)))
          go_ret
          exact ⟨by first | rfl | (simp [errW_none, errW_some] <;> rfl) | (simp [*, errW_none, errW_some] <;> rfl), by repeat (first | (with_reducible first | exact HB.out | apply below_alloc | apply pw_below_drewN | apply below_drew1) | exact HB.out)⟩
      · replace c10 := Bool.eq_false_iff.mpr c10
        subst c10
        have H1 : (if a1 ≤ a2 then (if t288 > t290 then (neumelaw28_SpringForce.j1 kj6 a1 a2 true) else (if t292 = a0 then (neumelaw28_SpringForce.j1 kj6 a1 a2 (decide (t288 < 0))) else (neumelaw28_SpringForce.j1 kj6 a1 a2 true))) else (if t292 = a0 then (neumelaw28_SpringForce.j1 kj6 a1 a2 (decide (t288 < 0))) else (neumelaw28_SpringForce.j1 kj6 a1 a2 true))) = some r := by rw [if_neg (show ¬ (false = true) by decide)] at H; exact H
        clear H
        have H := H1
        clear H1
        have HC17 := Aside0.mk H
        clear H
        go_upto_region 6 with (fail)
        go_cut [68] (fun v68 wc => ∃ (kq : Nat) (x68_16 : Bool), v68 = .bool x68_16 ∧ Aside0 (neumelaw28_SpringForce.j1 kq a1 a2 x68_16 = some r) ∧ Aside0 (kq ≤ kj6) ∧ Aside0 (Below w.heap.size w wc))
        case first =>
          have H := HC17.out
          clear HC17
          by_cases c18 : a1 ≤ a2
          · rw [if_pos c18] at H
            have c18b0 : decide (a1 ≤ a2) = true := decide_eq_true c18
            clear c18
            (first | rw [c18b0] | (simp only [i64_w, i32_w]; rw [c18b0]) | skip)
            by_cases c19 : t288 > t290
            · rw [if_pos c19] at H
              have c19b0 : decide (t290 < t288) = true := decide_eq_true c19
              clear c19
              have H' := Aside0.mk H
              clear H
              go_wp2
              go_meet
              case rel => exact ⟨_, (true), (by first | rfl | (simp; done) | (simp [*]; done)), H', ⟨by have := HJ6.out; first | omega | exact Nat.le_refl _⟩, ⟨by repeat (first | (with_reducible first | exact HB.out | apply below_alloc | apply pw_below_drewN | apply below_drew1) | exact HB.out)⟩⟩
            · rw [if_neg c19] at H
              have c19b0 : decide (t290 < t288) = false := decide_eq_false c19
              clear c19
              by_cases c20 : t292 = a0
              · rw [if_pos c20] at H
                have c20b0 : (t292 == a0) = true := beq_iff_eq.mpr c20
                have c20b1 : (t292 != a0) = false := bne_eq_false_iff_eq.mpr c20
                clear c20
                have H' := Aside0.mk H
                clear H
                go_wp2
                go_meet
                case rel => exact ⟨_, (decide (t288 < 0)), (by first | rfl | (simp; done) | (simp [*]; done)), H', ⟨by have := HJ6.out; first | omega | exact Nat.le_refl _⟩, ⟨by repeat (first | (with_reducible first | exact HB.out | apply below_alloc | apply pw_below_drewN | apply below_drew1) | exact HB.out)⟩⟩
              · rw [if_neg c20] at H
                have c20b0 : (t292 == a0) = false := beq_eq_false_iff_ne.mpr c20
                have c20b1 : (t292 != a0) = true := bne_iff_ne.mpr c20
                have H' := Aside0.mk H
                clear H
                go_wp2
                go_meet
                case rel => exact ⟨_, (true), (by first | rfl | (simp; done) | (simp [*]; done)), H', ⟨by have := HJ6.out; first | omega | exact Nat.le_refl _⟩, ⟨by repeat (first | (with_reducible first | exact HB.out | apply below_alloc | apply pw_below_drewN | apply below_drew1) | exact HB.out)⟩⟩
          · rw [if_neg c18] at H
            have c18b0 : decide (a1 ≤ a2) = false := decide_eq_false c18
            clear c18
            (first | rw [c18b0] | (simp only [i64_w, i32_w]; rw [c18b0]) | skip)
            by_cases c21 : t292 = a0
            · rw [if_pos c21] at H
              have c21b0 : (t292 == a0) = true := beq_iff_eq.mpr c21
              have c21b1 : (t292 != a0) = false := bne_eq_false_iff_eq.mpr c21
              clear c21
              have H' := Aside0.mk H
              clear H
              go_wp2
              go_meet
              case rel => exact ⟨_, (decide (t288 < 0)), (by first | rfl | (simp; done) | (simp [*]; done)), H', ⟨by have := HJ6.out; first | omega | exact Nat.le_refl _⟩, ⟨by repeat (first | (with_reducible first | exact HB.out | apply below_alloc | apply pw_below_drewN | apply below_drew1) | exact HB.out)⟩⟩
            · rw [if_neg c21] at H
              have c21b0 : (t292 == a0) = false := beq_eq_false_iff_ne.mpr c21
              have c21b1 : (t292 != a0) = true := bne_iff_ne.mpr c21
              have H' := Aside0.mk H
              clear H
              go_wp2
              go_meet
              case rel => exact ⟨_, (true), (by first | rfl | (simp; done) | (simp [*]; done)), H', ⟨by have := HJ6.out; first | omega | exact Nat.le_refl _⟩, ⟨by repeat (first | (with_reducible first | exact HB.out | apply below_alloc | apply pw_below_drewN | apply below_drew1) | exact HB.out)⟩⟩
        case rest =>
          clear HC17
          try clear c1
          try clear c2
          try clear p2
          try clear c5
          try clear c8
          try clear c8b0
          try clear c8b1
          try clear c9
          try clear c9b0
          try clear c9b1
          try clear c10
          try clear c11
          try clear c11b0
          try clear c11b1
          try clear c12
          try clear c12b0
          try clear c12b1
          try clear c18
          try clear c18b0
          try clear c19
          try clear c19b0
          try clear c20
          try clear c20b0
          try clear c20b1
          try clear c21
          try clear c21b0
          try clear c21b1
          try clear p2
          obtain ⟨kq, x68_16, rfl, HA, HJ16, HB⟩ := hcut
          cases kq with
          | zero => exact absurd HA.out (by simp [neumelaw28_SpringForce.j1])
          | succ kj16 =>
            have H := HA.out
            clear HA
            simp only [neumelaw28_SpringForce.j1] at H
            by_cases c22 : x68_16 = true
            · subst c22
              have H1 : (some false) = some r := by rw [if_pos rfl] at H; exact H
              clear H
              have H := H1
              clear H1
              obtain rfl := Option.some.inj H
              go_wp2
              go_ret
              exact ⟨by first | rfl | (simp [errW_none, errW_some] <;> rfl) | (simp [*, errW_none, errW_some] <;> rfl), by repeat (first | (with_reducible first | exact HB.out | apply below_alloc | apply pw_below_drewN | apply below_drew1) | exact HB.out)⟩
            · replace c22 := Bool.eq_false_iff.mpr c22
              subst c22
              have H1 : ((spring_Price.f kj16 a1).bind fun t296 => ((spring_Price.f kj16 a2).bind fun t297 => (if 0 ≤ a1 then (if a1 ≤ a2 then (if t296 > t297 then (some false) else (if a2 ≤ 0 then (if t296 < t297 then (some false) else (if ((t296 == 0) == (a1 == 0)) = true then ((neumelaw28_heads.f kj16).bind fun t298 => (some t298)) else (some false))) else (if ((t296 == 0) == (a1 == 0)) = true then ((neumelaw28_heads.f kj16).bind fun t299 => (some t299)) else (some false)))) else (if ((t296 == 0) == (a1 == 0)) = true then ((neumelaw28_heads.f kj16).bind fun t300 => (some t300)) else (some false))) else (if a1 ≤ a2 then (if a2 ≤ 0 then (if t296 < t297 then (some false) else (if ((t296 == 0) == (a1 == 0)) = true then ((neumelaw28_heads.f kj16).bind fun t301 => (some t301)) else (some false))) else (if ((t296 == 0) == (a1 == 0)) = true then ((neumelaw28_heads.f kj16).bind fun t302 => (some t302)) else (some false))) else (if ((t296 == 0) == (a1 == 0)) = true then ((neumelaw28_heads.f kj16).bind fun t303 => (some t303)) else (some false)))))) = some r := by rw [if_neg (show ¬ (false = true) by decide)] at H; exact H
              clear H
              have H := H1
              clear H1
              replace H := Option.bind_eq_some_iff.mp H
              obtain ⟨t296, A230, H⟩ := H
              replace H : ((spring_Price.f kj16 a2).bind fun t297 => (if 0 ≤ a1 then (if a1 ≤ a2 then (if t296 > t297 then (some false) else (if a2 ≤ 0 then (if t296 < t297 then (some false) else (if ((t296 == 0) == (a1 == 0)) = true then ((neumelaw28_heads.f kj16).bind fun t298 => (some t298)) else (some false))) else (if ((t296 == 0) == (a1 == 0)) = true then ((neumelaw28_heads.f kj16).bind fun t299 => (some t299)) else (some false)))) else (if ((t296 == 0) == (a1 == 0)) = true then ((neumelaw28_heads.f kj16).bind fun t300 => (some t300)) else (some false))) else (if a1 ≤ a2 then (if a2 ≤ 0 then (if t296 < t297 then (some false) else (if ((t296 == 0) == (a1 == 0)) = true then ((neumelaw28_heads.f kj16).bind fun t301 => (some t301)) else (some false))) else (if ((t296 == 0) == (a1 == 0)) = true then ((neumelaw28_heads.f kj16).bind fun t302 => (some t302)) else (some false))) else (if ((t296 == 0) == (a1 == 0)) = true then ((neumelaw28_heads.f kj16).bind fun t303 => (some t303)) else (some false))))) = some r := H
              have A23 := Aside0.mk A230
              clear A230
              replace H := Option.bind_eq_some_iff.mp H
              obtain ⟨t297, A240, H⟩ := H
              replace H : (if 0 ≤ a1 then (if a1 ≤ a2 then (if t296 > t297 then (some false) else (if a2 ≤ 0 then (if t296 < t297 then (some false) else (if ((t296 == 0) == (a1 == 0)) = true then ((neumelaw28_heads.f kj16).bind fun t298 => (some t298)) else (some false))) else (if ((t296 == 0) == (a1 == 0)) = true then ((neumelaw28_heads.f kj16).bind fun t299 => (some t299)) else (some false)))) else (if ((t296 == 0) == (a1 == 0)) = true then ((neumelaw28_heads.f kj16).bind fun t300 => (some t300)) else (some false))) else (if a1 ≤ a2 then (if a2 ≤ 0 then (if t296 < t297 then (some false) else (if ((t296 == 0) == (a1 == 0)) = true then ((neumelaw28_heads.f kj16).bind fun t301 => (some t301)) else (some false))) else (if ((t296 == 0) == (a1 == 0)) = true then ((neumelaw28_heads.f kj16).bind fun t302 => (some t302)) else (some false))) else (if ((t296 == 0) == (a1 == 0)) = true then ((neumelaw28_heads.f kj16).bind fun t303 => (some t303)) else (some false)))) = some r := H
              have A24 := Aside0.mk A240
              clear A240
              by_cases c25 : 0 ≤ a1
              · rw [if_pos c25] at H
                have c25b0 : decide (0 ≤ a1) = true := decide_eq_true c25
                clear c25
                by_cases c26 : a1 ≤ a2
                · rw [if_pos c26] at H
                  have c26b0 : decide (a1 ≤ a2) = true := decide_eq_true c26
                  clear c26
                  by_cases c27 : t296 > t297
                  · rw [if_pos c27] at H
                    have c27b0 : decide (t297 < t296) = true := decide_eq_true c27
                    clear c27
                    obtain rfl := Option.some.inj H
                    go_wp2_with (first | ((with_reducible refine gate_callee (f := 14) rfl ?_); refine goesL_ (some 70) rfl rfl Try.func14 (by kernel_rfl) rfl #[.int .i64 a1] rfl (by (try simp only [List.map_toArray, List.map_cons, List.map_nil]); first | done | rfl | (simp only [List.length_drop, List.length_take]; rfl)) ?_; (with_reducible refine (spring_Price.calls kj16 a1 t296 _ A23.out).mono ?_); rintro e w' ⟨rfl, ⟨nd, rfl⟩⟩; refine ⟨_, rfl, ?_⟩) | ((with_reducible refine gate_callee (f := 14) rfl ?_); refine goesL_ (some 72) rfl rfl Try.func14 (by kernel_rfl) rfl #[.int .i64 a2] rfl (by (try simp only [List.map_toArray, List.map_cons, List.map_nil]); first | done | rfl | (simp only [List.length_drop, List.length_take]; rfl)) ?_; (with_reducible refine (spring_Price.calls kj16 a2 t297 _ A24.out).mono ?_); rintro e w' ⟨rfl, ⟨nd, rfl⟩⟩; refine ⟨_, rfl, ?_⟩))
                    go_ret
                    exact ⟨by first | rfl | (simp [errW_none, errW_some] <;> rfl) | (simp [*, errW_none, errW_some] <;> rfl), by repeat (first | (with_reducible first | exact HB.out | apply below_alloc | apply pw_below_drewN | apply below_drew1) | exact HB.out)⟩
                  · rw [if_neg c27] at H
                    have c27b0 : decide (t297 < t296) = false := decide_eq_false c27
                    clear c27
                    by_cases c28 : a2 ≤ 0
                    · rw [if_pos c28] at H
                      have c28b0 : decide (a2 ≤ 0) = true := decide_eq_true c28
                      clear c28
                      by_cases c29 : t296 < t297
                      · rw [if_pos c29] at H
                        have c29b0 : decide (t296 < t297) = true := decide_eq_true c29
                        clear c29
                        obtain rfl := Option.some.inj H
                        go_wp2_with (first | ((with_reducible refine gate_callee (f := 14) rfl ?_); refine goesL_ (some 70) rfl rfl Try.func14 (by kernel_rfl) rfl #[.int .i64 a1] rfl (by (try simp only [List.map_toArray, List.map_cons, List.map_nil]); first | done | rfl | (simp only [List.length_drop, List.length_take]; rfl)) ?_; (with_reducible refine (spring_Price.calls kj16 a1 t296 _ A23.out).mono ?_); rintro e w' ⟨rfl, ⟨nd, rfl⟩⟩; refine ⟨_, rfl, ?_⟩) | ((with_reducible refine gate_callee (f := 14) rfl ?_); refine goesL_ (some 72) rfl rfl Try.func14 (by kernel_rfl) rfl #[.int .i64 a2] rfl (by (try simp only [List.map_toArray, List.map_cons, List.map_nil]); first | done | rfl | (simp only [List.length_drop, List.length_take]; rfl)) ?_; (with_reducible refine (spring_Price.calls kj16 a2 t297 _ A24.out).mono ?_); rintro e w' ⟨rfl, ⟨nd, rfl⟩⟩; refine ⟨_, rfl, ?_⟩))
                        go_ret
                        exact ⟨by first | rfl | (simp [errW_none, errW_some] <;> rfl) | (simp [*, errW_none, errW_some] <;> rfl), by repeat (first | (with_reducible first | exact HB.out | apply below_alloc | apply pw_below_drewN | apply below_drew1) | exact HB.out)⟩
                      · rw [if_neg c29] at H
                        have c29b0 : decide (t296 < t297) = false := decide_eq_false c29
                        clear c29
                        by_cases c30 : ((t296 == 0) == (a1 == 0)) = true
                        · rw [if_pos c30] at H
                          have c30b0 : ((t296 == 0) == (a1 == 0)) = true := c30
                          (try (have c30b1 : decide ((t296 == 0) = (a1 == 0)) = true := by simpa using c30))
                          (try (have c30b2 : ((t296 == 0) == (a1 == 0)) = true := by simpa using c30))
                          clear c30
                          replace H := Option.bind_eq_some_iff.mp H
                          obtain ⟨t298, A310, H⟩ := H
                          replace H : (some t298) = some r := H
                          have A31 := Aside0.mk A310
                          clear A310
                          obtain rfl := Option.some.inj H
                          go_wp2_with (first | ((with_reducible refine gate_callee (f := 14) rfl ?_); refine goesL_ (some 70) rfl rfl Try.func14 (by kernel_rfl) rfl #[.int .i64 a1] rfl (by (try simp only [List.map_toArray, List.map_cons, List.map_nil]); first | done | rfl | (simp only [List.length_drop, List.length_take]; rfl)) ?_; (with_reducible refine (spring_Price.calls kj16 a1 t296 _ A23.out).mono ?_); rintro e w' ⟨rfl, ⟨nd, rfl⟩⟩; refine ⟨_, rfl, ?_⟩) | ((with_reducible refine gate_callee (f := 14) rfl ?_); refine goesL_ (some 72) rfl rfl Try.func14 (by kernel_rfl) rfl #[.int .i64 a2] rfl (by (try simp only [List.map_toArray, List.map_cons, List.map_nil]); first | done | rfl | (simp only [List.length_drop, List.length_take]; rfl)) ?_; (with_reducible refine (spring_Price.calls kj16 a2 t297 _ A24.out).mono ?_); rintro e w' ⟨rfl, ⟨nd, rfl⟩⟩; refine ⟨_, rfl, ?_⟩) | (go_at_call 6; (with_reducible refine (neumelaw28_heads.calls kj16  t298 _ A31.out).mono ?_); rintro e w32 ⟨rfl, hb⟩; have n0_ := Aside0.mk (below_step (by repeat (first | (with_reducible first | exact HB.out | apply below_alloc | apply pw_below_drewN | apply below_drew1) | exact HB.out)) hb); clear HB; have HB := n0_; clear n0_; (try clear hb); (try clear hb2); (try clear hk); (try clear hi)))
                          go_ret
                          exact ⟨by first | rfl | (simp [errW_none, errW_some] <;> rfl) | (simp [*, errW_none, errW_some] <;> rfl), by repeat (first | (with_reducible first | exact HB.out | apply below_alloc | apply pw_below_drewN | apply below_drew1) | exact HB.out)⟩
                        · rw [if_neg c30] at H
                          have c30b0 : ((t296 == 0) == (a1 == 0)) = false := by simpa using c30
                          (try (have c30b1 : decide ((t296 == 0) = (a1 == 0)) = false := by simpa using c30))
                          (try (have c30b2 : ((t296 == 0) == (a1 == 0)) = false := by simpa using c30))
                          (try (have c30b3 : ¬ ((t296 == 0) = (a1 == 0)) := by simpa using c30))
                          clear c30
                          obtain rfl := Option.some.inj H
                          go_wp2_with (first | ((with_reducible refine gate_callee (f := 14) rfl ?_); refine goesL_ (some 70) rfl rfl Try.func14 (by kernel_rfl) rfl #[.int .i64 a1] rfl (by (try simp only [List.map_toArray, List.map_cons, List.map_nil]); first | done | rfl | (simp only [List.length_drop, List.length_take]; rfl)) ?_; (with_reducible refine (spring_Price.calls kj16 a1 t296 _ A23.out).mono ?_); rintro e w' ⟨rfl, ⟨nd, rfl⟩⟩; refine ⟨_, rfl, ?_⟩) | ((with_reducible refine gate_callee (f := 14) rfl ?_); refine goesL_ (some 72) rfl rfl Try.func14 (by kernel_rfl) rfl #[.int .i64 a2] rfl (by (try simp only [List.map_toArray, List.map_cons, List.map_nil]); first | done | rfl | (simp only [List.length_drop, List.length_take]; rfl)) ?_; (with_reducible refine (spring_Price.calls kj16 a2 t297 _ A24.out).mono ?_); rintro e w' ⟨rfl, ⟨nd, rfl⟩⟩; refine ⟨_, rfl, ?_⟩))
                          go_ret
                          exact ⟨by first | rfl | (simp [errW_none, errW_some] <;> rfl) | (simp [*, errW_none, errW_some] <;> rfl), by repeat (first | (with_reducible first | exact HB.out | apply below_alloc | apply pw_below_drewN | apply below_drew1) | exact HB.out)⟩
                    · rw [if_neg c28] at H
                      have c28b0 : decide (a2 ≤ 0) = false := decide_eq_false c28
                      clear c28
                      by_cases c33 : ((t296 == 0) == (a1 == 0)) = true
                      · rw [if_pos c33] at H
                        have c33b0 : ((t296 == 0) == (a1 == 0)) = true := c33
                        (try (have c33b1 : decide ((t296 == 0) = (a1 == 0)) = true := by simpa using c33))
                        (try (have c33b2 : ((t296 == 0) == (a1 == 0)) = true := by simpa using c33))
                        clear c33
                        replace H := Option.bind_eq_some_iff.mp H
                        obtain ⟨t299, A340, H⟩ := H
                        replace H : (some t299) = some r := H
                        have A34 := Aside0.mk A340
                        clear A340
                        obtain rfl := Option.some.inj H
                        go_wp2_with (first | ((with_reducible refine gate_callee (f := 14) rfl ?_); refine goesL_ (some 70) rfl rfl Try.func14 (by kernel_rfl) rfl #[.int .i64 a1] rfl (by (try simp only [List.map_toArray, List.map_cons, List.map_nil]); first | done | rfl | (simp only [List.length_drop, List.length_take]; rfl)) ?_; (with_reducible refine (spring_Price.calls kj16 a1 t296 _ A23.out).mono ?_); rintro e w' ⟨rfl, ⟨nd, rfl⟩⟩; refine ⟨_, rfl, ?_⟩) | ((with_reducible refine gate_callee (f := 14) rfl ?_); refine goesL_ (some 72) rfl rfl Try.func14 (by kernel_rfl) rfl #[.int .i64 a2] rfl (by (try simp only [List.map_toArray, List.map_cons, List.map_nil]); first | done | rfl | (simp only [List.length_drop, List.length_take]; rfl)) ?_; (with_reducible refine (spring_Price.calls kj16 a2 t297 _ A24.out).mono ?_); rintro e w' ⟨rfl, ⟨nd, rfl⟩⟩; refine ⟨_, rfl, ?_⟩) | (go_at_call 6; (with_reducible refine (neumelaw28_heads.calls kj16  t299 _ A34.out).mono ?_); rintro e w35 ⟨rfl, hb⟩; have n0_ := Aside0.mk (below_step (by repeat (first | (with_reducible first | exact HB.out | apply below_alloc | apply pw_below_drewN | apply below_drew1) | exact HB.out)) hb); clear HB; have HB := n0_; clear n0_; (try clear hb); (try clear hb2); (try clear hk); (try clear hi)))
                        go_ret
                        exact ⟨by first | rfl | (simp [errW_none, errW_some] <;> rfl) | (simp [*, errW_none, errW_some] <;> rfl), by repeat (first | (with_reducible first | exact HB.out | apply below_alloc | apply pw_below_drewN | apply below_drew1) | exact HB.out)⟩
                      · rw [if_neg c33] at H
                        have c33b0 : ((t296 == 0) == (a1 == 0)) = false := by simpa using c33
                        (try (have c33b1 : decide ((t296 == 0) = (a1 == 0)) = false := by simpa using c33))
                        (try (have c33b2 : ((t296 == 0) == (a1 == 0)) = false := by simpa using c33))
                        (try (have c33b3 : ¬ ((t296 == 0) = (a1 == 0)) := by simpa using c33))
                        clear c33
                        obtain rfl := Option.some.inj H
                        go_wp2_with (first | ((with_reducible refine gate_callee (f := 14) rfl ?_); refine goesL_ (some 70) rfl rfl Try.func14 (by kernel_rfl) rfl #[.int .i64 a1] rfl (by (try simp only [List.map_toArray, List.map_cons, List.map_nil]); first | done | rfl | (simp only [List.length_drop, List.length_take]; rfl)) ?_; (with_reducible refine (spring_Price.calls kj16 a1 t296 _ A23.out).mono ?_); rintro e w' ⟨rfl, ⟨nd, rfl⟩⟩; refine ⟨_, rfl, ?_⟩) | ((with_reducible refine gate_callee (f := 14) rfl ?_); refine goesL_ (some 72) rfl rfl Try.func14 (by kernel_rfl) rfl #[.int .i64 a2] rfl (by (try simp only [List.map_toArray, List.map_cons, List.map_nil]); first | done | rfl | (simp only [List.length_drop, List.length_take]; rfl)) ?_; (with_reducible refine (spring_Price.calls kj16 a2 t297 _ A24.out).mono ?_); rintro e w' ⟨rfl, ⟨nd, rfl⟩⟩; refine ⟨_, rfl, ?_⟩))
                        go_ret
                        exact ⟨by first | rfl | (simp [errW_none, errW_some] <;> rfl) | (simp [*, errW_none, errW_some] <;> rfl), by repeat (first | (with_reducible first | exact HB.out | apply below_alloc | apply pw_below_drewN | apply below_drew1) | exact HB.out)⟩
                · rw [if_neg c26] at H
                  have c26b0 : decide (a1 ≤ a2) = false := decide_eq_false c26
                  clear c26
                  by_cases c36 : ((t296 == 0) == (a1 == 0)) = true
                  · rw [if_pos c36] at H
                    have c36b0 : ((t296 == 0) == (a1 == 0)) = true := c36
                    (try (have c36b1 : decide ((t296 == 0) = (a1 == 0)) = true := by simpa using c36))
                    (try (have c36b2 : ((t296 == 0) == (a1 == 0)) = true := by simpa using c36))
                    clear c36
                    replace H := Option.bind_eq_some_iff.mp H
                    obtain ⟨t300, A370, H⟩ := H
                    replace H : (some t300) = some r := H
                    have A37 := Aside0.mk A370
                    clear A370
                    obtain rfl := Option.some.inj H
                    go_wp2_with (first | ((with_reducible refine gate_callee (f := 14) rfl ?_); refine goesL_ (some 70) rfl rfl Try.func14 (by kernel_rfl) rfl #[.int .i64 a1] rfl (by (try simp only [List.map_toArray, List.map_cons, List.map_nil]); first | done | rfl | (simp only [List.length_drop, List.length_take]; rfl)) ?_; (with_reducible refine (spring_Price.calls kj16 a1 t296 _ A23.out).mono ?_); rintro e w' ⟨rfl, ⟨nd, rfl⟩⟩; refine ⟨_, rfl, ?_⟩) | ((with_reducible refine gate_callee (f := 14) rfl ?_); refine goesL_ (some 72) rfl rfl Try.func14 (by kernel_rfl) rfl #[.int .i64 a2] rfl (by (try simp only [List.map_toArray, List.map_cons, List.map_nil]); first | done | rfl | (simp only [List.length_drop, List.length_take]; rfl)) ?_; (with_reducible refine (spring_Price.calls kj16 a2 t297 _ A24.out).mono ?_); rintro e w' ⟨rfl, ⟨nd, rfl⟩⟩; refine ⟨_, rfl, ?_⟩) | (go_at_call 6; (with_reducible refine (neumelaw28_heads.calls kj16  t300 _ A37.out).mono ?_); rintro e w38 ⟨rfl, hb⟩; have n0_ := Aside0.mk (below_step (by repeat (first | (with_reducible first | exact HB.out | apply below_alloc | apply pw_below_drewN | apply below_drew1) | exact HB.out)) hb); clear HB; have HB := n0_; clear n0_; (try clear hb); (try clear hb2); (try clear hk); (try clear hi)))
                    go_ret
                    exact ⟨by first | rfl | (simp [errW_none, errW_some] <;> rfl) | (simp [*, errW_none, errW_some] <;> rfl), by repeat (first | (with_reducible first | exact HB.out | apply below_alloc | apply pw_below_drewN | apply below_drew1) | exact HB.out)⟩
                  · rw [if_neg c36] at H
                    have c36b0 : ((t296 == 0) == (a1 == 0)) = false := by simpa using c36
                    (try (have c36b1 : decide ((t296 == 0) = (a1 == 0)) = false := by simpa using c36))
                    (try (have c36b2 : ((t296 == 0) == (a1 == 0)) = false := by simpa using c36))
                    (try (have c36b3 : ¬ ((t296 == 0) = (a1 == 0)) := by simpa using c36))
                    clear c36
                    obtain rfl := Option.some.inj H
                    go_wp2_with (first | ((with_reducible refine gate_callee (f := 14) rfl ?_); refine goesL_ (some 70) rfl rfl Try.func14 (by kernel_rfl) rfl #[.int .i64 a1] rfl (by (try simp only [List.map_toArray, List.map_cons, List.map_nil]); first | done | rfl | (simp only [List.length_drop, List.length_take]; rfl)) ?_; (with_reducible refine (spring_Price.calls kj16 a1 t296 _ A23.out).mono ?_); rintro e w' ⟨rfl, ⟨nd, rfl⟩⟩; refine ⟨_, rfl, ?_⟩) | ((with_reducible refine gate_callee (f := 14) rfl ?_); refine goesL_ (some 72) rfl rfl Try.func14 (by kernel_rfl) rfl #[.int .i64 a2] rfl (by (try simp only [List.map_toArray, List.map_cons, List.map_nil]); first | done | rfl | (simp only [List.length_drop, List.length_take]; rfl)) ?_; (with_reducible refine (spring_Price.calls kj16 a2 t297 _ A24.out).mono ?_); rintro e w' ⟨rfl, ⟨nd, rfl⟩⟩; refine ⟨_, rfl, ?_⟩))
                    go_ret
                    exact ⟨by first | rfl | (simp [errW_none, errW_some] <;> rfl) | (simp [*, errW_none, errW_some] <;> rfl), by repeat (first | (with_reducible first | exact HB.out | apply below_alloc | apply pw_below_drewN | apply below_drew1) | exact HB.out)⟩
              · rw [if_neg c25] at H
                have c25b0 : decide (0 ≤ a1) = false := decide_eq_false c25
                clear c25
                by_cases c39 : a1 ≤ a2
                · rw [if_pos c39] at H
                  have c39b0 : decide (a1 ≤ a2) = true := decide_eq_true c39
                  clear c39
                  by_cases c40 : a2 ≤ 0
                  · rw [if_pos c40] at H
                    have c40b0 : decide (a2 ≤ 0) = true := decide_eq_true c40
                    clear c40
                    by_cases c41 : t296 < t297
                    · rw [if_pos c41] at H
                      have c41b0 : decide (t296 < t297) = true := decide_eq_true c41
                      clear c41
                      obtain rfl := Option.some.inj H
                      go_wp2_with (first | ((with_reducible refine gate_callee (f := 14) rfl ?_); refine goesL_ (some 70) rfl rfl Try.func14 (by kernel_rfl) rfl #[.int .i64 a1] rfl (by (try simp only [List.map_toArray, List.map_cons, List.map_nil]); first | done | rfl | (simp only [List.length_drop, List.length_take]; rfl)) ?_; (with_reducible refine (spring_Price.calls kj16 a1 t296 _ A23.out).mono ?_); rintro e w' ⟨rfl, ⟨nd, rfl⟩⟩; refine ⟨_, rfl, ?_⟩) | ((with_reducible refine gate_callee (f := 14) rfl ?_); refine goesL_ (some 72) rfl rfl Try.func14 (by kernel_rfl) rfl #[.int .i64 a2] rfl (by (try simp only [List.map_toArray, List.map_cons, List.map_nil]); first | done | rfl | (simp only [List.length_drop, List.length_take]; rfl)) ?_; (with_reducible refine (spring_Price.calls kj16 a2 t297 _ A24.out).mono ?_); rintro e w' ⟨rfl, ⟨nd, rfl⟩⟩; refine ⟨_, rfl, ?_⟩))
                      go_ret
                      exact ⟨by first | rfl | (simp [errW_none, errW_some] <;> rfl) | (simp [*, errW_none, errW_some] <;> rfl), by repeat (first | (with_reducible first | exact HB.out | apply below_alloc | apply pw_below_drewN | apply below_drew1) | exact HB.out)⟩
                    · rw [if_neg c41] at H
                      have c41b0 : decide (t296 < t297) = false := decide_eq_false c41
                      clear c41
                      by_cases c42 : ((t296 == 0) == (a1 == 0)) = true
                      · rw [if_pos c42] at H
                        have c42b0 : ((t296 == 0) == (a1 == 0)) = true := c42
                        (try (have c42b1 : decide ((t296 == 0) = (a1 == 0)) = true := by simpa using c42))
                        (try (have c42b2 : ((t296 == 0) == (a1 == 0)) = true := by simpa using c42))
                        clear c42
                        replace H := Option.bind_eq_some_iff.mp H
                        obtain ⟨t301, A430, H⟩ := H
                        replace H : (some t301) = some r := H
                        have A43 := Aside0.mk A430
                        clear A430
                        obtain rfl := Option.some.inj H
                        go_wp2_with (first | ((with_reducible refine gate_callee (f := 14) rfl ?_); refine goesL_ (some 70) rfl rfl Try.func14 (by kernel_rfl) rfl #[.int .i64 a1] rfl (by (try simp only [List.map_toArray, List.map_cons, List.map_nil]); first | done | rfl | (simp only [List.length_drop, List.length_take]; rfl)) ?_; (with_reducible refine (spring_Price.calls kj16 a1 t296 _ A23.out).mono ?_); rintro e w' ⟨rfl, ⟨nd, rfl⟩⟩; refine ⟨_, rfl, ?_⟩) | ((with_reducible refine gate_callee (f := 14) rfl ?_); refine goesL_ (some 72) rfl rfl Try.func14 (by kernel_rfl) rfl #[.int .i64 a2] rfl (by (try simp only [List.map_toArray, List.map_cons, List.map_nil]); first | done | rfl | (simp only [List.length_drop, List.length_take]; rfl)) ?_; (with_reducible refine (spring_Price.calls kj16 a2 t297 _ A24.out).mono ?_); rintro e w' ⟨rfl, ⟨nd, rfl⟩⟩; refine ⟨_, rfl, ?_⟩) | (go_at_call 6; (with_reducible refine (neumelaw28_heads.calls kj16  t301 _ A43.out).mono ?_); rintro e w44 ⟨rfl, hb⟩; have n0_ := Aside0.mk (below_step (by repeat (first | (with_reducible first | exact HB.out | apply below_alloc | apply pw_below_drewN | apply below_drew1) | exact HB.out)) hb); clear HB; have HB := n0_; clear n0_; (try clear hb); (try clear hb2); (try clear hk); (try clear hi)))
                        go_ret
                        exact ⟨by first | rfl | (simp [errW_none, errW_some] <;> rfl) | (simp [*, errW_none, errW_some] <;> rfl), by repeat (first | (with_reducible first | exact HB.out | apply below_alloc | apply pw_below_drewN | apply below_drew1) | exact HB.out)⟩
                      · rw [if_neg c42] at H
                        have c42b0 : ((t296 == 0) == (a1 == 0)) = false := by simpa using c42
                        (try (have c42b1 : decide ((t296 == 0) = (a1 == 0)) = false := by simpa using c42))
                        (try (have c42b2 : ((t296 == 0) == (a1 == 0)) = false := by simpa using c42))
                        (try (have c42b3 : ¬ ((t296 == 0) = (a1 == 0)) := by simpa using c42))
                        clear c42
                        obtain rfl := Option.some.inj H
                        go_wp2_with (first | ((with_reducible refine gate_callee (f := 14) rfl ?_); refine goesL_ (some 70) rfl rfl Try.func14 (by kernel_rfl) rfl #[.int .i64 a1] rfl (by (try simp only [List.map_toArray, List.map_cons, List.map_nil]); first | done | rfl | (simp only [List.length_drop, List.length_take]; rfl)) ?_; (with_reducible refine (spring_Price.calls kj16 a1 t296 _ A23.out).mono ?_); rintro e w' ⟨rfl, ⟨nd, rfl⟩⟩; refine ⟨_, rfl, ?_⟩) | ((with_reducible refine gate_callee (f := 14) rfl ?_); refine goesL_ (some 72) rfl rfl Try.func14 (by kernel_rfl) rfl #[.int .i64 a2] rfl (by (try simp only [List.map_toArray, List.map_cons, List.map_nil]); first | done | rfl | (simp only [List.length_drop, List.length_take]; rfl)) ?_; (with_reducible refine (spring_Price.calls kj16 a2 t297 _ A24.out).mono ?_); rintro e w' ⟨rfl, ⟨nd, rfl⟩⟩; refine ⟨_, rfl, ?_⟩))
                        go_ret
                        exact ⟨by first | rfl | (simp [errW_none, errW_some] <;> rfl) | (simp [*, errW_none, errW_some] <;> rfl), by repeat (first | (with_reducible first | exact HB.out | apply below_alloc | apply pw_below_drewN | apply below_drew1) | exact HB.out)⟩
                  · rw [if_neg c40] at H
                    have c40b0 : decide (a2 ≤ 0) = false := decide_eq_false c40
                    clear c40
                    by_cases c45 : ((t296 == 0) == (a1 == 0)) = true
                    · rw [if_pos c45] at H
                      have c45b0 : ((t296 == 0) == (a1 == 0)) = true := c45
                      (try (have c45b1 : decide ((t296 == 0) = (a1 == 0)) = true := by simpa using c45))
                      (try (have c45b2 : ((t296 == 0) == (a1 == 0)) = true := by simpa using c45))
                      clear c45
                      replace H := Option.bind_eq_some_iff.mp H
                      obtain ⟨t302, A460, H⟩ := H
                      replace H : (some t302) = some r := H
                      have A46 := Aside0.mk A460
                      clear A460
                      obtain rfl := Option.some.inj H
                      go_wp2_with (first | ((with_reducible refine gate_callee (f := 14) rfl ?_); refine goesL_ (some 70) rfl rfl Try.func14 (by kernel_rfl) rfl #[.int .i64 a1] rfl (by (try simp only [List.map_toArray, List.map_cons, List.map_nil]); first | done | rfl | (simp only [List.length_drop, List.length_take]; rfl)) ?_; (with_reducible refine (spring_Price.calls kj16 a1 t296 _ A23.out).mono ?_); rintro e w' ⟨rfl, ⟨nd, rfl⟩⟩; refine ⟨_, rfl, ?_⟩) | ((with_reducible refine gate_callee (f := 14) rfl ?_); refine goesL_ (some 72) rfl rfl Try.func14 (by kernel_rfl) rfl #[.int .i64 a2] rfl (by (try simp only [List.map_toArray, List.map_cons, List.map_nil]); first | done | rfl | (simp only [List.length_drop, List.length_take]; rfl)) ?_; (with_reducible refine (spring_Price.calls kj16 a2 t297 _ A24.out).mono ?_); rintro e w' ⟨rfl, ⟨nd, rfl⟩⟩; refine ⟨_, rfl, ?_⟩) | (go_at_call 6; (with_reducible refine (neumelaw28_heads.calls kj16  t302 _ A46.out).mono ?_); rintro e w47 ⟨rfl, hb⟩; have n0_ := Aside0.mk (below_step (by repeat (first | (with_reducible first | exact HB.out | apply below_alloc | apply pw_below_drewN | apply below_drew1) | exact HB.out)) hb); clear HB; have HB := n0_; clear n0_; (try clear hb); (try clear hb2); (try clear hk); (try clear hi)))
                      go_ret
                      exact ⟨by first | rfl | (simp [errW_none, errW_some] <;> rfl) | (simp [*, errW_none, errW_some] <;> rfl), by repeat (first | (with_reducible first | exact HB.out | apply below_alloc | apply pw_below_drewN | apply below_drew1) | exact HB.out)⟩
                    · rw [if_neg c45] at H
                      have c45b0 : ((t296 == 0) == (a1 == 0)) = false := by simpa using c45
                      (try (have c45b1 : decide ((t296 == 0) = (a1 == 0)) = false := by simpa using c45))
                      (try (have c45b2 : ((t296 == 0) == (a1 == 0)) = false := by simpa using c45))
                      (try (have c45b3 : ¬ ((t296 == 0) = (a1 == 0)) := by simpa using c45))
                      clear c45
                      obtain rfl := Option.some.inj H
                      go_wp2_with (first | ((with_reducible refine gate_callee (f := 14) rfl ?_); refine goesL_ (some 70) rfl rfl Try.func14 (by kernel_rfl) rfl #[.int .i64 a1] rfl (by (try simp only [List.map_toArray, List.map_cons, List.map_nil]); first | done | rfl | (simp only [List.length_drop, List.length_take]; rfl)) ?_; (with_reducible refine (spring_Price.calls kj16 a1 t296 _ A23.out).mono ?_); rintro e w' ⟨rfl, ⟨nd, rfl⟩⟩; refine ⟨_, rfl, ?_⟩) | ((with_reducible refine gate_callee (f := 14) rfl ?_); refine goesL_ (some 72) rfl rfl Try.func14 (by kernel_rfl) rfl #[.int .i64 a2] rfl (by (try simp only [List.map_toArray, List.map_cons, List.map_nil]); first | done | rfl | (simp only [List.length_drop, List.length_take]; rfl)) ?_; (with_reducible refine (spring_Price.calls kj16 a2 t297 _ A24.out).mono ?_); rintro e w' ⟨rfl, ⟨nd, rfl⟩⟩; refine ⟨_, rfl, ?_⟩))
                      go_ret
                      exact ⟨by first | rfl | (simp [errW_none, errW_some] <;> rfl) | (simp [*, errW_none, errW_some] <;> rfl), by repeat (first | (with_reducible first | exact HB.out | apply below_alloc | apply pw_below_drewN | apply below_drew1) | exact HB.out)⟩
                · rw [if_neg c39] at H
                  have c39b0 : decide (a1 ≤ a2) = false := decide_eq_false c39
                  clear c39
                  by_cases c48 : ((t296 == 0) == (a1 == 0)) = true
                  · rw [if_pos c48] at H
                    have c48b0 : ((t296 == 0) == (a1 == 0)) = true := c48
                    (try (have c48b1 : decide ((t296 == 0) = (a1 == 0)) = true := by simpa using c48))
                    (try (have c48b2 : ((t296 == 0) == (a1 == 0)) = true := by simpa using c48))
                    clear c48
                    replace H := Option.bind_eq_some_iff.mp H
                    obtain ⟨t303, A490, H⟩ := H
                    replace H : (some t303) = some r := H
                    have A49 := Aside0.mk A490
                    clear A490
                    obtain rfl := Option.some.inj H
                    go_wp2_with (first | ((with_reducible refine gate_callee (f := 14) rfl ?_); refine goesL_ (some 70) rfl rfl Try.func14 (by kernel_rfl) rfl #[.int .i64 a1] rfl (by (try simp only [List.map_toArray, List.map_cons, List.map_nil]); first | done | rfl | (simp only [List.length_drop, List.length_take]; rfl)) ?_; (with_reducible refine (spring_Price.calls kj16 a1 t296 _ A23.out).mono ?_); rintro e w' ⟨rfl, ⟨nd, rfl⟩⟩; refine ⟨_, rfl, ?_⟩) | ((with_reducible refine gate_callee (f := 14) rfl ?_); refine goesL_ (some 72) rfl rfl Try.func14 (by kernel_rfl) rfl #[.int .i64 a2] rfl (by (try simp only [List.map_toArray, List.map_cons, List.map_nil]); first | done | rfl | (simp only [List.length_drop, List.length_take]; rfl)) ?_; (with_reducible refine (spring_Price.calls kj16 a2 t297 _ A24.out).mono ?_); rintro e w' ⟨rfl, ⟨nd, rfl⟩⟩; refine ⟨_, rfl, ?_⟩) | (go_at_call 6; (with_reducible refine (neumelaw28_heads.calls kj16  t303 _ A49.out).mono ?_); rintro e w50 ⟨rfl, hb⟩; have n0_ := Aside0.mk (below_step (by repeat (first | (with_reducible first | exact HB.out | apply below_alloc | apply pw_below_drewN | apply below_drew1) | exact HB.out)) hb); clear HB; have HB := n0_; clear n0_; (try clear hb); (try clear hb2); (try clear hk); (try clear hi)))
                    go_ret
                    exact ⟨by first | rfl | (simp [errW_none, errW_some] <;> rfl) | (simp [*, errW_none, errW_some] <;> rfl), by repeat (first | (with_reducible first | exact HB.out | apply below_alloc | apply pw_below_drewN | apply below_drew1) | exact HB.out)⟩
                  · rw [if_neg c48] at H
                    have c48b0 : ((t296 == 0) == (a1 == 0)) = false := by simpa using c48
                    (try (have c48b1 : decide ((t296 == 0) = (a1 == 0)) = false := by simpa using c48))
                    (try (have c48b2 : ((t296 == 0) == (a1 == 0)) = false := by simpa using c48))
                    (try (have c48b3 : ¬ ((t296 == 0) = (a1 == 0)) := by simpa using c48))
                    clear c48
                    obtain rfl := Option.some.inj H
                    go_wp2_with (first | ((with_reducible refine gate_callee (f := 14) rfl ?_); refine goesL_ (some 70) rfl rfl Try.func14 (by kernel_rfl) rfl #[.int .i64 a1] rfl (by (try simp only [List.map_toArray, List.map_cons, List.map_nil]); first | done | rfl | (simp only [List.length_drop, List.length_take]; rfl)) ?_; (with_reducible refine (spring_Price.calls kj16 a1 t296 _ A23.out).mono ?_); rintro e w' ⟨rfl, ⟨nd, rfl⟩⟩; refine ⟨_, rfl, ?_⟩) | ((with_reducible refine gate_callee (f := 14) rfl ?_); refine goesL_ (some 72) rfl rfl Try.func14 (by kernel_rfl) rfl #[.int .i64 a2] rfl (by (try simp only [List.map_toArray, List.map_cons, List.map_nil]); first | done | rfl | (simp only [List.length_drop, List.length_take]; rfl)) ?_; (with_reducible refine (spring_Price.calls kj16 a2 t297 _ A24.out).mono ?_); rintro e w' ⟨rfl, ⟨nd, rfl⟩⟩; refine ⟨_, rfl, ?_⟩))
                    go_ret
                    exact ⟨by first | rfl | (simp [errW_none, errW_some] <;> rfl) | (simp [*, errW_none, errW_some] <;> rfl), by repeat (first | (with_reducible first | exact HB.out | apply below_alloc | apply pw_below_drewN | apply below_drew1) | exact HB.out)⟩

/-- THE ONE PURE STATEMENT of neumelaw28_SpringForce: yours. -/
def neumelaw28_SpringForce.Pure : Prop := ∀ (a0 : Int) (a1 : Int) (a2 : Int), (Lit.int .i64 a0).wf = true → (Lit.int .i64 a1).wf = true → (Lit.int .i64 a2).wf = true → ∃ k, neumelaw28_SpringForce.f k a0 a1 a2 = some true
theorem neumelaw28_SpringForce.walk (P : neumelaw28_SpringForce.Pure) (a0 : Int) (a1 : Int) (a2 : Int) (w : World) (w0 : (Lit.int .i64 a0).wf = true) (w1 : (Lit.int .i64 a1).wf = true) (w2 : (Lit.int .i64 a2).wf = true) :
    Calls Try.prog 5 #[.int .i64 a0, .int .i64 a1, .int .i64 a2] w fun e w' => e = .returned (.bool true) ∧ Below w.heap.size w w' := by
  obtain ⟨k, h⟩ := P a0 a1 a2 w0 w1 w2
  refine (neumelaw28_SpringForce.calls k a0 a1 a2 true w h).mono ?_
  rintro e w' ⟨rfl, hd⟩
  exact ⟨rfl, hd⟩

end Go.Proofs.Ytcbeibmoblgaeaa.P
