/- Meters and beats: the document's functions beside the program's. -/
import Derived.Test.YtdiccfonlojlfaaGreatDoorPx18
import Derived.Test.YtdiccfonlojlfaaGreatDoorPx19
import Derived.Test.YtdiccfonlojlfaaGreatDoorPx7
import Derived.Test.YtdiccfonlojlfaaGreatDoorPx9
import Derived.Test.YtdiccfonlojlfaaGreatDoorDurMeter
import Derived.Test.YtdiccfonlojlfaaGreatDoorRatARef
import Derived.Test.YtdiccfonlojlfaaGreatDoorRatBRef
namespace Go.Proofs.YtdiccfonlojlfaaGreatDoor.Rp
open Go.RowKit Go.Proofs.YtdiccfonlojlfaaGreatDoor.P Go.Proofs.YtdiccfonlojlfaaGreatDoorW.PrintWords Go.Proofs.YtdiccfonlojlfaaGreatDoorW.PrintLast Go.Proofs.YtdiccfonlojlfaaGreatDoorW.PrintMore
set_option linter.unusedVariables false
set_option linter.unusedSimpArgs false
set_option linter.unusedSectionVars false

theorem rmeter_eq (a b : Int) : neumeref07_Meter.f a b = some (decide (okM a b)) := by
  unfold neumeref07_Meter.f
  by_cases h1 : a ≥ 1
  · rw [if_pos h1]
    by_cases h2 : a ≤ 32
    · rw [if_pos h2]
      have yes : (b = 1 ∨ b = 2 ∨ b = 4 ∨ b = 8 ∨ b = 16 ∨ b = 32) → decide (okM a b) = true := fun q => decide_eq_true ⟨⟨h1, h2⟩, q⟩
      by_cases e1 : b = 1
      · rw [if_pos e1, yes (by omega)]
      rw [if_neg e1]
      by_cases e2 : b = 2
      · rw [if_pos e2, yes (by omega)]
      rw [if_neg e2]
      by_cases e3 : b = 4
      · rw [if_pos e3, yes (by omega)]
      rw [if_neg e3]
      by_cases e4 : b = 8
      · rw [if_pos e4, yes (by omega)]
      rw [if_neg e4]
      by_cases e5 : b = 16
      · rw [if_pos e5, yes (by omega)]
      rw [if_neg e5]
      by_cases e6 : b = 32
      · rw [yes (by omega), e6]; rfl
      · rw [decide_eq_false (fun q => by have := q.2; omega)]
        congr 1
        exact beq_eq_false_iff_ne.2 e6
    · rw [if_neg h2, decide_eq_false (fun q => h2 q.1.2)]
  · rw [if_neg h1, decide_eq_false (fun q => h1 q.1.1)]
theorem rat_ext {p q : S25} (h : p.f0 = q.f0 ∧ p.f1 = q.f1) : p = q := by cases p; cases q; simp only at h; rw [h.1, h.2]
instance : DecidableEq S25 := fun p q => decidable_of_iff (p.f0 = q.f0 ∧ p.f1 = q.f1) ⟨rat_ext, fun h => by rw [h]; exact ⟨rfl, rfl⟩⟩
theorem rm_tab {a b : Int} (h : okM a b) : neumeref07_Beats.f 80 a b = dur_Beats.f 80 a b ∧ neumeref07_Bar.f 80 a b = dur_Bar.f 80 a b := by
  have t := all192 (p := fun a b => decide (neumeref07_Beats.f 80 a b = dur_Beats.f 80 a b) && decide (neumeref07_Bar.f 80 a b = dur_Bar.f 80 a b)) (by decide +kernel) h
  rw [Bool.and_eq_true, decide_eq_true_eq, decide_eq_true_eq] at t
  exact t
theorem rbeats_ev (a b : Int) : Ev (fun k => neumeref07_Beats.f k a b) (if okM a b then (blM a b, 0) else ([], 2)) := by
  by_cases h : okM a b
  · rw [if_pos h]
    exact Ev.of (neumeref07_Beats.mono a b) ((rm_tab h).1.trans (m_tab h).1)
  · rw [if_neg h]
    unfold neumeref07_Beats.f
    refine Ev.bindc (rmeter_eq a b) ?_
    rw [decide_eq_false h]
    exact Ev.neg (by decide) (Ev.now _)
theorem rbar_ev (a b : Int) : Ev (fun k => neumeref07_Bar.f k a b) (if okM a b then ((brM a b).1, (brM a b).2, 0) else (0, 0, 2)) := by
  by_cases h : okM a b
  · rw [if_pos h]
    exact Ev.of (neumeref07_Bar.mono a b) ((rm_tab h).2.trans (m_tab h).2.1)
  · rw [if_neg h]
    unfold neumeref07_Bar.f
    refine Ev.bindc (rmeter_eq a b) ?_
    rw [decide_eq_false h]
    exact Ev.neg (by decide) (Ev.now _)
section
variable {a b x y : Int} (h : okM a b) (hx : Ok x y) (x0 : 0 ≤ x) (hlt : rcmp x y (brM a b).1 (brM a b).2 < 0)
include h hx x0 hlt
theorem le_iff (i : Int) (i0 : 0 ≤ i) (i1 : i < ((blM a b).length : Int)) : rcmp (rd_T25 (blM a b) i).f0 (rd_T25 (blM a b) i).f1 x y ≤ 0 ↔ i ≤ nBeat a b x y := by
  have c := b_cmp h hx x0 hlt i i0 i1
  have bd := nb_bd h hx x0 hlt
  have s := st_bd a b
  have y0 := hx.1
  have sy : 0 < stM a b * y := Int.mul_pos (by omega) (by omega)
  have mono : ∀ i j : Int, i ≤ j → i * stM a b * y ≤ j * stM a b * y := fun i j q => by
    rw [Int.mul_assoc, Int.mul_assoc]
    exact Int.mul_le_mul_of_nonneg_right q (Int.le_of_lt sy)
  constructor
  · intro w
    have w' : i * stM a b * y ≤ x * b := by
      rcases Int.lt_or_eq_of_le w with u | u
      · have := c.1.1 u; omega
      · have := c.2.1.1 u; omega
    rcases Int.lt_or_le (nBeat a b x y) i with u | u
    · have := mono (nBeat a b x y + 1) i u
      omega
    · exact u
  · intro w
    have := mono i _ w
    rcases Int.lt_or_eq_of_le (show i * stM a b * y ≤ x * b by omega) with u | u
    · exact Int.le_of_lt (c.1.2 u)
    · exact Int.le_of_eq (c.2.1.2 u)
theorem scan_ev (wx : -9223372036854775808 ≤ x ∧ x ≤ 9223372036854775807) : ∀ (n : Nat) (i c : Int), 0 ≤ i → i + n = ((blM a b).length : Int) → c = (if i = 0 then 0 else if i - 1 ≤ nBeat a b x y then i - 1 else nBeat a b x y) → Ev (fun k => neumeref07_Beat.l0 k (blM a b) c i x y) (nBeat a b x y, 0) := by
  have bd := nb_bd h hx x0 hlt
  have ln := len_bd h
  intro n
  induction n with
  | zero =>
    intro i c i0 hi hc
    refine Ev.succ ?_
    simp only [neumeref07_Beat.l0]
    refine Ev.neg (by omega) ?_
    rw [if_neg (by omega)] at hc
    split at hc <;> (rw [show c = nBeat a b x y by omega]; exact Ev.now _)
  | succ n ih =>
    intro i c i0 hi hc
    refine Ev.succ ?_
    simp only [neumeref07_Beat.l0]
    have li := le_iff h hx x0 hlt i i0 (by omega)
    have ob := (b_cmp h hx x0 hlt i i0 (by omega)).2.2.2
    unfold Ok at ob
    refine Ev.pos (by omega) (Ev.pos i0 (Ev.bind (cmp2_ev _ _ x y (by omega) wx) ?_))
    rw [wrap_id (x := i + 1) (by omega) (by omega)]
    by_cases w : i ≤ nBeat a b x y
    · exact Ev.pos (li.2 w) (ih (i + 1) i (by omega) (by omega) (by rw [if_neg (by omega), if_pos (by omega)]; omega))
    · refine Ev.neg (fun q => w (li.1 q)) (ih (i + 1) c (by omega) (by omega) ?_)
      rw [if_neg (show ¬ i + 1 = 0 by omega), if_neg (by omega)]
      rw [if_neg (by omega)] at hc
      split at hc <;> omega
end
theorem rbeat_ev (a b x y : Int) (wx : -9223372036854775808 ≤ x ∧ x ≤ 9223372036854775807) : Ev (fun k => neumeref07_Beat.f k a b x y) (beatV a b x y) := by
  have no : ∀ l, ∀ p : Prop, ∀ _ : Decidable p, ¬ p → Ev (fun k => neumeref07_Beat.j0 k l true x y) (if p then (nBeat a b x y, 0) else (0, 2)) := by
    intro l p _ hp
    rw [if_neg hp]
    refine Ev.succ ?_
    simp only [neumeref07_Beat.j0]
    exact Ev.pos trivial (Ev.now _)
  unfold neumeref07_Beat.f beatV
  refine Ev.bind (rbeats_ev a b) (Ev.bind (rbar_ev a b) ?_)
  by_cases h : okM a b
  · rw [if_pos h, if_pos h]
    refine Ev.pos rfl (Ev.bind (check2_ev x y wx) ?_)
    by_cases hx : Ok x y
    · rw [decide_eq_true hx]
      refine Ev.pos rfl ?_
      by_cases x0 : x < 0
      · exact Ev.pos x0 (no _ _ _ (fun q => by omega))
      · refine Ev.neg x0 (Ev.bind (cmp2_ev x y _ _ wx (by have := (m_tab h).2.2.1.1; unfold Ok at this; omega)) ?_)
        show Ev (fun k => neumeref07_Beat.j0 k (blM a b) (decide (rcmp x y (brM a b).1 (brM a b).2 ≥ 0)) x y) _
        by_cases hlt : rcmp x y (brM a b).1 (brM a b).2 < 0
        · rw [if_pos ⟨h, hx, by omega, hlt⟩, decide_eq_false (by omega)]
          refine Ev.succ ?_
          simp only [neumeref07_Beat.j0]
          exact Ev.neg (by decide) (scan_ev h hx (by omega) hlt wx (blM a b).length 0 0 (by omega) (by omega) (by rw [if_pos rfl]))
        · rw [decide_eq_true (by omega)]
          exact no _ _ _ (fun q => hlt q.2.2.2)
    · rw [decide_eq_false hx]
      exact Ev.neg (by decide) (no _ _ _ (fun q => hx q.2.1))
  · rw [if_neg h, if_neg h]
    exact Ev.neg (by decide) (no _ _ _ (fun q => h q.1))
theorem rats_same (L : List S25) (hL : L.length ≤ 1000) : Ev (fun k => neumeref07_Rats.f k L L) true := by
  have loop : ∀ (n i : Nat), i + n = L.length → Ev (fun k => neumeref07_Rats.l0 k L L (i : Int)) true := by
    intro n
    induction n with
    | zero =>
      intro i hi
      refine Ev.succ ?_
      simp only [neumeref07_Rats.l0]
      exact Ev.neg (by omega) (Ev.now _)
    | succ n ih =>
      intro i hi
      refine Ev.succ ?_
      simp only [neumeref07_Rats.l0]
      refine Ev.pos (by omega) (Ev.pos (by omega) (Ev.pos (by omega) (Ev.neg (by simp) ?_)))
      rw [wrap_id (x := (i : Int) + 1) (by omega) (by omega)]
      exact ih (i + 1) (by omega)
  unfold neumeref07_Rats.f
  exact Ev.pos rfl (loop L.length 0 (by omega))
end Go.Proofs.YtdiccfonlojlfaaGreatDoor.Rp