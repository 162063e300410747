/- Meters, and which beat a time is in: what the program's functions tell, by numbers alone. -/
import Derived.Test.YtdiccfonlojlfaaGreatDoorPx3
import Derived.Test.YtdiccfonlojlfaaGreatDoorPx6
import Derived.Test.YtdiccfonlojlfaaGreatDoorPx7
import Derived.Test.YtdiccfonlojlfaaGreatDoorPx8
import Derived.Test.YtdiccfonlojlfaaGreatDoorPx9
import Derived.Test.YtdiccfonlojlfaaGreatDoorDurPlain
import Derived.Test.YtdiccfonlojlfaaGreatDoorRatSum
namespace Go.Proofs.YtdiccfonlojlfaaGreatDoor.Rp
open Go.RowKit Go.Proofs.YtdiccfonlojlfaaGreatDoor.P Go.Proofs.YtdiccfonlojlfaaGreatDoorW.PrintWords Go.Proofs.YtdiccfonlojlfaaGreatDoorW.PrintLast Go.Proofs.YtdiccfonlojlfaaGreatDoorW.PrintMore
set_option linter.unusedVariables false
set_option linter.unusedSimpArgs false
set_option linter.unusedSectionVars false

def okM (a b : Int) : Prop := (1 ≤ a ∧ a ≤ 32) ∧ (b = 1 ∨ b = 2 ∨ b = 4 ∨ b = 8 ∨ b = 16 ∨ b = 32)
instance (a b : Int) : Decidable (okM a b) := by unfold okM; infer_instance
theorem pow_tab : ((List.range 32).all fun (n : Nat) => decide (Go.bits .and .i64 ((n : Int) + 1) (wrap64 ((n : Int) + 1 - 1)) = 0 ↔ ((n : Int) + 1 = 1 ∨ (n : Int) + 1 = 2 ∨ (n : Int) + 1 = 4 ∨ (n : Int) + 1 = 8 ∨ (n : Int) + 1 = 16 ∨ (n : Int) + 1 = 32))) = true := by decide +kernel
theorem pow_iff {b : Int} (h1 : b ≥ 1) (h2 : b ≤ 32) : Go.bits .and .i64 b (wrap64 (b - 1)) = 0 ↔ (b = 1 ∨ b = 2 ∨ b = 4 ∨ b = 8 ∨ b = 16 ∨ b = 32) := by
  have t := of_decide_eq_true (List.all_eq_true.1 pow_tab (b - 1).toNat (List.mem_range.2 (by omega)))
  rw [show (((b - 1).toNat : Nat) : Int) + 1 = b by omega] at t
  exact t
theorem meter_eq (a b : Int) : dur_Meter.f a b = some (decide (okM a b)) := by
  unfold dur_Meter.f
  by_cases h1 : b ≥ 1
  · rw [if_pos h1]
    by_cases h2 : b ≤ 32
    · rw [if_pos h2]
      by_cases h3 : Go.bits .and .i64 b (wrap64 (b - 1)) = 0
      · rw [if_pos h3]
        have h3' := (pow_iff h1 h2).1 h3
        by_cases h4 : a ≥ 1
        · rw [if_pos h4]; congr 1; apply decide_eq_decide.2; exact ⟨fun q => ⟨⟨h4, q⟩, h3'⟩, fun q => q.1.2⟩
        · rw [if_neg h4, decide_eq_false (fun q => h4 q.1.1)]
      · rw [if_neg h3, decide_eq_false (fun q => h3 ((pow_iff h1 h2).2 q.2))]
    · rw [if_neg h2, decide_eq_false (fun q => h2 (by have := q.2; omega))]
  · rw [if_neg h1, decide_eq_false (fun q => h1 (by have := q.2; omega))]
/-- p/q is n/d. -/
def isQ (p q n d : Int) : Prop := Ok p q ∧ p * d = n * q
instance (p q n d : Int) : Decidable (isQ p q n d) := by unfold isQ; infer_instance
def stM (a b : Int) : Int := if 8 ≤ b ∧ 3 < a ∧ a % 3 = 0 then 3 else 1
/-- The beats, and the bar, of a meter that may be. -/
def blM (a b : Int) : List S25 := ((dur_Beats.f 80 a b).getD ([], 0)).1
def brM (a b : Int) : Int × Int := (((dur_Bar.f 80 a b).getD (0, 0, 0)).1, ((dur_Bar.f 80 a b).getD (0, 0, 0)).2.1)
theorem all192 {p : Int → Int → Bool} (h : ((List.range 32).all fun (a : Nat) => ([1, 2, 4, 8, 16, 32] : List Int).all fun b => p ((a : Int) + 1) b) = true) {a b : Int} (hm : okM a b) : p a b = true := by
  obtain ⟨⟨h1, h2⟩, h3⟩ := hm
  have t := List.all_eq_true.1 h (a - 1).toNat (List.mem_range.2 (by omega))
  have t := List.all_eq_true.1 t b (by simp only [List.mem_cons, List.mem_nil_iff, or_false]; exact h3)
  rw [show (((a - 1).toNat : Nat) : Int) + 1 = a by omega] at t
  exact t
theorem m_tab {a b : Int} (h : okM a b) : dur_Beats.f 80 a b = some (blM a b, 0) ∧ dur_Bar.f 80 a b = some ((brM a b).1, (brM a b).2, 0) ∧ isQ (brM a b).1 (brM a b).2 a b ∧ ((blM a b).length : Int) * stM a b = a := by
  have t := all192 (p := fun a b => match dur_Beats.f 80 a b, dur_Bar.f 80 a b with
    | some (l, e), some (p, q, g) => decide (e = 0) && decide (g = 0) && decide (isQ p q a b) && decide ((l.length : Int) * stM a b = a)
    | _, _ => false) (by decide +kernel) h
  unfold blM brM
  cases h1 : dur_Beats.f 80 a b with
  | none => simp only [h1] at t; cases t
  | some u =>
    cases h2 : dur_Bar.f 80 a b with
    | none => simp only [h1, h2] at t; cases t
    | some v =>
      obtain ⟨l, e⟩ := u
      obtain ⟨p, q, g⟩ := v
      simp only [h1, h2, Bool.and_eq_true, decide_eq_true_eq] at t
      obtain ⟨⟨⟨rfl, rfl⟩, t3⟩, t4⟩ := t
      exact ⟨rfl, rfl, t3, t4⟩
theorem b_tab {a b : Int} (h : okM a b) (i : Nat) (hi : i < (blM a b).length) : isQ ((blM a b).getD i z25).f0 ((blM a b).getD i z25).f1 ((i : Int) * stM a b) b := by
  have t := all192 (p := fun a b => match dur_Beats.f 80 a b with
    | some (l, e) => (List.range l.length).all fun i => decide (isQ (l.getD i z25).f0 (l.getD i z25).f1 ((i : Int) * stM a b) b)
    | none => false) (by decide +kernel) h
  rw [(m_tab h).1] at t
  exact of_decide_eq_true (List.all_eq_true.1 t i (List.mem_range.2 hi))
theorem beats_ev (a b : Int) : Ev (fun k => dur_Beats.f k a b) (if okM a b then (blM a b, 0) else ([], 2)) := by
  by_cases h : okM a b
  · rw [if_pos h]
    exact Ev.of (dur_Beats.mono a b) (m_tab h).1
  · rw [if_neg h]
    unfold dur_Beats.f
    refine Ev.bindc (meter_eq a b) ?_
    rw [decide_eq_false h]
    exact Ev.bindc rfl (Ev.neg (by decide) (Ev.bindc (show dur_errno.f _ = some 2 by decide) (Ev.now _)))
theorem bar_ev (a b : Int) : Ev (fun k => dur_Bar.f k a b) (if okM a b then ((brM a b).1, (brM a b).2, 0) else (0, 0, 2)) := by
  by_cases h : okM a b
  · rw [if_pos h]
    exact Ev.of (dur_Bar.mono a b) (m_tab h).2.1
  · rw [if_neg h]
    unfold dur_Bar.f
    refine Ev.bindc (meter_eq a b) ?_
    rw [decide_eq_false h]
    exact Ev.bindc rfl (Ev.neg (by decide) (Ev.bindc (show dur_errno.f _ = some 2 by decide) (Ev.now _)))
theorem step_eq {a b : Int} (h : okM a b) : dur_step.f a b = some (stM a b) := by
  unfold dur_step.f stM
  have a0 := h.1.1
  by_cases h1 : b ≥ 8
  · rw [if_pos h1]
    by_cases h2 : a > 3
    · rw [if_pos h2, Int.tmod_eq_emod_of_nonneg (by omega)]
      by_cases h3 : a % 3 = 0
      · rw [if_pos h3, if_pos ⟨h1, h2, h3⟩]
      · rw [if_neg h3, if_neg (fun q => h3 q.2.2)]
    · rw [if_neg h2, if_neg (fun q => h2 q.2.1)]
  · rw [if_neg h1, if_neg (fun q => h1 q.1)]
theorem st_bd (a b : Int) : 1 ≤ stM a b ∧ stM a b ≤ 3 := by unfold stM; split <;> decide
/-- How two compare, the one told by a quotient. -/
theorem q_cmp {p q n d x y : Int} (h : isQ p q n d) (d0 : 0 < d) (hx : Ok x y) : (rcmp p q x y < 0 ↔ n * y < x * d) ∧ (rcmp p q x y = 0 ↔ n * y = x * d) ∧ (rcmp x y p q < 0 ↔ x * d < n * y) := by
  have q0 := h.1.1
  have y0 := hx.1
  have e1 : p * y * d = n * y * q := by
    calc p * y * d = p * d * y := by simp only [Int.mul_assoc, Int.mul_left_comm, Int.mul_comm]
      _ = n * q * y := by rw [h.2]
      _ = n * y * q := by simp only [Int.mul_assoc, Int.mul_left_comm, Int.mul_comm]
  have e2 : x * q * d = x * d * q := by simp only [Int.mul_assoc, Int.mul_left_comm, Int.mul_comm]
  have lt : p * y < x * q ↔ n * y < x * d := by
    constructor
    · intro w
      have := Int.mul_lt_mul_of_pos_right w d0
      rw [e1, e2] at this
      exact Int.lt_of_mul_lt_mul_right this (by omega)
    · intro w
      have := Int.mul_lt_mul_of_pos_right w (show 0 < q by omega)
      rw [← e1, ← e2] at this
      exact Int.lt_of_mul_lt_mul_right this (by omega)
  have gt : x * q < p * y ↔ x * d < n * y := by
    constructor
    · intro w
      have := Int.mul_lt_mul_of_pos_right w d0
      rw [e1, e2] at this
      exact Int.lt_of_mul_lt_mul_right this (by omega)
    · intro w
      have := Int.mul_lt_mul_of_pos_right w (show 0 < q by omega)
      rw [← e1, ← e2] at this
      exact Int.lt_of_mul_lt_mul_right this (by omega)
  unfold rcmp
  rw [if_pos (show Ok p q ∧ Ok x y from ⟨h.1, hx⟩), if_pos (show Ok x y ∧ Ok p q from ⟨hx, h.1⟩)]
  refine ⟨?_, ?_, ?_⟩
  · rw [← lt]; split <;> (try split) <;> omega
  · split
    · omega
    · split <;> omega
  · rw [← gt]; split <;> (try split) <;> omega
/-- Which beat. -/
def nBeat (a b x y : Int) : Int := (x * b / y) / stM a b
section
variable {a b x y : Int} (h : okM a b) (hx : Ok x y) (x0 : 0 ≤ x) (hlt : rcmp x y (brM a b).1 (brM a b).2 < 0)
include h hx x0 hlt
theorem nb_bd : 0 ≤ nBeat a b x y ∧ nBeat a b x y < ((blM a b).length : Int) ∧ nBeat a b x y * stM a b * y ≤ x * b ∧ x * b < (nBeat a b x y + 1) * stM a b * y := by
  have y0 := hx.1
  have s := st_bd a b
  have b0 : 0 < b := by have := h.2; omega
  have xb : 0 ≤ x * b := Int.mul_nonneg x0 (by omega)
  have m := m_tab h
  have lt := (q_cmp m.2.2.1 b0 hx).2.2.1 hlt
  have f1 := Int.mul_ediv_self_le (x := x * b) (k := y) (by omega)
  have f2 := Int.lt_mul_ediv_self_add (x := x * b) (k := y) (by omega)
  have g1 := Int.mul_ediv_self_le (x := x * b / y) (k := stM a b) (by omega)
  have g2 := Int.lt_mul_ediv_self_add (x := x * b / y) (k := stM a b) (by omega)
  have F0 : 0 ≤ x * b / y := Int.ediv_nonneg xb (by omega)
  unfold nBeat
  generalize hF : x * b / y = F at *
  have N0 : 0 ≤ F / stM a b := Int.ediv_nonneg F0 (by omega)
  generalize hN : F / stM a b = n at *
  have k1 : n * stM a b * y ≤ x * b := by
    have : n * stM a b ≤ F := by rw [Int.mul_comm]; omega
    have := Int.mul_le_mul_of_nonneg_right this (show 0 ≤ y by omega)
    rw [Int.mul_comm F y] at this
    omega
  have k2 : x * b < (n + 1) * stM a b * y := by
    have u : F + 1 ≤ (n + 1) * stM a b := by rw [Int.add_mul, Int.one_mul, Int.mul_comm n]; omega
    have := Int.mul_le_mul_of_nonneg_right u (show 0 ≤ y by omega)
    rw [Int.add_mul, Int.one_mul, Int.mul_comm F y] at this
    omega
  refine ⟨N0, ?_, k1, k2⟩
  have w : n * (stM a b * y) < ((blM a b).length : Int) * (stM a b * y) := by
    have e : ((blM a b).length : Int) * (stM a b * y) = a * y := by rw [← Int.mul_assoc, m.2.2.2]
    rw [e, ← Int.mul_assoc]
    omega
  exact Int.lt_of_mul_lt_mul_right w (Int.mul_nonneg (by omega) (by omega))
theorem b_cmp (i : Int) (i0 : 0 ≤ i) (i1 : i < ((blM a b).length : Int)) : (rcmp (rd_T25 (blM a b) i).f0 (rd_T25 (blM a b) i).f1 x y < 0 ↔ i * stM a b * y < x * b) ∧ (rcmp (rd_T25 (blM a b) i).f0 (rd_T25 (blM a b) i).f1 x y = 0 ↔ i * stM a b * y = x * b) ∧ (rcmp x y (rd_T25 (blM a b) i).f0 (rd_T25 (blM a b) i).f1 < 0 ↔ x * b < i * stM a b * y) ∧ Ok (rd_T25 (blM a b) i).f0 (rd_T25 (blM a b) i).f1 := by
  have t := b_tab h i.toNat (by omega)
  rw [show ((i.toNat : Nat) : Int) = i by omega] at t
  have := q_cmp t (by have := h.2; omega) hx
  exact ⟨this.1, this.2.1, this.2.2, t.1⟩
/-- Where the search ends. -/
def endB (a b x y : Int) : Int := if nBeat a b x y * stM a b * y = x * b then nBeat a b x y else nBeat a b x y + 1
theorem endB_bd : 0 ≤ endB a b x y ∧ endB a b x y ≤ ((blM a b).length : Int) ∧ ∀ i, 0 ≤ i → (i * stM a b * y < x * b ↔ i < endB a b x y) := by
  obtain ⟨n0, n1, n2, n3⟩ := nb_bd h hx x0 hlt
  have s := st_bd a b
  have y0 := hx.1
  have sy : 0 < stM a b * y := Int.mul_pos (by omega) (by omega)
  unfold endB
  generalize nBeat a b x y = n at *
  have mono : ∀ i j : Int, i ≤ j → i * stM a b * y ≤ j * stM a b * y := fun i j q => by
    rw [Int.mul_assoc, Int.mul_assoc]
    exact Int.mul_le_mul_of_nonneg_right q (Int.le_of_lt sy)
  split
  · rename_i e
    refine ⟨n0, by omega, fun i i0 => ⟨fun q => ?_, fun q => ?_⟩⟩
    · rcases Int.lt_or_le i n with w | w
      · exact w
      · have := mono n i w; omega
    · have := mono (i + 1) n (by omega)
      rw [Int.add_mul, Int.add_mul, Int.one_mul] at this
      omega
  · rename_i e
    refine ⟨by omega, by omega, fun i i0 => ⟨fun q => ?_, fun q => ?_⟩⟩
    · rcases Int.lt_or_le i (n + 1) with w | w
      · exact w
      · have := mono (n + 1) i w; omega
    · have := mono i n (by omega); omega
theorem bsf_ev (wx : -9223372036854775808 ≤ x ∧ x ≤ 9223372036854775807) : ∀ (m : Nat) (i j : Int), (j - i).toNat ≤ m → 0 ≤ i → i ≤ endB a b x y → endB a b x y ≤ j → j ≤ ((blM a b).length : Int) → Ev (fun k => bsf_l k (blM a b) x y i j) (endB a b x y) := by
  intro m
  induction m with
  | zero =>
    intro i j hm i0 i1 i2 i3
    refine Ev.succ ?_
    simp only [bsf_l]
    rw [show endB a b x y = i by omega]
    exact Ev.neg (by omega) (Ev.now _)
  | succ m ih =>
    intro i j hm i0 i1 i2 i3
    refine Ev.succ ?_
    simp only [bsf_l]
    by_cases c : i < j
    · refine Ev.pos c (Ev.pos ⟨i0, i3⟩ ?_)
      have h0 : 0 ≤ (i + j) / 2 := by omega
      have h1 : (i + j) / 2 < ((blM a b).length : Int) := by omega
      have bc := b_cmp h hx x0 hlt _ h0 h1
      have eb := (endB_bd h hx x0 hlt).2.2 _ h0
      refine Ev.bind (cmp_ev _ _ x y ?_ wx) ?_
      · have := bc.2.2.2; unfold Ok at this; omega
      by_cases d : rcmp (rd_T25 (blM a b) ((i + j) / 2)).f0 (rd_T25 (blM a b) ((i + j) / 2)).f1 x y < 0
      · have := eb.1 (bc.1.1 d)
        exact Ev.pos d (ih _ _ (by omega) (by omega) (by omega) i2 i3)
      · have : endB a b x y ≤ (i + j) / 2 := by
          rcases Int.lt_or_le ((i + j) / 2) (endB a b x y) with w | w
          · exact absurd (bc.1.2 (eb.2 w)) d
          · exact w
        exact Ev.neg d (ih _ _ (by omega) i0 i1 this (by omega))
    · rw [show endB a b x y = i by omega]
      exact Ev.neg c (Ev.now _)
end
def beatV (a b x y : Int) : Int × Int := if okM a b ∧ Ok x y ∧ 0 ≤ x ∧ rcmp x y (brM a b).1 (brM a b).2 < 0 then (nBeat a b x y, 0) else (0, 2)
theorem len_bd {a b : Int} (h : okM a b) : ((blM a b).length : Int) ≤ 32 := by
  have m := (m_tab h).2.2.2
  have s := st_bd a b
  have := h.1.2
  have k := Int.mul_le_mul_of_nonneg_left s.1 (show (0 : Int) ≤ ((blM a b).length : Int) by omega)
  omega
theorem floor_same {p q n d : Int} (q0 : 0 < q) (d0 : 0 < d) (h : p * d = n * q) : p / q = n / d := by
  have e1 : p / q = (p * d) / (q * d) := (Int.mul_ediv_mul_of_pos_left p q d0).symm
  have e2 : n / d = (n * q) / (d * q) := (Int.mul_ediv_mul_of_pos_left n d q0).symm
  rw [e1, e2, h, Int.mul_comm d q]
theorem beat_ev (a b x y : Int) (wx : -9223372036854775808 ≤ x ∧ x ≤ 9223372036854775807) : Ev (fun k => dur_Beat.f k a b x y) (beatV a b x y) := by
  have no : ∀ p : Prop, ∀ _ : Decidable p, ¬ p → Ev (fun k => dur_Beat.j0 k true a b x y) (if p then (nBeat a b x y, 0) else (0, 2)) := by
    intro p _ hp
    rw [if_neg hp]
    refine Ev.succ ?_
    simp only [dur_Beat.j0]
    exact Ev.pos trivial (Ev.now _)
  unfold dur_Beat.f beatV
  refine Ev.bind (bar_ev a b) ?_
  by_cases h : okM a b
  · rw [if_pos h]
    refine Ev.pos rfl (Ev.bind (check_ev x y wx) ?_)
    by_cases hx : Ok x y
    · rw [decide_eq_true hx]
      refine Ev.pos rfl ?_
      by_cases x0 : x < 0
      · exact Ev.pos x0 (no _ _ (fun q => by omega))
      · refine Ev.neg x0 (Ev.bind (cmp_ev x y _ _ wx (by have := (m_tab h).2.2.1.1; unfold Ok at this; omega)) ?_)
        show Ev (fun k => dur_Beat.j0 k (decide (rcmp x y (brM a b).1 (brM a b).2 ≥ 0)) a b x y) _
        by_cases hlt : rcmp x y (brM a b).1 (brM a b).2 < 0
        · rw [if_pos ⟨h, hx, by omega, hlt⟩, decide_eq_false (by omega)]
          have x0 : 0 ≤ x := by omega
          have y0 := hx.1
          have b0 : 1 ≤ b ∧ b ≤ 32 := by have := h.2; omega
          have xr := hx
          unfold Ok at xr
          have s := st_bd a b
          have bd := nb_bd h hx x0 hlt
          have ln := len_bd h
          have okb : Ok b 1 := ⟨by decide, by decide, by omega, by omega, by unfold gc; rw [Int.gcd_one]; rfl⟩
          have of1 : rof b 1 = (b, 1, 0) := by unfold rof; rw [if_pos ⟨by decide, by omega, by decide⟩]; exact low_ok_self okb
          refine Ev.succ ?_
          simp only [dur_Beat.j0]
          refine Ev.neg (by decide) (Ev.bind (of_ev b 1) ?_)
          rw [of1]
          refine Ev.bind (mul_ev x y b 1 wx (by omega)) ?_
          by_cases z : (rmul x y b 1).2.2 = 0
          · refine Ev.pos z ?_
            have em : rmul x y b 1 = ((rmul x y b 1).1, (rmul x y b 1).2.1, 0) := by rw [← z]
            have hq : Ok (rmul x y b 1).1 (rmul x y b 1).2.1 ∧ (rmul x y b 1).1 * (y * 1) = (x * b) * (rmul x y b 1).2.1 := by
              refine low_ok (n := x * b) (d := y * 1) (by omega) ?_
              rw [← em]
              unfold rmul
              rw [if_pos ⟨hx, okb⟩]
            generalize (rmul x y b 1).1 = p at *
            generalize (rmul x y b 1).2.1 = q at *
            have pr := hq.1
            unfold Ok at pr
            refine Ev.bind (floor_ev p q (by omega)) (Ev.bindc (step_eq h) (Ev.neg (by omega) ?_))
            have fl : rfloor p q = x * b / y := by
              unfold rfloor
              rw [if_pos hq.1]
              exact floor_same (by omega) (by omega) (by have := hq.2; rw [Int.mul_one] at this; exact this)
            rw [fl]
            have F0 : 0 ≤ x * b / y := Int.ediv_nonneg (Int.mul_nonneg x0 (by omega)) (by omega)
            rw [Int.tdiv_eq_ediv_of_nonneg F0]
            change Ev (fun k => some (wrap64 (nBeat a b x y), 0)) _
            rw [wrap_id (by omega) (by omega)]
            exact Ev.now _
          · refine Ev.neg z (Ev.bind (beats_ev a b) ?_)
            rw [if_pos h]
            have eb := endB_bd h hx x0 hlt
            have res : Ev (fun k => api_Rat.f k (blM a b) x y ()) (endB a b x y, decide (nBeat a b x y * stM a b * y = x * b)) := by
              unfold api_Rat.f
              refine Ev.neg (by omega) (Ev.bind (bsf_ev h hx x0 hlt wx _ 0 _ (Nat.le_refl _) (by omega) eb.1 eb.2.1 (Int.le_refl _)) ?_)
              by_cases c : endB a b x y < ((blM a b).length : Int)
              · have bc := b_cmp h hx x0 hlt _ eb.1 c
                refine Ev.pos c (Ev.pos eb.1 (Ev.bind (cmp_ev _ _ x y (by have := bc.2.2.2; unfold Ok at this; omega) wx) ?_))
                refine Ev.to (Ev.now _) ?_
                congr 1
                apply decide_eq_decide.2
                rw [bc.2.1]
                unfold endB
                split
                · rename_i e; exact ⟨fun _ => e, fun _ => e⟩
                · rename_i e
                  exact ⟨fun q => by have := bd.2.2.2; omega, fun q => absurd q e⟩
              · refine Ev.neg c (Ev.to (Ev.now _) ?_)
                congr 1
                symm
                apply decide_eq_false
                intro e
                have : endB a b x y = nBeat a b x y := by unfold endB; rw [if_pos e]
                omega
            refine Ev.bind res ?_
            by_cases e : nBeat a b x y * stM a b * y = x * b
            · rw [decide_eq_true e, show endB a b x y = nBeat a b x y by unfold endB; rw [if_pos e]]
              exact Ev.pos rfl (Ev.now _)
            · rw [decide_eq_false e, show endB a b x y = nBeat a b x y + 1 by unfold endB; rw [if_neg e]]
              refine Ev.neg (by simp) ?_
              rw [show nBeat a b x y + 1 - 1 = nBeat a b x y by omega, wrap_id (by omega) (by omega)]
              exact Ev.now _
        · rw [decide_eq_true (by omega)]
          exact no _ _ (fun q => hlt q.2.2.2)
    · rw [decide_eq_false hx]
      exact Ev.neg (by decide) (no _ _ (fun q => hx q.2.1))
  · rw [if_neg h]
    exact Ev.neg (by decide) (no _ _ (fun q => h q.1))
end Go.Proofs.YtdiccfonlojlfaaGreatDoor.Rp