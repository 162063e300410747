/- Heads of a chord: which ones are on the other side: plain values. -/
import Derived.Test.YtcokemaiploejaaDoorPx2
import Derived.Test.YtcokemaiploejaaDoorPx2
import Derived.Test.YtcokemaiploejaaDoorPx18
import Derived.Test.YtcokemaiploejaaDoorEv
namespace Go.Proofs.YtcokemaiploejaaDoor.Rp
open Go.RowKit Go.Proofs.YtcokemaiploejaaDoor.P Go.Proofs.YtcokemaiploejaaDoorW.PrintWords Go.Proofs.YtcokemaiploejaaDoorW.PrintLast
set_option linter.unusedVariables false
set_option linter.unusedSimpArgs false
theorem wrap_id {x : Int} (h1 : -9223372036854775808 ≤ x) (h2 : x ≤ 9223372036854775807) : wrap64 x = x := by unfold wrap64; omega
theorem heads_bind : Ev (fun k => (neumelaw23_heads.f k).bind fun t => some t) true := Ev.some_bind (Ev.of neumelaw23_heads.mono neumelaw23_heads.at)
theorem rd_eq (l : List Int) {i : Nat} (h : i < l.length) : rd l (i : Int) = l[i] := by
  unfold rd
  rw [Int.toNat_natCast, List.getD_eq_getElem?_getD, List.getElem?_eq_getElem h]; rfl
theorem getD_at {l : List Int} {t : Nat} (h : t < l.length) : l.getD t 0 = l[t] := by rw [List.getD_eq_getElem?_getD, List.getElem?_eq_getElem h]; rfl
/-- May places be, rising? -/
def Ft (l : List Int) : Prop := (1 ≤ l.length ∧ l.length ≤ 16) ∧ (∀ i, i + 1 < l.length → l.getD i 0 ≤ l.getD (i + 1) 0) ∧ -200 ≤ l.getD 0 0 ∧ l.getD (l.length - 1) 0 ≤ 200
noncomputable instance (l : List Int) : Decidable (Ft l) := Classical.propDecidable _
theorem Ft.le {l : List Int} (h : Ft l) : ∀ (d i : Nat), i + d < l.length → l.getD i 0 ≤ l.getD (i + d) 0 := by
  intro d
  induction d with
  | zero => intro i _; exact Int.le_refl _
  | succ d ih =>
    intro i hi
    have h1 := ih i (by omega)
    have h2 := h.2.1 (i + d) (by omega)
    rw [show i + (d + 1) = i + d + 1 by omega]
    omega
theorem Ft.bd {l : List Int} (h : Ft l) {i : Nat} (hi : i < l.length) : -200 ≤ l.getD i 0 ∧ l.getD i 0 ≤ 200 := by
  have h1 := h.le i 0 (by omega)
  have h2 := h.le (l.length - 1 - i) i (by omega)
  rw [show 0 + i = i by omega] at h1
  rw [show i + (l.length - 1 - i) = l.length - 1 by omega] at h2
  have := h.2.2
  omega
theorem less_eq (a b : Int) : cmp_Less_int.f a b = some (decide (a < b)) := by
  unfold cmp_Less_int.f cmp_isNaN_int.f
  simp
theorem sorted_l0 (l : List Int) (hl : l.length ≤ 1000) : ∀ i : Nat, i < l.length → ∃ r, Ev (fun k => slices_IsSorted_int_int.l0 k l i) r ∧ (r = true ↔ ∀ j, j < i → l.getD j 0 ≤ l.getD (j + 1) 0) := by
  intro i
  induction i with
  | zero =>
    intro _
    refine ⟨true, Ev.succ ?_, ⟨fun _ j h => absurd h (Nat.not_lt_zero _), fun _ => rfl⟩⟩
    simp only [slices_IsSorted_int_int.l0]
    exact Ev.neg (by omega) (Ev.now _)
  | succ i ih =>
    intro hi
    obtain ⟨r, h1, h2⟩ := ih (by omega)
    have e : wrap64 (((i + 1 : Nat) : Int) - 1) = (i : Int) := by rw [wrap_id (by omega) (by omega)]; omega
    by_cases c : l[i + 1] < l[i]'(by omega)
    · refine ⟨false, Ev.succ ?_, ⟨(fun q => Bool.noConfusion q), fun q => ?_⟩⟩
      · simp only [slices_IsSorted_int_int.l0]
        rw [e, rd_eq l hi, rd_eq l (i := i) (by omega)]
        refine Ev.pos (by omega) (Ev.pos (by omega) (Ev.pos (by omega) (Ev.pos (by omega) (Ev.pos (by omega) (Ev.bindc (less_eq _ _) ?_)))))
        rw [decide_eq_true c]
        exact Ev.pos rfl (Ev.now _)
      · have := q i (by omega)
        rw [getD_at (by omega), getD_at hi] at this
        omega
    · refine ⟨r, Ev.succ ?_, ⟨fun q j hj => ?_, fun q => h2.2 (fun j hj => q j (by omega))⟩⟩
      · simp only [slices_IsSorted_int_int.l0]
        rw [e, rd_eq l hi, rd_eq l (i := i) (by omega)]
        refine Ev.pos (by omega) (Ev.pos (by omega) (Ev.pos (by omega) (Ev.pos (by omega) (Ev.pos (by omega) (Ev.bindc (less_eq _ _) ?_)))))
        rw [decide_eq_false c]
        exact Ev.neg (by decide) h1
      · by_cases e2 : j = i
        · subst e2
          rw [getD_at (by omega), getD_at hi]
          omega
        · exact h2.1 q j (by omega)
theorem fits_ev (l : List Int) : Ev (fun k => chord_fits.f k l) (decide (Ft l)) := by
  unfold chord_fits.f
  by_cases c1 : (l.length : Int) < 1
  · exact Ev.to (Ev.pos c1 (Ev.now _)) (decide_eq_false (fun q => by have := q.1; omega)).symm
  by_cases c2 : (l.length : Int) > 16
  · exact Ev.to (Ev.neg c1 (Ev.pos c2 (Ev.now _))) (decide_eq_false (fun q => by have := q.1; omega)).symm
  refine Ev.neg c1 (Ev.neg c2 ?_)
  obtain ⟨r, h1, h2⟩ := sorted_l0 l (by omega) (l.length - 1) (by omega)
  have e : wrap64 ((l.length : Int) - 1) = ((l.length - 1 : Nat) : Int) := by rw [wrap_id (by omega) (by omega)]; omega
  unfold slices_IsSorted_int_int.f
  rw [e]
  refine Ev.bind h1 ?_
  have hr0 : rd l 0 = l.getD 0 0 := rfl
  have hr1 : rd l ((l.length - 1 : Nat) : Int) = l.getD (l.length - 1) 0 := by rw [rd_eq l (by omega), getD_at (by omega)]
  rw [hr0, hr1]
  by_cases c3 : r = true
  · refine Ev.pos c3 (Ev.pos (by omega) ?_)
    have hs := h2.1 c3
    by_cases c4 : l.getD 0 0 ≥ -200
    · refine Ev.pos c4 (Ev.pos (by omega) (Ev.pos (by omega) (Ev.const ?_)))
      congr 1
      exact decide_eq_decide.2 ⟨fun q => ⟨by omega, fun i hi => hs i (by omega), c4, q⟩, fun q => q.2.2.2⟩
    · exact Ev.to (Ev.neg c4 (Ev.now _)) (decide_eq_false (fun q => by have := q.2.2; omega)).symm
  · exact Ev.to (Ev.neg c3 (Ev.now _)) (decide_eq_false (fun q => c3 (h2.2 (fun i hi => q.2.1 i (by omega))))).symm
/-- Where heads are: a number each. -/
def sd (l : List Int) (up : Bool) : List Int := if up = true then sides_l l 0 false false else (sides_l l.reverse 0 false false).reverse
theorem sd_length (l : List Int) (up : Bool) : (sd l up).length = l.length := by
  unfold sd
  split
  · exact sides_length _ _ _ _
  · rw [List.length_reverse, sides_length, List.length_reverse]
theorem sides_ev (l : List Int) (up : Bool) : Ev (fun k => chord_Sides.f k l up) (if Ft l then (sd l up, 0) else ([], 2)) := by
  unfold chord_Sides.f
  refine Ev.bind (fits_ev l) ?_
  by_cases h : Ft l
  · rw [decide_eq_true h, if_pos h]
    exact Ev.pos rfl (Ev.now _)
  · rw [decide_eq_false h, if_neg h]
    exact Ev.neg (by decide) (Ev.now _)
/-- Is the i-th head of a row on the other side? -/
def bit (q : List Int) (i : Nat) : Bool := side_o (stS q i).1 (stS q i).2.1 (stS q i).2.2 (q.getD i 0)
theorem bit_zero (q : List Int) : bit q 0 = false := by simp [bit, stS, side_o]
theorem bit_succ (q : List Int) (i : Nat) (hb : ∀ j, j < q.length → -1000 ≤ q.getD j 0 ∧ q.getD j 0 ≤ 1000) (hi : i + 1 < q.length) : bit q (i + 1) = (!bit q i && decide (-1 ≤ q.getD (i + 1) 0 - q.getD i 0 ∧ q.getD (i + 1) 0 - q.getD i 0 ≤ 1)) := by
  have h1 := hb i (by omega)
  have h2 := hb (i + 1) hi
  have e : bit q (i + 1) = side_o (q.getD i 0) (bit q i) true (q.getD (i + 1) 0) := rfl
  rw [e]
  unfold side_o
  rw [wrap_id (by omega) (by omega), Bool.true_and, Bool.and_assoc, ← Bool.decide_and]
theorem sides_bit (q : List Int) {i : Nat} (h : i < q.length) : (sides_l q 0 false false)[i]'(by rw [sides_length]; exact h) = if bit q i = true then 1 else 0 := by
  have := sides_at q 0 false false (stS q) rfl (fun j => rfl) i h
  rw [getD_at (by rw [sides_length]; exact h)] at this
  exact this
theorem getD_rev {l : List Int} {i : Nat} (h : i < l.length) : l.reverse.getD i 0 = l.getD (l.length - 1 - i) 0 := by
  rw [getD_at (by rw [List.length_reverse]; exact h), List.getElem_reverse, getD_at (by omega)]
/-- What is said of the i-th head. -/
theorem sd_at {l : List Int} (hf : Ft l) (up : Bool) {i : Nat} (hi : i < l.length) : (sd l up)[i]'(by rw [sd_length]; exact hi) = if bit (if up = true then l else l.reverse) (if up = true then i else l.length - 1 - i) = true then 1 else 0 := by
  cases up
  · simp only [sd, Bool.false_eq_true, if_false]
    rw [List.getElem_reverse]
    simp only [sides_length, List.length_reverse]
    exact sides_bit l.reverse (by rw [List.length_reverse]; omega)
  · simp only [sd, if_true]
    exact sides_bit l hi
theorem rev_bd {l : List Int} (hf : Ft l) : ∀ j, j < l.reverse.length → -1000 ≤ l.reverse.getD j 0 ∧ l.reverse.getD j 0 ≤ 1000 := by
  intro j hj
  rw [List.length_reverse] at hj
  rw [getD_rev hj]
  have := hf.bd (i := l.length - 1 - j) (by omega)
  omega
theorem l_bd {l : List Int} (hf : Ft l) : ∀ j, j < l.length → -1000 ≤ l.getD j 0 ∧ l.getD j 0 ≤ 1000 := by
  intro j hj
  have := hf.bd hj
  omega
/-- Neighbours, and one alone. -/
theorem sd_like {l : List Int} (hf : Ft l) (up : Bool) {i : Nat} (hi : i < l.length) :
    ((sd l up)[i]'(by rw [sd_length]; exact hi) = 0 ∨ (sd l up)[i]'(by rw [sd_length]; exact hi) = 1) ∧
    (∀ h : 0 < i, l.getD i 0 - l.getD (i - 1) 0 ≤ 1 → ¬ ((sd l up)[i]'(by rw [sd_length]; exact hi) = 0 ∧ (sd l up)[i - 1]'(by rw [sd_length]; omega) = 0)) ∧
    ((i = 0 ∨ 1 < l.getD i 0 - l.getD (i - 1) 0) → (i + 1 = l.length ∨ 1 < l.getD (i + 1) 0 - l.getD i 0) → (sd l up)[i]'(by rw [sd_length]; exact hi) = 0) := by
  refine ⟨?_, ?_, ?_⟩
  · rw [sd_at hf up hi]
    generalize bit _ _ = b
    cases b
    · exact .inl rfl
    · exact .inr rfl
  · intro h hn
    rw [sd_at hf up hi, sd_at hf up (i := i - 1) (by omega)]
    have hr := hf.2.1 (i - 1) (by omega)
    rw [show i - 1 + 1 = i by omega] at hr
    cases up
    · simp only [Bool.false_eq_true, if_false]
      have hs := bit_succ l.reverse (l.length - 1 - i) (rev_bd hf) (by rw [List.length_reverse]; omega)
      rw [show l.length - 1 - i + 1 = l.length - 1 - (i - 1) by omega, getD_rev (i := l.length - 1 - (i - 1)) (by omega), getD_rev (i := l.length - 1 - i) (by omega), show l.length - 1 - (l.length - 1 - (i - 1)) = i - 1 by omega, show l.length - 1 - (l.length - 1 - i) = i by omega, decide_eq_true (by omega)] at hs
      rw [hs]
      cases bit l.reverse (l.length - 1 - i) <;> simp
    · simp only [if_true]
      have hs := bit_succ l (i - 1) (l_bd hf) (by omega)
      rw [show i - 1 + 1 = i by omega, decide_eq_true (by omega)] at hs
      rw [hs]
      cases bit l (i - 1) <;> simp
  · intro h1 h2
    rw [sd_at hf up hi, if_neg]
    cases up
    · simp only [Bool.false_eq_true, if_false]
      by_cases c : i + 1 = l.length
      · rw [show l.length - 1 - i = 0 by omega, bit_zero]; decide
      · have hs := bit_succ l.reverse (l.length - 1 - i - 1) (rev_bd hf) (by rw [List.length_reverse]; omega)
        rw [show l.length - 1 - i - 1 + 1 = l.length - 1 - i by omega, getD_rev (i := l.length - 1 - i) (by omega), getD_rev (i := l.length - 1 - i - 1) (by omega), show l.length - 1 - (l.length - 1 - i) = i by omega, show l.length - 1 - (l.length - 1 - i - 1) = i + 1 by omega, decide_eq_false (by omega)] at hs
        rw [hs]; simp
    · simp only [if_true]
      by_cases c : i = 0
      · subst c; rw [bit_zero]; decide
      · have hs := bit_succ l (i - 1) (l_bd hf) (by omega)
        rw [show i - 1 + 1 = i by omega, decide_eq_false (by omega)] at hs
        rw [hs]; simp
end Go.Proofs.YtcokemaiploejaaDoor.Rp
