/- Pitches: what the program's functions tell, by numbers alone. -/
import Derived.Test.YtkncoedagigliaaDoorEv
import Derived.Test.YtkncoedagigliaaDoorPx3
import Derived.Test.YtkncoedagigliaaDoorPx2
import Derived.Test.YtkncoedagigliaaDoorPx2
import Derived.Test.YtkncoedagigliaaDoorPx2
namespace Go.Proofs.YtkncoedagigliaaDoor.Rp
open Go.RowKit Go.Proofs.YtkncoedagigliaaDoor.P Go.Proofs.YtkncoedagigliaaDoorW.PrintWords Go.Proofs.YtkncoedagigliaaDoorW.PrintLast Go.Proofs.YtkncoedagigliaaDoorW.PrintMore
set_option linter.unusedVariables false
set_option linter.unusedSimpArgs false
theorem wid {x : Int} (h : -9223372036854775808 ≤ x) (h' : x ≤ 9223372036854775807) : wrap64 x = x := by unfold wrap64; omega
theorem wf64 {x : Int} (h : (Lit.int .i64 x).wf = true) : -9223372036854775808 ≤ x ∧ x ≤ 9223372036854775807 := by
  simp [Lit.wf, IntKind.min, IntKind.max, IntKind.signed, IntKind.bits] at h
  omega
theorem within_eq (x a b : Int) : pitch_within.f x a b = some (decide (a ≤ x ∧ x ≤ b)) := by
  unfold pitch_within.f
  by_cases h : a ≤ x
  · rw [if_pos h]
    congr 1
    apply decide_eq_decide.2
    omega
  · rw [if_neg h, decide_eq_false (by omega)]
def okP (s a o : Int) : Prop := 0 ≤ s ∧ s ≤ 6 ∧ -2 ≤ a ∧ a ≤ 2 ∧ 0 ≤ o ∧ o ≤ 9
instance (s a o : Int) : Decidable (okP s a o) := by unfold okP; infer_instance
theorem check_eq (s a o : Int) : pitch_Check.f s a o = some (decide (okP s a o)) := by
  unfold pitch_Check.f
  rw [within_eq, Option.bind_some]
  by_cases h1 : 0 ≤ s ∧ s ≤ 6
  · rw [if_pos (decide_eq_true h1), within_eq, Option.bind_some]
    by_cases h2 : -2 ≤ a ∧ a ≤ 2
    · rw [if_pos (decide_eq_true h2), within_eq, Option.bind_some]
      congr 1
      apply decide_eq_decide.2
      unfold okP
      omega
    · rw [if_neg (by rw [decide_eq_true_eq]; exact h2), decide_eq_false (by unfold okP; omega)]
  · rw [if_neg (by rw [decide_eq_true_eq]; exact h1), decide_eq_false (by unfold okP; omega)]
theorem count_eq (s a o : Int) : pitch_Count.f s a o = some (if okP s a o then 7 * o + s else -1) := by
  unfold pitch_Count.f
  rw [check_eq, Option.bind_some]
  by_cases h : okP s a o
  · have h' := h
    unfold okP at h'
    rw [if_pos (decide_eq_true h), if_pos h, wid (x := 7 * o) (by omega) (by omega), wid (by omega) (by omega)]
  · rw [if_neg (by rw [decide_eq_true_eq]; exact h), if_neg h]
theorem counted_eq (n : Int) : pitch_counted.f n = some (if 0 ≤ n ∧ n ≤ 69 then (n % 7, 0, n / 7, true) else (0, 0, 0, false)) := by
  unfold pitch_counted.f
  rw [within_eq, Option.bind_some]
  by_cases h : 0 ≤ n ∧ n ≤ 69
  · rw [if_pos (decide_eq_true h), if_pos h, Int.tmod_eq_emod_of_nonneg h.1, Int.tdiv_eq_ediv_of_nonneg h.1, wid (by omega) (by omega)]
  · rw [if_neg (by rw [decide_eq_true_eq]; exact h), if_neg h]
def nearOk (s a o step alter marks : Int) : Prop := okP s a o ∧ (0 ≤ step ∧ step ≤ 6) ∧ (-2 ≤ alter ∧ alter ≤ 2) ∧ (-9 ≤ marks ∧ marks ≤ 9)
instance (s a o step alter marks : Int) : Decidable (nearOk s a o step alter marks) := by unfold nearOk; infer_instance
def nearN (s o step marks : Int) : Int := 7 * o + s + (step - s + 10) % 7 - 3 + 7 * marks
def nearV (s a o step alter marks : Int) : Int × Int × Int × Int :=
  if nearOk s a o step alter marks then (if 0 ≤ nearN s o step marks ∧ nearN s o step marks ≤ 69 then (nearN s o step marks % 7, alter, nearN s o step marks / 7, 0) else (0, 0, 0, 20)) else (0, 0, 0, 2)
theorem near_eq (s a o step alter marks : Int) : pitch_Near.f s a o step alter marks = some (nearV s a o step alter marks) := by
  unfold pitch_Near.f nearV
  simp only [check_eq, within_eq]
  by_cases h1 : okP s a o
  · simp only [decide_eq_true h1]
    by_cases h2 : 0 ≤ step ∧ step ≤ 6
    · simp only [decide_eq_true h2]
      by_cases h3 : -2 ≤ alter ∧ alter ≤ 2
      · simp only [decide_eq_true h3]
        by_cases h4 : -9 ≤ marks ∧ marks ≤ 9
        · simp only [decide_eq_true h4]
          have h1' := h1
          unfold okP at h1'
          rw [if_pos (by simp [nearOkB]; omega), count_eq, if_pos h1]
          simp only
          rw [if_pos (by omega), if_pos (show nearOk s a o step alter marks from ⟨h1, h2, h3, h4⟩)]
          rw [show 7 * o + s + (step - s + 7 + 3) % 7 - 3 + 7 * marks = nearN s o step marks by unfold nearN; rw [show step - s + 7 + 3 = step - s + 10 by omega], counted_eq]
          by_cases c : 0 ≤ nearN s o step marks ∧ nearN s o step marks ≤ 69
          · rw [if_pos c, if_pos c]
          · rw [if_neg c, if_neg c]
        · simp only [decide_eq_false h4]
          rw [if_neg (fun q => h4 q.2.2.2)]
      · simp only [decide_eq_false h3]
        rw [if_neg (fun q => h3 q.2.2.1)]
    · simp only [decide_eq_false h2]
      rw [if_neg (fun q => h2 q.2.1)]
  · simp only [decide_eq_false h1]
    rw [if_neg (fun q => h1 q.1)]
/-- Which count stands on a clef's middle line. -/
def midV (c : Int) : Int := if c = 26 then 34 else if c = 27 then 22 else if c = 28 then 28 else 26
def clefP (c : Int) : Prop := 26 ≤ c ∧ c ≤ 29
instance (c : Int) : Decidable (clefP c) := by unfold clefP; infer_instance
theorem middle_eq (c : Int) : pitch_middle.f c = some (if clefP c then (midV c, true) else (0, false)) := by
  unfold pitch_middle.f midV
  by_cases h1 : c = 26
  · subst h1; rfl
  rw [if_neg h1, if_neg h1]
  by_cases h2 : c = 27
  · subst h2; rfl
  rw [if_neg h2, if_neg h2]
  by_cases h3 : c = 28
  · subst h3; rfl
  rw [if_neg h3, if_neg h3]
  by_cases h4 : c = 29
  · subst h4; rfl
  rw [if_neg h4, if_neg (show ¬ clefP c by unfold clefP; omega)]
theorem mid_bd (c : Int) : 22 ≤ midV c ∧ midV c ≤ 34 := by
  unfold midV
  split
  · omega
  · split
    · omega
    · split <;> omega
theorem place_eq (s a o c : Int) : pitch_Place.f s a o c = some (if clefP c ∧ okP s a o then (7 * o + s - midV c, 0) else (0, 2)) := by
  unfold pitch_Place.f
  rw [middle_eq, Option.bind_some]
  by_cases h1 : clefP c
  · rw [if_pos h1, if_pos rfl, check_eq, Option.bind_some]
    by_cases h2 : okP s a o
    · have h' := h2
      have hm := mid_bd c
      unfold okP at h'
      rw [if_pos (decide_eq_true h2), count_eq, if_pos h2, Option.bind_some, if_pos ⟨h1, h2⟩, wid (by simp only; omega) (by simp only; omega)]
    · rw [if_neg (by rw [decide_eq_true_eq]; exact h2), if_neg (fun q => h2 q.2)]
  · rw [if_neg h1, if_neg (by simp), if_neg (fun q => h1 q.1)]
theorem at_eq (p c : Int) : pitch_At.f p c = some (if clefP c then (if -1000 ≤ p ∧ p ≤ 1000 then (if 0 ≤ midV c + p ∧ midV c + p ≤ 69 then ((midV c + p) % 7, 0, (midV c + p) / 7, 0) else (0, 0, 0, 20)) else (0, 0, 0, 20)) else (0, 0, 0, 2)) := by
  unfold pitch_At.f
  rw [middle_eq, Option.bind_some]
  by_cases h1 : clefP c
  · rw [if_pos h1, if_pos rfl, if_pos h1, within_eq, Option.bind_some]
    by_cases h2 : -1000 ≤ p ∧ p ≤ 1000
    · have hm := mid_bd c
      rw [if_pos (decide_eq_true h2), if_pos h2, wid (by simp only; omega) (by simp only; omega), counted_eq, Option.bind_some]
      by_cases h3 : 0 ≤ midV c + p ∧ midV c + p ≤ 69
      · rw [if_pos h3, if_pos rfl, if_pos h3]
      · rw [if_neg h3, if_neg (by simp), if_neg h3]
    · rw [if_neg (by rw [decide_eq_true_eq]; exact h2), if_neg h2]
  · rw [if_neg h1, if_neg (by simp), if_neg h1]
end Go.Proofs.YtkncoedagigliaaDoor.Rp
