/- The law DurBeats of layer 7: beats are alike far apart, from the beginning of the bar to its end, and each place is in one. -/
import Derived.Test.YtdiccfonlojlfaaDoorPx10
import Derived.Test.YtdiccfonlojlfaaDoorPx16
import Derived.Test.YtdiccfonlojlfaaDoorPx17
import Derived.Test.YtdiccfonlojlfaaDoorPx19
import Derived.Test.YtdiccfonlojlfaaDoorPx6
import Derived.Test.YtdiccfonlojlfaaDoorStatDurBeats
import Derived.Test.YtdiccfonlojlfaaDoorDurMeter
import Derived.Test.YtdiccfonlojlfaaDoorRatARef
namespace Go.Proofs.YtdiccfonlojlfaaDoor.Pure
open Go.RowKit Go.Proofs.YtdiccfonlojlfaaDoor.P Go.Proofs.YtdiccfonlojlfaaDoor.Rp Go.Proofs.YtdiccfonlojlfaaDoorW.PrintWords Go.Proofs.YtdiccfonlojlfaaDoorW.PrintLast
set_option linter.unusedVariables false

theorem heads_bind : Ev (fun k => (neumelaw07_heads.f k).bind fun t => some t) true := Ev.some_bind (Ev.of neumelaw07_heads.mono neumelaw07_heads.at)
theorem div_tab {a b : Int} (h : okM a b) : ∃ s t c, neumeref02_Div.f 60 (brM a b).1 (brM a b).2 ((blM a b).length : Int) 1 = some (s, t, c) ∧ ∀ i, i < (blM a b).length → ∃ p q c, neumeref02_Mul.f 60 s t (i : Int) 1 = some (p, q, c) ∧ (rd_T25 (blM a b) (i : Int)).f0 = p ∧ (rd_T25 (blM a b) (i : Int)).f1 = q := by
  have T := all192 (p := fun a b => match dur_Beats.f 80 a b, dur_Bar.f 80 a b with
    | some (l, _), some (u, v, _) => (match neumeref02_Div.f 60 u v (l.length : Int) 1 with
      | some (s, t, _) => (List.range l.length).all fun i => (match neumeref02_Mul.f 60 s t (i : Int) 1 with
        | some (p, q, _) => decide ((rd_T25 l (i : Int)).f0 = p) && decide ((rd_T25 l (i : Int)).f1 = q)
        | none => false)
      | none => false)
    | _, _ => false) (by decide +kernel) h
  simp only [(m_tab h).1, (m_tab h).2.1] at T
  split at T
  · rename_i s t c hd
    refine ⟨s, t, c, hd, fun i hi => ?_⟩
    have u := List.all_eq_true.1 T i (List.mem_range.2 hi)
    split at u
    · rename_i p q c' hm
      rw [Bool.and_eq_true, decide_eq_true_eq, decide_eq_true_eq] at u
      exact ⟨p, q, c', hm, u.1, u.2⟩
    · cases u
  · cases T
theorem DurBeats : DurBeats_Pure := by
  rintro ⟨a, b⟩ ⟨x, y⟩ _ ⟨hx, _⟩
  have wx : -9223372036854775808 ≤ x ∧ x ≤ 9223372036854775807 := by simp [Lit.wf, IntKind.min, IntKind.max, IntKind.signed, IntKind.bits] at hx; omega
  suffices h : Ev (fun k => neumelaw07_DurBeats.f k a b x y) true by
    obtain ⟨k, hk⟩ := h
    exact ⟨k, hk k (Nat.le_refl _)⟩
  unfold neumelaw07_DurBeats.f
  refine Ev.bind (beats_ev a b) (Ev.bind (bar_ev a b) ?_)
  by_cases h : okM a b
  · rw [if_pos h, if_pos h]
    refine Ev.pos rfl (Ev.succ ?_)
    simp only [neumelaw07_DurBeats.j0]
    have ln : 1 ≤ (blM a b).length := by
      have m := (m_tab h).2.2.2
      have := h.1.1
      rcases Nat.eq_zero_or_pos (blM a b).length with q | q
      · rw [q] at m; simp at m; omega
      · exact q
    have l0 : (rd_T25 (blM a b) 0).f0 = 0 := by
      have t := b_tab h 0 (by omega)
      have e := t.2
      have b0 := h.2
      have e' : ((blM a b).getD 0 z25).f0 * b = 0 := by simpa using e
      rcases Int.mul_eq_zero.1 e' with q | q
      · exact q
      · omega
    refine Ev.neg (by decide) (Ev.neg (by omega) (Ev.pos (by omega) (Ev.succ ?_)))
    simp only [neumelaw07_DurBeats.j1]
    refine Ev.neg (by rw [l0]; decide) ?_
    obtain ⟨s, t, c, hd, hm⟩ := div_tab h
    refine Ev.bind (Ev.of (neumeref02_Div.mono _ _ _ _) hd) ?_
    have le := len_bd h
    have loop : ∀ (n i : Nat), i + n = (blM a b).length → Ev (fun k => neumelaw07_DurBeats.l0 k (blM a b) (i : Int) a b x y s t) true := by
      intro n
      induction n with
      | zero =>
        intro i hi
        refine Ev.succ ?_
        simp only [neumelaw07_DurBeats.l0]
        refine Ev.neg (by omega) (Ev.bind (beat_ev a b x y wx) ?_)
        unfold beatV
        by_cases g : okM a b ∧ Ok x y ∧ 0 ≤ x ∧ rcmp x y (brM a b).1 (brM a b).2 < 0
        · rw [if_pos g]
          obtain ⟨_, ho, x0, hlt⟩ := g
          have bd := nb_bd h ho x0 hlt
          have c1 := b_cmp h ho x0 hlt _ bd.1 bd.2.1
          have o1 := c1.2.2.2
          unfold Ok at o1
          refine Ev.pos rfl (Ev.pos bd.1 (Ev.pos bd.2.1 (Ev.pos bd.1 (Ev.bind (cmp2_ev _ _ x y (by simp only; omega) wx) (Ev.pos ?_ ?_)))))
          · rcases Int.lt_trichotomy (nBeat a b x y * stM a b * y) (x * b) with w | w | w
            · exact Int.le_of_lt (c1.1.2 w)
            · exact Int.le_of_eq (c1.2.1.2 w)
            · have := bd.2.2.1; omega
          · simp only
            rw [wrap_id (x := ((blM a b).length : Int) - 1) (by omega) (by omega), wrap_id (x := nBeat a b x y + 1) (by omega) (by omega)]
            by_cases e : nBeat a b x y = ((blM a b).length : Int) - 1
            · exact Ev.pos e heads_bind
            · refine Ev.neg e (Ev.pos (by omega) (Ev.pos (by omega) ?_))
              have c2 := b_cmp h ho x0 hlt (nBeat a b x y + 1) (by omega) (by omega)
              have o2 := c2.2.2.2
              unfold Ok at o2
              exact Ev.bind (cmp2_ev x y _ _ wx (by omega)) (Ev.pos (c2.2.2.1.2 bd.2.2.2) heads_bind)
        · rw [if_neg g]
          exact Ev.neg (by decide) heads_bind
      | succ n ih =>
        intro i hi
        obtain ⟨p, q, c', hq, e1, e2⟩ := hm i (by omega)
        refine Ev.succ ?_
        simp only [neumelaw07_DurBeats.l0]
        refine Ev.pos (by omega) (Ev.bind (Ev.of (neumeref02_Mul.mono _ _ _ _) hq) (Ev.pos (by omega) (Ev.neg ?_ ?_)))
        · rw [e1, e2]; simp
        · rw [wrap_id (x := (i : Int) + 1) (by omega) (by omega)]
          exact ih (i + 1) (by omega)
    exact loop (blM a b).length 0 (by omega)
  · rw [if_neg h, if_neg h]
    refine Ev.neg (by decide) (Ev.succ ?_)
    simp only [neumelaw07_DurBeats.j0]
    refine Ev.pos trivial (Ev.bindc (meter_eq a b) ?_)
    rw [decide_eq_false h]
    exact Ev.neg (by decide) heads_bind
end Go.Proofs.YtdiccfonlojlfaaDoor.Pure