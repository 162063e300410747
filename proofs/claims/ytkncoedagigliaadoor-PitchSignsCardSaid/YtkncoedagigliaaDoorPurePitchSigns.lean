/- The law PitchSigns of layer 6: a key's signs stand on steps that it alters, each once, within a staff and a step. -/
import Derived.Test.YtkncoedagigliaaDoorStatPitchSigns
import Derived.Test.YtkncoedagigliaaDoorPitchPlain
import Derived.Test.YtkncoedagigliaaDoorPx5
namespace Go.Proofs.YtkncoedagigliaaDoor.Pure
open Go.RowKit Go.Proofs.YtkncoedagigliaaDoor.P Go.Proofs.YtkncoedagigliaaDoor.Rp Go.Proofs.YtkncoedagigliaaDoorW.PrintWords Go.Proofs.YtkncoedagigliaaDoorW.PrintLast
set_option linter.unusedVariables false
theorem heads_bind : Ev (fun k => (neumelaw06_heads.f k).bind fun t => some t) true := Ev.some_bind (Ev.of neumelaw06_heads.mono neumelaw06_heads.at)
theorem signs_all : ((List.range 15).all fun (n : Nat) => (List.range 4).all fun (c : Nat) => decide (neumelaw06_PitchSigns.f 80 ((n : Int) - 7) ((c : Int) + 26) = some true)) = true := by decide +kernel
theorem within_no {x a b : Int} (h : ¬ (a ≤ x ∧ x ≤ b)) : pitch_within.f x a b = some false := by rw [within_eq, decide_eq_false h]
theorem signed_no {n : Int} (h : ¬ (-7 ≤ n ∧ n ≤ 7)) (k : Nat) : pitch_signed.f k n = some ([], 0, false) := by
  unfold pitch_signed.f
  rw [within_no h]
  rfl
theorem PitchSigns : PitchSigns_Pure := by
  intro n c _ _
  suffices h : Ev (fun k => neumelaw06_PitchSigns.f k n c) true by
    obtain ⟨k, hk⟩ := h
    exact ⟨k, hk k (Nat.le_refl _)⟩
  by_cases hn : -7 ≤ n ∧ n ≤ 7
  · by_cases hc : clefP c
    · have hc' := hc
      unfold clefP at hc'
      have t := List.all_eq_true.1 signs_all (n + 7).toNat (List.mem_range.2 (by omega))
      have t := of_decide_eq_true (List.all_eq_true.1 t (c - 26).toNat (List.mem_range.2 (by omega)))
      rw [show (((n + 7).toNat : Nat) : Int) - 7 = n by omega, show (((c - 26).toNat : Nat) : Int) + 26 = c by omega] at t
      exact Ev.of (neumelaw06_PitchSigns.mono n c) t
    · have hm : pitch_middle.f c = some (0, false) := by rw [middle_eq, if_neg hc]
      have hS : ∃ l b, Ev (fun k => pitch_signed.f k n) (l, b, true) := by
        have : ((List.range 15).all fun (n : Nat) => (match pitch_signed.f 20 ((n : Int) - 7) with | some (_, _, true) => true | _ => false)) = true := by decide +kernel
        have t := List.all_eq_true.1 this (n + 7).toNat (List.mem_range.2 (by omega))
        rw [show (((n + 7).toNat : Nat) : Int) - 7 = n by omega] at t
        split at t
        · rename_i l b hl
          exact ⟨l, b, Ev.of (pitch_signed.mono n) hl⟩
        · cases t
      obtain ⟨l, b, hS⟩ := hS
      have hg : Ev (fun k => pitch_Signature.f k n c) ([], 2) := by
        unfold pitch_Signature.f
        refine Ev.bind hS (Ev.bindc hm (Ev.pos rfl (Ev.succ ?_)))
        simp only [pitch_Signature.j0]
        exact Ev.pos rfl (Ev.now _)
      have hK : ∃ v, Ev (fun k => pitch_Key.f k n) v := by
        have : ((List.range 15).all fun (n : Nat) => (pitch_Key.f 40 ((n : Int) - 7)).isSome) = true := by decide +kernel
        have t := List.all_eq_true.1 this (n + 7).toNat (List.mem_range.2 (by omega))
        rw [show (((n + 7).toNat : Nat) : Int) - 7 = n by omega] at t
        obtain ⟨v, hv⟩ := Option.isSome_iff_exists.1 t
        exact ⟨v, Ev.of (pitch_Key.mono n) hv⟩
      obtain ⟨v, hK⟩ := hK
      unfold neumelaw06_PitchSigns.f
      refine Ev.bind hg (Ev.bind hK (Ev.neg (by decide) (Ev.succ ?_)))
      simp only [neumelaw06_PitchSigns.j0]
      exact Ev.pos trivial (Ev.pos rfl heads_bind)
  · have hg : Ev (fun k => pitch_Signature.f k n c) ([], 2) := by
      unfold pitch_Signature.f
      refine Ev.bind (Ev.of (pitch_signed.mono n) (signed_no hn 0)) (Ev.bindc (middle_eq c) (Ev.neg (by decide) (Ev.succ ?_)))
      simp only [pitch_Signature.j0]
      exact Ev.pos trivial (Ev.now _)
    have hK : Ev (fun k => pitch_Key.f k n) ([], 2) := by
      unfold pitch_Key.f
      exact Ev.bind (Ev.of (pitch_signed.mono n) (signed_no hn 0)) (Ev.neg (by decide) (Ev.now _))
    unfold neumelaw06_PitchSigns.f
    refine Ev.bind hg (Ev.bind hK (Ev.neg (by decide) (Ev.succ ?_)))
    simp only [neumelaw06_PitchSigns.j0]
    exact Ev.pos trivial (Ev.pos rfl heads_bind)
end Go.Proofs.YtkncoedagigliaaDoor.Pure
