/- The law DurTells of layer 7: what durations are, and are called, and which signs they have. -/
import Derived.Test.YtdiccfonlojlfaaGreatDoorPx10
import Derived.Test.YtdiccfonlojlfaaGreatDoorPx16
import Derived.Test.YtdiccfonlojlfaaGreatDoorPx17
import Derived.Test.YtdiccfonlojlfaaGreatDoorPx6
import Derived.Test.YtdiccfonlojlfaaGreatDoorStatDurTells
import Derived.Test.YtdiccfonlojlfaaGreatDoorDurRef
namespace Go.Proofs.YtdiccfonlojlfaaGreatDoor.Pure
open Go.RowKit Go.Proofs.YtdiccfonlojlfaaGreatDoor.P Go.Proofs.YtdiccfonlojlfaaGreatDoor.Rp Go.Proofs.YtdiccfonlojlfaaGreatDoorW.PrintWords Go.Proofs.YtdiccfonlojlfaaGreatDoorW.PrintLast
set_option linter.unusedVariables false

theorem heads_bind : Ev (fun k => (neumelaw07_heads.f k).bind fun t => some t) true := Ev.some_bind (Ev.of neumelaw07_heads.mono neumelaw07_heads.at)
theorem head_both (l d : Int) : ∃ v, dur_Head.f l d = some v ∧ neumeref07_Head.f l d = some v := by
  unfold dur_Head.f neumeref07_Head.f
  rw [dcheck_eq, rdcheck_eq, Option.bind_some, Option.bind_some]
  by_cases h : okD l d
  · rw [decide_eq_true h, if_pos rfl, if_pos rfl, Int.add_comm 2 l]
    exact ⟨_, rfl, rfl⟩
  · rw [decide_eq_false h, if_neg (by decide), if_neg (by decide)]
    exact ⟨_, rfl, rfl⟩
theorem rest_both (l d : Int) : ∃ v, dur_Rest.f l d = some v ∧ neumeref07_Rest.f l d = some v := by
  unfold dur_Rest.f neumeref07_Rest.f
  rw [dcheck_eq, rdcheck_eq, Option.bind_some, Option.bind_some]
  by_cases h : okD l d
  · have h' := h
    unfold okD at h'
    rw [decide_eq_true h, if_pos rfl, if_pos rfl, wrap_id (x := l + 1) (by omega) (by omega), show 5 + (l + 1) = 6 + l by omega]
    exact ⟨_, rfl, rfl⟩
  · rw [decide_eq_false h, if_neg (by decide), if_neg (by decide)]
    exact ⟨_, rfl, rfl⟩
theorem flags_both (l d : Int) : ∃ v, dur_Flags.f l d = some v ∧ neumeref07_Flags.f l d = some v := by
  unfold dur_Flags.f neumeref07_Flags.f
  rw [dcheck_eq, rdcheck_eq]
  by_cases h : okD l d
  · rw [decide_eq_true h]
    exact ⟨_, rfl, rfl⟩
  · rw [decide_eq_false h]
    exact ⟨_, rfl, rfl⟩
theorem DurTells : DurTells_Pure := by
  rintro ⟨l, d⟩ ⟨x, y⟩ s _ ⟨hx, _⟩ _
  have wx : -9223372036854775808 ≤ x ∧ x ≤ 9223372036854775807 := by simp [Lit.wf, IntKind.min, IntKind.max, IntKind.signed, IntKind.bits] at hx; omega
  suffices h : Ev (fun k => neumelaw07_DurTells.f k l d x y s) true by
    obtain ⟨k, hk⟩ := h
    exact ⟨k, hk k (Nat.le_refl _)⟩
  have core : Ev (fun k => neumelaw07_DurTells.j0 k false l d) true := by
    refine Ev.succ ?_
    simp only [neumelaw07_DurTells.j0]
    obtain ⟨t, ht, hr⟩ := rname l d
    obtain ⟨v1, a1, b1⟩ := head_both l d
    obtain ⟨v2, a2, b2⟩ := rest_both l d
    obtain ⟨v3, a3, b3⟩ := flags_both l d
    exact Ev.neg (by decide) (Ev.bindc (dcheck_eq l d) (Ev.bindc (rdcheck_eq l d) (Ev.pos (by simp) (Ev.bindc ht (Ev.bind hr (Ev.pos rfl (Ev.bindc a1 (Ev.bindc b1 (Ev.pos rfl (Ev.bindc a2 (Ev.bindc b2 (Ev.pos rfl (Ev.bindc a3 (Ev.bindc b3 (Ev.pos rfl heads_bind)))))))))))))))
  unfold neumelaw07_DurTells.f
  by_cases hs : (s.size : Int) > 100
  · exact Ev.pos hs heads_bind
  · obtain ⟨v, hv, hv'⟩ := parse_both s (by omega)
    obtain ⟨r, hr⟩ := dfound_ex x y
    refine Ev.neg hs (Ev.bind (value_ev l d) (Ev.bind (rvalue_ev l d) (Ev.bind hv (Ev.bind hv' (Ev.bind (dof_ev hr) (Ev.bind (rdof_ev hr) (Ev.bind (dsplit_ev x y wx) (Ev.bind (rsplit_ev x y wx) ?_))))))))
    refine Ev.neg (by simp) (Ev.pos rfl (Ev.neg (by simp) (Ev.neg (by simp) (Ev.neg (by simp) (Ev.neg (by simp) (Ev.bind (durs_same _ (by have := splV_len x y; omega)) (Ev.pos rfl ?_)))))))
    rw [show ((splV x y).2 != (splV x y).2) = false by simp]
    exact core
end Go.Proofs.YtdiccfonlojlfaaGreatDoor.Pure