/- The law GlyphSmall of layer 5: a small glyph is inside its great one. -/
import Derived.Test.YtbinlfichkdhlaaDoorStatGlyphSmall
import Derived.Test.YtbinlfichkdhlaaDoorPx8
import Derived.Test.YtbinlfichkdhlaaDoorEv
namespace Go.Proofs.YtbinlfichkdhlaaDoor.Pure
open Go.RowKit Go.Proofs.YtbinlfichkdhlaaDoor.P Go.Proofs.YtbinlfichkdhlaaDoor.Rp Go.Proofs.YtbinlfichkdhlaaDoorW.PrintWords Go.Proofs.YtbinlfichkdhlaaDoorW.PrintLast
set_option linter.unusedVariables false
theorem heads_bind : Ev (fun k => (neumelaw05_heads.f k).bind fun t => some t) true := Ev.some_bind (Ev.of neumelaw05_heads.mono neumelaw05_heads.at)
def smallB (g : Int) : Bool := match glyph_Extent.f g false, glyph_Extent.f g true with
 | some a, some b => decide (a.2.2.2.2 = 0 ∧ b.2.2.2.2 = 0 ∧ b.1 ≥ a.1 ∧ b.2.2.1 ≤ a.2.2.1 ∧ b.2.1 ≥ a.2.1 ∧ b.2.2.2.1 ≤ a.2.2.2.1 ∧ (wrap64 ((wrap64 (3 * (wrap64 (b.2.2.1 - b.1)))) - (wrap64 (2 * (wrap64 (a.2.2.1 - a.1)))))) ≤ 3 ∧ (wrap64 ((wrap64 (2 * (wrap64 (a.2.2.1 - a.1)))) - (wrap64 (3 * (wrap64 (b.2.2.1 - b.1)))))) ≤ 3 ∧ (wrap64 (a.2.2.1 - a.1)) > 0 ∧ a.2.2.2.1 > a.2.1)
 | _, _ => false
theorem small_all : ((List.range 47).all fun n => smallB ((n : Int) + 1)) = true := by kernel_rfl
theorem small_at {g : Int} (h : 1 ≤ g ∧ g ≤ 47) : smallB g = true := by
  have := List.all_eq_true.1 small_all (g - 1).toNat (List.mem_range.2 (by omega))
  rw [show (((g - 1).toNat : Nat) : Int) + 1 = g by omega] at this
  exact this
theorem known_eq (g : Int) : glyph_Known.f g = some (decide (1 ≤ g ∧ g ≤ 47)) := by
  unfold glyph_Known.f
  by_cases c : g ≥ 1
  · rw [if_pos c]; congr 1; exact decide_eq_decide.2 ⟨fun q => ⟨c, q⟩, fun q => q.2⟩
  · rw [if_neg c]; congr 1; exact (decide_eq_false (fun q => c q.1)).symm
theorem ext_no {g : Int} (h : ¬ (1 ≤ g ∧ g ≤ 47)) (s : Bool) : glyph_Extent.f g s = some (0, 0, 0, 0, 2) := by
  unfold glyph_Extent.f
  rw [known_eq, decide_eq_false h]
  rfl
theorem GlyphSmall : GlyphSmall_Pure := by
  intro g _
  suffices h : Ev (fun k => neumelaw05_GlyphSmall.f k g) true by
    obtain ⟨k, hk⟩ := h
    exact ⟨k, hk k (Nat.le_refl _)⟩
  unfold neumelaw05_GlyphSmall.f
  by_cases c : 1 ≤ g ∧ g ≤ 47
  · have h := small_at c
    unfold smallB at h
    split at h
    · rename_i a b ha hb
      obtain ⟨h1, h2, h3, h4, h5, h6, h7, h8, h9, h10⟩ := of_decide_eq_true h
      exact Ev.bindc ha (Ev.bindc hb (Ev.pos h1 (Ev.pos h2 (Ev.pos h3 (Ev.pos h4 (Ev.pos h5 (Ev.pos h6 (Ev.pos h7 (Ev.pos h8 (Ev.pos h9 (Ev.pos h10 heads_bind)))))))))))
    · cases h
  · refine Ev.bindc (ext_no c false) (Ev.bindc (ext_no c true) (Ev.neg (by decide) (Ev.pos rfl (Ev.bindc (known_eq g) ?_))))
    rw [decide_eq_false c]
    exact Ev.neg (by decide) heads_bind
end Go.Proofs.YtbinlfichkdhlaaDoor.Pure
