/- The law DurSplits of layer 7: what is split adds up, each part no longer than the one ahead. -/
import Derived.Test.YtdiccfonlojlfaaDoorPx10
import Derived.Test.YtdiccfonlojlfaaDoorPx15
import Derived.Test.YtdiccfonlojlfaaDoorStatDurSplits
import Derived.Test.YtdiccfonlojlfaaDoorDurSplit
import Derived.Test.YtdiccfonlojlfaaDoorRatARef
namespace Go.Proofs.YtdiccfonlojlfaaDoor.Pure
open Go.RowKit Go.Proofs.YtdiccfonlojlfaaDoor.P Go.Proofs.YtdiccfonlojlfaaDoor.Rp Go.Proofs.YtdiccfonlojlfaaDoorW.PrintWords Go.Proofs.YtdiccfonlojlfaaDoorW.PrintLast
set_option linter.unusedVariables false

theorem heads_bind : Ev (fun k => (neumelaw07_heads.f k).bind fun t => some t) true := Ev.some_bind (Ev.of neumelaw07_heads.mono neumelaw07_heads.at)
def dl (ms : List Int) : List S23 := ms.map (fun m => (⟨m, 0⟩ : S23))
theorem dl_len (ms : List Int) : (dl ms).length = ms.length := List.length_map ..
theorem dl_rd (ms : List Int) (i : Nat) (h : i < ms.length) : rd_T23 (dl ms) (i : Int) = ⟨ms[i], 0⟩ := by
  unfold rd_T23 dl
  rw [Int.toNat_natCast, List.getD_eq_getElem?_getD, List.getElem?_map, List.getElem?_eq_getElem h]
  rfl
theorem tot_take (ms : List Int) (i : Nat) (h : i < ms.length) : tot (ms.take (i + 1)) = tot (ms.take i) + pw ms[i] := by
  unfold tot
  rw [List.take_succ_eq_append_getElem h, List.map_append, List.sum_append, List.map_singleton, List.sum_singleton]
theorem loop (ms : List Int) (hm : ∀ m ∈ ms, -1 ≤ m ∧ m ≤ 6) (hp : ms.Pairwise (· ≤ ·)) (hl : 1 ≤ ms.length ∧ ms.length ≤ 64) (x y : Int) (hf : isF x y (tot ms)) :
    ∀ (n i : Nat) (a b : Int), i + n = ms.length → isF a b (tot (ms.take i)) → Ev (fun k => neumelaw07_DurSplits.l0 k (dl ms) (i : Int) x y a b) true := by
  intro n
  induction n with
  | zero =>
    intro i a b hi ha
    refine Ev.succ ?_
    simp only [neumelaw07_DurSplits.l0, dl_len]
    rw [List.take_of_length_le (by omega)] at ha
    obtain ⟨rfl, rfl⟩ := isF_one ha hf
    exact Ev.neg (by omega) (Ev.pos (by simp) (Ev.pos (by omega) (Ev.pos (by omega) heads_bind)))
  | succ n ih =>
    intro i a b hi ha
    have hlt : i < ms.length := by omega
    have b1 := hm _ (List.getElem_mem hlt)
    have fl := pw_isF b1.1 b1.2
    have ho : okD ms[i] 0 := ⟨b1, by decide, by decide⟩
    have tb := tot_bd (ms.take (i + 1)) (fun m q => hm m (List.mem_of_mem_take q))
    have lt : ((ms.take (i + 1)).length : Int) ≤ 64 := by have := List.length_take_le (i + 1) ms; have := List.length_take_le' (i + 1) ms; omega
    obtain ⟨p, q, hpq⟩ := isF_ex (tot (ms.take (i + 1))) tb.1 (by omega)
    have hs := isF_radd ha fl (by rw [← tot_take ms i hlt]; exact hpq)
    have next : Ev (fun k => neumelaw07_DurSplits.l0 k (dl ms) (wrap64 ((i : Int) + 1)) x y p q) true := by
      rw [wrap_id (x := (i : Int) + 1) (by omega) (by omega)]
      exact ih (i + 1) p q (by omega) hpq
    refine Ev.succ ?_
    simp only [neumelaw07_DurSplits.l0, dl_len, dl_rd ms i hlt]
    refine Ev.pos (by omega) (Ev.pos (by omega) (Ev.bind (value_ev _ _) ?_))
    unfold valV
    rw [if_pos ho]
    refine Ev.bind (add2_ev a b _ _ (ok_rng ha.1) (ok_rng fl.1)) ?_
    rw [hs]
    refine Ev.pos rfl (Ev.pos rfl (Ev.pos trivial ?_))
    by_cases c : (i : Int) > 0
    · refine Ev.pos c ?_
      rw [wrap_id (x := (i : Int) - 1) (by omega) (by omega)]
      refine Ev.pos (by omega) (Ev.pos (by omega) ?_)
      have e : (i : Int) - 1 = ((i - 1 : Nat) : Int) := by omega
      rw [e, dl_rd ms (i - 1) (by omega)]
      exact Ev.neg (by have := (List.pairwise_iff_getElem.1 hp) (i - 1) i (by omega) hlt (by omega); simp only; omega) next
    · exact Ev.neg c next
theorem DurSplits : DurSplits_Pure := by
  rintro ⟨x, y⟩ ⟨hx, hy⟩
  have wf : -9223372036854775808 ≤ x ∧ x ≤ 9223372036854775807 := by simp [Lit.wf, IntKind.min, IntKind.max, IntKind.signed, IntKind.bits] at hx; omega
  suffices h : Ev (fun k => neumelaw07_DurSplits.f k x y) true by
    obtain ⟨k, hk⟩ := h
    exact ⟨k, hk k (Nat.le_refl _)⟩
  unfold neumelaw07_DurSplits.f
  refine Ev.bind (dsplit_ev x y wf) ?_
  cases hs : splV x y with
  | mk R ok =>
    cases ok with
    | true =>
      refine Ev.pos rfl ?_
      unfold splV at hs
      by_cases h : Ok x y ∧ 0 < x
      · rw [if_pos h] at hs
        obtain ⟨ms, h1, h2, h3, h4, h5⟩ := spl_tells 64 [] x y R h.1 (by omega) hs
        rw [List.nil_append] at h1
        subst h1
        have hne : 1 ≤ ms.length := by
          cases ms with
          | nil =>
            have := h5.2
            have t0 : tot [] = 0 := by decide
            rw [t0] at this
            omega
          | cons a l => rw [List.length_cons]; omega
        exact loop ms h3 h4 ⟨hne, h2⟩ x y h5 ms.length 0 0 1 (by omega) (by rw [List.take_zero]; decide)
      · rw [if_neg h] at hs
        cases hs
    | false =>
      have hR : R = [] := by
        unfold splV at hs
        by_cases h : Ok x y ∧ 0 < x
        · rw [if_pos h] at hs
          have : ∀ (n : Nat) (L : List S23) (x y : Int), spl n L x y = (R, false) → R = [] := by
            intro n
            induction n with
            | zero =>
              intro L x y h
              unfold spl at h
              split at h
              · simp only [Prod.mk.injEq, and_true] at h; exact h.symm
              · simp at h
            | succ n ih =>
              intro L x y h
              unfold spl at h
              split at h
              · split at h
                · split at h
                  · exact ih _ _ _ h
                  · simp only [Prod.mk.injEq, and_true] at h; exact h.symm
                · simp only [Prod.mk.injEq, and_true] at h; exact h.symm
              · simp at h
          exact this 64 [] x y hs
        · rw [if_neg h] at hs
          simp only [Prod.mk.injEq, and_true] at hs
          exact hs.symm
      subst hR
      exact Ev.neg (by decide) (Ev.pos (by decide) heads_bind)
end Go.Proofs.YtdiccfonlojlfaaDoor.Pure