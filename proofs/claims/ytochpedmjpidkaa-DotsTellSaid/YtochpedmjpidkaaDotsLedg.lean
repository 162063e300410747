/- Ledger lines: what the program's function comes to: plain values. -/
import Derived.Test.YtochpedmjpidkaaDotsPlain
namespace Go.Proofs.Ytochpedmjpidkaa.Rp
open Go.RowKit Go.Proofs.Ytochpedmjpidkaa.P Go.Proofs.YtochpedmjpidkaaW.PrintWords Go.Proofs.YtochpedmjpidkaaW.PrintLast
set_option linter.unusedVariables false
set_option linter.unusedSimpArgs false
/-- A row whose first i and last i are changed for one another. -/
def swp (l : List Int) (i : Nat) : List Int := (List.range l.length).map (fun t => if t < i ∨ l.length - 1 - t < i then l.getD (l.length - 1 - t) 0 else l.getD t 0)
theorem swp_length (l : List Int) (i : Nat) : (swp l i).length = l.length := by simp [swp]
theorem swp_at {l : List Int} {i t : Nat} (h : t < l.length) : (swp l i)[t]'(by rw [swp_length]; exact h) = if t < i ∨ l.length - 1 - t < i then l.getD (l.length - 1 - t) 0 else l.getD t 0 := by simp [swp]
theorem swp_zero (l : List Int) : swp l 0 = l := by
  apply List.ext_getElem (swp_length l 0)
  intro t h1 h2
  rw [swp_at h2, if_neg (by omega), List.getD_eq_getElem?_getD, List.getElem?_eq_getElem h2]; rfl
theorem swp_all {l : List Int} {i : Nat} (h : l.length ≤ 2 * i + 1) : swp l i = l.reverse := by
  apply List.ext_getElem (by rw [swp_length, List.length_reverse])
  intro t h1 h2
  have ht : t < l.length := by rw [swp_length] at h1; exact h1
  rw [swp_at ht, List.getElem_reverse]
  by_cases c : t < i ∨ l.length - 1 - t < i
  · rw [if_pos c, List.getD_eq_getElem?_getD, List.getElem?_eq_getElem (by omega)]; rfl
  · rw [if_neg c, List.getD_eq_getElem?_getD, List.getElem?_eq_getElem ht]
    have : l.length - 1 - t = t := by omega
    simp only [this]; rfl
theorem swp_step {l : List Int} {i : Nat} (h : 2 * i + 1 < l.length) : ((swp l i).set i (rd (swp l i) ((l.length - 1 - i : Nat) : Int))).set (l.length - 1 - i) (rd (swp l i) (i : Int)) = swp l (i + 1) := by
  apply List.ext_getElem (by rw [List.length_set, List.length_set, swp_length, swp_length])
  intro t h1 h2
  have ht : t < l.length := by rw [swp_length] at h2; exact h2
  have e1 : rd (swp l i) (i : Int) = l.getD i 0 := by rw [rd_eq _ (i := i) (by rw [swp_length]; omega), swp_at (t := i) (by omega), if_neg (by omega)]
  have e2 : rd (swp l i) ((l.length - 1 - i : Nat) : Int) = l.getD (l.length - 1 - i) 0 := by rw [rd_eq _ (i := l.length - 1 - i) (by rw [swp_length]; omega), swp_at (t := l.length - 1 - i) (by omega), if_neg (by omega)]
  simp only [e1, e2]
  rw [swp_at ht, List.getElem_set, List.getElem_set]
  by_cases c1 : l.length - 1 - i = t
  · subst c1
    rw [if_pos rfl, if_pos (by omega)]
    congr 1
    omega
  · rw [if_neg c1]
    by_cases c2 : i = t
    · subst c2
      rw [if_pos rfl, if_pos (by omega)]
    · rw [if_neg c2, swp_at ht]
      by_cases c3 : t < i ∨ l.length - 1 - t < i
      · rw [if_pos c3, if_pos (by omega)]
      · rw [if_neg c3, if_neg (by omega)]
theorem reverse_l0 (l : List Int) (hl : l.length ≤ 1000000) : ∀ (d i : Nat), l.length - 2 * i = d → 2 * i ≤ l.length + 1 → Ev (fun k => slices_Reverse_int_int.l0 k (swp l i) i ((l.length : Int) - 1 - i)) l.reverse := by
  intro d
  induction d using Nat.strongRecOn with
  | _ d ih =>
    intro i hd hi
    refine Ev.succ ?_
    simp only [slices_Reverse_int_int.l0]
    by_cases c : 2 * i + 1 < l.length
    · have e1 : ((l.length : Int) - 1 - i) = ((l.length - 1 - i : Nat) : Int) := by omega
      have e2 : (((l.length : Int) - 1 - i)).toNat = l.length - 1 - i := by omega
      refine Ev.pos (by omega) (Ev.pos (by omega) (Ev.pos (by rw [swp_length]; omega) (Ev.pos (by omega) (Ev.pos (by rw [swp_length]; omega) ?_))))
      rw [e2, Int.toNat_natCast, e1, swp_step c, wrap_id (x := (i : Int) + 1) (by omega) (by omega), wrap_id (x := ((l.length - 1 - i : Nat) : Int) - 1) (by omega) (by omega)]
      have := ih (l.length - 2 * (i + 1)) (by omega) (i + 1) rfl (by omega)
      rw [show ((l.length : Int) - 1 - ((i + 1 : Nat) : Int)) = ((l.length - 1 - i : Nat) : Int) - 1 by omega, show ((i + 1 : Nat) : Int) = (i : Int) + 1 by omega] at this
      exact this
    · refine Ev.to (Ev.neg (by omega) (Ev.now _)) (swp_all (by omega))
theorem reverse_ev (l : List Int) (hl : l.length ≤ 1000000) : Ev (fun k => slices_Reverse_int_int.f k l) l.reverse := by
  unfold slices_Reverse_int_int.f
  have := reverse_l0 l hl _ 0 rfl (by omega)
  rw [swp_zero, show ((l.length : Int) - 1 - ((0 : Nat) : Int)) = (l.length : Int) - 1 by omega] at this
  rw [wrap_id (x := (l.length : Int) - 1) (by omega) (by omega)]
  exact this
/-- Downwards from -6, upwards from 6. -/
def dns (c : Nat) : List Int := (List.range c).map (fun i : Nat => -6 - 2 * (i : Int))
def ups (c : Nat) : List Int := (List.range c).map (fun i : Nat => 6 + 2 * (i : Int))
theorem dns_succ (c : Nat) : dns c ++ [-6 - 2 * (c : Int)] = dns (c + 1) := by unfold dns; rw [List.range_succ, List.map_append]; rfl
theorem ups_succ (c : Nat) : ups c ++ [6 + 2 * (c : Int)] = ups (c + 1) := by unfold ups; rw [List.range_succ, List.map_append]; rfl
theorem dns_length (c : Nat) : (dns c).length = c := by simp [dns]
theorem ups_length (c : Nat) : (ups c).length = c := by simp [ups]
def cd (a : Int) : Nat := ((-4 - a) / 2).toNat
def cu (b : Int) : Nat := ((b - 4) / 2).toNat
/-- The ledger lines between two places. -/
def ledg (a b : Int) : List Int := (dns (cd a)).reverse ++ ups (cu b)
theorem ledg_l1 (l : List Int) (h0 : 0 < l.length) (a : List Int) (ha : a.length ≤ 1000) (hb : hi l ≤ 200) : ∀ (d i : Nat), cu (hi l) - i = d → i ≤ cu (hi l) → Ev (fun k => dots_Ledgers.l1 k l (a ++ ups i) (6 + 2 * (i : Int))) (a ++ ups (cu (hi l))) := by
  intro d
  induction d with
  | zero =>
    intro i hd hi0
    have : i = cu (hi l) := by omega
    subst this
    refine Ev.succ ?_
    simp only [dots_Ledgers.l1]
    refine Ev.bindc (max_f h0) (Ev.neg ?_ (Ev.now _))
    unfold cu
    omega
  | succ d ih =>
    intro i hd hi0
    have hq : (6 + 2 * (i : Int)) ≤ hi l := by unfold cu at hd; omega
    refine Ev.succ ?_
    simp only [dots_Ledgers.l1]
    refine Ev.bindc (max_f h0) (Ev.pos hq (Ev.pos (by rw [List.length_append, ups_length]; unfold cu at hi0; omega) ?_))
    rw [wrap_id (x := 6 + 2 * (i : Int) + 2) (by omega) (by omega), List.append_assoc, ups_succ, show 6 + 2 * (i : Int) + 2 = 6 + 2 * ((i + 1 : Nat) : Int) by omega]
    exact ih (i + 1) (by omega) (by omega)
theorem ledg_l0 (l : List Int) (h0 : 0 < l.length) (hl : l.length ≤ 1000000) (ha : -200 ≤ lo l) (hb : hi l ≤ 200) : ∀ (d i : Nat), cd (lo l) - i = d → i ≤ cd (lo l) → Ev (fun k => dots_Ledgers.l0 k l (dns i) (-6 - 2 * (i : Int))) (ledg (lo l) (hi l)) := by
  intro d
  induction d with
  | zero =>
    intro i hd hi0
    have : i = cd (lo l) := by omega
    subst this
    refine Ev.succ ?_
    simp only [dots_Ledgers.l0]
    have hc : cd (lo l) ≤ 1000 := by unfold cd; omega
    refine Ev.bind (min_f h0 hl) (Ev.neg (by unfold cd; omega) (Ev.bind (reverse_ev _ (by rw [dns_length]; omega)) ?_))
    have := ledg_l1 l h0 (dns (cd (lo l))).reverse (by rw [List.length_reverse, dns_length]; exact hc) hb _ 0 rfl (Nat.zero_le _)
    rw [show ups 0 = [] from rfl, List.append_nil] at this
    exact this
  | succ d ih =>
    intro i hd hi0
    have hq : (-6 - 2 * (i : Int)) ≥ lo l := by unfold cd at hd; omega
    refine Ev.succ ?_
    simp only [dots_Ledgers.l0]
    refine Ev.bind (min_f h0 hl) (Ev.pos hq (Ev.pos (by rw [dns_length]; unfold cd at hi0; omega) ?_))
    rw [wrap_id (x := -6 - 2 * (i : Int) - 2) (by omega) (by omega), dns_succ, show -6 - 2 * (i : Int) - 2 = -6 - 2 * ((i + 1 : Nat) : Int) by omega]
    exact ih (i + 1) (by omega) (by omega)
theorem ledgers_ev (l : List Int) : Ev (fun k => dots_Ledgers.f k l) (if Ft l then ledg (lo l) (hi l) else []) := by
  unfold dots_Ledgers.f
  refine Ev.bind (fits_ev l) ?_
  by_cases h : Ft l
  · rw [decide_eq_true h, if_pos h]
    have h0 : 0 < l.length := h.1.1
    have h1 := h.2 _ (lo_mem h0).1
    have h2 := h.2 _ (hi_mem h0).1
    have := ledg_l0 l h0 (by have := h.1; omega) h1.1 h2.2 _ 0 rfl (Nat.zero_le _)
    exact Ev.pos rfl this
  · rw [decide_eq_false h, if_neg h]
    exact Ev.neg (by decide) (Ev.now _)
theorem ledg_mem {a b x : Int} (h : x ∈ ledg a b) : x % 2 = 0 ∧ ((x ≤ -6 ∧ a ≤ x) ∨ (6 ≤ x ∧ x ≤ b)) := by
  unfold ledg at h
  rcases List.mem_append.1 h with h | h
  · obtain ⟨i, hi, rfl⟩ := List.mem_map.1 (List.mem_reverse.1 h)
    have := List.mem_range.1 hi
    unfold cd at this
    omega
  · obtain ⟨i, hi, rfl⟩ := List.mem_map.1 h
    have := List.mem_range.1 hi
    unfold cu at this
    omega
theorem ledg_rises (a b : Int) : (ledg a b).Pairwise (fun x y => x < y) := by
  unfold ledg
  refine List.pairwise_append.2 ⟨?_, ?_, ?_⟩
  · rw [List.pairwise_reverse]
    unfold dns
    rw [List.pairwise_map]
    exact List.pairwise_lt_range.imp (fun h => by omega)
  · unfold ups
    rw [List.pairwise_map]
    exact List.pairwise_lt_range.imp (fun h => by omega)
  · intro x hx y hy
    obtain ⟨i, hi, rfl⟩ := List.mem_map.1 (List.mem_reverse.1 hx)
    obtain ⟨j, hj, rfl⟩ := List.mem_map.1 hy
    omega
theorem ledg_length (a b : Int) : (ledg a b).length = cd a + cu b := by unfold ledg; rw [List.length_append, List.length_reverse, dns_length, ups_length]
end Go.Proofs.Ytochpedmjpidkaa.Rp
