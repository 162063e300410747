/- The law DotsTell of layer 20: for all places, durations and numbers the law answers true (no condition). -/
import Derived.Test.YtochpedmjpidkaaStatDotsTell
import Derived.Test.YtochpedmjpidkaaDotsRef
namespace Go.Proofs.Ytochpedmjpidkaa.Pure
open Go.RowKit Go.Proofs.Ytochpedmjpidkaa.P Go.Proofs.Ytochpedmjpidkaa.Rp Go.Proofs.YtochpedmjpidkaaW.PrintWords Go.Proofs.YtochpedmjpidkaaW.PrintLast
set_option linter.unusedVariables false
set_option linter.unusedSimpArgs false
/-! ### Rests -/
def restD (a b : Int) (sh : Bool) (v : Int) : Int × Int :=
  if (-1 ≤ a ∧ a ≤ 6 ∧ 0 ≤ b ∧ b ≤ 3) ∧ 0 ≤ v ∧ v < 4 then ((if a = 0 then 2 else 0) + (if sh = true then (if Int.tmod v 2 = 0 then 4 else -4) else 0), 0) else (0, 2)
theorem dur_eq (a b : Int) : dur_Check.f a b = some (decide (-1 ≤ a ∧ a ≤ 6 ∧ 0 ≤ b ∧ b ≤ 3)) := by
  unfold dur_Check.f
  by_cases c1 : -1 ≤ a
  · by_cases c2 : a ≤ 6
    · by_cases c3 : 0 ≤ b
      · rw [if_pos c1, if_pos c2, if_pos c3]; congr 1; exact decide_eq_decide.2 (by omega)
      · rw [if_pos c1, if_pos c2, if_neg c3, decide_eq_false (by omega)]
    · rw [if_pos c1, if_neg c2, decide_eq_false (by omega)]
  · rw [if_neg c1, decide_eq_false (by omega)]
theorem dur2_eq (a b : Int) : neumeref07_Check.f a b = some (decide (-1 ≤ a ∧ a ≤ 6 ∧ 0 ≤ b ∧ b ≤ 3)) := dur_eq a b
theorem rest_ev (a b : Int) (sh : Bool) (v : Int) : Ev (fun k => dots_Rest.f k a b sh v) (restD a b sh v) := by
  have bad : ¬ ((-1 ≤ a ∧ a ≤ 6 ∧ 0 ≤ b ∧ b ≤ 3) ∧ 0 ≤ v ∧ v < 4) → Ev (fun k => dots_Rest.j0 k sh v true a b) (restD a b sh v) := by
    intro h
    unfold restD
    rw [if_neg h]
    refine Ev.succ ?_
    simp only [dots_Rest.j0]
    exact Ev.pos trivial (Ev.now _)
  unfold dots_Rest.f
  refine Ev.bindc (dur_eq a b) ?_
  by_cases c : -1 ≤ a ∧ a ≤ 6 ∧ 0 ≤ b ∧ b ≤ 3
  rotate_left
  · rw [decide_eq_false c]; exact Ev.neg (by decide) (bad (fun q => c q.1))
  rw [decide_eq_true c]
  refine Ev.pos rfl ?_
  by_cases c1 : v < 0
  · exact Ev.pos c1 (bad (fun q => by omega))
  refine Ev.neg c1 ?_
  by_cases c2 : v ≥ 4
  · rw [decide_eq_true c2]; exact bad (fun q => by omega)
  rw [decide_eq_false c2]
  refine Ev.succ ?_
  simp only [dots_Rest.j0]
  refine Ev.neg (by simp) ?_
  have e : restD a b sh v = ((if a = 0 then 2 else 0) + (if sh = true then (if Int.tmod v 2 = 0 then 4 else -4) else 0), 0) := if_pos ⟨c, by omega⟩
  rw [e]
  have j1 : ∀ z : Int, 0 ≤ z → z ≤ 2 → Ev (fun k => dots_Rest.j1 k sh v z) (z + (if sh = true then (if Int.tmod v 2 = 0 then 4 else -4) else 0), 0) := by
    intro z h1 h2
    refine Ev.succ ?_
    simp only [dots_Rest.j1]
    rw [wrap_id (x := z + 4) (by omega) (by omega), wrap_id (x := z - 4) (by omega) (by omega)]
    by_cases s : sh = true
    · by_cases m : Int.tmod v 2 = 0
      · exact Ev.to (Ev.pos s (Ev.pos m (Ev.now _))) (by rw [if_pos s, if_pos m])
      · exact Ev.to (Ev.pos s (Ev.neg m (Ev.now _))) (by rw [if_pos s, if_neg m]; rfl)
    · exact Ev.to (Ev.neg s (Ev.now _)) (by rw [if_neg s, Int.add_zero])
  by_cases a0 : a = 0
  · rw [if_pos a0]; exact Ev.pos a0 (j1 2 (by omega) (by omega))
  · rw [if_neg a0]; exact Ev.neg a0 (j1 0 (by omega) (by omega))
theorem rest2_ev (a b : Int) (sh : Bool) (v : Int) : Ev (fun k => neumeref20_Rest.f k a b sh v) (restD a b sh v) := by
  have bad : ¬ ((-1 ≤ a ∧ a ≤ 6 ∧ 0 ≤ b ∧ b ≤ 3) ∧ 0 ≤ v ∧ v < 4) → Ev (fun k => neumeref20_Rest.j0 k sh v true a b) (restD a b sh v) := by
    intro h
    unfold restD
    rw [if_neg h]
    refine Ev.succ ?_
    simp only [neumeref20_Rest.j0]
    exact Ev.pos trivial (Ev.now _)
  unfold neumeref20_Rest.f
  refine Ev.bindc (dur2_eq a b) ?_
  by_cases c : -1 ≤ a ∧ a ≤ 6 ∧ 0 ≤ b ∧ b ≤ 3
  rotate_left
  · rw [decide_eq_false c]; exact Ev.neg (by decide) (bad (fun q => c q.1))
  rw [decide_eq_true c]
  refine Ev.pos rfl ?_
  by_cases c1 : v < 0
  · exact Ev.pos c1 (bad (fun q => by omega))
  refine Ev.neg c1 ?_
  by_cases c2 : v ≥ 4
  · rw [decide_eq_true c2]; exact bad (fun q => by omega)
  rw [decide_eq_false c2]
  refine Ev.succ ?_
  simp only [neumeref20_Rest.j0]
  refine Ev.neg (by simp) ?_
  have e : restD a b sh v = ((if a = 0 then 2 else 0) + (if sh = true then (if Int.tmod v 2 = 0 then 4 else -4) else 0), 0) := if_pos ⟨c, by omega⟩
  rw [e]
  have hm : Int.tmod v 2 = v % 2 := Int.tmod_eq_emod_of_nonneg (by omega)
  have j1 : ∀ z : Int, 0 ≤ z → z ≤ 2 → Ev (fun k => neumeref20_Rest.j1 k sh v z) (z + (if sh = true then (if Int.tmod v 2 = 0 then 4 else -4) else 0), 0) := by
    intro z h1 h2
    refine Ev.succ ?_
    simp only [neumeref20_Rest.j1]
    by_cases s : sh = true
    · rw [if_pos s]
      refine Ev.pos s (Ev.succ ?_)
      simp only [neumeref20_Rest.j2]
      rw [wrap_id (x := z + 4) (by omega) (by omega), wrap_id (x := z - 4) (by omega) (by omega)]
      by_cases m : Int.tmod v 2 = 0
      · rw [if_pos m]
        exact Ev.pos (by simpa using m) (Ev.pos s (Ev.neg (by omega) (Ev.now _)))
      · rw [if_neg m]
        exact Ev.neg (by simpa using m) (Ev.pos s (Ev.pos (by omega) (Ev.now _)))
    · rw [if_neg s]
      refine Ev.neg s (Ev.succ ?_)
      simp only [neumeref20_Rest.j2]
      exact Ev.to (Ev.neg (by simp) (Ev.neg s (Ev.now _))) (by rw [Int.add_zero])
  by_cases a0 : a = 0
  · rw [if_pos a0]; exact Ev.pos a0 (j1 2 (by omega) (by omega))
  · rw [if_neg a0]; exact Ev.neg a0 (j1 0 (by omega) (by omega))
/-! ### Rows -/
def rowD (x st : Int) (n : Nat) : List Int := (List.range n).map (fun i : Nat => wrap64 (x + wrap64 ((i : Int) * st)))
theorem rowD_succ (x st : Int) (n : Nat) : rowD x st n ++ [wrap64 (x + wrap64 ((n : Int) * st))] = rowD x st (n + 1) := by unfold rowD; rw [List.range_succ, List.map_append]; rfl
theorem rowD_length (x st : Int) (n : Nat) : (rowD x st n).length = n := by simp [rowD]
theorem row_l0 (x st : Int) (n : Nat) (hn : n ≤ 3) : ∀ (d i : Nat), n - i = d → i ≤ n → Ev (fun k => dots_Row.l0 k x st (rowD x st i) n i) (rowD x st n) ∧ Ev (fun k => neumeref20_Row.l0 k n x st (rowD x st i) i) (rowD x st n) := by
  intro d
  induction d with
  | zero =>
    intro i hd hi
    have : i = n := by omega
    subst this
    constructor
    · refine Ev.succ ?_
      simp only [dots_Row.l0]
      exact Ev.neg (by omega) (Ev.now _)
    · refine Ev.succ ?_
      simp only [neumeref20_Row.l0]
      exact Ev.neg (by omega) (Ev.now _)
  | succ d ih =>
    intro i hd hi
    obtain ⟨h1, h2⟩ := ih (i + 1) (by omega) (by omega)
    rw [← rowD_succ, show (((i + 1 : Nat)) : Int) = (i : Int) + 1 by omega] at h1 h2
    constructor
    · refine Ev.succ ?_
      simp only [dots_Row.l0]
      rw [wrap_id (x := (i : Int) + 1) (by omega) (by omega)]
      exact Ev.pos (by omega) (Ev.pos (by rw [rowD_length]; omega) h1)
    · refine Ev.succ ?_
      simp only [neumeref20_Row.l0]
      rw [wrap_id (x := (i : Int) + 1) (by omega) (by omega)]
      exact Ev.pos (by omega) (Ev.pos (by rw [rowD_length]; omega) h2)
theorem fixok (x : Int) : fix_Ok.f x = some (decide (-1099511627776 ≤ x ∧ x ≤ 1099511627776)) := by
  unfold fix_Ok.f
  split
  · congr 1; exact decide_eq_decide.2 (by omega)
  · rw [decide_eq_false (by omega)]
theorem fixok2 (x : Int) : neumeref01_Ok.f x = some (decide (-1099511627776 ≤ x ∧ x ≤ 1099511627776)) := fixok x
theorem row_ev (n x : Int) (s : Bool) : ∃ r : List Int, r.length ≤ 3 ∧ Ev (fun k => dots_Row.f k n x s) r ∧ Ev (fun k => neumeref20_Row.f k n x s) r := by
  have b1 : Ev (fun k => dots_Row.j0 k n x s true) [] := by
    refine Ev.succ ?_
    simp only [dots_Row.j0]
    exact Ev.pos trivial (Ev.now _)
  have b2 : Ev (fun k => neumeref20_Row.j0 k n x s true) [] := by
    refine Ev.succ ?_
    simp only [neumeref20_Row.j0]
    exact Ev.pos trivial (Ev.now _)
  unfold dots_Row.f neumeref20_Row.f
  by_cases c1 : n < 0
  · exact ⟨[], by simp, Ev.pos c1 b1, Ev.pos c1 b2⟩
  by_cases c2 : n > 3
  · exact ⟨[], by simp, Ev.neg c1 (Ev.pos c2 b1), Ev.neg c1 (Ev.pos c2 b2)⟩
  by_cases c3 : -1099511627776 ≤ x ∧ x ≤ 1099511627776
  rotate_left
  · refine ⟨[], by simp, Ev.neg c1 (Ev.neg c2 (Ev.bindc (fixok x) ?_)), Ev.neg c1 (Ev.neg c2 (Ev.bindc (fixok2 x) ?_))⟩
    · rw [decide_eq_false c3]; exact b1
    · rw [decide_eq_false c3]; exact b2
  have key : ∀ st : Int, Ev (fun k => dots_Row.j1 k n x st) (rowD x st n.toNat) ∧ Ev (fun k => neumeref20_Row.j1 k n x st) (rowD x st n.toNat) := by
    intro st
    obtain ⟨h1, h2⟩ := row_l0 x st n.toNat (by omega) _ 0 rfl (Nat.zero_le _)
    have e : ((n.toNat : Nat) : Int) = n := by omega
    constructor
    · refine Ev.succ ?_
      simp only [dots_Row.j1]
      rw [e] at h1
      exact h1
    · refine Ev.succ ?_
      simp only [neumeref20_Row.j1]
      rw [e] at h2
      exact h2
  by_cases hs : s = true
  · refine ⟨rowD x 334 n.toNat, by rw [rowD_length]; omega, Ev.neg c1 (Ev.neg c2 (Ev.bindc (fixok x) ?_)), Ev.neg c1 (Ev.neg c2 (Ev.bindc (fixok2 x) ?_))⟩
    · rw [decide_eq_true c3]
      refine Ev.succ ?_
      simp only [dots_Row.j0]
      exact Ev.neg (by simp) (Ev.pos hs (key 334).1)
    · rw [decide_eq_true c3]
      refine Ev.succ ?_
      simp only [neumeref20_Row.j0]
      exact Ev.neg (by simp) (Ev.pos hs (key 334).2)
  · refine ⟨rowD x 500 n.toNat, by rw [rowD_length]; omega, Ev.neg c1 (Ev.neg c2 (Ev.bindc (fixok x) ?_)), Ev.neg c1 (Ev.neg c2 (Ev.bindc (fixok2 x) ?_))⟩
    · rw [decide_eq_true c3]
      refine Ev.succ ?_
      simp only [dots_Row.j0]
      exact Ev.neg (by simp) (Ev.neg hs (key 500).1)
    · rw [decide_eq_true c3]
      refine Ev.succ ?_
      simp only [neumeref20_Row.j0]
      exact Ev.neg (by simp) (Ev.neg hs (key 500).2)
/-! ### Ledger lines of the reference -/
theorem high_ev : ∀ (d : Nat) (l : List Int) (m : Int) (i : Nat), l.length ≤ 1000000 → l.length - i = d → Ev (fun k => neumeref17_Highest.l0 k l m i) ((l.drop i).foldl (fun a b => mx a b) m) := by
  intro d
  induction d with
  | zero =>
    intro l m i h1 hd
    refine Ev.succ ?_
    simp only [neumeref17_Highest.l0]
    rw [List.drop_eq_nil_of_le (by omega)]
    exact Ev.neg (by omega) (Ev.now _)
  | succ d ih =>
    intro l m i h1 hd
    have hi : i < l.length := by omega
    refine Ev.succ ?_
    simp only [neumeref17_Highest.l0]
    rw [List.drop_eq_getElem_cons hi, rd_eq l hi, wrap_id (by omega) (by omega), show ((i : Nat) : Int) + 1 = ((i + 1 : Nat) : Int) by omega]
    exact Ev.pos (by omega) (Ev.pos (by omega) (ih l _ (i + 1) h1 (by omega)))
theorem low_ev : ∀ (d : Nat) (l : List Int) (m : Int) (i : Nat), l.length ≤ 1000000 → l.length - i = d → Ev (fun k => neumeref17_Lowest.l0 k l m i) ((l.drop i).foldl (fun a b => mn a b) m) := by
  intro d
  induction d with
  | zero =>
    intro l m i h1 hd
    refine Ev.succ ?_
    simp only [neumeref17_Lowest.l0]
    rw [List.drop_eq_nil_of_le (by omega)]
    exact Ev.neg (by omega) (Ev.now _)
  | succ d ih =>
    intro l m i h1 hd
    have hi : i < l.length := by omega
    refine Ev.succ ?_
    simp only [neumeref17_Lowest.l0]
    rw [List.drop_eq_getElem_cons hi, rd_eq l hi, wrap_id (by omega) (by omega), show ((i : Nat) : Int) + 1 = ((i + 1 : Nat) : Int) by omega]
    exact Ev.pos (by omega) (Ev.pos (by omega) (ih l _ (i + 1) h1 (by omega)))
theorem rd_zero (l : List Int) : rd l 0 = l.getD 0 0 := rfl
theorem high_f {l : List Int} (h0 : 0 < l.length) (h : l.length ≤ 1000000) : Ev (fun k => neumeref17_Highest.f k l) (hi l) := by
  unfold neumeref17_Highest.f
  have := high_ev _ l (rd l 0) 0 h rfl
  rw [List.drop_zero, rd_zero] at this
  exact Ev.pos (by omega) this
theorem low_f {l : List Int} (h0 : 0 < l.length) (h : l.length ≤ 1000000) : Ev (fun k => neumeref17_Lowest.f k l) (lo l) := by
  unfold neumeref17_Lowest.f
  have := low_ev _ l (rd l 0) 0 h rfl
  rw [List.drop_zero, rd_zero] at this
  exact Ev.pos (by omega) this
/-- The even places below p that are lines. -/
def evs (a b : Int) (n : Nat) : List Int := ((List.range n).map (fun i : Nat => -200 + 2 * (i : Int))).filter (fun p => decide ((6 ≤ p ∧ p ≤ b) ∨ (p ≤ -6 ∧ a ≤ p)))
theorem evs_succ (a b : Int) (n : Nat) : evs a b (n + 1) = if (6 ≤ -200 + 2 * (n : Int) ∧ -200 + 2 * (n : Int) ≤ b) ∨ (-200 + 2 * (n : Int) ≤ -6 ∧ a ≤ -200 + 2 * (n : Int)) then evs a b n ++ [-200 + 2 * (n : Int)] else evs a b n := by
  unfold evs
  rw [List.range_succ, List.map_append, List.filter_append]
  simp only [List.map_cons, List.map_nil, List.filter_cons, List.filter_nil]
  by_cases c : (6 ≤ -200 + 2 * (n : Int) ∧ -200 + 2 * (n : Int) ≤ b) ∨ (-200 + 2 * (n : Int) ≤ -6 ∧ a ≤ -200 + 2 * (n : Int))
  · rw [if_pos c, if_pos (by simpa using c)]
  · rw [if_neg c, if_neg (by simpa using c), List.append_nil]
theorem evs_length (a b : Int) (n : Nat) : (evs a b n).length ≤ n := by
  unfold evs
  refine Nat.le_trans (List.length_filter_le _ _) ?_
  simp
theorem rledg_l0 (a b : Int) : ∀ (d n : Nat), 201 - n = d → n ≤ 201 → Ev (fun k => neumeref20_Ledgers.l0 k b a (evs a b n) (-200 + 2 * (n : Int))) (evs a b 201) := by
  intro d
  induction d with
  | zero =>
    intro n hd hn
    have : n = 201 := by omega
    subst this
    refine Ev.succ ?_
    simp only [neumeref20_Ledgers.l0]
    exact Ev.neg (by omega) (Ev.now _)
  | succ d ih =>
    intro n hd hn
    have hl := evs_length a b n
    have hs := evs_succ a b n
    have := ih (n + 1) (by omega) (by omega)
    rw [show -200 + 2 * ((n + 1 : Nat) : Int) = -200 + 2 * (n : Int) + 2 by omega] at this
    refine Ev.succ ?_
    simp only [neumeref20_Ledgers.l0]
    rw [wrap_id (x := -200 + 2 * (n : Int) + 2) (by omega) (by omega)]
    have hp : -200 + 2 * (n : Int) ≤ 200 := by omega
    generalize -200 + 2 * (n : Int) = p at *
    refine Ev.pos (by omega) ?_
    by_cases c1 : p ≥ 6
    · refine Ev.pos c1 ?_
      by_cases c2 : p ≤ b
      · rw [if_pos (.inl ⟨c1, c2⟩)] at hs
        rw [hs] at this
        exact Ev.pos c2 (Ev.pos (by omega) this)
      · rw [if_neg (by omega)] at hs
        rw [hs] at this
        exact Ev.neg c2 (Ev.neg (by omega) this)
    · refine Ev.neg c1 ?_
      by_cases c3 : p ≤ -6
      · refine Ev.pos c3 ?_
        by_cases c4 : p ≥ a
        · rw [if_pos (.inr ⟨c3, c4⟩)] at hs
          rw [hs] at this
          exact Ev.pos c4 (Ev.pos (by omega) this)
        · rw [if_neg (by omega)] at hs
          rw [hs] at this
          exact Ev.neg c4 this
      · rw [if_neg (by omega)] at hs
        rw [hs] at this
        exact Ev.neg c3 this
theorem rises_eq : ∀ {x y : List Int}, x.Pairwise (fun a b => a < b) → y.Pairwise (fun a b => a < b) → (∀ z, z ∈ x ↔ z ∈ y) → x = y
  | [], [], _, _, _ => rfl
  | [], b :: s, _, _, h => absurd ((h b).2 (List.mem_cons_self ..)) List.not_mem_nil
  | a :: r, [], _, _, h => absurd ((h a).1 (List.mem_cons_self ..)) List.not_mem_nil
  | a :: r, b :: s, h1, h2, h => by
    obtain ⟨a1, a2⟩ := List.pairwise_cons.1 h1
    obtain ⟨b1, b2⟩ := List.pairwise_cons.1 h2
    have e : a = b := by
      rcases List.mem_cons.1 ((h a).1 (List.mem_cons_self ..)) with q | q
      · exact q
      · rcases List.mem_cons.1 ((h b).2 (List.mem_cons_self ..)) with p | p
        · exact p.symm
        · have := a1 b p; have := b1 a q; omega
    subst e
    rw [rises_eq a2 b2 (fun z => ?_)]
    constructor
    · intro hz
      rcases List.mem_cons.1 ((h z).1 (List.mem_cons_of_mem _ hz)) with q | q
      · have := a1 z hz; omega
      · exact q
    · intro hz
      rcases List.mem_cons.1 ((h z).2 (List.mem_cons_of_mem _ hz)) with q | q
      · have := b1 z hz; omega
      · exact q
theorem evs_ledg (a b : Int) (ha : -200 ≤ a) (hb : b ≤ 200) : evs a b 201 = ledg a b := by
  refine rises_eq ?_ (ledg_rises a b) (fun z => ?_)
  · unfold evs
    refine List.Pairwise.filter _ ?_
    rw [List.pairwise_map]
    exact List.pairwise_lt_range.imp (fun h => by omega)
  · constructor
    · intro h
      unfold evs at h
      obtain ⟨h1, h2⟩ := List.mem_filter.1 h
      obtain ⟨i, hi, rfl⟩ := List.mem_map.1 h1
      have hq := of_decide_eq_true h2
      unfold ledg
      rw [List.mem_append, List.mem_reverse]
      rcases hq with q | q
      · refine .inr (List.mem_map.2 ⟨i - 103, List.mem_range.2 (by unfold cu; omega), by omega⟩)
      · refine .inl (List.mem_map.2 ⟨97 - i, List.mem_range.2 (by unfold cd; omega), by omega⟩)
    · intro h
      have hm := ledg_mem h
      unfold evs
      refine List.mem_filter.2 ⟨List.mem_map.2 ⟨((z + 200) / 2).toNat, List.mem_range.2 (by omega), by omega⟩, decide_eq_true (by omega)⟩
theorem rledgers_ev (l : List Int) (hl : l.length ≤ 1000000) : Ev (fun k => neumeref20_Ledgers.f k l) (if Ft l then ledg (lo l) (hi l) else []) := by
  unfold neumeref20_Ledgers.f
  refine Ev.bind (rfits l hl) ?_
  by_cases h : Ft l
  · rw [decide_eq_true h, if_pos h]
    have h0 : 0 < l.length := h.1.1
    have h1 := h.2 _ (lo_mem h0).1
    have h2 := h.2 _ (hi_mem h0).1
    have := rledg_l0 (lo l) (hi l) _ 0 rfl (by omega)
    rw [evs_ledg _ _ h1.1 h2.2] at this
    exact Ev.pos rfl (Ev.bind (high_f h0 hl) (Ev.bind (low_f h0 hl) this))
  · rw [decide_eq_false h, if_neg h]
    exact Ev.neg (by decide) (Ev.now _)
theorem ledg_short (l : List Int) : (if Ft l then ledg (lo l) (hi l) else []).length ≤ 1000000 := by
  split
  · rename_i hf
    have h0 : 0 < l.length := hf.1.1
    have b1 := hf.2 _ (hi_mem h0).1
    have b2 := hf.2 _ (lo_mem h0).1
    rw [ledg_length]
    unfold cd cu
    omega
  · simp
theorem DotsTell : DotsTell_Pure := by
  intro l d sh v x _ _ _ _
  obtain ⟨a, b⟩ := d
  suffices h : Ev (fun k => neumelaw20_DotsTell.f k l a b sh v x) true by
    obtain ⟨k, hk⟩ := h
    exact ⟨k, hk k (Nat.le_refl _)⟩
  unfold neumelaw20_DotsTell.f
  by_cases c : (l.length : Int) > 100
  · exact Ev.pos c heads_bind
  have hl : l.length ≤ 1000000 := by omega
  obtain ⟨r, r0, r1, r2⟩ := row_ev v x sh
  have hn : (if Ft l then (l.map (lk (dg l)), (0 : Int)) else ([], 2)).1.length ≤ 1000000 := by
    split
    · rw [List.length_map]; exact hl
    · simp
  refine Ev.neg c (Ev.bind (dots_ev l) (Ev.bind (rdots_ev l hl) (Ev.bind (rest_ev a b sh v) (Ev.bind (rest2_ev a b sh v) (Ev.bind (numbers_ev _ hn) ?_)))))
  refine Ev.pos rfl (Ev.pos rfl (Ev.pos rfl (Ev.pos rfl ?_)))
  refine Ev.bind (ledgers_ev l) (Ev.bind (rledgers_ev l hl) (Ev.bind (numbers_ev _ (ledg_short l)) (Ev.pos rfl ?_)))
  exact Ev.bind r1 (Ev.bind r2 (Ev.bind (numbers_ev r (by omega)) (Ev.pos rfl heads_bind)))
end Go.Proofs.Ytochpedmjpidkaa.Pure
