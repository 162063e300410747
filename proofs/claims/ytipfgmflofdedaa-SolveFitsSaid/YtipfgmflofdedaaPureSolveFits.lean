/- The law SolveFits of layer 29: for all springs, rods, widths and both kinds the law answers true (no condition). -/
import Derived.Test.YtipfgmflofdedaaStatSolveFits
import Derived.Test.YtipfgmflofdedaaSolvePlain
namespace Go.Proofs.Ytipfgmflofdedaa.Pure
open Go.RowKit Go.Proofs.Ytipfgmflofdedaa.P Go.Proofs.Ytipfgmflofdedaa.Rp Go.Proofs.Ytipfgmflofdedaa.So Go.Proofs.YtipfgmflofdedaaW.PrintWords Go.Proofs.YtipfgmflofdedaaW.PrintLast Go.Proofs.YtipfgmflofdedaaW.PrintMore
set_option linter.unusedVariables false
theorem heads_ev : Ev neumelaw29_heads.f true := Ev.of neumelaw29_heads.mono neumelaw29_heads.at
theorem heads_bind : Ev (fun k => (neumelaw29_heads.f k).bind fun t => some t) true := Ev.some_bind heads_ev
theorem few_eq (l0 : List Int) (l1 : List Rod) : neumelaw29_few.f l0 l1 = some (decide (l0.length ≤ 100 ∧ l1.length ≤ 200)) := by
  unfold neumelaw29_few.f
  by_cases c : l0.length ≤ 100
  · rw [if_pos (by omega)]
    by_cases d : l1.length ≤ 200
    · rw [decide_eq_true (by omega), decide_eq_true ⟨c, d⟩]
    · rw [decide_eq_false (by omega), decide_eq_false (fun h => d h.2)]
  · rw [if_neg (by omega), decide_eq_false (fun h => c h.1)]
/-- The page's own word on rods that are held. -/
theorem ref_rods (l1 : List Rod) (n : Int) (hn : l1.length ≤ 200) (hr : ∀ j : Nat, j < l1.length → RodOk (rd_T36 l1 j) n) : ∀ (d j : Nat), j + d = l1.length → Ev (fun k => neumeref27_Check.l0 k l1 n (j : Int)) true
  | 0, j, hj => by
    refine Ev.succ ?_
    simp only [neumeref27_Check.l0]
    exact Ev.neg (by omega) (Ev.now _)
  | d + 1, j, hj => by
    have ih := ref_rods l1 n hn hr d (j + 1) (by omega)
    have h := hr j (by omega)
    unfold RodOk at h
    refine Ev.succ ?_
    simp only [neumeref27_Check.l0]
    refine Ev.pos (by omega) (Ev.pos (by omega) (Ev.bindc (a := true) ?_ (Ev.pos rfl ?_)))
    · unfold neumeref27_rod.f
      rw [if_pos (by omega), if_pos (by omega), if_pos (by omega), if_pos (by omega), decide_eq_true (by omega)]
    · rw [wrap_id (x := (j : Int) + 1) (by omega) (by omega)]
      exact ih
theorem ref_check (l1 : List Rod) (n : Int) (h0 : 0 ≤ n) (h1 : n ≤ 4096) (hn : l1.length ≤ 200) (hr : ∀ j : Nat, j < l1.length → RodOk (rd_T36 l1 j) n) : Ev (fun k => neumeref27_Check.f k l1 n) true := by
  unfold neumeref27_Check.f
  refine Ev.neg (by omega) (Ev.neg (by omega) ?_)
  rw [decide_eq_false (by omega)]
  refine Ev.succ ?_
  simp only [neumeref27_Check.j0]
  exact Ev.neg (by decide) (ref_rods l1 n hn hr l1.length 0 (by omega))
theorem holds_rods (l1 : List Rod) (xs : List Int) (hn : l1.length ≤ 200) (hx : xs.length ≤ 101) (hr : ∀ j : Nat, j < l1.length → RodOk (rd_T36 l1 j) xs.length) (hb : ∀ j : Nat, j < xs.length → 0 ≤ rd xs j ∧ rd xs j ≤ 1099511627776)
    (hd : ∀ j : Nat, j < l1.length → rd xs (rd_T36 l1 j).f0 + (rd_T36 l1 j).f2 ≤ rd xs (rd_T36 l1 j).f1) : ∀ (d j : Nat), j + d = l1.length → Ev (fun k => neumeref27_Holds.l1 k l1 xs (j : Int)) true
  | 0, j, hj => by
    refine Ev.succ ?_
    simp only [neumeref27_Holds.l1]
    exact Ev.neg (by omega) (Ev.now _)
  | d + 1, j, hj => by
    have ih := holds_rods l1 xs hn hx hr hb hd d (j + 1) (by omega)
    have h := hr j (by omega)
    have hdj := hd j (by omega)
    unfold RodOk at h
    have b0 := hb (rd_T36 l1 j).f0.toNat (by omega)
    have b1 := hb (rd_T36 l1 j).f1.toNat (by omega)
    rw [Int.toNat_of_nonneg (by omega)] at b0 b1
    refine Ev.succ ?_
    simp only [neumeref27_Holds.l1]
    refine Ev.pos (by omega) (Ev.pos (by omega) (Ev.pos (by omega) (Ev.pos (by omega) (Ev.pos (by omega) (Ev.pos (by omega) ?_)))))
    rw [wrap_id (x := rd xs (rd_T36 l1 j).f1 - rd xs (rd_T36 l1 j).f0) (by omega) (by omega), wrap_id (x := (j : Int) + 1) (by omega) (by omega)]
    exact Ev.neg (by omega) ih
theorem holds_nums (l1 : List Rod) (xs : List Int) (hx : xs.length ≤ 101) (hb : ∀ j : Nat, j < xs.length → 0 ≤ rd xs j ∧ rd xs j ≤ 1099511627776) (hend : Ev (fun k => neumeref27_Holds.l1 k l1 xs 0) true) : ∀ (d j : Nat), j + d = xs.length → Ev (fun k => neumeref27_Holds.l0 k l1 xs (j : Int)) true
  | 0, j, hj => by
    refine Ev.succ ?_
    simp only [neumeref27_Holds.l0]
    exact Ev.neg (by omega) hend
  | d + 1, j, hj => by
    have ih := holds_nums l1 xs hx hb hend d (j + 1) (by omega)
    have b0 := hb j (by omega)
    refine Ev.succ ?_
    simp only [neumeref27_Holds.l0]
    rw [wrap_id (x := (j : Int) + 1) (by omega) (by omega)]
    exact Ev.pos (by omega) (Ev.pos (by omega) (Ev.neg (by omega) (Ev.neg (by omega) ih)))
theorem holds_ev (l1 : List Rod) (xs : List Int) (hn : l1.length ≤ 200) (hx : xs.length ≤ 101) (hr : ∀ j : Nat, j < l1.length → RodOk (rd_T36 l1 j) xs.length) (hb : ∀ j : Nat, j < xs.length → 0 ≤ rd xs j ∧ rd xs j ≤ 1099511627776)
    (hd : ∀ j : Nat, j < l1.length → rd xs (rd_T36 l1 j).f0 + (rd_T36 l1 j).f2 ≤ rd xs (rd_T36 l1 j).f1) : Ev (fun k => neumeref27_Holds.f k l1 xs) true := by
  unfold neumeref27_Holds.f
  exact Ev.bind (ref_check l1 xs.length (by omega) (by omega) hn hr) (Ev.pos rfl (holds_nums l1 xs hx hb (holds_rods l1 xs hn hx hr hb hd l1.length 0 (by omega)) xs.length 0 (by omega)))
theorem rise_loop (x0 : List Int) (x1 : List Rod) (x2 : Int) (x3 : Bool) (xs : List Int) (f : Int) (n : Nat) (hn : n ≤ 100) (hl : xs.length = n + 1) (hs : ∀ i : Nat, i < n → rd xs i + 1 ≤ rd xs ((i : Int) + 1)) (hend : Ev (fun k => if x3 = true then neumelaw29_SolveFits.j2 k x0 x1 x2 f ((n : Int) + 1) 0 else neumelaw29_SolveFits.j2 k x0 x1 x2 f ((n : Int) + 1) 8192) true) :
    ∀ (d j : Nat), j + d = n → Ev (fun k => neumelaw29_SolveFits.l0 k x0 x1 x2 x3 xs f ((n : Int) + 1) ((j : Int) + 1)) true
  | 0, j, hj => by
    refine Ev.succ ?_
    simp only [neumelaw29_SolveFits.l0]
    exact Ev.neg (by omega) hend
  | d + 1, j, hj => by
    have ih := rise_loop x0 x1 x2 x3 xs f n hn hl hs hend d (j + 1) (by omega)
    have h := hs j (by omega)
    rw [show ((j + 1 : Nat) : Int) = (j : Int) + 1 by omega] at ih
    refine Ev.succ ?_
    simp only [neumelaw29_SolveFits.l0]
    rw [wrap_id (x := (j : Int) + 1 - 1) (by omega) (by omega), wrap_id (x := (j : Int) + 1 + 1) (by omega) (by omega), show (j : Int) + 1 - 1 = j by omega]
    exact Ev.pos (by omega) (Ev.pos (by omega) (Ev.pos (by omega) (Ev.pos (by omega) (Ev.pos (by omega) (Ev.neg (by omega) ih)))))
theorem at_ev {l0 : List Int} {l1 : List Rod} (hb : Ev (fun k => solve_Check.f k l0 l1) true) (g : Int) (h0 : -1024 ≤ g) (h1 : g ≤ 8192) : Ev (fun k => solve_At.f k l0 l1 g) (at_to l0 (rodsTo l0.length l1) g l0.length, 0) := by
  unfold solve_At.f
  exact Ev.bind hb (Ev.pos rfl (Ev.neg (by omega) (Ev.neg (by omega) (Ev.now _))))
/-- Behind the loop. -/
theorem most_ev {l0 : List Int} {l1 : List Rod} (hb : Ev (fun k => solve_Check.f k l0 l1) true) (hm : May l0 (rodsTo l0.length l1)) (wd f m : Int) (hm0 : m ≤ 8192) (hf0 : -1024 ≤ f) (hf1 : f ≤ m) (he : f = m ∨ wd < at_end l0 (rodsTo l0.length l1) (f + 1)) : Ev (fun k => neumelaw29_SolveFits.j2 k l0 l1 wd f ((l0.length : Int) + 1) m) true := by
  have hn := hm.n
  refine Ev.succ ?_
  simp only [neumelaw29_SolveFits.j2]
  refine Ev.neg (by omega) ?_
  rw [decide_eq_false (by omega)]
  refine Ev.succ ?_
  simp only [neumelaw29_SolveFits.j3]
  refine Ev.neg (by decide) ?_
  rw [wrap_id (x := f + 1) (by omega) (by omega)]
  obtain ⟨g, hg, g0, g1, g2⟩ : ∃ g, mn (f + 1) 8192 = g ∧ -1024 ≤ g ∧ g ≤ 8192 ∧ (f < m → g = f + 1) := by
    refine ⟨_, rfl, ?_, ?_, ?_⟩
    all_goals (unfold mn; split <;> omega)
  rw [hg]
  refine Ev.bind (at_ev hb g g0 g1) ?_
  by_cases c : f = m
  · exact Ev.pos c heads_bind
  · refine Ev.neg c ?_
    have ge := g2 (by omega)
    have hl := at_to_length l0 (rodsTo l0.length l1) g l0.length
    have hE : wd < at_end l0 (rodsTo l0.length l1) g := by rw [ge]; rcases he with he | he; exact absurd he c; exact he
    unfold at_end at hE
    refine Ev.pos rfl ?_
    dsimp only
    rw [wrap_id (x := (l0.length : Int) + 1 - 1) (by omega) (by omega), show (l0.length : Int) + 1 - 1 = l0.length by omega]
    exact Ev.pos (by omega) (Ev.pos (by omega) (Ev.pos (by omega) (Ev.pos (by omega) heads_bind)))
theorem SolveFits : SolveFits_Pure := by
  intro l0 l1 wd lo h0 h1 h2
  suffices h : Ev (fun k => neumelaw29_SolveFits.f k l0 l1 wd lo) true from h.rounds
  unfold neumelaw29_SolveFits.f
  refine Ev.bindc (few_eq l0 l1) ?_
  by_cases hf : ¬ (l0.length ≤ 100 ∧ l1.length ≤ 200)
  · rw [decide_eq_false hf]
    exact Ev.neg (by decide) heads_bind
  rw [Decidable.not_not] at hf
  rw [decide_eq_true hf]
  refine Ev.pos rfl ?_
  obtain ⟨hn, hn1⟩ := hf
  obtain ⟨b, hb⟩ := check_ends l0 l1
  have bad : Ev (fun k => solve_Solve.f k l0 l1 wd lo) ([], 0, 2) → Ev (fun k => (solve_Solve.f k l0 l1 wd lo).bind fun bt => (if bt.2.2 = 0 then (if (bt.1.length : Int) = (wrap64 ((l0.length : Int) + 1)) then (if 0 < (bt.1.length : Int) then (if (rd bt.1 0) = 0 then (if 0 ≤ (wrap64 ((bt.1.length : Int) - 1)) then (if (wrap64 ((bt.1.length : Int) - 1)) < (bt.1.length : Int) then (if (rd bt.1 (wrap64 ((bt.1.length : Int) - 1))) > wd then (neumelaw29_SolveFits.j0 k l0 l1 wd lo bt.1 bt.2.1 (bt.1.length : Int) true) else ((neumeref27_Holds.f k l1 bt.1).bind fun t192 => (if t192 = true then ((solve_Slack.f k l0 l1 wd).bind fun t193 => (neumelaw29_SolveFits.j0 k l0 l1 wd lo bt.1 bt.2.1 (bt.1.length : Int) (decide (t193 < 0)))) else (neumelaw29_SolveFits.j0 k l0 l1 wd lo bt.1 bt.2.1 (bt.1.length : Int) true)))) else (none)) else (none)) else (neumelaw29_SolveFits.j0 k l0 l1 wd lo bt.1 bt.2.1 (bt.1.length : Int) true)) else (none)) else (neumelaw29_SolveFits.j0 k l0 l1 wd lo bt.1 bt.2.1 (bt.1.length : Int) true)) else (if (bt.1.length : Int) = 0 then (if bt.2.1 = 0 then (if bt.2.2 = 30 then ((solve_Slack.f k l0 l1 wd).bind fun t187 => (if t187 < 0 then ((neumelaw29_heads.f k).bind fun t188 => (some t188)) else (some false))) else ((neumelaw29_heads.f k).bind fun t189 => (some t189))) else (some false)) else (some false)))) true := by
    intro h
    exact Ev.bind h (Ev.neg (by decide) (Ev.pos (by simp) (Ev.pos rfl (Ev.neg (by decide) heads_bind))))
  cases b with
  | false =>
    refine bad ?_
    unfold solve_Solve.f
    exact Ev.bind hb (Ev.neg (by decide) (Ev.now _))
  | true =>
    obtain ⟨k0, hk0⟩ := hb.rounds
    have hm := rods_may hn hk0
    obtain ⟨-, -, -, hR⟩ := solve_Check_true hk0
    by_cases c1 : wd < 0
    · refine bad ?_
      unfold solve_Solve.f
      exact Ev.bind hb (Ev.pos rfl (Ev.pos c1 (Ev.now _)))
    by_cases c2 : wd > 1099511627776
    · refine bad ?_
      unfold solve_Solve.f
      exact Ev.bind hb (Ev.pos rfl (Ev.neg c1 (Ev.pos c2 (Ev.now _))))
    have bE := X_bd hm (-1024) (by omega) (by omega) l0.length (Nat.le_refl _)
    have hslack : Ev (fun k => solve_Slack.f k l0 l1 wd) (wd - at_end l0 (rodsTo l0.length l1) (-1024)) := by
      unfold solve_Slack.f
      refine Ev.bind hb (Ev.pos rfl (Ev.neg c1 (Ev.neg c2 ?_)))
      rw [end_X, wrap_id (by omega) (by omega)]
      exact Ev.now _
    by_cases c3 : at_end l0 (rodsTo l0.length l1) (-1024) > wd
    · have hs : Ev (fun k => solve_Solve.f k l0 l1 wd lo) ([], 0, 30) := by
        unfold solve_Solve.f
        exact Ev.bind hb (Ev.pos rfl (Ev.neg c1 (Ev.neg c2 (Ev.pos c3 (Ev.now _)))))
      refine Ev.bind hs (Ev.neg (by decide) (Ev.pos (by simp) (Ev.pos rfl (Ev.pos (by decide) ?_))))
      exact Ev.bind hslack (Ev.pos (by omega) heads_bind)
    obtain ⟨m, hm_, hm0, hm1, hm2⟩ : ∃ m, m = (if lo = true then 0 else 8192 : Int) ∧ -1024 ≤ m ∧ m ≤ 8192 ∧ (lo = true → m = 0) ∧ (¬ lo = true → m = 8192) := by
      cases lo
      · exact ⟨8192, rfl, by omega, by omega, (fun h => by cases h), fun _ => rfl⟩
      · exact ⟨0, rfl, by omega, by omega, fun _ => rfl, fun h => absurd rfl h⟩
    obtain ⟨f0, f1, f2, f3⟩ := fits_spec (at_end l0 (rodsTo l0.length l1)) wd 9217 (-1024) m hm0 (by omega) (by omega)
    have hs : Ev (fun k => solve_Solve.f k l0 l1 wd lo) (at_to l0 (rodsTo l0.length l1) (fits_go (at_end l0 (rodsTo l0.length l1)) wd 9217 (-1024) m) l0.length, fits_go (at_end l0 (rodsTo l0.length l1)) wd 9217 (-1024) m, 0) := by
      unfold solve_Solve.f
      refine Ev.bind hb (Ev.pos rfl (Ev.neg c1 (Ev.neg c2 (Ev.neg c3 ?_))))
      rw [← hm_]
      exact Ev.now _
    refine Ev.bind hs ?_
    clear hs hm_ bad
    generalize fits_go (at_end l0 (rodsTo l0.length l1)) wd 9217 (-1024) m = f at f0 f1 f2 f3 ⊢
    have hl := at_to_length l0 (rodsTo l0.length l1) f l0.length
    have hX : ∀ j : Nat, j ≤ l0.length → rd (at_to l0 (rodsTo l0.length l1) f l0.length) j = X l0 (rodsTo l0.length l1) f j := fun j hj => at_le _ _ _ j _ hj
    have hx0 := hX 0 (by omega)
    rw [X_zero] at hx0
    have hxn := hX l0.length (by omega)
    rw [end_X] at f2
    refine Ev.pos rfl ?_
    dsimp only
    generalize at_to l0 (rodsTo l0.length l1) f l0.length = xs at hl hX hx0 hxn ⊢
    rw [show (xs.length : Int) = (l0.length : Int) + 1 by omega, wrap_id (x := (l0.length : Int) + 1) (by omega) (by omega), wrap_id (x := (l0.length : Int) + 1 - 1) (by omega) (by omega), show (l0.length : Int) + 1 - 1 = l0.length by omega]
    refine Ev.pos rfl (Ev.pos (by omega) (Ev.pos hx0 (Ev.pos (by omega) (Ev.pos (by omega) (Ev.neg (by omega) ?_)))))
    have hholds : Ev (fun k => neumeref27_Holds.f k l1 xs) true := by
      refine holds_ev l1 xs hn1 (by omega) (fun j hj => by have := hR j hj; rw [show (xs.length : Int) = (l0.length : Int) + 1 by omega]; exact this) (fun j hj => ?_) (fun j hj => ?_)
      · rw [hX j (by omega)]
        have := X_bd hm f f0 (by omega) j (by omega)
        omega
      · have h := hR j hj
        unfold RodOk at h
        obtain ⟨i, hi⟩ : ∃ i : Nat, (rd_T36 l1 j).f1 = (i : Int) + 1 := ⟨(rd_T36 l1 j).f1.toNat - 1, by omega⟩
        obtain ⟨a, ha⟩ : ∃ a : Nat, (rd_T36 l1 j).f0 = (a : Int) := ⟨(rd_T36 l1 j).f0.toNat, by omega⟩
        have hp : rd_T36 l1 j ∈ (rodsTo l0.length l1).getD (i + 1) [] := by
          have := to_has l1 (List.replicate (l0.length + 1) []) (rd_T36 l1 j) (rd_mem l1 j hj) (by rw [List.length_replicate]; omega)
          rw [show (rd_T36 l1 j).f1.toNat = i + 1 by omega] at this
          exact this
        have q := (X_step hm f f0 (by omega) i (by omega)).2 _ hp
        rw [ha, Int.toNat_natCast] at q
        rw [hi, ha, hX a (by omega), show (i : Int) + 1 = ((i + 1 : Nat) : Int) by omega, hX (i + 1) (by omega)]
        exact q
    refine Ev.bind hholds (Ev.pos rfl (Ev.bind hslack ?_))
    rw [decide_eq_false (by omega)]
    refine Ev.succ ?_
    simp only [neumelaw29_SolveFits.j0]
    refine Ev.neg (by decide) ?_
    refine rise_loop l0 l1 wd lo xs f l0.length hn hl (fun i hi => ?_) ?_ l0.length 0 (by omega)
    · rw [hX i (by omega), show (i : Int) + 1 = ((i + 1 : Nat) : Int) by omega, hX (i + 1) (by omega)]
      exact (X_step hm f f0 (by omega) i hi).1
    · by_cases c : lo = true
      · have e := hm2.1 c
        subst e
        exact Ev.pos c (most_ev hb hm wd f 0 hm1 f0 f1 f3)
      · have e := hm2.2 c
        subst e
        exact Ev.neg c (most_ev hb hm wd f 8192 hm1 f0 f1 f3)
end Go.Proofs.Ytipfgmflofdedaa.Pure
