/- The law SolveWider of layer 29: for all springs, rods, widths and what they grow by the law answers true (no condition). -/
import Derived.Test.YtipfgmflofdedaaStatSolveWider
import Derived.Test.YtipfgmflofdedaaSolvePlain
namespace Go.Proofs.Ytipfgmflofdedaa.Pure
open Go.RowKit Go.Proofs.Ytipfgmflofdedaa.P Go.Proofs.Ytipfgmflofdedaa.Rp Go.Proofs.Ytipfgmflofdedaa.So Go.Proofs.YtipfgmflofdedaaW.PrintWords Go.Proofs.YtipfgmflofdedaaW.PrintLast Go.Proofs.YtipfgmflofdedaaW.PrintMore
set_option linter.unusedVariables false
theorem headsW_bind : Ev (fun k => (neumelaw29_heads.f k).bind fun t => some t) true := Ev.some_bind (Ev.of neumelaw29_heads.mono neumelaw29_heads.at)
theorem fewW_eq (l0 : List Int) (l1 : List Rod) : neumelaw29_few.f l0 l1 = some (decide (l0.length ≤ 100 ∧ l1.length ≤ 200)) := by
  unfold neumelaw29_few.f
  by_cases c : l0.length ≤ 100
  · rw [if_pos (by omega)]
    by_cases d : l1.length ≤ 200
    · rw [decide_eq_true (by omega), decide_eq_true ⟨c, d⟩]
    · rw [decide_eq_false (by omega), decide_eq_false (fun h => d h.2)]
  · rw [if_neg (by omega), decide_eq_false (fun h => c h.1)]
theorem wider_loop (xs ys : List Int) (n : Nat) (hn : n ≤ 101) (hx : xs.length = n) (hy : ys.length = n) (h : ∀ j : Nat, j < n → rd xs j ≤ rd ys j) : ∀ (d j : Nat), j + d = n → Ev (fun k => neumelaw29_SolveWider.l0 k xs ys (j : Int)) true
  | 0, j, hj => by
    refine Ev.succ ?_
    simp only [neumelaw29_SolveWider.l0]
    exact Ev.neg (by omega) headsW_bind
  | d + 1, j, hj => by
    have ih := wider_loop xs ys n hn hx hy h d (j + 1) (by omega)
    have hj2 := h j (by omega)
    refine Ev.succ ?_
    simp only [neumelaw29_SolveWider.l0]
    rw [wrap_id (x := (j : Int) + 1) (by omega) (by omega)]
    exact Ev.pos (by omega) (Ev.pos (by omega) (Ev.pos (by omega) (Ev.neg (by omega) ih)))
theorem wide_out (l0 : List Int) (l1 : List Rod) (wd more : Int) : Ev (fun k => neumelaw29_SolveWider.j0 k l0 l1 wd more true) true := by
  refine Ev.succ ?_
  simp only [neumelaw29_SolveWider.j0]
  exact Ev.pos (by decide) headsW_bind
theorem SolveWider : SolveWider_Pure := by
  intro l0 l1 wd more h0 h1 h2 h3
  suffices h : Ev (fun k => neumelaw29_SolveWider.f k l0 l1 wd more) true from h.rounds
  unfold neumelaw29_SolveWider.f
  refine Ev.bindc (fewW_eq l0 l1) ?_
  by_cases hf : ¬ (l0.length ≤ 100 ∧ l1.length ≤ 200)
  · rw [decide_eq_false hf]
    exact Ev.neg (by decide) (wide_out l0 l1 wd more)
  rw [Decidable.not_not] at hf
  rw [decide_eq_true hf]
  refine Ev.pos rfl ?_
  obtain ⟨hn, hn1⟩ := hf
  by_cases b1 : more < 0
  · exact Ev.pos b1 (wide_out l0 l1 wd more)
  by_cases b2 : more > 1073741824
  · exact Ev.neg b1 (Ev.pos b2 (wide_out l0 l1 wd more))
  by_cases b3 : wd < 0
  · exact Ev.neg b1 (Ev.neg b2 (Ev.pos b3 (wide_out l0 l1 wd more)))
  refine Ev.neg b1 (Ev.neg b2 (Ev.neg b3 ?_))
  by_cases b4 : wd > 1073741824
  · rw [decide_eq_true b4]
    exact wide_out l0 l1 wd more
  rw [decide_eq_false b4]
  refine Ev.succ ?_
  simp only [neumelaw29_SolveWider.j0]
  refine Ev.neg (by decide) ?_
  rw [wrap_id (x := wd + more) (by omega) (by omega)]
  obtain ⟨b, hb⟩ := check_ends l0 l1
  cases b with
  | false =>
    have hs : ∀ w : Int, Ev (fun k => solve_Solve.f k l0 l1 w false) ([], 0, 2) := by
      intro w
      unfold solve_Solve.f
      exact Ev.bind hb (Ev.neg (by decide) (Ev.now _))
    exact Ev.bind (hs wd) (Ev.bind (hs (wd + more)) (Ev.neg (by decide) headsW_bind))
  | true =>
    obtain ⟨k0, hk0⟩ := hb.rounds
    have hm := rods_may hn hk0
    have hno : ∀ w : Int, 0 ≤ w → w ≤ 2147483648 → at_end l0 (rodsTo l0.length l1) (-1024) > w → Ev (fun k => solve_Solve.f k l0 l1 w false) ([], 0, 30) := by
      intro w w0 w1 w2
      unfold solve_Solve.f
      exact Ev.bind hb (Ev.pos rfl (Ev.neg (by omega) (Ev.neg (by omega) (Ev.pos w2 (Ev.now _)))))
    have hyes : ∀ w : Int, 0 ≤ w → w ≤ 2147483648 → ¬ at_end l0 (rodsTo l0.length l1) (-1024) > w → Ev (fun k => solve_Solve.f k l0 l1 w false) (at_to l0 (rodsTo l0.length l1) (fits_go (at_end l0 (rodsTo l0.length l1)) w 9217 (-1024) 8192) l0.length, fits_go (at_end l0 (rodsTo l0.length l1)) w 9217 (-1024) 8192, 0) := by
      intro w w0 w1 w2
      unfold solve_Solve.f
      exact Ev.bind hb (Ev.pos rfl (Ev.neg (by omega) (Ev.neg (by omega) (Ev.neg w2 (Ev.now _)))))
    by_cases c : at_end l0 (rodsTo l0.length l1) (-1024) > wd
    · obtain ⟨r, hr⟩ : ∃ r, Ev (fun k => solve_Solve.f k l0 l1 (wd + more) false) r := by
        by_cases c2 : at_end l0 (rodsTo l0.length l1) (-1024) > wd + more
        · exact ⟨_, hno _ (by omega) (by omega) c2⟩
        · exact ⟨_, hyes _ (by omega) (by omega) c2⟩
      exact Ev.bind (hno wd (by omega) (by omega) c) (Ev.bind hr (Ev.neg (by decide) headsW_bind))
    · obtain ⟨f0, f1, f2, f3⟩ := fits_spec (at_end l0 (rodsTo l0.length l1)) wd 9217 (-1024) 8192 (by omega) (by omega) (by omega)
      obtain ⟨g0, g1, g2, g3⟩ := fits_spec (at_end l0 (rodsTo l0.length l1)) (wd + more) 9217 (-1024) 8192 (by omega) (by omega) (by omega)
      refine Ev.bind (hyes wd (by omega) (by omega) c) (Ev.bind (hyes (wd + more) (by omega) (by omega) (by omega)) ?_)
      generalize fits_go (at_end l0 (rodsTo l0.length l1)) wd 9217 (-1024) 8192 = f at f0 f1 f2 f3 ⊢
      generalize fits_go (at_end l0 (rodsTo l0.length l1)) (wd + more) 9217 (-1024) 8192 = g at g0 g1 g2 g3 ⊢
      have hfg : f ≤ g := by
        rcases g3 with g3 | g3
        · omega
        · by_cases q : g < f
          · have := X_mono hm (g + 1) f (by omega) (by omega) f1 l0.length (Nat.le_refl _)
            rw [end_X] at f2 g3
            omega
          · omega
      have hlf := at_to_length l0 (rodsTo l0.length l1) f l0.length
      have hlg := at_to_length l0 (rodsTo l0.length l1) g l0.length
      have hX : ∀ j : Nat, j < l0.length + 1 → rd (at_to l0 (rodsTo l0.length l1) f l0.length) j ≤ rd (at_to l0 (rodsTo l0.length l1) g l0.length) j := fun j hj => by
        rw [at_le _ _ _ j _ (by omega), at_le _ _ _ j _ (by omega)]
        exact X_mono hm f g f0 hfg g1 j (by omega)
      refine Ev.pos rfl (Ev.pos rfl (Ev.neg (by show ¬ f > g; omega) ?_))
      dsimp only
      rw [hlf, hlg, bne_self_eq_false]
      refine Ev.succ ?_
      simp only [neumelaw29_SolveWider.j1]
      exact Ev.neg (by decide) (wider_loop _ _ (l0.length + 1) (by omega) hlf hlg hX (l0.length + 1) 0 (by omega))
end Go.Proofs.Ytipfgmflofdedaa.Pure
