/- The law FixCosts of layer 1: for all numbers the law answers true (no condition). -/
import Derived.Test.YtfnpnkhhmehidaaDoorStatFixCosts
import Derived.Test.YtfnpnkhhmehidaaDoorFixPlain
namespace Go.Proofs.YtfnpnkhhmehidaaDoor.Pure
open Go.RowKit Go.Proofs.YtfnpnkhhmehidaaDoor.P Go.Proofs.YtfnpnkhhmehidaaDoor.Rp Go.Proofs.YtfnpnkhhmehidaaDoor.Fx Go.Proofs.YtfnpnkhhmehidaaDoorW.PrintWords Go.Proofs.YtfnpnkhhmehidaaDoorW.PrintLast Go.Proofs.YtfnpnkhhmehidaaDoorW.PrintMore
set_option linter.unusedVariables false
theorem ref_bound (x : Int) : neumeref01_bound.f x = some (bd x) := by
  unfold neumeref01_bound.f mx mn bd
  congr 1
  (repeat' split) <;> omega
theorem ref_cost (a b : Int) : neumeref01_Cost.f a b = some (cost a b) := by
  have ha := bd_bd a
  have hb := bd_bd b
  unfold neumeref01_Cost.f cost
  rw [ref_bound, ref_bound]
  simp only [Option.bind_some]
  rw [wrap_id (by omega) (by omega)]
  congr 1
  generalize bd a = x at *
  generalize bd b = y at *
  unfold bd mn
  (repeat' split) <;> omega
theorem ref_sqr (a : Int) : neumeref01_Square.f a = some (sqr a) := by
  unfold neumeref01_Square.f sqr
  by_cases c1 : a > 33554432
  · rw [if_pos c1, if_pos (.inr c1)]
  rw [if_neg c1]
  by_cases c2 : a < -33554432
  · rw [if_pos c2, if_pos (.inl c2)]
  rw [if_neg c2, if_neg (by omega)]
  obtain ⟨s0, s1⟩ := sq_small (a := a) (by omega) (by omega)
  rw [wrap_id (x := a * a) (by omega) (by omega)]
  congr 1
  unfold mn bd
  (repeat' split) <;> omega
theorem u64_id {x : Int} (h0 : 0 ≤ x) (h1 : x < 18446744073709551616) : IntKind.u64.wrap x = x := by
  have e : IntKind.u64.wrap x = x % 18446744073709551616 := by simp [IntKind.wrap, IntKind.bits, IntKind.signed]
  rw [e]; omega
theorem ref_loop (x : Int) : ∀ (b : Nat) (r : Int), b ≤ 32 → 0 ≤ r → r ≤ 3037000499 → Ev (fun k => neumeref01_Root.l0 k x r ((b : Int) - 1)) (rootGo x b r)
  | 0, r, hb, h0, h1 => by
    refine Ev.succ ?_
    simp only [neumeref01_Root.l0]
    exact Ev.neg (by omega) (Ev.now _)
  | b + 1, r, hb, h0, h1 => by
    have p := pow_le32 (b := b) (by omega)
    refine Ev.succ ?_
    simp only [neumeref01_Root.l0]
    rw [show ((b + 1 : Nat) : Int) - 1 = (b : Int) by omega, u64_id (x := (b : Int)) (by omega) (by omega), shl_one (by omega), wrap_id (x := r + 2 ^ b) (by omega) (by omega), wrap_id (x := (b : Int) - 1) (by omega) (by omega)]
    refine Ev.pos (by omega) (Ev.pos (by omega) ?_)
    rw [rootGo]
    by_cases c1 : r + 2 ^ b ≤ 3037000499
    · obtain ⟨s0, s1⟩ := sq_small (a := r + 2 ^ b) (by omega) c1
      rw [wrap_id (x := (r + 2 ^ b) * (r + 2 ^ b)) (by omega) (by omega)]
      by_cases c2 : (r + 2 ^ b) * (r + 2 ^ b) ≤ x
      · rw [if_pos ⟨c1, c2⟩]
        exact Ev.pos c1 (Ev.pos c2 (ref_loop x b _ (by omega) (by omega) c1))
      · rw [if_neg (fun h => c2 h.2)]
        exact Ev.pos c1 (Ev.neg c2 (ref_loop x b _ (by omega) h0 h1))
    · rw [if_neg (fun h => c1 h.1)]
      exact Ev.neg c1 (ref_loop x b _ (by omega) h0 h1)
theorem FixCosts : FixCosts_Pure := by
  intro a b _ _
  suffices h : Ev (fun k => neumelaw01_FixCosts.f k a b) true from h.rounds
  have hr : Ev (fun k => neumeref01_Root.f k a) (rootGo a 32 0) := by
    unfold neumeref01_Root.f
    exact ref_loop a 32 0 (by omega) (by omega) (by omega)
  unfold neumelaw01_FixCosts.f
  exact Ev.bindc (cost_eq a b) (Ev.bindc (ref_cost a b) (Ev.pos rfl (Ev.bindc (sqr_eq a) (Ev.bindc (ref_sqr a) (Ev.pos rfl (Ev.bind (root_ev a) (Ev.bind hr (Ev.pos rfl heads_bind))))))))
end Go.Proofs.YtfnpnkhhmehidaaDoor.Pure
