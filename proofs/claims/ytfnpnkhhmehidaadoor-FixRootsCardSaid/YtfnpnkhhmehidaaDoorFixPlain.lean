/- Layer 1: costs, squares and roots, without the program. -/
import Derived.Test.YtfnpnkhhmehidaaDoorPx2
import Derived.Test.YtfnpnkhhmehidaaDoorPx1
import Derived.Test.YtfnpnkhhmehidaaDoorPx1
import Derived.Test.YtfnpnkhhmehidaaDoorPx5
import Derived.Test.YtfnpnkhhmehidaaDoorEv
namespace Go.Proofs.YtfnpnkhhmehidaaDoor.Fx
open Go.RowKit Go.Proofs.YtfnpnkhhmehidaaDoor.P Go.Proofs.YtfnpnkhhmehidaaDoor.Rp Go.Proofs.YtfnpnkhhmehidaaDoorW.PrintWords Go.Proofs.YtfnpnkhhmehidaaDoorW.PrintLast Go.Proofs.YtfnpnkhhmehidaaDoorW.PrintMore
set_option linter.unusedVariables false
theorem heads_bind : Ev (fun k => (neumelaw01_heads.f k).bind fun t => some t) true := Ev.some_bind (Ev.of neumelaw01_heads.mono neumelaw01_heads.at)
theorem wrap_id {x : Int} (h : -9223372036854775808 ≤ x) (h' : x ≤ 9223372036854775807) : wrap64 x = x := by unfold wrap64; omega
theorem wf64 {x : Int} (h : (Lit.int .i64 x).wf = true) : -9223372036854775808 ≤ x ∧ x ≤ 9223372036854775807 := by
  simp [Lit.wf] at h
  exact h
/-- A number as a cost. -/
def bd (x : Int) : Int := if x < 0 then 0 else if 1125899906842624 < x then 1125899906842624 else x
theorem bound_eq (x : Int) : fix_bound.f x = some (bd x) := by
  unfold fix_bound.f mx mn bd
  congr 1
  (repeat' split) <;> omega
theorem bd_bd (x : Int) : 0 ≤ bd x ∧ bd x ≤ 1125899906842624 := by
  unfold bd
  (repeat' split) <;> omega
def cost (a b : Int) : Int := bd (bd a + bd b)
theorem cost_eq (a b : Int) : fix_Cost.f a b = some (cost a b) := by
  have ha := bd_bd a
  have hb := bd_bd b
  unfold fix_Cost.f cost
  rw [bound_eq, bound_eq]
  simp only [Option.bind_some]
  rw [wrap_id (by omega) (by omega), bound_eq]
  rfl
theorem sq_small {a : Int} (h : -3037000499 ≤ a) (h' : a ≤ 3037000499) : 0 ≤ a * a ∧ a * a ≤ 9223372030926249001 := by
  rcases Int.le_total 0 a with c | c
  · have := Int.mul_le_mul h' h' c (by omega)
    exact ⟨Int.mul_nonneg c c, by omega⟩
  · have e : a * a = (-a) * (-a) := by rw [Int.neg_mul_neg]
    have := Int.mul_le_mul (show -a ≤ 3037000499 by omega) (show -a ≤ 3037000499 by omega) (by omega) (by omega)
    have := Int.mul_nonneg (show 0 ≤ -a by omega) (show 0 ≤ -a by omega)
    omega
theorem sq_large {a : Int} (h : 33554432 < a ∨ a < -33554432) : 1125899906842624 < a * a := by
  rcases h with c | c
  · have := Int.mul_le_mul (show 33554433 ≤ a by omega) (show 33554433 ≤ a by omega) (by omega) (by omega)
    omega
  · have e : a * a = (-a) * (-a) := by rw [Int.neg_mul_neg]
    have := Int.mul_le_mul (show 33554433 ≤ -a by omega) (show 33554433 ≤ -a by omega) (by omega) (by omega)
    omega
def sqr (a : Int) : Int := if a < -33554432 ∨ a > 33554432 then 1125899906842624 else bd (a * a)
theorem sqr_eq (a : Int) : fix_Square.f a = some (sqr a) := by
  unfold fix_Square.f sqr
  by_cases c1 : a < -3037000499
  · rw [if_pos c1, if_pos (by omega)]
  rw [if_neg c1]
  by_cases c2 : a > 3037000499
  · rw [if_pos c2, if_pos (by omega)]
  rw [if_neg c2]
  obtain ⟨s0, s1⟩ := sq_small (a := a) (by omega) (by omega)
  rw [wrap_id (x := a * a) (by omega) (by omega), bound_eq]
  simp only [Option.bind_some]
  by_cases c3 : a < -33554432 ∨ a > 33554432
  · rw [if_pos c3]
    have := sq_large (a := a) (by omega)
    unfold bd
    rw [if_neg (by omega), if_pos this]
  · rw [if_neg c3]
/-- The root, bit by bit. -/
def rootGo (x : Int) : Nat → Int → Int
  | 0, r => r
  | b + 1, r => rootGo x b (if r + 2 ^ b ≤ 3037000499 ∧ (r + 2 ^ b) * (r + 2 ^ b) ≤ x then r + 2 ^ b else r)
theorem pow_le32 {b : Nat} (h : b ≤ 32) : (1 : Int) ≤ 2 ^ b ∧ (2 : Int) ^ b ≤ 4294967296 := by
  refine ⟨Int.pow_pos (by decide), ?_⟩
  have : (2 : Nat) ^ b ≤ 2 ^ 32 := Nat.pow_le_pow_right (by decide) h
  have h2 : ((2 ^ b : Nat) : Int) ≤ ((2 ^ 32 : Nat) : Int) := by exact_mod_cast this
  simpa using h2
theorem i64_bits : IntKind.i64.bits = 64 := rfl
theorem shl_one {b : Nat} (h : b ≤ 31) : shl .i64 1 (b : Int) = 2 ^ b := by
  unfold shl
  have := pow_le32 (b := b) (by omega)
  rw [i64_bits, Int.toNat_natCast, Nat.min_eq_left (by omega), Int.one_mul, IntKind.wrap_i64]
  omega
theorem wid63 : ∀ n : Int, 0 ≤ n → n < 2 ^ 63 → IntKind.i64.wrap n = n := fun n a b => by
  have b' : n < 9223372036854775808 := by simpa using b
  rw [IntKind.wrap_i64]; omega
theorem mod_half {r : Int} {b : Nat} (h : r % 2 ^ (b + 1) = 0) : r % 2 ^ b = 0 := by
  have : (2 : Int) ^ b ∣ 2 ^ (b + 1) := ⟨2, Int.pow_succ ..⟩
  exact Int.emod_eq_zero_of_dvd (Int.dvd_trans this (Int.dvd_of_emod_eq_zero h))
theorem mod_plus {r : Int} {b : Nat} (h : r % 2 ^ (b + 1) = 0) : (r + 2 ^ b) % 2 ^ b = 0 := by
  rw [Int.add_emod_right]
  exact mod_half h
theorem or_bit {r : Int} {b : Nat} (hb : b ≤ 31) (h0 : 0 ≤ r) (h1 : r ≤ 3037000499) (h : r % 2 ^ (b + 1) = 0) : Go.bits .or .i64 r (2 ^ b) = r + 2 ^ b := by
  have p := pow_le32 (b := b) (by omega)
  have e : (2 : Int) ^ (b + 1) = 2 ^ b * 2 := Int.pow_succ ..
  refine bits_join .i64 63 (by decide) wid63 (b + 1) r (2 ^ b) h0 h ?_ (by omega) (by omega) ?_
  · have : r < 9223372036854775808 := by omega
    simpa using this
  · have : (2 : Int) ^ b < 9223372036854775808 := by omega
    simpa using this
theorem root_loop (x : Int) : ∀ (b : Nat) (r : Int), b ≤ 32 → 0 ≤ r → r ≤ 3037000499 → r % 2 ^ b = 0 → Ev (fun k => fix_Root.l0 k x r (32 - (b : Int))) (rootGo x b r)
  | 0, r, hb, h0, h1, hm => by
    refine Ev.succ ?_
    simp only [fix_Root.l0]
    exact Ev.neg (by omega) (Ev.now _)
  | b + 1, r, hb, h0, h1, hm => by
    have p := pow_le32 (b := b) (by omega)
    refine Ev.succ ?_
    simp only [fix_Root.l0]
    rw [wrap_id (x := 31 - (32 - ((b + 1 : Nat) : Int))) (by omega) (by omega), show 31 - (32 - ((b + 1 : Nat) : Int)) = (b : Int) by omega, shl_one (by omega), or_bit (by omega) h0 h1 hm, wrap_id (x := 32 - ((b + 1 : Nat) : Int) + 1) (by omega) (by omega), show 32 - ((b + 1 : Nat) : Int) + 1 = 32 - (b : Int) by omega]
    refine Ev.pos (by omega) (Ev.pos (by omega) ?_)
    rw [rootGo]
    by_cases c1 : r + 2 ^ b ≤ 3037000499
    · obtain ⟨s0, s1⟩ := sq_small (a := r + 2 ^ b) (by omega) c1
      rw [wrap_id (x := (r + 2 ^ b) * (r + 2 ^ b)) (by omega) (by omega)]
      by_cases c2 : (r + 2 ^ b) * (r + 2 ^ b) ≤ x
      · rw [if_pos ⟨c1, c2⟩]
        exact Ev.pos c1 (Ev.pos c2 (root_loop x b _ (by omega) (by omega) c1 (mod_plus hm)))
      · rw [if_neg (fun h => c2 h.2)]
        exact Ev.pos c1 (Ev.neg c2 (root_loop x b _ (by omega) h0 h1 (mod_half hm)))
    · rw [if_neg (fun h => c1 h.1)]
      exact Ev.neg c1 (root_loop x b _ (by omega) h0 h1 (mod_half hm))
theorem root_ev (x : Int) : Ev (fun k => fix_Root.f k x) (rootGo x 32 0) := by
  unfold fix_Root.f
  exact root_loop x 32 0 (by omega) (by omega) (by omega) (by decide)
/-- What a root is. -/
theorem root_neg {x : Int} (hx : x < 0) : ∀ (b : Nat) (r : Int), 0 ≤ r → rootGo x b r = r
  | 0, r, h => rfl
  | b + 1, r, h => by
    have p : (1 : Int) ≤ 2 ^ b := Int.pow_pos (by decide)
    have s := Int.mul_nonneg (show 0 ≤ r + 2 ^ b by omega) (show 0 ≤ r + 2 ^ b by omega)
    rw [rootGo, if_neg (by omega)]
    exact root_neg hx b r h
theorem root_is {x : Int} (hx : 0 ≤ x) : ∀ (b : Nat) (r : Int), 0 ≤ r → r ≤ 3037000499 → r * r ≤ x → (3037000499 < r + 2 ^ b ∨ x < (r + 2 ^ b) * (r + 2 ^ b)) →
    0 ≤ rootGo x b r ∧ rootGo x b r ≤ 3037000499 ∧ rootGo x b r * rootGo x b r ≤ x ∧ (rootGo x b r = 3037000499 ∨ x < (rootGo x b r + 1) * (rootGo x b r + 1))
  | 0, r, h0, h1, h2, h3 => by
    rw [rootGo]
    refine ⟨h0, h1, h2, ?_⟩
    rcases h3 with h | h
    · left
      have : (2 : Int) ^ 0 = 1 := rfl
      omega
    · right
      exact h
  | b + 1, r, h0, h1, h2, h3 => by
    have p : (1 : Int) ≤ 2 ^ b := Int.pow_pos (by decide)
    have e : (2 : Int) ^ (b + 1) = 2 ^ b + 2 ^ b := by rw [Int.pow_succ]; omega
    rw [rootGo]
    by_cases c : r + 2 ^ b ≤ 3037000499 ∧ (r + 2 ^ b) * (r + 2 ^ b) ≤ x
    · rw [if_pos c]
      refine root_is hx b _ (by omega) c.1 c.2 ?_
      rw [e] at h3
      rw [Int.add_assoc]
      exact h3
    · rw [if_neg c]
      refine root_is hx b r h0 h1 h2 ?_
      by_cases c1 : r + 2 ^ b ≤ 3037000499
      · right
        have : ¬ (r + 2 ^ b) * (r + 2 ^ b) ≤ x := fun h => c ⟨c1, h⟩
        omega
      · left; omega
end Go.Proofs.YtfnpnkhhmehidaaDoor.Fx
