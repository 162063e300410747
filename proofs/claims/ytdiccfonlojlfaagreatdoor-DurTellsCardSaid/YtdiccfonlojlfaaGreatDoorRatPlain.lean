/- Fractions in lowest terms: plain facts on whole numbers, no program. -/
import Derived.RowKit
import Derived.Test.YtdiccfonlojlfaaGreatDoorMl
namespace Go.Proofs.YtdiccfonlojlfaaGreatDoor.Rp
set_option linter.unusedVariables false
open Go.RowKit


theorem wrap_id {x : Int} (h1 : -9223372036854775808 ≤ x) (h2 : x ≤ 9223372036854775807) : wrap64 x = x := by unfold wrap64; omega
/-- The absolute value, as an if. -/
def ab (x : Int) : Int := if x < 0 then -x else x
theorem ab_nn (x : Int) : 0 ≤ ab x := by unfold ab; split <;> omega
theorem ab_natAbs (x : Int) : (ab x).natAbs = x.natAbs := by unfold ab; split <;> omega
theorem ab_eq (x : Int) : ab x = x.natAbs := by unfold ab; split <;> omega
theorem ab_le {x m : Int} : ab x ≤ m ↔ -m ≤ x ∧ x ≤ m := by unfold ab; split <;> omega
def gc (a b : Int) : Int := (Int.gcd a b : Int)
theorem gc_nn (a b : Int) : 0 ≤ gc a b := by unfold gc; omega
theorem gc_pos {a b : Int} (h : b ≠ 0) : 0 < gc a b := by
  unfold gc
  have : 0 < Int.gcd a b := Nat.pos_of_ne_zero (fun h0 => h (Int.gcd_eq_zero_iff.1 h0).2)
  omega
theorem gc_le {a b : Int} (h : 0 < b) : gc a b ≤ b := Int.le_of_dvd h (Int.gcd_dvd_right a b)
theorem gc_dvd_l (a b : Int) : gc a b ∣ a := Int.gcd_dvd_left a b
theorem gc_dvd_r (a b : Int) : gc a b ∣ b := Int.gcd_dvd_right a b
theorem gc_ab_l (a b : Int) : gc (ab a) b = gc a b := by unfold gc Int.gcd; rw [ab_natAbs]
theorem gc_ab_r (a b : Int) : gc a (ab b) = gc a b := by unfold gc Int.gcd; rw [ab_natAbs]
theorem gc_zero (a : Int) (h : 0 ≤ a) : gc a 0 = a := by unfold gc; rw [Int.gcd_zero]; omega
theorem gc_step {a b : Int} (ha : 0 ≤ a) (hb : 0 < b) : gc b (Int.tmod a b) = gc a b := by
  unfold gc Int.gcd
  rw [Int.tmod_eq_emod_of_nonneg ha]
  obtain ⟨m, rfl⟩ := Int.eq_ofNat_of_zero_le ha
  obtain ⟨n, rfl⟩ := Int.eq_ofNat_of_zero_le (Int.le_of_lt hb)
  rw [show ((m : Int) % (n : Int)).natAbs = m % n by omega]
  simp only [Int.natAbs_natCast]
  rw [Nat.gcd_comm n, ← Nat.gcd_rec, Nat.gcd_comm]
theorem div_dvd {a b : Int} (h : b ∣ a) : Int.tdiv a b * b = a := Int.tdiv_mul_cancel h
theorem tdiv_bd {a b m : Int} (hb : b ≠ 0) (h : -m ≤ a ∧ a ≤ m) : -m ≤ Int.tdiv a b ∧ Int.tdiv a b ≤ m := by
  have h1 : (Int.tdiv a b).natAbs ≤ a.natAbs := by
    rw [Int.natAbs_tdiv]
    exact Nat.div_le_self _ _
  omega

/-- May (n, d) be a fraction? -/
def Ok (n d : Int) : Prop := 1 ≤ d ∧ d ≤ 1048576 ∧ -1099511627776 ≤ n ∧ n ≤ 1099511627776 ∧ gc n d = 1
instance (n d : Int) : Decidable (Ok n d) := by unfold Ok; exact inferInstance
/-- (n, d) in lowest terms, d not 0; or 3, if it is too great. -/
def lowG (n d : Int) : Int := if d < 0 then -gc n d else gc n d
def low (n d : Int) : Int × Int × Int :=
  if ab (Int.tdiv n (lowG n d)) > 1099511627776 ∨ Int.tdiv d (lowG n d) > 1048576 then (0, 0, 3) else (Int.tdiv n (lowG n d), Int.tdiv d (lowG n d), 0)
theorem lowG_dvd_l (n d : Int) : lowG n d ∣ n := by unfold lowG; split; exact Int.neg_dvd.2 (gc_dvd_l n d); exact gc_dvd_l n d
theorem lowG_dvd_r (n d : Int) : lowG n d ∣ d := by unfold lowG; split; exact Int.neg_dvd.2 (gc_dvd_r n d); exact gc_dvd_r n d
theorem lowG_ne (n d : Int) (h : d ≠ 0) : lowG n d ≠ 0 := by have := gc_pos (a := n) h; unfold lowG; split <;> omega
theorem lowG_sign {n d : Int} (h : d ≠ 0) : 0 < d * lowG n d := by
  have := gc_pos (a := n) h
  unfold lowG
  split
  · exact Int.mul_pos_of_neg_of_neg (by omega) (by omega)
  · exact Int.mul_pos (by omega) this
/-- What comes of it: the same fraction, with a Den above 0, and nothing in common. -/
theorem low_parts {n d : Int} (h : d ≠ 0) : ∃ a b : Int, Int.tdiv n (lowG n d) = a ∧ Int.tdiv d (lowG n d) = b ∧ a * lowG n d = n ∧ b * lowG n d = d ∧ 0 < b ∧ gc a b = 1 ∧ a * d = n * b := by
  have e1 := div_dvd (lowG_dvd_l n d)
  have e2 := div_dvd (lowG_dvd_r n d)
  refine ⟨_, _, rfl, rfl, e1, e2, ?_, ?_, ?_⟩
  · have hs := lowG_sign (n := n) h
    rcases Int.lt_trichotomy (Int.tdiv d (lowG n d)) 0 with hb | hb | hb
    · exfalso
      have : d * lowG n d = Int.tdiv d (lowG n d) * (lowG n d * lowG n d) := by rw [← Int.mul_assoc, e2]
      rw [this] at hs
      have hq : 0 ≤ lowG n d * lowG n d := by
        rcases Int.le_total 0 (lowG n d) with h | h
        · exact Int.mul_nonneg h h
        · exact Int.mul_nonneg_of_nonpos_of_nonpos h h
      have := Int.mul_nonpos_of_nonpos_of_nonneg (Int.le_of_lt hb) hq
      omega
    · rw [hb] at e2; omega
    · exact hb
  · have hg := gc_pos (a := n) h
    have h1 : gc n d = gc (Int.tdiv n (lowG n d)) (Int.tdiv d (lowG n d)) * (lowG n d).natAbs := by
      unfold gc
      rw [← Int.natCast_mul, ← Int.gcd_mul_right, e1, e2]
    have h2 : ((lowG n d).natAbs : Int) = gc n d := by unfold lowG; split <;> omega
    rw [h2] at h1
    have := Int.eq_of_mul_eq_mul_right (show gc n d ≠ 0 by omega) (show gc (Int.tdiv n (lowG n d)) (Int.tdiv d (lowG n d)) * gc n d = 1 * gc n d by omega)
    exact this
  · generalize Int.tdiv n (lowG n d) = x at e1 ⊢
    generalize Int.tdiv d (lowG n d) = y at e2 ⊢
    generalize lowG n d = g at e1 e2
    subst e1; subst e2
    rw [Int.mul_assoc, Int.mul_comm g y]
theorem low_ok {n d : Int} (h : d ≠ 0) {a b : Int} (hl : low n d = (a, b, 0)) : Ok a b ∧ a * d = n * b := by
  obtain ⟨a', b', e1, e2, _, _, h3, h4, h5⟩ := low_parts (n := n) h
  unfold low at hl
  rw [e1, e2] at hl
  split at hl
  · simp at hl
  · rename_i hh
    simp only [Prod.mk.injEq, and_true] at hl
    obtain ⟨rfl, rfl⟩ := hl
    have hab := ab_le (x := a') (m := 1099511627776)
    exact ⟨⟨by omega, by omega, by omega, by omega, h4⟩, h5⟩
theorem low_code (n d : Int) : (low n d).2.2 = 0 ∨ low n d = (0, 0, 3) := by unfold low; split; exact .inr rfl; exact .inl rfl
theorem dvd_cop {k m n : Int} (h : k ∣ m * n) (hc : Int.gcd k m = 1) : k ∣ n := by
  rw [← Int.natAbs_dvd_natAbs] at h ⊢
  rw [Int.natAbs_mul] at h
  exact Nat.Coprime.dvd_of_dvd_mul_left hc h
/-- Lowest terms are one. -/
theorem same {a b c d : Int} (hb : 0 < b) (hd : 0 < d) (h1 : gc a b = 1) (h2 : gc c d = 1) (h : a * d = c * b) : a = c ∧ b = d := by
  have k1 : Int.gcd a b = 1 := by unfold gc at h1; omega
  have k2 : Int.gcd c d = 1 := by unfold gc at h2; omega
  have db : b ∣ d := by
    have : b ∣ a * d := ⟨c, by rw [h, Int.mul_comm]⟩
    exact dvd_cop this (by rw [Int.gcd_comm]; exact k1)
  have dd : d ∣ b := by
    have : d ∣ c * b := ⟨a, by rw [← h, Int.mul_comm]⟩
    exact dvd_cop this (by rw [Int.gcd_comm]; exact k2)
  have e : b = d := Int.le_antisymm (Int.le_of_dvd hd db) (Int.le_of_dvd hb dd)
  subst e
  exact ⟨Int.eq_of_mul_eq_mul_right (by omega) h, rfl⟩
end Go.Proofs.YtdiccfonlojlfaaGreatDoor.Rp