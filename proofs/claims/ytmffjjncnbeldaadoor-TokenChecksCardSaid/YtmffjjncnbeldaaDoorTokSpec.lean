/- Tokens of a text: what they are, by lists of bytes alone. -/
import Derived.Test.YtmffjjncnbeldaaDoorTokList
namespace Go.Proofs.YtmffjjncnbeldaaDoor.Rp
open Go.RowKit Go.Proofs.YtmffjjncnbeldaaDoorW.PrintWords
set_option linter.unusedVariables false
set_option linter.unusedSimpArgs false

def blankB (c : UInt8) : Bool := c.toNat == 32 || c.toNat == 9 || c.toNat == 10 || c.toNat == 13
def signB (c : UInt8) : Bool := [123, 125, 60, 62, 124, 126, 40, 41, 47, 33, 46].contains c
def digB (c : UInt8) : Bool := decide (48 ≤ c.toNat ∧ c.toNat ≤ 57)
def letS (v n : Nat) : Bool := decide ((97 ≤ v ∧ v ≤ 122) ∨ (65 ≤ v ∧ v ≤ 90) ∨ (128 ≤ v ∧ (v = 65533 → 1 < n)))
/-- How many bytes of blanks and remarks there are ('true': within a remark). -/
def gapS : Bool → List UInt8 → Nat
  | _, [] => 0
  | false, c :: r => if blankB c = true then 1 + gapS false r else if c.toNat = 37 then 1 + gapS true r else 0
  | true, c :: r => if c.toNat = 10 then 1 + gapS false r else 1 + gapS true r
def numS : List UInt8 → Nat
  | [] => 0
  | c :: r => if digB c = true then 1 + numS r else 0
/-- How many bytes of letters there are (the first number: how many bytes of a rune are still to come). -/
def wordK : Nat → List UInt8 → Nat
  | _, [] => 0
  | k + 1, _ :: r => 1 + wordK k r
  | 0, c :: r => if letS (decV (c :: r)).1 (decV (c :: r)).2 = true then 1 + wordK ((decV (c :: r)).2 - 1) r else 0
/-- Where a string ends, from a place within it on; or what fails, and where. -/
def quotK : Nat → List UInt8 → Nat → Nat × Nat × Nat
  | _, [], i => (0, 14, i)
  | k + 1, _ :: r, i => quotK k r (i + 1)
  | 0, c :: r, i => if (decV (c :: r)).1 = 34 then (i + 1, 0, 0) else if (decV (c :: r)).1 < 32 ∨ (decV (c :: r)).1 = 127 ∨ decV (c :: r) = (65533, 1) then (0, 10, i) else quotK ((decV (c :: r)).2 - 1) r (i + 1)
def twiceS (c : UInt8) : List UInt8 → Nat × Nat × Nat
  | [] => (0, 14, 1)
  | d :: _ => if d = c then (2, 0, 0) else (0, 10, 1)
/-- The kind of the token that bytes begin with, how many bytes it has, or what fails, and where. -/
def nextS : List UInt8 → Nat × Nat × Nat × Nat
  | [] => (0, 0, 10, 0)
  | c :: r => if c.toNat = 39 ∨ c.toNat = 44 then (3, 1, 0, 0) else if signB c = true then (4, 1, 0, 0) else if digB c = true then (2, 1 + numS r, 0, 0)
    else if c.toNat = 34 then (5, quotK 0 r 1) else if c.toNat = 45 then (6, twiceS c r) else if c.toNat = 95 then (7, twiceS c r)
    else if wordK 0 (c :: r) = 0 then (0, 0, 10, 0) else (1, wordK 0 (c :: r), 0, 0)
def bareS (k : Nat) (l : List UInt8) : List UInt8 := if k = 5 then (l.drop 1).dropLast else l
def rawS (k : Nat) (l : List UInt8) : List UInt8 := if k = 5 then 34 :: (l ++ [34]) else l
abbrev Tok := Nat × List UInt8 × Nat
/-- All tokens, from a place on where there is no blank; or what fails, and where. -/
def scanS : Nat → List UInt8 → Nat → List Tok × Nat × Nat
  | 0, _, _ => ([], 1, 0)
  | f + 1, l, p => if l = [] then ([(8, [], p)], 0, 0) else if (nextS l).2.2.1 ≠ 0 then ([], (nextS l).2.2.1, p + (nextS l).2.2.2) else
      if (scanS f ((l.drop (nextS l).2.1).drop (gapS false (l.drop (nextS l).2.1))) (p + (nextS l).2.1 + gapS false (l.drop (nextS l).2.1))).2.1 = 0 then
        (((nextS l).1, bareS (nextS l).1 (l.take (nextS l).2.1), p) :: (scanS f ((l.drop (nextS l).2.1).drop (gapS false (l.drop (nextS l).2.1))) (p + (nextS l).2.1 + gapS false (l.drop (nextS l).2.1))).1, 0, 0)
      else scanS f ((l.drop (nextS l).2.1).drop (gapS false (l.drop (nextS l).2.1))) (p + (nextS l).2.1 + gapS false (l.drop (nextS l).2.1))

theorem gapS_le (b : Bool) (l : List UInt8) : gapS b l ≤ l.length := by
  induction l generalizing b with
  | nil => cases b <;> exact Nat.le_refl _
  | cons c r ih =>
    have h1 := ih false
    have h2 := ih true
    cases b <;> (simp only [gapS, List.length_cons]; repeat' split) <;> omega
theorem gapS_app (b : Bool) (x y : List UInt8) (h : gapS b (x ++ y) < x.length) (z : List UInt8) : gapS b (x ++ z) = gapS b (x ++ y) := by
  induction x generalizing b with
  | nil => simp at h
  | cons c r ih =>
    have h1 := ih false
    have h2 := ih true
    cases b
    · simp only [List.cons_append, gapS, List.length_cons] at h ⊢
      split
      · rename_i q
        rw [if_pos q] at h
        rw [h1 (by omega)]
      · rename_i q
        rw [if_neg q] at h
        split
        · rename_i q2
          rw [if_pos q2] at h
          rw [h2 (by omega)]
        · rfl
    · simp only [List.cons_append, gapS, List.length_cons] at h ⊢
      split
      · rename_i q
        rw [if_pos q] at h
        rw [h1 (by omega)]
      · rename_i q
        rw [if_neg q] at h
        rw [h2 (by omega)]
/-- Is one within a remark, behind blanks and remarks? -/
def remS : Bool → List UInt8 → Bool
  | b, [] => b
  | false, c :: r => if blankB c = true then remS false r else if c.toNat = 37 then remS true r else false
  | true, c :: r => if c.toNat = 10 then remS false r else remS true r
theorem gapS_split (b : Bool) (x y : List UInt8) (h : x.length ≤ gapS b (x ++ y)) : gapS b (x ++ y) = x.length + gapS (remS b x) y ∧ ∀ z, gapS b (x ++ z) = x.length + gapS (remS b x) z := by
  induction x generalizing b with
  | nil => simp [remS]
  | cons c r ih =>
    have h1 := ih false
    have h2 := ih true
    cases b
    · simp only [List.cons_append, gapS, List.length_cons, remS] at h ⊢
      split
      · rename_i q
        rw [if_pos q] at h
        obtain ⟨e1, e2⟩ := h1 (by omega)
        exact ⟨by omega, fun z => by rw [e2 z]; omega⟩
      · rename_i q
        rw [if_neg q] at h
        split
        · rename_i q2
          rw [if_pos q2] at h
          obtain ⟨e1, e2⟩ := h2 (by omega)
          exact ⟨by omega, fun z => by rw [e2 z]; omega⟩
        · rename_i q2
          rw [if_neg q2] at h
          omega
    · simp only [List.cons_append, gapS, List.length_cons, remS] at h ⊢
      split
      · rename_i q
        rw [if_pos q] at h
        obtain ⟨e1, e2⟩ := h1 (by omega)
        exact ⟨by omega, fun z => by rw [e2 z]; omega⟩
      · rename_i q
        rw [if_neg q] at h
        obtain ⟨e1, e2⟩ := h2 (by omega)
        exact ⟨by omega, fun z => by rw [e2 z]; omega⟩
theorem gapS_end (b : Bool) (x y : List UInt8) (h : gapS b (x ++ y) = x.length) (hy : y ≠ []) : remS b x = false ∧ gapS false y = 0 ∧ ∀ z, gapS b (x ++ z) = x.length + gapS false z := by
  obtain ⟨e1, e2⟩ := gapS_split b x y (by omega)
  have e3 : gapS (remS b x) y = 0 := by omega
  cases hr : remS b x with
  | false => rw [hr] at e2 e3; exact ⟨rfl, e3, e2⟩
  | true =>
    rw [hr] at e3
    cases y with
    | nil => exact absurd rfl hy
    | cons c r => simp only [gapS] at e3; split at e3 <;> omega
theorem numS_le (l : List UInt8) : numS l ≤ l.length := by
  induction l with
  | nil => exact Nat.le_refl _
  | cons c r ih => simp only [numS, List.length_cons]; split <;> omega
theorem numS_cont (x y z : List UInt8) (h : numS (x ++ y) = x.length) (hz : numS z = 0) : numS (x ++ z) = x.length := by
  induction x with
  | nil => exact hz
  | cons c r ih =>
    simp only [List.cons_append, numS, List.length_cons] at h ⊢
    split
    · rename_i q
      rw [if_pos q] at h
      rw [ih (by omega)]; omega
    · rename_i q
      rw [if_neg q] at h
      omega
theorem wordK_skip : ∀ (k : Nat) (l : List UInt8), k ≤ l.length → wordK k l = k + wordK 0 (l.drop k)
  | 0, l, _ => by simp
  | k + 1, [], h => by simp at h
  | k + 1, c :: r, h => by
    simp only [wordK, List.drop_succ_cons]
    rw [wordK_skip k r (by simpa using h)]
    omega
theorem wordK_le : ∀ (l : List UInt8) (k : Nat), k ≤ l.length → wordK k l ≤ l.length := by
  intro l
  induction l with
  | nil => intro k _; cases k <;> exact Nat.zero_le _
  | cons c r ih =>
    intro k h
    cases k with
    | zero =>
      simp only [wordK]
      split
      · have := ih ((decV (c :: r)).2 - 1) (by have := decV_le (l := c :: r) (by simp); simp only [List.length_cons] at this; omega)
        simp only [List.length_cons]; omega
      · exact Nat.zero_le _
    | succ k =>
      simp only [wordK, List.length_cons] at h ⊢
      have := ih k (by omega)
      omega
/-- A word's first rune, and the others. -/
theorem wordK_step {l : List UInt8} (h : l ≠ []) : wordK 0 l = if letS (decV l).1 (decV l).2 = true then (decV l).2 + wordK 0 (l.drop (decV l).2) else 0 := by
  cases l with
  | nil => exact absurd rfl h
  | cons c r =>
    simp only [wordK]
    split
    · have h1 := decV_pos (c :: r)
      have h2 := decV_le (l := c :: r) h
      simp only [List.length_cons] at h2
      rw [wordK_skip _ _ (by omega)]
      obtain ⟨m, hm⟩ : ∃ m, (decV (c :: r)).2 = m + 1 := ⟨(decV (c :: r)).2 - 1, by omega⟩
      rw [hm, Nat.add_sub_cancel, List.drop_succ_cons]
      omega
    · rfl
theorem letS_ok {q : Nat × Nat} (h : letS q.1 q.2 = true) : q ≠ (65533, 1) := by
  rintro rfl
  exact absurd h (by decide)
theorem wordK_cont : ∀ (m : Nat) (x y z : List UInt8), x.length ≤ m → wordK 0 (x ++ y) = x.length → wordK 0 z = 0 → wordK 0 (x ++ z) = x.length := by
  intro m
  induction m with
  | zero =>
    intro x y z hm h hz
    obtain rfl := List.eq_nil_of_length_eq_zero (Nat.le_zero.1 hm)
    exact hz
  | succ m ih =>
    intro x y z hm h hz
    by_cases hx : x = []
    · subst hx; exact hz
    have hxy : x ++ y ≠ [] := by simp [hx]
    have hpx := List.length_pos_iff.2 hx
    rw [wordK_step hxy] at h
    split at h
    rotate_left
    · omega
    rename_i hl
    have hok := letS_ok hl
    have hn : (decV (x ++ y)).2 ≤ x.length := by omega
    have hst : decV (x ++ z) = decV (x ++ y) := decV_stand hok (by rw [List.take_append_of_le_length hn, List.take_append_of_le_length hn])
    rw [wordK_step (by simp [hx]), hst, if_pos hl]
    have h1 := decV_pos (x ++ y)
    rw [List.drop_append_of_le_length hn] at h ⊢
    have hd := List.length_drop (i := (decV (x ++ y)).2) (l := x)
    rw [ih (x.drop (decV (x ++ y)).2) y z (by omega) (by omega) hz]
    omega
theorem quotK_skip : ∀ (k : Nat) (l : List UInt8) (i : Nat), k ≤ l.length → quotK k l i = quotK 0 (l.drop k) (i + k)
  | 0, l, i, _ => by simp
  | k + 1, [], i, h => by simp at h
  | k + 1, c :: r, i, h => by
    simp only [quotK, List.drop_succ_cons]
    rw [quotK_skip k r (i + 1) (by simpa using h)]
    congr 1
    omega
theorem quotK_step {l : List UInt8} (i : Nat) (h : l ≠ []) : quotK 0 l i = if (decV l).1 = 34 then (i + 1, 0, 0) else if (decV l).1 < 32 ∨ (decV l).1 = 127 ∨ decV l = (65533, 1) then (0, 10, i) else quotK 0 (l.drop (decV l).2) (i + (decV l).2) := by
  cases l with
  | nil => exact absurd rfl h
  | cons c r =>
    simp only [quotK]
    split
    · rfl
    · split
      · rfl
      · have h1 := decV_pos (c :: r)
        have h2 := decV_le (l := c :: r) h
        simp only [List.length_cons] at h2
        rw [quotK_skip _ _ _ (by omega)]
        obtain ⟨m, hm⟩ : ∃ m, (decV (c :: r)).2 = m + 1 := ⟨(decV (c :: r)).2 - 1, by omega⟩
        rw [hm, Nat.add_sub_cancel, List.drop_succ_cons]
        congr 1
        omega
/-- What a string's end tells: it is a fault, or it lies behind the beginning, and ends with a quote. -/
theorem quotK_ends : ∀ (m : Nat) (l : List UInt8) (i : Nat), l.length ≤ m →
    (∃ e a, quotK 0 l i = (0, e, a) ∧ e ≠ 0 ∧ i ≤ a ∧ a ≤ i + l.length) ∨ (∃ n, quotK 0 l i = (i + n + 1, 0, 0) ∧ n + 1 ≤ l.length ∧ l[n]? = some 34) := by
  intro m
  induction m with
  | zero =>
    intro l i hm
    obtain rfl := List.eq_nil_of_length_eq_zero (Nat.le_zero.1 hm)
    exact Or.inl ⟨14, i, rfl, by decide, Nat.le_refl _, Nat.le_refl _⟩
  | succ m ih =>
    intro l i hm
    by_cases hl : l = []
    · subst hl
      exact Or.inl ⟨14, i, rfl, by decide, Nat.le_refl _, Nat.le_refl _⟩
    have h1 := decV_pos l
    have h2 := decV_le hl
    rw [quotK_step i hl]
    split
    · rename_i h34
      refine Or.inr ⟨0, rfl, List.length_pos_iff.2 hl, ?_⟩
      rcases decV_dec l with q | ⟨_, _, _, q, _⟩
      · rw [q] at h34; exact absurd h34 (by decide)
      · obtain ⟨_, a, ha, hb⟩ := q (by omega)
        rw [h34] at hb
        rw [← List.head?_eq_getElem?, ha, u8_of hb (by decide)]
        rfl
    · split
      · exact Or.inl ⟨10, i, rfl, by decide, Nat.le_refl _, by omega⟩
      · have hd := List.length_drop (i := (decV l).2) (l := l)
        rcases ih (l.drop (decV l).2) (i + (decV l).2) (by omega) with ⟨e, a, r1, r2, r3, r4⟩ | ⟨n, r1, r2, r3⟩
        · exact Or.inl ⟨e, a, r1, r2, by omega, by omega⟩
        · refine Or.inr ⟨(decV l).2 + n, ?_, by omega, ?_⟩
          · rw [r1, Nat.add_assoc i]
          · rw [List.getElem?_drop] at r3; exact r3
theorem quotK_cont : ∀ (m : Nat) (x y z : List UInt8) (i : Nat), x.length ≤ m → x ≠ [] → quotK 0 (x ++ y) i = (i + x.length, 0, 0) → quotK 0 (x ++ z) i = (i + x.length, 0, 0) := by
  intro m
  induction m with
  | zero =>
    intro x y z i hm hx
    exact absurd (List.eq_nil_of_length_eq_zero (Nat.le_zero.1 hm)) hx
  | succ m ih =>
    intro x y z i hm hx h
    have hxy : x ++ y ≠ [] := by simp [hx]
    have hxz : x ++ z ≠ [] := by simp [hx]
    have hpx := List.length_pos_iff.2 hx
    rw [quotK_step i hxy] at h
    by_cases c1 : (decV (x ++ y)).1 = 34
    · rw [if_pos c1] at h
      have hok : decV (x ++ y) ≠ (65533, 1) := fun q => by rw [q] at c1; exact absurd c1 (by decide)
      have h1 : (decV (x ++ y)).2 = 1 := by
        rcases decV_dec (x ++ y) with q | ⟨_, _, _, q, _⟩
        · exact absurd q hok
        · exact (q (by omega)).1
      have hst : decV (x ++ z) = decV (x ++ y) := decV_stand hok (by rw [List.take_append_of_le_length (by omega), List.take_append_of_le_length (by omega)])
      rw [quotK_step i hxz, hst, if_pos c1]
      exact h
    · rw [if_neg c1] at h
      by_cases c2 : (decV (x ++ y)).1 < 32 ∨ (decV (x ++ y)).1 = 127 ∨ decV (x ++ y) = (65533, 1)
      · rw [if_pos c2] at h
        injection h with _ h
        injection h with h _
        exact absurd h (by decide)
      · rw [if_neg c2] at h
        have hok : decV (x ++ y) ≠ (65533, 1) := fun q => c2 (Or.inr (Or.inr q))
        have h1 := decV_pos (x ++ y)
        have hn : (decV (x ++ y)).2 < x.length := by
          rcases quotK_ends _ ((x ++ y).drop (decV (x ++ y)).2) (i + (decV (x ++ y)).2) (Nat.le_refl _) with ⟨e, a, r1, r2, _⟩ | ⟨n, r1, r2, _⟩
          · rw [r1] at h; injection h with _ h; injection h with h _; exact absurd h r2
          · rw [r1] at h; injection h with h _; omega
        have hst : decV (x ++ z) = decV (x ++ y) := decV_stand hok (by rw [List.take_append_of_le_length (by omega), List.take_append_of_le_length (by omega)])
        rw [quotK_step i hxz, hst, if_neg c1, if_neg c2]
        rw [List.drop_append_of_le_length (by omega)] at h ⊢
        have hd := List.length_drop (i := (decV (x ++ y)).2) (l := x)
        have := ih (x.drop (decV (x ++ y)).2) y z (i + (decV (x ++ y)).2) (by omega) (by intro q; rw [q] at hd; simp at hd; omega) (by rw [h]; congr 1; omega)
        rw [this]
        congr 1
        omega
/-- A token has at least one byte, and lies in the text; a fault lies in it. -/
theorem nextS_ends {l : List UInt8} (h : l ≠ []) : ((nextS l).2.2.1 = 0 → 1 ≤ (nextS l).2.1 ∧ (nextS l).2.1 ≤ l.length ∧ (nextS l).2.2.2 = 0 ∧ (nextS l).1 ≠ 8 ∧ (nextS l).1 ≠ 0) ∧ ((nextS l).2.2.1 ≠ 0 → (nextS l).2.2.2 ≤ l.length) ∧ ((nextS l).1 = 5 → (nextS l).2.2.1 = 0 → 2 ≤ (nextS l).2.1) := by
  cases l with
  | nil => exact absurd rfl h
  | cons c r =>
    have htw : ∀ (k : Nat), (twiceS c r).2.1 = 0 → (twiceS c r) = (2, 0, 0) ∧ 1 ≤ r.length := by
      intro k hk
      cases r with
      | nil => exact absurd hk (by simp [twiceS])
      | cons d q =>
        simp only [twiceS] at hk ⊢
        split
        · exact ⟨rfl, by simp⟩
        · rename_i hh; rw [if_neg hh] at hk; exact absurd hk (by decide)
    have htf : (twiceS c r).2.1 ≠ 0 → (twiceS c r).2.2 ≤ 1 := by
      intro hk
      cases r with
      | nil => exact Nat.le_refl _
      | cons d q =>
        simp only [twiceS] at hk ⊢
        split
        · exact Nat.zero_le _
        · exact Nat.le_refl _
    simp only [nextS, List.length_cons]
    split
    · simp
    split
    · simp
    split
    · have := numS_le r
      refine ⟨fun _ => ⟨by simp only; omega, by simp only; omega, rfl, by simp, by simp⟩, fun q => absurd rfl q, fun q => absurd q (by simp)⟩
    split
    · rcases quotK_ends _ r 1 (Nat.le_refl _) with ⟨e, a, r1, r2, r3, r4⟩ | ⟨n, r1, r2, _⟩
      · rw [r1]
        exact ⟨fun q => absurd q r2, fun _ => by simp only; omega, fun _ q => absurd q r2⟩
      · rw [r1]
        exact ⟨fun _ => ⟨by simp only; omega, by simp only; omega, rfl, by simp, by simp⟩, fun q => absurd rfl q, fun _ _ => by simp only; omega⟩
    split
    · refine ⟨fun q => ?_, fun q => ?_, fun q => absurd q (by simp)⟩
      · obtain ⟨e, hr⟩ := htw 0 q
        simp only at q
        rw [e]
        exact ⟨by simp, by simp only; omega, rfl, by simp, by simp⟩
      · have := htf q
        simp only at q ⊢
        omega
    split
    · refine ⟨fun q => ?_, fun q => ?_, fun q => absurd q (by simp)⟩
      · obtain ⟨e, hr⟩ := htw 0 q
        simp only at q
        rw [e]
        exact ⟨by simp, by simp only; omega, rfl, by simp, by simp⟩
      · have := htf q
        simp only at q ⊢
        omega
    split
    · exact ⟨fun q => absurd q (by decide), fun _ => Nat.zero_le _, fun q => absurd q (by decide)⟩
    · rename_i hw
      have := wordK_le (c :: r) 0 (Nat.zero_le _)
      simp only [List.length_cons] at this
      exact ⟨fun _ => ⟨by simp only; omega, this, rfl, by simp, by simp⟩, fun q => absurd rfl q, fun q => absurd q (by simp)⟩
/-- A token stands, whatever follows that belongs to no word and no number. -/
theorem nextS_cont {x y z : List UInt8} {k : Nat} (hx : x ≠ []) (h : nextS (x ++ y) = (k, x.length, 0, 0)) (hz1 : numS z = 0) (hz2 : wordK 0 z = 0) : nextS (x ++ z) = (k, x.length, 0, 0) := by
  cases x with
  | nil => exact absurd rfl hx
  | cons c r =>
    have htw : twiceS c (r ++ y) = ((c :: r).length, 0, 0) → twiceS c (r ++ z) = ((c :: r).length, 0, 0) := by
      intro hk
      have e : (twiceS c (r ++ y)).1 = r.length + 1 := by rw [hk]; rfl
      cases r with
      | nil =>
        cases y with
        | nil => simp [twiceS] at e
        | cons d q => simp only [List.nil_append, twiceS] at e; split at e <;> simp at e
      | cons d q =>
        simp only [List.cons_append, twiceS] at hk ⊢
        exact hk
    rw [List.cons_append] at h ⊢
    simp only [nextS] at h ⊢
    split
    · rename_i q; rw [if_pos q] at h; exact h
    rename_i q1
    rw [if_neg q1] at h
    split
    · rename_i q; rw [if_pos q] at h; exact h
    rename_i q2
    rw [if_neg q2] at h
    split
    · rename_i q
      rw [if_pos q] at h
      simp only [Prod.mk.injEq, List.length_cons] at h ⊢
      have hn := numS_cont r y z (by omega) hz1
      exact ⟨h.1, by omega, trivial⟩
    rename_i q3
    rw [if_neg q3] at h
    split
    · rename_i q
      rw [if_pos q] at h
      injection h with h1 h2
      have hr : r ≠ [] := by
        rintro rfl
        rcases quotK_ends _ ([] ++ y) 1 (Nat.le_refl _) with ⟨e, a, r1, r2, _⟩ | ⟨n, r1, r2, _⟩
        · rw [r1] at h2; injection h2 with _ h2; injection h2 with h2 _; exact absurd h2 r2
        · rw [r1] at h2; injection h2 with h2 _; simp at h2
      have hq := quotK_cont _ r y z 1 (Nat.le_refl _) hr (by rw [h2, List.length_cons, Nat.add_comm])
      rw [h1, hq, List.length_cons, Nat.add_comm]
    rename_i q4
    rw [if_neg q4] at h
    split
    · rename_i q
      rw [if_pos q] at h
      injection h with h1 h2
      rw [h1, htw h2]
    rename_i q5
    rw [if_neg q5] at h
    split
    · rename_i q
      rw [if_pos q] at h
      injection h with h1 h2
      rw [h1, htw h2]
    rename_i q6
    rw [if_neg q6] at h
    have hw : wordK 0 (c :: (r ++ y)) = (c :: r).length := by
      split at h
      · simp at h
      · simp only [Prod.mk.injEq] at h; exact h.2.1
    have hw2 := wordK_cont _ (c :: r) y z (Nat.le_refl _) hw hz2
    rw [List.cons_append] at hw2
    rw [hw] at h
    rw [hw2]
    exact h
end Go.Proofs.YtmffjjncnbeldaaDoor.Rp
