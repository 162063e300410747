/- Tokens of a text: plain lists of bytes, no program. -/
import Derived.Test.YtmffjjncnbeldaaDoorMl
namespace Go.Proofs.YtmffjjncnbeldaaDoor.Rp
open Go.RowKit Go.Proofs.YtmffjjncnbeldaaDoorW.PrintWords
set_option linter.unusedVariables false
set_option linter.unusedSimpArgs false

/-- The rune that bytes begin with, and how many bytes it has. -/
def decV : List UInt8 → Nat × Nat
  | [] => (65533, 1)
  | a :: t =>
    if a.toNat < 128 then (a.toNat, 1)
    else if a.toNat / 32 = 6 then (match t with
      | b :: _ => if b.toNat / 64 = 2 ∧ 128 ≤ a.toNat % 32 * 64 + b.toNat % 64 then (a.toNat % 32 * 64 + b.toNat % 64, 2) else (65533, 1)
      | [] => (65533, 1))
    else if a.toNat / 16 = 14 then (match t with
      | b :: c :: _ => if b.toNat / 64 = 2 ∧ c.toNat / 64 = 2 ∧ 2048 ≤ a.toNat % 16 * 4096 + b.toNat % 64 * 64 + c.toNat % 64 ∧ (a.toNat % 16 * 4096 + b.toNat % 64 * 64 + c.toNat % 64 < 55296 ∨ 57344 ≤ a.toNat % 16 * 4096 + b.toNat % 64 * 64 + c.toNat % 64) then (a.toNat % 16 * 4096 + b.toNat % 64 * 64 + c.toNat % 64, 3) else (65533, 1)
      | _ => (65533, 1))
    else if a.toNat / 8 = 30 then (match t with
      | b :: c :: d :: _ => if b.toNat / 64 = 2 ∧ c.toNat / 64 = 2 ∧ d.toNat / 64 = 2 ∧ 65536 ≤ a.toNat % 8 * 262144 + b.toNat % 64 * 4096 + c.toNat % 64 * 64 + d.toNat % 64 ∧ a.toNat % 8 * 262144 + b.toNat % 64 * 4096 + c.toNat % 64 * 64 + d.toNat % 64 ≤ 1114111 then (a.toNat % 8 * 262144 + b.toNat % 64 * 4096 + c.toNat % 64 * 64 + d.toNat % 64, 4) else (65533, 1)
      | _ => (65533, 1))
    else (65533, 1)
/-- What there is to know of it: it is an ill byte, or it stands in its own bytes, whatever follows. -/
def Dec (l : List UInt8) (q : Nat × Nat) : Prop :=
  q = (65533, 1) ∨ (1 ≤ q.2 ∧ q.2 ≤ l.length ∧ (∀ z, decV (l.take q.2 ++ z) = q) ∧ (q.1 < 128 → q.2 = 1 ∧ ∃ a, l.head? = some a ∧ a.toNat = q.1) ∧ (128 ≤ q.1 → 2 ≤ q.2) ∧
    (q.1 = 65533 → q.2 = 3 ∧ l.take 3 = [239, 191, 189]) ∧ (l.take 3 = [239, 191, 189] → q = (65533, 3)))
theorem u8_of {a : UInt8} {n : Nat} (h : a.toNat = n) (hn : n < 256) : a = UInt8.ofNat n := by
  rw [← h]
  exact (UInt8.ofNat_toNat).symm
theorem decV_dec (l : List UInt8) : Dec l (decV l) := by
  cases l with
  | nil => exact Or.inl rfl
  | cons a t =>
    have ha := a.toNat_lt
    by_cases h1 : a.toNat < 128
    · refine Or.inr ?_
      have e : decV (a :: t) = (a.toNat, 1) := by simp only [decV]; rw [if_pos h1]
      rw [e]
      refine ⟨Nat.le_refl _, by simp, fun z => by simp only [List.take, List.cons_append, decV]; rw [if_pos h1], fun _ => ⟨rfl, a, rfl, rfl⟩, fun h => absurd h (by simp only; omega), fun h => absurd h (by simp only; omega), fun h => ?_⟩
      have : a = 239 := by cases t <;> simp at h <;> exact h.1
      rw [this] at h1
      exact absurd h1 (by decide)
    · by_cases h2 : a.toNat / 32 = 6
      · cases t with
        | nil => exact Or.inl (by simp only [decV]; rw [if_neg h1, if_pos h2])
        | cons b r =>
          by_cases hc : b.toNat / 64 = 2 ∧ 128 ≤ a.toNat % 32 * 64 + b.toNat % 64
          · refine Or.inr ?_
            have e : decV (a :: b :: r) = (a.toNat % 32 * 64 + b.toNat % 64, 2) := by simp only [decV]; rw [if_neg h1, if_pos h2, if_pos hc]
            rw [e]
            refine ⟨by simp, by simp, fun z => by simp only [List.take, List.cons_append, decV]; rw [if_neg h1, if_pos h2, if_pos hc], fun h => absurd h (by simp only; omega), fun _ => Nat.le_refl _, fun h => absurd h (by simp only; omega), fun h => ?_⟩
            have : a = 239 := by cases r <;> simp at h <;> exact h.1
            rw [this] at h2
            exact absurd h2 (by decide)
          · exact Or.inl (by simp only [decV]; rw [if_neg h1, if_pos h2, if_neg hc])
      · by_cases h3 : a.toNat / 16 = 14
        · match t with
          | [] => exact Or.inl (by simp only [decV]; rw [if_neg h1, if_neg h2, if_pos h3])
          | [b] => exact Or.inl (by simp only [decV]; rw [if_neg h1, if_neg h2, if_pos h3])
          | b :: c :: r =>
            by_cases hc : b.toNat / 64 = 2 ∧ c.toNat / 64 = 2 ∧ 2048 ≤ a.toNat % 16 * 4096 + b.toNat % 64 * 64 + c.toNat % 64 ∧ (a.toNat % 16 * 4096 + b.toNat % 64 * 64 + c.toNat % 64 < 55296 ∨ 57344 ≤ a.toNat % 16 * 4096 + b.toNat % 64 * 64 + c.toNat % 64)
            · refine Or.inr ?_
              have e : decV (a :: b :: c :: r) = (a.toNat % 16 * 4096 + b.toNat % 64 * 64 + c.toNat % 64, 3) := by simp only [decV]; rw [if_neg h1, if_neg h2, if_pos h3, if_pos hc]
              rw [e]
              refine ⟨by simp, by simp, fun z => by simp only [List.take, List.cons_append, decV]; rw [if_neg h1, if_neg h2, if_pos h3, if_pos hc], fun h => absurd h (by simp only; omega), fun _ => by simp, fun h => ⟨rfl, ?_⟩, fun h => ?_⟩
              · simp only at h
                have hb := b.toNat_lt
                have hcc := c.toNat_lt
                have e1 : a = 239 := u8_of (n := 239) (by omega) (by decide)
                have e2 : b = 191 := u8_of (n := 191) (by omega) (by decide)
                have e3 : c = 189 := u8_of (n := 189) (by omega) (by decide)
                rw [e1, e2, e3]
                rfl
              · simp at h
                obtain ⟨rfl, rfl, rfl⟩ := h
                rfl
            · exact Or.inl (by simp only [decV]; rw [if_neg h1, if_neg h2, if_pos h3, if_neg hc])
        · by_cases h4 : a.toNat / 8 = 30
          · match t with
            | [] => exact Or.inl (by simp only [decV]; rw [if_neg h1, if_neg h2, if_neg h3, if_pos h4])
            | [b] => exact Or.inl (by simp only [decV]; rw [if_neg h1, if_neg h2, if_neg h3, if_pos h4])
            | [b, c] => exact Or.inl (by simp only [decV]; rw [if_neg h1, if_neg h2, if_neg h3, if_pos h4])
            | b :: c :: d :: r =>
              by_cases hc : b.toNat / 64 = 2 ∧ c.toNat / 64 = 2 ∧ d.toNat / 64 = 2 ∧ 65536 ≤ a.toNat % 8 * 262144 + b.toNat % 64 * 4096 + c.toNat % 64 * 64 + d.toNat % 64 ∧ a.toNat % 8 * 262144 + b.toNat % 64 * 4096 + c.toNat % 64 * 64 + d.toNat % 64 ≤ 1114111
              · refine Or.inr ?_
                have e : decV (a :: b :: c :: d :: r) = (a.toNat % 8 * 262144 + b.toNat % 64 * 4096 + c.toNat % 64 * 64 + d.toNat % 64, 4) := by simp only [decV]; rw [if_neg h1, if_neg h2, if_neg h3, if_pos h4, if_pos hc]
                rw [e]
                refine ⟨by simp, by simp, fun z => by simp only [List.take, List.cons_append, decV]; rw [if_neg h1, if_neg h2, if_neg h3, if_pos h4, if_pos hc], fun h => absurd h (by simp only; omega), fun _ => by simp, fun h => absurd h (by simp only; omega), fun h => ?_⟩
                have : a = 239 := by simp at h; exact h.1
                rw [this] at h4
                exact absurd h4 (by decide)
              · exact Or.inl (by simp only [decV]; rw [if_neg h1, if_neg h2, if_neg h3, if_pos h4, if_neg hc])
          · exact Or.inl (by simp only [decV]; rw [if_neg h1, if_neg h2, if_neg h3, if_neg h4])
/-- Where it is not ill, and where the bytes that it is of stand, it stands. -/
theorem decV_stand {l l' : List UInt8} (h : decV l ≠ (65533, 1)) (ht : l'.take (decV l).2 = l.take (decV l).2) : decV l' = decV l := by
  rcases decV_dec l with q | ⟨h1, h2, h3, _⟩
  · exact absurd q h
  · have := h3 (l'.drop (decV l).2)
    rw [← ht, List.take_append_drop] at this
    exact this
theorem decV_pos (l : List UInt8) : 1 ≤ (decV l).2 := by
  rcases decV_dec l with q | ⟨h1, _⟩
  · rw [q]; exact Nat.le_refl _
  · exact h1
theorem decV_le {l : List UInt8} (h : l ≠ []) : (decV l).2 ≤ l.length := by
  rcases decV_dec l with q | ⟨_, h2, _⟩
  · rw [q]; exact List.length_pos_iff.2 h
  · exact h2
/-- The program's decoder is this one. -/
theorem get_list (s : ByteArray) (i : Nat) {c : UInt8} (h : s.data.toList[i]? = some c) : s.get! i = c := by
  obtain ⟨hl, he⟩ := List.getElem?_eq_some_iff.1 h
  have hs : i < s.size := by rw [← he] at *; exact hl
  have : s.get! i = s.data[i]! := rfl
  rw [this, getElem!_pos s.data i hs, ← he]
  rfl
theorem decode_decV (s : ByteArray) (p : Nat) (h : p < s.size) : Utf8.decode s p = decV (s.data.toList.drop p) := by
  have hlen : s.data.toList.length = s.size := Array.length_toList
  have hg : ∀ k c, (s.data.toList.drop p)[k]? = some c → s.get! (p + k) = c ∧ p + k < s.size := by
    intro k c hk
    rw [List.getElem?_drop] at hk
    exact ⟨get_list s _ hk, by have := (List.getElem?_eq_some_iff.1 hk).1; omega⟩
  have hn : ∀ k, (s.data.toList.drop p).length ≤ k → ¬ p + k < s.size := by
    intro k hk
    rw [List.length_drop] at hk
    omega
  generalize hd : s.data.toList.drop p = l at hg hn
  match l with
  | [] =>
    have := congrArg List.length hd
    rw [List.length_drop] at this
    simp at this
    omega
  | a :: t =>
    have g0 := (hg 0 a rfl).1
    rw [Nat.add_zero] at g0
    unfold Utf8.decode
    simp only [Nat.add_zero, g0, Utf8.valid, Utf8.runeError]
    by_cases h1 : a.toNat < 128
    · rw [if_pos h1]
      simp only [decV]
      rw [if_pos h1]
    rw [if_neg h1]
    match t with
    | [] =>
      have n1 := hn 1 (by simp)
      simp only [n1, decide_false, Bool.false_and, Bool.and_false, Bool.false_eq_true, if_false]
      simp only [decV]
      rw [if_neg h1]
      simp
    | [b] =>
      obtain ⟨g1, k1⟩ := hg 1 b rfl
      have n2 := hn 2 (by simp)
      simp only [g1, k1, n2, decide_true, decide_false, Bool.false_and, Bool.and_false, Bool.true_and, Bool.false_eq_true, if_false]
      simp only [decV]
      rw [if_neg h1]
      by_cases h2 : a.toNat / 32 = 6
      · simp only [h2, beq_self_eq_true, Bool.true_and, if_true, beq_iff_eq]
        by_cases hb : b.toNat / 64 = 2
        · simp only [hb, if_true, true_and, ge_iff_le]
        · simp [hb]
      · simp [h2]
    | [b, c] =>
      obtain ⟨g1, k1⟩ := hg 1 b rfl
      obtain ⟨g2, k2⟩ := hg 2 c rfl
      have n3 := hn 3 (by simp)
      simp only [g1, k1, g2, k2, n3, decide_true, decide_false, Bool.false_and, Bool.and_false, Bool.true_and, Bool.false_eq_true, if_false]
      simp only [decV]
      rw [if_neg h1]
      by_cases h2 : a.toNat / 32 = 6
      · have h3 : ¬ a.toNat / 16 = 14 := by omega
        simp only [h2, h3, beq_self_eq_true, Bool.true_and, if_true, beq_iff_eq]
        by_cases hb : b.toNat / 64 = 2
        · simp only [hb, if_true, true_and, ge_iff_le]
        · simp [hb, h3]
      · by_cases h3 : a.toNat / 16 = 14
        · by_cases hb : b.toNat / 64 = 2 <;> by_cases hc : c.toNat / 64 = 2 <;> simp [h2, h3, hb, hc]
          by_cases hv : 2048 ≤ a.toNat % 16 * 4096 + b.toNat % 64 * 64 + c.toNat % 64
          · simp only [hv, true_and]
            split <;> split <;> first | rfl | omega
          · simp [hv]
        · simp [h2, h3]
    | b :: c :: d :: r =>
      obtain ⟨g1, k1⟩ := hg 1 b rfl
      obtain ⟨g2, k2⟩ := hg 2 c rfl
      obtain ⟨g3, k3⟩ := hg 3 d rfl
      simp only [g1, k1, g2, k2, g3, k3, decide_true, Bool.true_and]
      simp only [decV]
      rw [if_neg h1]
      by_cases h2 : a.toNat / 32 = 6
      · have h3 : ¬ a.toNat / 16 = 14 := by omega
        have h4 : ¬ a.toNat / 8 = 30 := by omega
        simp only [h2, h3, beq_self_eq_true, Bool.true_and, if_true, beq_iff_eq]
        by_cases hb : b.toNat / 64 = 2
        · simp only [hb, if_true, true_and, ge_iff_le]
        · simp [hb, h3, h4]
      · by_cases h3 : a.toNat / 16 = 14
        · have h4 : ¬ a.toNat / 8 = 30 := by omega
          by_cases hb : b.toNat / 64 = 2 <;> by_cases hc : c.toNat / 64 = 2 <;> simp [h2, h3, h4, hb, hc]
          by_cases hv : 2048 ≤ a.toNat % 16 * 4096 + b.toNat % 64 * 64 + c.toNat % 64
          · simp only [hv, true_and]
            split <;> split <;> first | rfl | omega
          · simp [hv]
        · by_cases h4 : a.toNat / 8 = 30
          · by_cases hb : b.toNat / 64 = 2 <;> by_cases hc : c.toNat / 64 = 2 <;> by_cases hdd : d.toNat / 64 = 2 <;> simp [h2, h3, h4, hb, hc, hdd]
            by_cases hv : 65536 ≤ a.toNat % 8 * 262144 + b.toNat % 64 * 4096 + c.toNat % 64 * 64 + d.toNat % 64
            · simp only [hv, true_and]
              split <;> split <;> first | rfl | omega
            · simp [hv]
          · simp [h2, h3, h4]
end Go.Proofs.YtmffjjncnbeldaaDoor.Rp
