/- Tokens of a text: what tokens that are read, or may be, have in common; what stands where blanks are put in. -/
import Derived.Test.YtmffjjncnbeldaaDoorTokSpec
namespace Go.Proofs.YtmffjjncnbeldaaDoor.Rp
open Go.RowKit Go.Proofs.YtmffjjncnbeldaaDoorW.PrintWords
set_option linter.unusedVariables false
set_option linter.unusedSimpArgs false

/-- A token stands, whatever follows, but for a number's digits and a word's letters. -/
theorem nextS_cont2 {x y z : List UInt8} {k : Nat} (hx : x ≠ []) (h : nextS (x ++ y) = (k, x.length, 0, 0)) (hz1 : k = 2 → numS z = 0) (hz2 : k = 1 → wordK 0 z = 0) : nextS (x ++ z) = (k, x.length, 0, 0) := by
  by_cases c : k = 1 ∨ k = 2
  · -- a word or a number: what follows is no matter of the other
    cases x with
    | nil => exact absurd rfl hx
    | cons c0 r =>
      have e1 : (nextS (c0 :: (r ++ y))).1 = k := by rw [← List.cons_append, h]
      have e2 : (nextS (c0 :: (r ++ y))).2.1 = (c0 :: r).length := by rw [← List.cons_append, h]
      have e3 : (nextS (c0 :: (r ++ y))).2.2 = (0, 0) := by rw [← List.cons_append, h]
      rw [List.cons_append]
      simp only [nextS] at e1 e2 e3 ⊢
      split
      · rename_i q; rw [if_pos q] at e1; simp only at e1; omega
      rename_i q1
      rw [if_neg q1] at e1 e2 e3
      split
      · rename_i q; rw [if_pos q] at e1; simp only at e1; omega
      rename_i q2
      rw [if_neg q2] at e1 e2 e3
      split
      · rename_i q
        rw [if_pos q] at e1 e2
        simp only at e1 e2
        have hn := numS_cont r y z (by simp only [List.length_cons] at e2; omega) (hz1 e1.symm)
        rw [hn, ← e1, List.length_cons, Nat.add_comm]
      rename_i q3
      rw [if_neg q3] at e1 e2 e3
      split
      · rename_i q; rw [if_pos q] at e1; simp only at e1; omega
      rename_i q4
      rw [if_neg q4] at e1 e2 e3
      split
      · rename_i q; rw [if_pos q] at e1; simp only at e1; omega
      rename_i q5
      rw [if_neg q5] at e1 e2 e3
      split
      · rename_i q; rw [if_pos q] at e1; simp only at e1; omega
      rename_i q6
      rw [if_neg q6] at e1 e2 e3
      by_cases q7 : wordK 0 (c0 :: (r ++ y)) = 0
      · rw [if_pos q7] at e1; simp only at e1; omega
      rw [if_neg q7] at e1 e2
      simp only at e1 e2
      have hw := wordK_cont _ (c0 :: r) y z (Nat.le_refl _) e2 (hz2 e1.symm)
      rw [List.cons_append] at hw
      rw [hw, if_neg (by simp), ← e1]
  · -- another one: it ends by itself
    have hz : nextS (x ++ z) = nextS (x ++ y) := by
      cases x with
      | nil => exact absurd rfl hx
      | cons c0 r =>
        have e1 : (nextS (c0 :: (r ++ y))).1 = k := by rw [← List.cons_append, h]
        have hq : nextS (c0 :: (r ++ y)) = (k, (c0 :: r).length, 0, 0) := by rw [← List.cons_append, h]
        rw [List.cons_append, List.cons_append]
        simp only [nextS] at e1 hq ⊢
        split
        · rfl
        rename_i q1
        rw [if_neg q1] at e1 hq
        split
        · rfl
        rename_i q2
        rw [if_neg q2] at e1 hq
        split
        · rename_i q; rw [if_pos q] at e1; simp only at e1; omega
        rename_i q3
        rw [if_neg q3] at e1 hq
        have htw : twiceS c0 (r ++ y) = ((c0 :: r).length, 0, 0) → twiceS c0 (r ++ z) = twiceS c0 (r ++ y) := by
          intro hk
          have e : (twiceS c0 (r ++ y)).1 = r.length + 1 := by rw [hk]; rfl
          cases r with
          | nil =>
            cases y with
            | nil => simp [twiceS] at e
            | cons d q => simp only [List.nil_append, twiceS] at e; split at e <;> simp at e
          | cons d q => simp only [List.cons_append, twiceS]
        split
        · rename_i q
          rw [if_pos q] at hq
          injection hq with h1 h2
          have hr : r ≠ [] := by
            rintro rfl
            rcases quotK_ends _ ([] ++ y) 1 (Nat.le_refl _) with ⟨e, a, r1, r2, _⟩ | ⟨n, r1, r2, _⟩
            · rw [r1] at h2; injection h2 with _ h2; injection h2 with h2 _; exact absurd h2 r2
            · rw [r1] at h2; injection h2 with h2 _; simp at h2
          have hq2 := quotK_cont _ r y z 1 (Nat.le_refl _) hr (by rw [h2, List.length_cons, Nat.add_comm])
          rw [hq2, h2, List.length_cons, Nat.add_comm]
        rename_i q4
        rw [if_neg q4] at e1 hq
        split
        · rename_i q
          rw [if_pos q] at hq
          injection hq with h1 h2
          rw [htw h2]
        rename_i q5
        rw [if_neg q5] at e1 hq
        split
        · rename_i q
          rw [if_pos q] at hq
          injection hq with h1 h2
          rw [htw h2]
        rename_i q6
        rw [if_neg q6] at e1 hq
        by_cases q7 : wordK 0 (c0 :: (r ++ y)) = 0
        · rw [if_pos q7] at hq; simp at hq
        · rw [if_neg q7] at e1; simp only at e1; omega
    rw [hz, h]
/-- What a word leaves behind is no letter, what a number leaves behind no digit. -/
theorem nextS_left {x y : List UInt8} {k : Nat} (h : nextS (x ++ y) = (k, x.length, 0, 0)) (hx : x ≠ []) : (k = 2 → numS y = 0) ∧ (k = 1 → wordK 0 y = 0) := by
  have num : ∀ (r y : List UInt8), numS (r ++ y) = r.length → numS y = 0 := by
    intro r
    induction r with
    | nil => intro y h; exact h
    | cons c r ih =>
      intro y h
      simp only [List.cons_append, numS, List.length_cons] at h
      split at h
      · exact ih y (by omega)
      · omega
  have wrd : ∀ (m : Nat) (x y : List UInt8), x.length ≤ m → wordK 0 (x ++ y) = x.length → wordK 0 y = 0 := by
    intro m
    induction m with
    | zero =>
      intro x y hm h
      obtain rfl := List.eq_nil_of_length_eq_zero (Nat.le_zero.1 hm)
      exact h
    | succ m ih =>
      intro x y hm h
      by_cases hx : x = []
      · subst hx; exact h
      have hpx := List.length_pos_iff.2 hx
      rw [wordK_step (by simp [hx])] at h
      split at h
      · have h1 := decV_pos (x ++ y)
        rw [List.drop_append_of_le_length (by omega)] at h
        have hd := List.length_drop (i := (decV (x ++ y)).2) (l := x)
        exact ih (x.drop (decV (x ++ y)).2) y (by omega) (by omega)
      · omega
  cases x with
  | nil => exact absurd rfl hx
  | cons c0 r =>
    have e1 : (nextS (c0 :: (r ++ y))).1 = k := by rw [← List.cons_append, h]
    have e2 : (nextS (c0 :: (r ++ y))).2.1 = (c0 :: r).length := by rw [← List.cons_append, h]
    simp only [nextS] at e1 e2
    split at e1
    · simp only at e1; exact ⟨fun q => by omega, fun q => by omega⟩
    rename_i q1
    rw [if_neg q1] at e2
    split at e1
    · simp only at e1; exact ⟨fun q => by omega, fun q => by omega⟩
    rename_i q2
    rw [if_neg q2] at e2
    split at e1
    · rename_i q
      rw [if_pos q] at e2
      simp only [List.length_cons] at e1 e2
      exact ⟨fun _ => num r y (by omega), fun q => by omega⟩
    rename_i q3
    rw [if_neg q3] at e2
    split at e1
    · simp only at e1; exact ⟨fun q => by omega, fun q => by omega⟩
    rename_i q4
    rw [if_neg q4] at e2
    split at e1
    · simp only at e1; exact ⟨fun q => by omega, fun q => by omega⟩
    rename_i q5
    rw [if_neg q5] at e2
    split at e1
    · simp only at e1; exact ⟨fun q => by omega, fun q => by omega⟩
    rename_i q6
    rw [if_neg q6] at e2
    by_cases q7 : wordK 0 (c0 :: (r ++ y)) = 0
    · rw [if_pos q7] at e1; simp only at e1; exact ⟨fun q => by omega, fun q => by omega⟩
    · rw [if_neg q7] at e1 e2
      simp only at e1 e2
      exact ⟨fun q => by omega, fun _ => wrd _ (c0 :: r) y (Nat.le_refl _) e2⟩
/-- A string has a quote at its beginning, and at its end. -/
theorem nextS_five {l : List UInt8} {n : Nat} (h : nextS l = (5, n, 0, 0)) : ∃ t, l.take n = 34 :: (t ++ [34]) ∧ n = t.length + 2 := by
  cases l with
  | nil => simp [nextS] at h
  | cons c r =>
    have e1 : (nextS (c :: r)).1 = 5 := by rw [h]
    simp only [nextS] at e1 h
    split at e1
    · simp at e1
    rename_i q1
    rw [if_neg q1] at h
    split at e1
    · simp at e1
    rename_i q2
    rw [if_neg q2] at h
    split at e1
    · simp at e1
    rename_i q3
    rw [if_neg q3] at h
    split at e1
    · rename_i q4
      rw [if_pos q4] at h
      injection h with _ h
      rcases quotK_ends _ r 1 (Nat.le_refl _) with ⟨e, a, r1, r2, _⟩ | ⟨m, r1, r2, r3⟩
      · rw [r1] at h; injection h with _ h; injection h with h _; exact absurd h r2
      · rw [r1] at h
        injection h with h _
        refine ⟨r.take m, ?_, by rw [List.length_take]; omega⟩
        rw [← h, u8_of q4 (by decide), show 1 + m + 1 = (m + 1) + 1 by omega, List.take_succ_cons, List.take_add_one, r3]
        rfl
    rename_i q4
    split at e1
    · simp at e1
    split at e1
    · simp at e1
    split at e1 <;> simp at e1
theorem raw_bare {l : List UInt8} {k n : Nat} (h : nextS l = (k, n, 0, 0)) : rawS k (bareS k (l.take n)) = l.take n := by
  by_cases c : k = 5
  · subst c
    obtain ⟨t, ht, _⟩ := nextS_five h
    unfold rawS bareS
    rw [if_pos rfl, if_pos rfl, ht]
    simp
  · unfold rawS bareS
    rw [if_neg c, if_neg c]
theorem bare_raw (k : Nat) (t : List UInt8) : bareS k (rawS k t) = t := by
  by_cases c : k = 5
  · unfold rawS bareS
    rw [if_pos c, if_pos c]
    simp
  · unfold rawS bareS
    rw [if_neg c, if_neg c]
/-- Are bytes just one token? -/
def aloneS (k : Nat) (t : List UInt8) : Prop := rawS k t ≠ [] ∧ (rawS k t).length ≤ 65536 ∧ gapS false (rawS k t) = 0 ∧ nextS (rawS k t) = (k, (rawS k t).length, 0, 0)
/-- May tokens be, the first from a place on? -/
def checkS : List Tok → Nat → Prop
  | [], _ => False
  | [t], e => e ≤ t.2.2 ∧ t.1 = 8 ∧ t.2.1 = []
  | t :: u :: r, e => e ≤ t.2.2 ∧ aloneS t.1 t.2.1 ∧ checkS (u :: r) (t.2.2 + (rawS t.1 t.2.1).length)
theorem nextS_full {l : List UInt8} (hl : l ≠ []) (h : (nextS l).2.2.1 = 0) : nextS l = ((nextS l).1, (nextS l).2.1, 0, 0) := by
  obtain ⟨e1, _, _⟩ := nextS_ends hl
  obtain ⟨_, _, d, _⟩ := e1 h
  exact Prod.ext rfl (Prod.ext rfl (Prod.ext h d))
/-- What a text's first token tells of its bytes. -/
theorem first_alone {l : List UInt8} {k n : Nat} (hl : l ≠ []) (hg : gapS false l = 0) (h : nextS l = (k, n, 0, 0)) (hs : l.length ≤ 65536) : aloneS k (bareS k (l.take n)) ∧ n ≤ l.length ∧ 1 ≤ n := by
  obtain ⟨e1, _, _⟩ := nextS_ends hl
  rw [h] at e1
  obtain ⟨d1, d2, _⟩ := e1 rfl
  simp only at d1 d2
  have ht : (l.take n).length = n := by rw [List.length_take]; omega
  have hx : l.take n ≠ [] := fun q => by rw [q] at ht; simp at ht; omega
  unfold aloneS
  rw [raw_bare h]
  refine ⟨⟨hx, by omega, ?_, ?_⟩, d2, d1⟩
  · have hh := hg
    rw [← List.take_append_drop n l] at hh
    have := gapS_app false (l.take n) (l.drop n) (by omega) []
    rw [List.append_nil] at this
    omega
  · have h2 : nextS (l.take n ++ l.drop n) = (k, (l.take n).length, 0, 0) := by rw [List.take_append_drop, ht]; exact h
    have := nextS_cont2 (z := []) hx h2 (fun _ => rfl) (fun _ => rfl)
    rw [List.append_nil] at this
    exact this
theorem gap_idem (l : List UInt8) : gapS false (l.drop (gapS false l)) = 0 := by
  by_cases c : l.drop (gapS false l) = []
  · rw [c]; rfl
  · have h := gapS_end false (l.take (gapS false l)) (l.drop (gapS false l)) (by rw [List.take_append_drop, List.length_take]; have := gapS_le false l; omega) c
    exact h.2.1
/-- What one step of the reading tells, where no fault comes. -/
theorem scanS_step {f : Nat} {l : List UInt8} {p : Nat} {ts : List Tok} (h : scanS (f + 1) l p = (ts, 0, 0)) :
    (l = [] ∧ ts = [(8, [], p)]) ∨ (l ≠ [] ∧ ∃ k n ts', nextS l = (k, n, 0, 0) ∧ ts = (k, bareS k (l.take n), p) :: ts' ∧ scanS f ((l.drop n).drop (gapS false (l.drop n))) (p + n + gapS false (l.drop n)) = (ts', 0, 0)) := by
  simp only [scanS] at h
  split at h
  · rename_i q
    injection h with h _
    exact Or.inl ⟨q, h.symm⟩
  · rename_i q
    refine Or.inr ⟨q, ?_⟩
    split at h
    · rename_i q2
      injection h with _ h
      injection h with h _
      exact absurd h q2
    · rename_i q2
      have q3 : (nextS l).2.2.1 = 0 := Decidable.not_not.1 q2
      have hf := nextS_full q q3
      split at h
      · rename_i q4
        injection h with h _
        have hz : (scanS f ((l.drop (nextS l).2.1).drop (gapS false (l.drop (nextS l).2.1))) (p + (nextS l).2.1 + gapS false (l.drop (nextS l).2.1))) = ((scanS f ((l.drop (nextS l).2.1).drop (gapS false (l.drop (nextS l).2.1))) (p + (nextS l).2.1 + gapS false (l.drop (nextS l).2.1))).1, 0, 0) := by
          have : ∀ (f : Nat) (l : List UInt8) (p : Nat), (scanS f l p).2.1 = 0 → (scanS f l p).2.2 = 0 := by
            intro f
            induction f with
            | zero => intro l p h; exact absurd h (by simp [scanS])
            | succ f ih =>
              intro l p h
              simp only [scanS] at h ⊢
              split
              · rfl
              · rename_i q
                rw [if_neg q] at h
                split
                · rename_i q2; rw [if_pos q2] at h; exact absurd h q2
                · rename_i q2
                  rw [if_neg q2] at h
                  split
                  · rfl
                  · rename_i q3; rw [if_neg q3] at h; exact absurd h q3
          exact Prod.ext rfl (Prod.ext q4 (this _ _ _ q4))
        exact ⟨_, _, _, hf, h.symm, hz⟩
      · rename_i q4
        rw [h] at q4
        exact absurd rfl q4
/-- Tokens that are read may be. -/
theorem scan_check : ∀ (f : Nat) (l : List UInt8) (p e : Nat) (ts : List Tok), l.length ≤ 65536 → gapS false l = 0 → e ≤ p → scanS f l p = (ts, 0, 0) → checkS ts e := by
  intro f
  induction f with
  | zero => intro l p e ts _ _ _ h; simp [scanS] at h
  | succ f ih =>
    intro l p e ts hs hg he h
    rcases scanS_step h with ⟨rfl, rfl⟩ | ⟨hl, k, n, ts', h1, rfl, h2⟩
    · exact ⟨he, rfl, rfl⟩
    · obtain ⟨ha, hn, _⟩ := first_alone hl hg h1 hs
      have hrl : (rawS k (bareS k (l.take n))).length = n := by rw [raw_bare h1, List.length_take]; omega
      have hc := ih _ _ (p + n) ts' (by rw [List.length_drop, List.length_drop]; omega) (gap_idem _) (by omega) h2
      cases ts' with
      | nil => exact absurd hc (by simp [checkS])
      | cons u r =>
        refine ⟨he, ha, ?_⟩
        simp only
        rw [hrl]
        exact hc
theorem scan_fuel : ∀ (f g : Nat) (l : List UInt8) (p q : Nat), l.length < f → l.length < g → (scanS f l p).1.map (fun t => (t.1, t.2.1)) = (scanS g l q).1.map (fun t => (t.1, t.2.1)) ∧ (scanS f l p).2.1 = (scanS g l q).2.1 := by
  intro f
  induction f with
  | zero => intro g l p q h; omega
  | succ f ih =>
    intro g l p q h1 h2
    obtain ⟨g, rfl⟩ : ∃ m, g = m + 1 := ⟨g - 1, by omega⟩
    simp only [scanS]
    by_cases c : l = []
    · rw [if_pos c, if_pos c]; exact ⟨rfl, rfl⟩
    rw [if_neg c, if_neg c]
    by_cases c2 : (nextS l).2.2.1 ≠ 0
    · rw [if_pos c2, if_pos c2]; exact ⟨rfl, rfl⟩
    rw [if_neg c2, if_neg c2]
    obtain ⟨e1, _, _⟩ := nextS_ends c
    obtain ⟨d1, d2, _⟩ := e1 (Decidable.not_not.1 c2)
    obtain ⟨i1, i2⟩ := ih g ((l.drop (nextS l).2.1).drop (gapS false (l.drop (nextS l).2.1))) (p + (nextS l).2.1 + gapS false (l.drop (nextS l).2.1)) (q + (nextS l).2.1 + gapS false (l.drop (nextS l).2.1)) (by rw [List.length_drop, List.length_drop]; omega) (by rw [List.length_drop, List.length_drop]; omega)
    rw [i2]
    split
    · exact ⟨by simp only [List.map_cons]; rw [i1], rfl⟩
    · exact ⟨i1, i2⟩
/-- Blanks, and a remark, that are put in. -/
def insS (rm : List UInt8) : List UInt8 := 32 :: 9 :: 37 :: (rm ++ [10])
theorem rem_run (rm y : List UInt8) (h : ∀ c ∈ rm, c.toNat ≠ 10) : gapS true (rm ++ 10 :: y) = rm.length + 1 + gapS false y := by
  induction rm with
  | nil => simp only [List.nil_append, gapS]; rw [if_pos (by decide)]; simp
  | cons c r ih =>
    simp only [List.cons_append, gapS, List.length_cons]
    rw [if_neg (h c (by simp)), ih (fun d hd => h d (List.mem_cons_of_mem _ hd))]
    omega
theorem ins_gap (rm y : List UInt8) (h : ∀ c ∈ rm, c.toNat ≠ 10) : gapS false (insS rm ++ y) = (insS rm).length + gapS false y := by
  unfold insS
  simp only [List.cons_append, List.append_assoc, List.singleton_append, List.nil_append, gapS, List.length_cons, List.length_append]
  rw [if_pos (by decide), if_pos (by decide), if_neg (by decide), if_pos (by decide), rem_run rm y h]
  simp only [List.length_nil]
  omega
theorem ins_head (rm y : List UInt8) : numS (insS rm ++ y) = 0 ∧ wordK 0 (insS rm ++ y) = 0 := by
  unfold insS
  refine ⟨rfl, ?_⟩
  rw [List.cons_append, wordK_step (by simp)]
  have : decV (32 :: ((9 :: 37 :: (rm ++ [10])) ++ y)) = (32, 1) := by simp only [decV]; rw [if_pos (by decide)]; rfl
  rw [this, if_neg (by decide)]
/-- What follows a token that is put off by bytes behind: its first byte is the same. -/
theorem head_same {a b : List UInt8} {c : UInt8} {r s : List UInt8} (ha : a = c :: r) (hb : b = c :: s) (hc : c.toNat < 128) : (numS a = 0 → numS b = 0) ∧ (wordK 0 a = 0 → wordK 0 b = 0) := by
  subst ha; subst hb
  have e : ∀ t, decV (c :: t) = (c.toNat, 1) := fun t => by simp only [decV]; rw [if_pos hc]
  constructor
  · intro h
    simp only [numS] at h ⊢
    split
    · rename_i q; rw [if_pos q] at h; omega
    · rfl
  · intro h
    simp only [wordK, e] at h ⊢
    split
    · rename_i q; rw [if_pos q] at h; omega
    · rfl
theorem blank_head {l : List UInt8} (h : 0 < gapS false l) : ∃ c r, l = c :: r ∧ c.toNat < 128 ∧ (numS l = 0 ∧ wordK 0 l = 0) := by
  cases l with
  | nil => simp [gapS] at h
  | cons c r =>
    have hc : c.toNat = 32 ∨ c.toNat = 9 ∨ c.toNat = 10 ∨ c.toNat = 13 ∨ c.toNat = 37 := by
      simp only [gapS] at h
      split at h
      · rename_i q
        unfold blankB at q
        simp only [Bool.or_eq_true, beq_iff_eq] at q
        omega
      · split at h
        · rename_i q; omega
        · omega
    refine ⟨c, r, rfl, by omega, ?_, ?_⟩
    · simp only [numS]
      rw [if_neg]
      unfold digB
      rw [decide_eq_true_eq]
      omega
    · have e : decV (c :: r) = (c.toNat, 1) := by simp only [decV]; rw [if_pos (by omega)]
      simp only [wordK, e]
      rw [if_neg]
      unfold letS
      rw [decide_eq_true_eq]
      omega
/-- A token's first byte, where it is no word's. -/
theorem token_head {l : List UInt8} {k n : Nat} (hl : l ≠ []) (h : nextS l = (k, n, 0, 0)) (hw : wordK 0 l = 0) : ∃ c r, l = c :: r ∧ c.toNat < 128 := by
  cases l with
  | nil => exact absurd rfl hl
  | cons c r =>
    refine ⟨c, r, rfl, ?_⟩
    simp only [nextS] at h
    rcases Nat.lt_or_ge c.toNat 128 with q | q
    · exact q
    · exfalso
      rw [if_neg (by omega), if_neg, if_neg, if_neg (by omega), if_neg (by omega), if_neg (by omega), if_pos hw] at h
      · simp at h
      · unfold digB; rw [decide_eq_true_eq]; omega
      · unfold signB
        intro hc
        simp only [List.contains_eq_mem, decide_eq_true_eq, List.mem_cons, List.not_mem_nil, or_false] at hc
        rcases hc with rfl | rfl | rfl | rfl | rfl | rfl | rfl | rfl | rfl | rfl | rfl <;> exact absurd q (by decide)
/-- Tokens of a text into which blanks and a remark are put at a token's beginning, not the end's nor the first one's. -/
theorem scan_insert : ∀ (f : Nat) (l : List UInt8) (p q d j : Nat) (rm : List UInt8) (ts : List Tok) (t : Tok), (∀ c ∈ rm, c.toNat ≠ 10) → l.length < f → gapS false l = 0 → scanS f l p = (ts, 0, 0) →
    ts[j]? = some t → t.2.2 = p + d → t.1 ≠ 8 → 0 < d →
    ∀ g, l.length + (insS rm).length < g → d ≤ l.length ∧ ∃ ts', scanS g (l.take d ++ (insS rm ++ l.drop d)) q = (ts', 0, 0) ∧ ts'.map (fun t => (t.1, t.2.1)) = ts.map (fun t => (t.1, t.2.1)) := by
  intro f
  induction f with
  | zero => intro l p q d j rm ts t _ h; omega
  | succ f ih =>
    intro l p q d j rm ts t hrm hlf hg h hj htd ht8 hd g hgl
    rcases scanS_step h with ⟨rfl, rfl⟩ | ⟨hl, k, n, ts', h1, rfl, h2⟩
    · exfalso
      cases j with
      | zero =>
        simp only [List.getElem?_cons_zero, Option.some.injEq] at hj
        rw [← hj] at ht8
        exact ht8 rfl
      | succ j => simp at hj
    obtain ⟨e1, _, _⟩ := nextS_ends hl
    rw [h1] at e1
    obtain ⟨d1, d2, _, _⟩ := e1 rfl
    simp only at d1 d2
    obtain ⟨j, rfl⟩ : ∃ i, j = i + 1 := by
      cases j with
      | zero =>
        simp only [List.getElem?_cons_zero, Option.some.injEq] at hj
        rw [← hj] at htd
        simp only at htd
        omega
      | succ j => exact ⟨j, rfl⟩
    rw [List.getElem?_cons_succ] at hj
    -- the rest
    have hx : (l.take n).length = n := by rw [List.length_take]; omega
    have hxn : l.take n ≠ [] := fun q => by rw [q] at hx; simp at hx; omega
    have htok : nextS (l.take n ++ l.drop n) = (k, (l.take n).length, 0, 0) := by rw [List.take_append_drop, hx]; exact h1
    obtain ⟨left1, left2⟩ := nextS_left htok hxn
    generalize hy : l.drop n = y at *
    have hyl : y.length = l.length - n := by rw [← hy, List.length_drop]
    have hgy := gapS_le false y
    generalize hgg : gapS false y = gy at *
    have hl2g : gapS false (y.drop gy) = 0 := by rw [← hgg]; exact gap_idem y
    have hl2l : (y.drop gy).length = y.length - gy := List.length_drop
    -- where the first token of the rest begins
    have hpos : n + gy ≤ d := by
      have : ∀ (f : Nat) (l : List UInt8) (p j : Nat) (ts : List Tok) (t : Tok), scanS f l p = (ts, 0, 0) → ts[j]? = some t → p ≤ t.2.2 := by
        intro f
        induction f with
        | zero => intro l p j ts t h; simp [scanS] at h
        | succ f ih2 =>
          intro l p j ts t h hj
          rcases scanS_step h with ⟨rfl, rfl⟩ | ⟨_, k, n, ts', _, rfl, h2⟩
          · cases j with
            | zero => simp only [List.getElem?_cons_zero, Option.some.injEq] at hj; rw [← hj]; exact Nat.le_refl _
            | succ j => simp at hj
          · cases j with
            | zero => simp only [List.getElem?_cons_zero, Option.some.injEq] at hj; rw [← hj]; exact Nat.le_refl _
            | succ j =>
              rw [List.getElem?_cons_succ] at hj
              have := ih2 _ _ _ _ _ h2 hj
              omega
      have := this _ _ _ _ _ _ h2 hj
      omega
    obtain ⟨g, rfl⟩ : ∃ i, g = i + 1 := ⟨g - 1, by omega⟩
    -- the text anew: the first token, and what follows
    have hinl : 1 ≤ (insS rm).length := by unfold insS; simp
    have hdl : d ≤ l.length ∧ ∃ z, l.take d ++ (insS rm ++ l.drop d) = l.take n ++ z ∧ (k = 2 → numS z = 0) ∧ (k = 1 → wordK 0 z = 0) ∧ z.length = y.length + (insS rm).length ∧
        ∃ gz, gapS false z = gz ∧ ∀ q', ∃ ts3, scanS g (z.drop gz) q' = (ts3, 0, 0) ∧ ts3.map (fun t => (t.1, t.2.1)) = ts'.map (fun t => (t.1, t.2.1)) := by
      rcases Nat.lt_or_ge (n + gy) d with hlt | hge
      · -- farther behind
        obtain ⟨i1, ts2, i2, i3⟩ := ih (y.drop gy) (p + n + gy) 0 (d - n - gy) j rm ts' t hrm (by omega) hl2g h2 hj (by omega) ht8 (by omega) g (by omega)
        have hdle : d ≤ l.length := by omega
        have hz : l.take d ++ (insS rm ++ l.drop d) = l.take n ++ (y.take gy ++ ((y.drop gy).take (d - n - gy) ++ (insS rm ++ (y.drop gy).drop (d - n - gy)))) := by
          have e0 : l.take d = l.take n ++ (y.take gy ++ (y.drop gy).take (d - n - gy)) := by
            rw [← hy]
            have a1 : l.take d = l.take n ++ (l.drop n).take (d - n) := by
              have := List.take_add (l := l) (i := n) (j := d - n)
              rw [show n + (d - n) = d by omega] at this
              exact this
            have a2 : (l.drop n).take (d - n) = (l.drop n).take gy ++ ((l.drop n).drop gy).take (d - n - gy) := by
              have := List.take_add (l := l.drop n) (i := gy) (j := d - n - gy)
              rw [show gy + (d - n - gy) = d - n by omega] at this
              exact this
            rw [a1, a2]
          have e3 : l.drop d = (y.drop gy).drop (d - n - gy) := by
            rw [← hy, List.drop_drop, List.drop_drop]
            congr 1
            omega
          rw [e0, e3]
          simp only [List.append_assoc]
        refine ⟨hdle, _, hz, ?_, ?_, ?_, gy, ?_, ?_⟩
        rotate_left 2
        · simp only [List.length_append, List.length_take, List.length_drop]; omega
        · -- the gap
          have hne : (y.drop gy).take (d - n - gy) ++ (insS rm ++ (y.drop gy).drop (d - n - gy)) ≠ [] := by unfold insS; simp
          have hyne : y.drop gy ≠ [] := fun q => by rw [q] at hl2l; simp at hl2l; omega
          have hge2 := gapS_end false (y.take gy) (y.drop gy) (by rw [List.take_append_drop, hgg, List.length_take]; omega) hyne
          rw [hge2.2.2, List.length_take]
          have hh : gapS false ((y.drop gy).take (d - n - gy) ++ (y.drop gy).drop (d - n - gy)) = 0 := by rw [List.take_append_drop]; exact hl2g
          rw [gapS_app false _ _ (by rw [hh, List.length_take]; omega), hh]
          omega
        · intro q'
          have hlen : ((y.drop gy).take (d - n - gy) ++ (insS rm ++ (y.drop gy).drop (d - n - gy))).length < g := by
            simp only [List.length_append, List.length_take, List.length_drop]; omega
          have hdrop : (y.take gy ++ ((y.drop gy).take (d - n - gy) ++ (insS rm ++ (y.drop gy).drop (d - n - gy)))).drop gy = (y.drop gy).take (d - n - gy) ++ (insS rm ++ (y.drop gy).drop (d - n - gy)) := by
            rw [List.drop_append_of_le_length (by rw [List.length_take]; omega), List.drop_eq_nil_of_le (by rw [List.length_take]; omega), List.nil_append]
          rw [hdrop]
          obtain ⟨_, ts3, i4, i5⟩ := ih (y.drop gy) (p + n + gy) q' (d - n - gy) j rm ts' t hrm (by omega) hl2g h2 hj (by omega) ht8 (by omega) g (by omega)
          exact ⟨ts3, i4, i5⟩
        · intro hk
          have hb := left1 hk
          rcases Nat.eq_zero_or_pos gy with q0 | q0
          · subst q0
            rw [List.drop_zero] at *
            rw [List.take_zero, List.nil_append]
            have hyne : y ≠ [] := fun q => by rw [q] at hyl; simp at hyl; omega
            cases y with
            | nil => exact absurd rfl hyne
            | cons c r =>
              rw [show d - n - 0 = (d - n - 1) + 1 by omega, List.take_succ_cons, List.cons_append]
              simp only [numS] at hb ⊢
              split
              · rename_i q; rw [if_pos q] at hb; omega
              · rfl
          · obtain ⟨c, r, hc1, hc2, hc3, hc4⟩ := blank_head (l := y) (by omega)
            rw [hc1, show gy = (gy - 1) + 1 by omega, List.take_succ_cons, List.cons_append]
            exact (head_same hc1 rfl hc2).1 hc3
        · intro hk
          have hb := left2 hk
          rcases Nat.eq_zero_or_pos gy with q0 | q0
          · subst q0
            rw [List.drop_zero] at *
            rw [List.take_zero, List.nil_append]
            have hyne : y ≠ [] := fun q => by rw [q] at hyl; simp at hyl; omega
            -- the next token begins with a byte that is no letter
            obtain ⟨f', rfl⟩ : ∃ i, f = i + 1 := ⟨f - 1, by omega⟩
            rcases scanS_step h2 with ⟨q, _⟩ | ⟨_, k2, n2, _, h3, _⟩
            · exact absurd q hyne
            obtain ⟨c, r, hc1, hc2⟩ := token_head hyne h3 hb
            refine (head_same (r := r) (s := r.take (d - n - 0 - 1) ++ (insS rm ++ y.drop (d - n - 0))) hc1 ?_ hc2).2 hb
            rw [hc1, show d - n - 0 = (d - n - 0 - 1) + 1 by omega, List.take_succ_cons, List.cons_append]
            rfl
          · obtain ⟨c, r, hc1, hc2, hc3, hc4⟩ := blank_head (l := y) (by omega)
            rw [hc1, show gy = (gy - 1) + 1 by omega, List.take_succ_cons, List.cons_append]
            exact (head_same hc1 rfl hc2).2 hc4
      · -- just here
        have hdeq : d = n + gy := by omega
        have hyne : y.drop gy ≠ [] := by
          intro q
          rw [q] at h2
          obtain ⟨f', rfl⟩ : ∃ i, f = i + 1 := by
            cases f with
            | zero => simp [scanS] at h2
            | succ f => exact ⟨f, rfl⟩
          rcases scanS_step h2 with ⟨_, rfl⟩ | ⟨q2, _⟩
          · cases j with
            | zero =>
              simp only [List.getElem?_cons_zero, Option.some.injEq] at hj
              rw [← hj] at ht8
              exact ht8 rfl
            | succ j => simp at hj
          · exact absurd rfl q2
        have hyp := List.length_pos_iff.2 hyne
        have hz : l.take d ++ (insS rm ++ l.drop d) = l.take n ++ (y.take gy ++ (insS rm ++ y.drop gy)) := by
          have e0 : l.take d = l.take n ++ y.take gy := by
            rw [← hy, hdeq]
            exact List.take_add (l := l) (i := n) (j := gy)
          have e3 : l.drop d = y.drop gy := by rw [← hy, List.drop_drop, hdeq]
          rw [e0, e3, List.append_assoc]
        have hge2 := gapS_end false (y.take gy) (y.drop gy) (by rw [List.take_append_drop, hgg, List.length_take]; omega) hyne
        refine ⟨by omega, _, hz, ?_, ?_, by simp only [List.length_append, List.length_take, List.length_drop]; omega, gy + (insS rm).length, ?_, ?_⟩
        rotate_left 2
        · rw [hge2.2.2, List.length_take, ins_gap rm _ hrm, hl2g]
          omega
        · intro q'
          have hdrop : (y.take gy ++ (insS rm ++ y.drop gy)).drop (gy + (insS rm).length) = y.drop gy := by
            rw [← List.append_assoc]
            exact List.drop_left' (by rw [List.length_append, List.length_take]; omega)
          rw [hdrop]
          have hf := scan_fuel g f (y.drop gy) q' (p + n + gy) (by omega) (by omega)
          rw [h2] at hf
          have hz0 : ∀ (f : Nat) (l : List UInt8) (p : Nat), (scanS f l p).2.1 = 0 → (scanS f l p).2.2 = 0 := by
            intro f
            induction f with
            | zero => intro l p h; exact absurd h (by simp [scanS])
            | succ f ih =>
              intro l p h
              simp only [scanS] at h ⊢
              split
              · rfl
              · rename_i q
                rw [if_neg q] at h
                split
                · rename_i q2; rw [if_pos q2] at h; exact absurd h q2
                · rename_i q2
                  rw [if_neg q2] at h
                  split
                  · rfl
                  · rename_i q3; rw [if_neg q3] at h; exact absurd h q3
          exact ⟨(scanS g (y.drop gy) q').1, Prod.ext rfl (Prod.ext hf.2 (hz0 _ _ _ hf.2)), hf.1⟩
        · intro hk
          rcases Nat.eq_zero_or_pos gy with q0 | q0
          · subst q0
            rw [List.take_zero, List.nil_append]
            exact (ins_head rm _).1
          · obtain ⟨c, r, hc1, hc2, hc3, hc4⟩ := blank_head (l := y) (by omega)
            rw [hc1, show gy = (gy - 1) + 1 by omega, List.take_succ_cons, List.cons_append]
            exact (head_same hc1 rfl hc2).1 hc3
        · intro hk
          rcases Nat.eq_zero_or_pos gy with q0 | q0
          · subst q0
            rw [List.take_zero, List.nil_append]
            exact (ins_head rm _).2
          · obtain ⟨c, r, hc1, hc2, hc3, hc4⟩ := blank_head (l := y) (by omega)
            rw [hc1, show gy = (gy - 1) + 1 by omega, List.take_succ_cons, List.cons_append]
            exact (head_same hc1 rfl hc2).2 hc4
    obtain ⟨hdle, z, hz, hz1, hz2, hzl, gz, hgz, hrest⟩ := hdl
    refine ⟨hdle, ?_⟩
    rw [hz]
    have hnx := nextS_cont2 (z := z) hxn htok hz1 hz2
    rw [hx] at hnx
    obtain ⟨ts3, r1, r2⟩ := hrest (q + n + gz)
    refine ⟨(k, bareS k (l.take n), q) :: ts3, ?_, by simp only [List.map_cons]; rw [r2]⟩
    simp only [scanS]
    rw [if_neg (by simp [hxn]), hnx]
    have hdr : (l.take n ++ z).drop n = z := List.drop_left' hx
    have htk : (l.take n ++ z).take n = l.take n := List.take_left' hx
    simp only [hdr, htk, hgz, r1]
    simp
end Go.Proofs.YtmffjjncnbeldaaDoor.Rp
