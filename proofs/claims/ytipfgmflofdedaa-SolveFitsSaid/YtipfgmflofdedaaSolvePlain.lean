/- Layer 29: what places by a force are, without the program: they rise, hold all rods, and grow with the force. -/
import Derived.Test.YtipfgmflofdedaaPx3
import Derived.Test.YtipfgmflofdedaaPx2
import Derived.Test.YtipfgmflofdedaaPx1
import Derived.Test.YtipfgmflofdedaaEv
namespace Go.Proofs.Ytipfgmflofdedaa.So
open Go.RowKit Go.Proofs.Ytipfgmflofdedaa.P Go.Proofs.Ytipfgmflofdedaa.Rp Go.Proofs.YtipfgmflofdedaaW.PrintWords Go.Proofs.YtipfgmflofdedaaW.PrintLast Go.Proofs.YtipfgmflofdedaaW.PrintMore
set_option linter.unusedVariables false
abbrev Rod := S36
theorem wrap_id {x : Int} (h : -9223372036854775808 ≤ x) (h' : x ≤ 9223372036854775807) : wrap64 x = x := by unfold wrap64; omega
theorem mx_ge1 (a b : Int) : a ≤ mx a b := by unfold mx; split <;> omega
theorem mx_ge2 (a b : Int) : b ≤ mx a b := by unfold mx; split <;> omega
theorem mx_le {a b c : Int} (h : a ≤ c) (h' : b ≤ c) : mx a b ≤ c := by unfold mx; split <;> omega
theorem mx_mono {a b a' b' : Int} (h : a ≤ a') (h' : b ≤ b') : mx a b ≤ mx a' b' := by unfold mx; split <;> split <;> omega
/-- A spring's length. -/
theorem len_eq (d f : Int) (h0 : 0 ≤ d) (h1 : d ≤ 1048576) (h2 : -1024 ≤ f) (h3 : f ≤ 8192) : at_len d f = d * (1024 + f) / 1024 := by
  have e0 : wrap64 (1024 + f) = 1024 + f := wrap_id (by omega) (by omega)
  have b0 : 0 ≤ d * (1024 + f) := Int.mul_nonneg h0 (by omega)
  have b1 : d * (1024 + f) ≤ 1048576 * 9216 := Int.mul_le_mul h1 (by omega) (by omega) (by omega)
  have e1 : wrap64 (d * (1024 + f)) = d * (1024 + f) := wrap_id (by omega) (by omega)
  unfold at_len spring_Length.f
  rw [if_neg (by omega), if_neg (by omega), if_neg (by omega), if_neg (by omega), e0, e1, Int.tdiv_eq_ediv_of_nonneg b0]
  exact wrap_id (by omega) (by omega)
theorem len_bd (d f : Int) (h0 : 0 ≤ d) (h1 : d ≤ 1048576) (h2 : -1024 ≤ f) (h3 : f ≤ 8192) : 0 ≤ at_len d f ∧ at_len d f ≤ 9437184 := by
  rw [len_eq d f h0 h1 h2 h3]
  have b0 : 0 ≤ d * (1024 + f) := Int.mul_nonneg h0 (by omega)
  have b1 : d * (1024 + f) ≤ 1048576 * 9216 := Int.mul_le_mul h1 (by omega) (by omega) (by omega)
  omega
theorem len_mono (d f g : Int) (h0 : 0 ≤ d) (h1 : d ≤ 1048576) (h2 : -1024 ≤ f) (h3 : f ≤ g) (h4 : g ≤ 8192) : at_len d f ≤ at_len d g := by
  rw [len_eq d f h0 h1 h2 (by omega), len_eq d g h0 h1 (by omega) h4]
  have b1 : d * (1024 + f) ≤ d * (1024 + g) := Int.mul_le_mul_of_nonneg_left (by omega) h0
  omega
/-- Rods to one column. -/
theorem in_spec (xs : List Int) (B : Int) (hB : 0 ≤ B) (hB2 : B ≤ 1099511627776) : ∀ (rs : List Rod) (y : Int), 0 ≤ y → y ≤ B + 1073741824 → (∀ r ∈ rs, 0 ≤ rd xs r.f0 ∧ rd xs r.f0 ≤ B ∧ 1 ≤ r.f2 ∧ r.f2 ≤ 1073741824) →
    y ≤ at_in xs rs y ∧ at_in xs rs y ≤ B + 1073741824 ∧ ∀ r ∈ rs, rd xs r.f0 + r.f2 ≤ at_in xs rs y
  | [], y, hy, hy2, h => ⟨Int.le_refl _, hy2, fun r hr => by cases hr⟩
  | p :: t, y, hy, hy2, h => by
    obtain ⟨a, b, c, d⟩ := h p List.mem_cons_self
    have e : wrap64 (rd xs p.f0 + p.f2) = rd xs p.f0 + p.f2 := wrap_id (by omega) (by omega)
    have q : at_in xs (p :: t) y = at_in xs t (mx y (rd xs p.f0 + p.f2)) := by
      show at_in xs t (mx y (wrap64 (rd xs p.f0 + p.f2))) = _
      rw [e]
    have g1 := mx_ge1 y (rd xs p.f0 + p.f2)
    have g2 := mx_ge2 y (rd xs p.f0 + p.f2)
    obtain ⟨h1, h2, h3⟩ := in_spec xs B hB hB2 t (mx y (rd xs p.f0 + p.f2)) (by omega) (mx_le hy2 (by omega)) (fun r hr => h r (List.mem_cons_of_mem _ hr))
    rw [q]
    refine ⟨by omega, h2, fun r hr => ?_⟩
    rcases List.mem_cons.1 hr with rfl | hr
    · omega
    · exact h3 r hr
theorem in_mono (xs xs' : List Int) (B : Int) (hB2 : B ≤ 1099511627776) : ∀ (rs : List Rod) (y y' : Int), y ≤ y' → (∀ r ∈ rs, 0 ≤ rd xs r.f0 ∧ rd xs r.f0 ≤ rd xs' r.f0 ∧ rd xs' r.f0 ≤ B ∧ 1 ≤ r.f2 ∧ r.f2 ≤ 1073741824) → at_in xs rs y ≤ at_in xs' rs y'
  | [], y, y', hy, h => hy
  | p :: t, y, y', hy, h => by
    obtain ⟨a, b, c, d, e⟩ := h p List.mem_cons_self
    have e1 : wrap64 (rd xs p.f0 + p.f2) = rd xs p.f0 + p.f2 := wrap_id (by omega) (by omega)
    have e2 : wrap64 (rd xs' p.f0 + p.f2) = rd xs' p.f0 + p.f2 := wrap_id (by omega) (by omega)
    show at_in xs t (mx y (wrap64 (rd xs p.f0 + p.f2))) ≤ at_in xs' t (mx y' (wrap64 (rd xs' p.f0 + p.f2)))
    rw [e1, e2]
    exact in_mono xs xs' B hB2 t _ _ (mx_mono hy (by omega)) (fun r hr => h r (List.mem_cons_of_mem _ hr))
theorem rd_set_ne (l : List Int) (i j : Nat) (v : Int) (h : i ≠ j) : rd (l.set i v) (j : Int) = rd l (j : Int) := by
  unfold rd
  rw [Int.toNat_natCast, List.getD_eq_getElem?_getD, List.getD_eq_getElem?_getD, List.getElem?_set_ne h]
theorem rd_set_self (l : List Int) (i : Nat) (v : Int) (h : i < l.length) : rd (l.set i v) (i : Int) = v := by
  unfold rd
  rw [Int.toNat_natCast, List.getD_eq_getElem?_getD, List.getElem?_set_self h]
  rfl
/-- The place of a column. -/
def X (l0 : List Int) (xss : List (List Rod)) (f : Int) (j : Nat) : Int := rd (at_to l0 xss f j) (j : Int)
theorem at_stable (l0 : List Int) (xss : List (List Rod)) (f : Int) (j : Nat) : ∀ (d : Nat), rd (at_to l0 xss f (j + d)) (j : Int) = X l0 xss f j
  | 0 => rfl
  | d + 1 => by
    show rd ((at_to l0 xss f (j + d)).set (j + d + 1) _) (j : Int) = _
    rw [rd_set_ne _ _ _ _ (by omega)]
    exact at_stable l0 xss f j d
theorem at_le (l0 : List Int) (xss : List (List Rod)) (f : Int) (j i : Nat) (h : j ≤ i) : rd (at_to l0 xss f i) (j : Int) = X l0 xss f j := by
  have := at_stable l0 xss f j (i - j)
  rwa [Nat.add_sub_cancel' h] at this
theorem X_zero (l0 : List Int) (xss : List (List Rod)) (f : Int) : X l0 xss f 0 = 0 := by
  unfold X
  rw [at_to]
  unfold rd
  simp
theorem X_succ (l0 : List Int) (xss : List (List Rod)) (f : Int) (i : Nat) (h : i < l0.length) : X l0 xss f (i + 1) = at_in (at_to l0 xss f i) (xss.getD (i + 1) []) (wrap64 (X l0 xss f i + mx 1 (at_len (rd l0 i) f))) := by
  have hl := at_to_length l0 xss f i
  show rd ((at_to l0 xss f i).set (i + 1) _) ((i + 1 : Nat) : Int) = _
  rw [rd_set_self _ _ _ (by omega)]
  rfl
/-- Springs and rods that may be. -/
structure May (l0 : List Int) (xss : List (List Rod)) : Prop where
  n : l0.length ≤ 100
  d : ∀ i : Nat, i < l0.length → 0 ≤ rd l0 i ∧ rd l0 i ≤ 1048576
  r : ∀ k : Nat, k ≤ l0.length → ∀ p ∈ xss.getD k [], 0 ≤ p.f0 ∧ p.f0 < k ∧ 1 ≤ p.f2 ∧ p.f2 ≤ 1073741824
theorem X_bd {l0 : List Int} {xss : List (List Rod)} (h : May l0 xss) (f : Int) (h2 : -1024 ≤ f) (h3 : f ≤ 8192) : ∀ (i : Nat), i ≤ l0.length → 0 ≤ X l0 xss f i ∧ X l0 xss f i ≤ i * 1073741824 := by
  intro i
  induction i using Nat.strongRecOn with
  | _ i ih =>
    intro hi
    cases i with
    | zero => rw [X_zero]; omega
    | succ i =>
      have h0 := ih i (by omega) (by omega)
      have hn := h.n
      obtain ⟨d0, d1⟩ := h.d i (by omega)
      obtain ⟨e0, e1⟩ := len_bd _ f d0 d1 h2 h3
      have g1 := mx_ge1 1 (at_len (rd l0 i) f)
      have g3 : mx 1 (at_len (rd l0 i) f) ≤ 9437184 := mx_le (by omega) e1
      have e : wrap64 (X l0 xss f i + mx 1 (at_len (rd l0 i) f)) = X l0 xss f i + mx 1 (at_len (rd l0 i) f) := wrap_id (by omega) (by omega)
      rw [X_succ _ _ _ _ (by omega), e]
      have q := in_spec (at_to l0 xss f i) (i * 1073741824) (by omega) (by omega) (xss.getD (i + 1) []) (X l0 xss f i + mx 1 (at_len (rd l0 i) f)) (by omega) (by omega) (fun r hr => by
        obtain ⟨r0, r1, r2, r3⟩ := h.r (i + 1) hi r hr
        obtain ⟨m, hm⟩ : ∃ m : Nat, r.f0 = m := ⟨r.f0.toNat, by omega⟩
        rw [hm] at r0 r1 ⊢
        rw [at_le l0 xss f m i (by omega)]
        have b := ih m (by omega) (by omega)
        have : (m : Int) * 1073741824 ≤ (i : Int) * 1073741824 := by omega
        omega)
      omega
theorem X_step {l0 : List Int} {xss : List (List Rod)} (h : May l0 xss) (f : Int) (h2 : -1024 ≤ f) (h3 : f ≤ 8192) (i : Nat) (hi : i < l0.length) : X l0 xss f i + 1 ≤ X l0 xss f (i + 1) ∧ ∀ p ∈ xss.getD (i + 1) [], X l0 xss f p.f0.toNat + p.f2 ≤ X l0 xss f (i + 1) := by
  have h0 := X_bd h f h2 h3 i (by omega)
  have hn := h.n
  obtain ⟨d0, d1⟩ := h.d i (by omega)
  obtain ⟨e0, e1⟩ := len_bd _ f d0 d1 h2 h3
  have g1 := mx_ge1 1 (at_len (rd l0 i) f)
  have g3 : mx 1 (at_len (rd l0 i) f) ≤ 9437184 := mx_le (by omega) e1
  have e : wrap64 (X l0 xss f i + mx 1 (at_len (rd l0 i) f)) = X l0 xss f i + mx 1 (at_len (rd l0 i) f) := wrap_id (by omega) (by omega)
  rw [X_succ _ _ _ _ (by omega), e]
  obtain ⟨q1, q2, q3⟩ := in_spec (at_to l0 xss f i) (i * 1073741824) (by omega) (by omega) (xss.getD (i + 1) []) (X l0 xss f i + mx 1 (at_len (rd l0 i) f)) (by omega) (by omega) (fun r hr => by
    obtain ⟨r0, r1, r2, r3⟩ := h.r (i + 1) hi r hr
    obtain ⟨m, hm⟩ : ∃ m : Nat, r.f0 = m := ⟨r.f0.toNat, by omega⟩
    rw [hm] at r0 r1 ⊢
    rw [at_le l0 xss f m i (by omega)]
    have b := X_bd h f h2 h3 m (by omega)
    have : (m : Int) * 1073741824 ≤ (i : Int) * 1073741824 := by omega
    omega)
  refine ⟨by omega, fun p hp => ?_⟩
  obtain ⟨r0, r1, _⟩ := h.r (i + 1) hi p hp
  have := q3 p hp
  obtain ⟨m, hm⟩ : ∃ m : Nat, p.f0 = m := ⟨p.f0.toNat, by omega⟩
  rw [hm, at_le l0 xss f m i (by omega)] at this
  rw [hm, Int.toNat_natCast]
  exact this
theorem X_mono {l0 : List Int} {xss : List (List Rod)} (h : May l0 xss) (f g : Int) (h2 : -1024 ≤ f) (h3 : f ≤ g) (h4 : g ≤ 8192) : ∀ (i : Nat), i ≤ l0.length → X l0 xss f i ≤ X l0 xss g i := by
  intro i
  induction i using Nat.strongRecOn with
  | _ i ih =>
    intro hi
    cases i with
    | zero => rw [X_zero, X_zero]; omega
    | succ i =>
      have h0 := X_bd h f h2 (by omega) i (by omega)
      have h0' := X_bd h g (by omega) h4 i (by omega)
      have hn := h.n
      obtain ⟨d0, d1⟩ := h.d i (by omega)
      obtain ⟨e0, e1⟩ := len_bd _ f d0 d1 h2 (by omega)
      obtain ⟨e0', e1'⟩ := len_bd _ g d0 d1 (by omega) h4
      have em := len_mono _ f g d0 d1 h2 h3 h4
      have g1 := mx_ge1 1 (at_len (rd l0 i) f)
      have g3 : mx 1 (at_len (rd l0 i) f) ≤ 9437184 := mx_le (by omega) e1
      have g1' := mx_ge1 1 (at_len (rd l0 i) g)
      have g3' : mx 1 (at_len (rd l0 i) g) ≤ 9437184 := mx_le (by omega) e1'
      have gm : mx 1 (at_len (rd l0 i) f) ≤ mx 1 (at_len (rd l0 i) g) := mx_mono (by omega) em
      have hx := ih i (by omega) (by omega)
      have e : wrap64 (X l0 xss f i + mx 1 (at_len (rd l0 i) f)) = X l0 xss f i + mx 1 (at_len (rd l0 i) f) := wrap_id (by omega) (by omega)
      have e' : wrap64 (X l0 xss g i + mx 1 (at_len (rd l0 i) g)) = X l0 xss g i + mx 1 (at_len (rd l0 i) g) := wrap_id (by omega) (by omega)
      rw [X_succ _ _ _ _ (by omega), X_succ _ _ _ _ (by omega), e, e']
      refine in_mono _ _ (i * 1073741824) (by omega) _ _ _ (by omega) (fun r hr => ?_)
      obtain ⟨r0, r1, r2, r3⟩ := h.r (i + 1) hi r hr
      obtain ⟨m, hm⟩ : ∃ m : Nat, r.f0 = m := ⟨r.f0.toNat, by omega⟩
      rw [hm] at r0 r1 ⊢
      rw [at_le l0 xss f m i (by omega), at_le l0 xss g m i (by omega)]
      have b := X_bd h f h2 (by omega) m (by omega)
      have b' := X_bd h g (by omega) h4 m (by omega)
      have c := ih m (by omega) (by omega)
      have : (m : Int) * 1073741824 ≤ (i : Int) * 1073741824 := by omega
      omega
theorem end_X (l0 : List Int) (xss : List (List Rod)) (f : Int) : at_end l0 xss f = X l0 xss f l0.length := rfl
/-- The search. -/
theorem fits_spec (E : Int → Int) (wd : Int) : ∀ (k : Nat) (low high : Int), low ≤ high → high - low < k → E low ≤ wd → low ≤ fits_go E wd k low high ∧ fits_go E wd k low high ≤ high ∧ E (fits_go E wd k low high) ≤ wd ∧ (fits_go E wd k low high = high ∨ wd < E (fits_go E wd k low high + 1))
  | 0, low, high, h, hk, he => by omega
  | k + 1, low, high, h, hk, he => by
    rw [fits_go]
    by_cases c : low < high
    · rw [if_pos c]
      by_cases c2 : E (low + (high - low + 1) / 2) ≤ wd
      · rw [if_pos c2]
        obtain ⟨a, b, d, e⟩ := fits_spec E wd k (low + (high - low + 1) / 2) high (by omega) (by omega) c2
        exact ⟨by omega, b, d, e⟩
      · rw [if_neg c2]
        obtain ⟨a, b, d, e⟩ := fits_spec E wd k low (low + (high - low + 1) / 2 - 1) (by omega) (by omega) he
        refine ⟨a, by omega, d, .inr ?_⟩
        rcases e with e | e
        · rw [e, show low + (high - low + 1) / 2 - 1 + 1 = low + (high - low + 1) / 2 by omega]; omega
        · exact e
    · rw [if_neg c]
      exact ⟨Int.le_refl _, h, he, .inl (by omega)⟩
/-- The rods by the column that they go to. -/
theorem to_at (l : List Rod) : ∀ (xss : List (List Rod)) (k : Nat) (r : Rod), r ∈ (l.foldl addTo xss).getD k [] → r ∈ xss.getD k [] ∨ (r ∈ l ∧ r.f1.toNat = k) := by
  induction l with
  | nil => intro xss k r h; exact .inl h
  | cons p t ih =>
    intro xss k r h
    rw [List.foldl_cons] at h
    rcases ih _ _ _ h with h1 | ⟨h1, h2⟩
    · unfold addTo at h1
      rw [List.getD_eq_getElem?_getD, List.getElem?_set] at h1
      by_cases e : p.f1.toNat = k
      · rw [if_pos e] at h1
        split at h1
        · rw [Option.getD_some, List.mem_append] at h1
          rcases h1 with h1 | h1
          · left; rw [← e]; exact h1
          · right
            rw [List.mem_singleton] at h1
            rw [h1]; exact ⟨List.mem_cons_self, e⟩
        · simp at h1
      · rw [if_neg e] at h1
        left; rw [List.getD_eq_getElem?_getD]; exact h1
    · exact .inr ⟨List.mem_cons_of_mem _ h1, h2⟩
theorem to_keep (l : List Rod) : ∀ (xss : List (List Rod)) (k : Nat) (r : Rod), r ∈ xss.getD k [] → r ∈ (l.foldl addTo xss).getD k [] := by
  induction l with
  | nil => intro xss k r h; exact h
  | cons p t ih =>
    intro xss k r h
    rw [List.foldl_cons]
    refine ih _ _ _ ?_
    unfold addTo
    rw [List.getD_eq_getElem?_getD, List.getElem?_set]
    by_cases e : p.f1.toNat = k
    · rw [if_pos e]
      by_cases hk : p.f1.toNat < xss.length
      · rw [if_pos hk, Option.getD_some, List.mem_append]; left; rw [e]; exact h
      · rw [List.getD_eq_getElem?_getD, List.getElem?_eq_none (by omega)] at h
        simp at h
    · rw [if_neg e]
      rw [List.getD_eq_getElem?_getD] at h
      exact h
theorem to_has (l : List Rod) : ∀ (xss : List (List Rod)) (r : Rod), r ∈ l → r.f1.toNat < xss.length → r ∈ (l.foldl addTo xss).getD r.f1.toNat [] := by
  induction l with
  | nil => intro xss r h; cases h
  | cons p t ih =>
    intro xss r h hk
    rw [List.foldl_cons]
    rcases List.mem_cons.1 h with rfl | h
    · refine to_keep _ _ _ _ ?_
      unfold addTo
      rw [List.getD_eq_getElem?_getD, List.getElem?_set, if_pos rfl, if_pos hk, Option.getD_some, List.mem_append]
      right; exact List.mem_singleton.2 rfl
    · exact ih _ _ h (by rw [addTo_length]; exact hk)
theorem rods_may {l0 : List Int} {l1 : List Rod} {k : Nat} (hn : l0.length ≤ 100) (h : solve_Check.f k l0 l1 = some true) : May l0 (rodsTo l0.length l1) := by
  obtain ⟨h1, h2, h3, h4⟩ := solve_Check_true h
  refine ⟨hn, fun i hi => ?_, fun k hk p hp => ?_⟩
  · have hm : rd l0 i ∈ l0 := by
      unfold rd
      rw [Int.toNat_natCast, List.getD_eq_getElem?_getD, List.getElem?_eq_getElem hi]
      exact List.getElem_mem hi
    have hb : solve_Check.bad (rd l0 i) = false := by
      rw [List.any_eq_false] at h2
      have := h2 _ hm
      simpa using this
    unfold solve_Check.bad at hb
    by_cases c : rd l0 i < 0
    · rw [if_pos c] at hb; cases hb
    · rw [if_neg c] at hb
      have := of_decide_eq_false hb
      omega
  · unfold rodsTo at hp
    rcases to_at _ _ _ _ hp with h5 | ⟨h5, h6⟩
    · rw [List.getD_eq_getElem?_getD, List.getElem?_replicate] at h5
      split at h5 <;> simp at h5
    · obtain ⟨i, hi, e⟩ := mem_rd _ _ h5
      have := h4 i hi
      rw [e] at this
      unfold RodOk at this
      omega
/-- The check comes to its answer. -/
theorem rod_ends (c : Int) (l : List Rod) (hl : l.length ≤ 400000) : ∀ (d : Nat) (i : Int), 0 ≤ i → i + d = l.length → ∃ b, rod_Check.l0 (d + 1) c l l.length i = some b
  | 0, i, h0, h => ⟨true, by rw [rod_Check.l0, if_neg (by omega)]⟩
  | d + 1, i, h0, h => by
    obtain ⟨b, ih⟩ := rod_ends c l hl d (i + 1) (by omega) (by omega)
    rw [rod_Check.l0, if_pos (by omega), if_pos h0, if_pos (by omega), wrap_id (x := i + 1) (by omega) (by omega)]
    split
    · exact ⟨_, rfl⟩
    split
    · exact ⟨_, rfl⟩
    split
    · exact ⟨_, rfl⟩
    unfold rod_within.f
    split
    · rw [Option.bind_some]
      split
      · exact ⟨b, ih⟩
      · exact ⟨_, rfl⟩
    · rw [Option.bind_some]
      exact ⟨_, rfl⟩
theorem check_ends (l0 : List Int) (l1 : List Rod) : ∃ b, Ev (fun k => solve_Check.f k l0 l1) b := by
  suffices h : ∃ k b, solve_Check.f k l0 l1 = some b by
    obtain ⟨k, b, h⟩ := h
    exact ⟨b, Ev.of (solve_Check.mono l0 l1) h⟩
  unfold solve_Check.f
  split
  · exact ⟨0, _, rfl⟩
  split
  · exact ⟨0, _, rfl⟩
  refine ⟨l1.length + 2, ?_⟩
  have hj : ∀ (b : Bool), (l1.length ≤ 400000 ∨ b = true) → ∃ r, rod_Check.j0 (l1.length + 2) l1 ((l0.length : Int) + 1) b = some r := by
    intro b hb
    rw [rod_Check.j0]
    cases b with
    | true => exact ⟨_, rfl⟩
    | false =>
      rcases hb with hb | hb
      · rw [if_neg (by decide)]; exact rod_ends _ _ hb _ _ (by omega) (by omega)
      · cases hb
  unfold rod_Check.f rod_within.f
  split
  · rw [Option.bind_some]
    split
    · refine hj _ ?_
      by_cases c : l1.length ≤ 400000
      · exact .inl c
      · right; exact decide_eq_true (by omega)
    · exact hj _ (.inr rfl)
  · rw [Option.bind_some]
    exact hj _ (.inr rfl)
end Go.Proofs.Ytipfgmflofdedaa.So
