/- Dots, rests and ledger lines: what the reference's functions come to: plain values. -/
import Derived.Test.YtochpedmjpidkaaPx5
import Derived.Test.YtochpedmjpidkaaPx6
import Derived.Test.YtochpedmjpidkaaPx7
import Derived.Test.YtochpedmjpidkaaPx6
import Derived.Test.YtochpedmjpidkaaDotsLedg
namespace Go.Proofs.Ytochpedmjpidkaa.Rp
open Go.RowKit Go.Proofs.Ytochpedmjpidkaa.P Go.Proofs.YtochpedmjpidkaaW.PrintWords Go.Proofs.YtochpedmjpidkaaW.PrintLast
set_option linter.unusedVariables false
set_option linter.unusedSimpArgs false
theorem rfits_ev : ∀ (d : Nat) (l : List Int) (i : Nat), l.length ≤ 1000000 → l.length - i = d → i ≤ l.length → Ev (fun k => neumeref17_Fits.l0 k l i) (decide ((1 ≤ l.length ∧ l.length ≤ 16) ∧ ∀ x ∈ l.drop i, -200 ≤ x ∧ x ≤ 200)) := by
  intro d
  induction d with
  | zero =>
    intro l i h1 hd hi
    refine Ev.succ ?_
    simp only [neumeref17_Fits.l0]
    rw [List.drop_eq_nil_of_le (by omega)]
    refine Ev.neg (by omega) ?_
    by_cases c : (l.length : Int) ≥ 1
    · refine Ev.to (Ev.pos c (Ev.now _)) (decide_eq_decide.2 ⟨fun q => ⟨by omega, fun _ h => absurd h List.not_mem_nil⟩, fun q => by omega⟩)
    · exact Ev.to (Ev.neg c (Ev.now _)) (decide_eq_false (fun q => by omega)).symm
  | succ d ih =>
    intro l i h1 hd hi0
    have hi : i < l.length := by omega
    refine Ev.succ ?_
    simp only [neumeref17_Fits.l0]
    rw [List.drop_eq_getElem_cons hi, rd_eq l hi, wrap_id (by omega) (by omega), show ((i : Nat) : Int) + 1 = ((i + 1 : Nat) : Int) by omega]
    refine Ev.pos (by omega) (Ev.pos (by omega) ?_)
    by_cases c1 : l[i] < -200
    · exact Ev.to (Ev.pos c1 (Ev.now _)) (decide_eq_false (fun q => by have := q.2 _ (List.mem_cons_self ..); omega)).symm
    by_cases c2 : l[i] > 200
    · exact Ev.to (Ev.neg c1 (Ev.pos c2 (Ev.now _))) (decide_eq_false (fun q => by have := q.2 _ (List.mem_cons_self ..); omega)).symm
    refine Ev.to (Ev.neg c1 (Ev.neg c2 (ih l (i + 1) h1 (by omega) (by omega)))) (decide_eq_decide.2 ⟨fun q => ⟨q.1, fun x hx => ?_⟩, fun q => ⟨q.1, fun x hx => q.2 x (List.mem_cons_of_mem _ hx)⟩⟩)
    rcases List.mem_cons.1 hx with rfl | hx
    · omega
    · exact q.2 x hx
theorem rfits (l : List Int) (h : l.length ≤ 1000000) : Ev (fun k => neumeref17_Fits.f k l) (decide (Ft l)) := rfits_ev _ l 0 h rfl (Nat.zero_le _)

theorem in_l0 : ∀ (d : Nat) (l : List Int) (x : Int) (i : Nat), l.length ≤ 1000000 → l.length - i = d → Ev (fun k => neumeref20_in.l0 k l x i) (decide (x ∈ l.drop i)) := by
  intro d
  induction d with
  | zero =>
    intro l x i h1 hd
    refine Ev.succ ?_
    simp only [neumeref20_in.l0]
    rw [List.drop_eq_nil_of_le (by omega)]
    exact Ev.to (Ev.neg (by omega) (Ev.now _)) (decide_eq_false List.not_mem_nil).symm
  | succ d ih =>
    intro l x i h1 hd
    have hi : i < l.length := by omega
    refine Ev.succ ?_
    simp only [neumeref20_in.l0]
    rw [List.drop_eq_getElem_cons hi, rd_eq l hi, wrap_id (x := (i : Int) + 1) (by omega) (by omega), show ((i : Nat) : Int) + 1 = ((i + 1 : Nat) : Int) by omega]
    refine Ev.pos (by omega) (Ev.pos (by omega) ?_)
    by_cases c : l[i] = x
    · exact Ev.to (Ev.pos c (Ev.now _)) (decide_eq_true (by rw [c]; exact List.mem_cons_self ..)).symm
    · refine Ev.to (Ev.neg c (ih l x (i + 1) h1 (by omega))) (decide_eq_decide.2 ⟨fun q => List.mem_cons_of_mem _ q, fun q => ?_⟩)
      rcases List.mem_cons.1 q with q | q
      · exact absurd q.symm c
      · exact q
theorem in_ev (l : List Int) (x : Int) (h : l.length ≤ 1000000) : Ev (fun k => neumeref20_in.f k l x) (decide (x ∈ l)) := in_l0 _ l x 0 h rfl
theorem rdot_l0 : ∀ (n : Nat) (T S : List Int) (x : Int), (∀ y, y ∈ S ↔ y ∈ T) → S.length ≤ 1000000 → cnt T x ≤ n → -1000000 ≤ x - 2 * n → x ≤ 1000000 → Ev (fun k => neumeref20_dot.l0 k S x) (skl n T x) := by
  intro n
  induction n with
  | zero =>
    intro T S x hS hl h h1 h2
    refine Ev.succ ?_
    simp only [neumeref20_dot.l0]
    refine Ev.bind (in_ev S x hl) ?_
    rw [decide_eq_false (fun q => by have := cnt_pos ((hS x).1 q); omega)]
    exact Ev.neg (by decide) (Ev.now _)
  | succ n ih =>
    intro T S x hS hl h h1 h2
    refine Ev.succ ?_
    simp only [neumeref20_dot.l0]
    refine Ev.bind (in_ev S x hl) ?_
    unfold skl
    by_cases c : x ∈ T
    · rw [if_pos c, decide_eq_true ((hS x).2 c), wrap_id (x := x - 2) (by omega) (by omega)]
      have hc := cnt_lt c
      exact Ev.pos rfl (ih T S (x - 2) hS hl (by omega) (by omega) (by omega))
    · rw [if_neg c, decide_eq_false (fun q => c ((hS x).1 q))]
      exact Ev.neg (by decide) (Ev.now _)
theorem rdot_ev (T S : List Int) (p : Int) (hS : ∀ y, y ∈ S ↔ y ∈ T) (hl : S.length ≤ 1000000) (hT : T.length ≤ 1000) (h1 : -1000 ≤ p) (h2 : p ≤ 1000) : Ev (fun k => neumeref20_dot.f k p S) (sk T p) := by
  have j0 : ∀ x : Int, -2000 ≤ x → x ≤ 2000 → Ev (fun k => neumeref20_dot.j0 k S x) (skl T.length T x) := by
    intro x h3 h4
    refine Ev.succ ?_
    simp only [neumeref20_dot.j0]
    exact rdot_l0 _ T S x hS hl (cnt_le _ _) (by omega) (by omega)
  unfold neumeref20_dot.f neumeref20_odd.f sk sk0
  refine Ev.bindc rfl ?_
  rw [wrap_id (x := p + 1) (by omega) (by omega), wrap_id (x := p - 1) (by omega) (by omega)]
  by_cases c : Int.tmod p 2 = 0
  · rw [if_pos c]
    refine Ev.neg (by rw [c]; decide) (Ev.bind (in_ev S (p + 1) hl) ?_)
    by_cases c2 : p + 1 ∈ T
    · rw [if_pos c2, decide_eq_true ((hS _).2 c2)]
      exact Ev.pos rfl (j0 _ (by omega) (by omega))
    · rw [if_neg c2, decide_eq_false (fun q => c2 ((hS _).1 q))]
      exact Ev.neg (by decide) (j0 _ (by omega) (by omega))
  · rw [if_neg c]
    exact Ev.pos (bne_iff_ne.2 c) (j0 _ (by omega) (by omega))
/-- The row of dots, told for the places above p. -/
def outP (G : List (Int × Int)) (l : List Int) (p : Int) : List Int := l.map (fun x => if p < x then lk G x else 0)
/-- .. and for those at p among the first i. -/
def outI (G : List (Int × Int)) (l : List Int) (p : Int) (i : Nat) : List Int := (List.range l.length).map (fun t => if p < l.getD t 0 ∨ (l.getD t 0 = p ∧ t < i) then lk G (l.getD t 0) else 0)
theorem outI_length (G : List (Int × Int)) (l : List Int) (p : Int) (i : Nat) : (outI G l p i).length = l.length := by simp [outI]
theorem getD_at {l : List Int} {t : Nat} (h : t < l.length) : l.getD t 0 = l[t] := by rw [List.getD_eq_getElem?_getD, List.getElem?_eq_getElem h]; rfl
theorem outI_zero (G : List (Int × Int)) (l : List Int) (p : Int) : outI G l p 0 = outP G l p := by
  apply List.ext_getElem (by rw [outI_length]; simp [outP])
  intro t h1 h2
  have ht : t < l.length := by rw [outI_length] at h1; exact h1
  simp only [outI, outP, List.getElem_map, List.getElem_range, getD_at ht]
  by_cases c : p < l[t]
  · rw [if_pos (.inl c), if_pos c]
  · rw [if_neg (by omega), if_neg c]
theorem outI_all (G : List (Int × Int)) (l : List Int) (p : Int) : outI G l p l.length = outP G l (p - 1) := by
  apply List.ext_getElem (by rw [outI_length]; simp [outP])
  intro t h1 h2
  have ht : t < l.length := by rw [outI_length] at h1; exact h1
  simp only [outI, outP, List.getElem_map, List.getElem_range, getD_at ht]
  by_cases c : p - 1 < l[t]
  · rw [if_pos (by omega), if_pos c]
  · rw [if_neg (by omega), if_neg c]
theorem outI_set {G : List (Int × Int)} {l : List Int} {p : Int} {i : Nat} (h : i < l.length) (e : l[i] = p) : (outI G l p i).set i (lk G p) = outI G l p (i + 1) := by
  apply List.ext_getElem (by rw [List.length_set, outI_length, outI_length])
  intro t h1 h2
  have ht : t < l.length := by rw [outI_length] at h2; exact h2
  rw [List.getElem_set]
  by_cases c : i = t
  · subst c
    rw [if_pos rfl]
    simp only [outI, List.getElem_map, List.getElem_range, getD_at ht]
    rw [if_pos (.inr ⟨e, by omega⟩), e]
  · rw [if_neg c]
    simp only [outI, List.getElem_map, List.getElem_range, getD_at ht]
    by_cases c2 : p < l[t] ∨ (l[t] = p ∧ t < i)
    · rw [if_pos c2, if_pos (by omega)]
    · rw [if_neg c2, if_neg (by omega)]
theorem outI_skip {G : List (Int × Int)} {l : List Int} {p : Int} {i : Nat} (h : i < l.length) (e : l[i] ≠ p) : outI G l p i = outI G l p (i + 1) := by
  apply List.ext_getElem (by rw [outI_length, outI_length])
  intro t h1 h2
  have ht : t < l.length := by rw [outI_length] at h2; exact h2
  simp only [outI, List.getElem_map, List.getElem_range, getD_at ht]
  by_cases c : i = t
  · subst c
    by_cases c2 : p < l[i]
    · rw [if_pos (.inl c2), if_pos (.inl c2)]
    · rw [if_neg (by omega), if_neg (by omega)]
  · by_cases c2 : p < l[t] ∨ (l[t] = p ∧ t < i)
    · rw [if_pos c2, if_pos (by omega)]
    · rw [if_neg c2, if_neg (by omega)]
theorem rdots_l1 (l S : List Int) (G : List (Int × Int)) (p : Int) (hl : l.length ≤ 1000) (hp : -1000 ≤ p ∧ p ≤ 1000) (r : List Int × Int) (hnext : Ev (fun k => neumeref20_Dots.l0 k l (outP G l (p - 1)) S (p - 1)) r) : ∀ (d i : Nat), l.length - i = d → i ≤ l.length → Ev (fun k => neumeref20_Dots.l1 k l (outI G l p i) S p (lk G p) i) r := by
  intro d
  induction d with
  | zero =>
    intro i hd hi
    have : i = l.length := by omega
    subst this
    refine Ev.succ ?_
    simp only [neumeref20_Dots.l1]
    rw [wrap_id (x := p - 1) (by omega) (by omega), outI_all]
    exact Ev.neg (by omega) hnext
  | succ d ih =>
    intro i hd hi0
    have hi : i < l.length := by omega
    refine Ev.succ ?_
    simp only [neumeref20_Dots.l1]
    rw [rd_eq l hi, wrap_id (x := (i : Int) + 1) (by omega) (by omega), Int.toNat_natCast, show ((i : Nat) : Int) + 1 = ((i + 1 : Nat) : Int) by omega]
    refine Ev.pos (by omega) (Ev.pos (by omega) ?_)
    by_cases c : l[i] = p
    · refine Ev.pos c (Ev.pos (by rw [outI_length]; omega) ?_)
      rw [outI_set hi c]
      exact ih (i + 1) (by omega) (by omega)
    · refine Ev.neg c ?_
      rw [outI_skip hi c]
      exact ih (i + 1) (by omega) (by omega)
theorem outP_same {G : List (Int × Int)} {l : List Int} {p : Int} (h : p ∉ l) : outP G l p = outP G l (p - 1) := by
  unfold outP
  refine List.map_congr_left (fun x hx => ?_)
  have : x ≠ p := fun e => h (e ▸ hx)
  by_cases c : p < x
  · rw [if_pos c, if_pos (by omega)]
  · rw [if_neg c, if_neg (by omega)]
/-- What is left from a place on downwards. -/
def below (l : List Int) (p : Int) : List Int := (desc l).filter (fun x => decide (x ≤ p))
theorem below_step {l : List Int} {p : Int} : below l p = if p ∈ l then p :: below l (p - 1) else below l (p - 1) := by
  have hf := desc_falls l
  have hm : p ∈ l ↔ p ∈ desc l := desc_mem.symm
  unfold below
  simp only [hm]
  clear hm
  generalize desc l = q at hf ⊢
  induction q with
  | nil => rfl
  | cons y r ih =>
    obtain ⟨h1, h2⟩ := List.pairwise_cons.1 hf
    simp only [List.filter_cons]
    by_cases c1 : y ≤ p - 1
    · have hr : p ∉ y :: r := fun q => by
        rcases List.mem_cons.1 q with rfl | q
        · omega
        · have := h1 _ q; omega
      have hr2 : p ∉ r := fun q => hr (List.mem_cons_of_mem _ q)
      have := ih h2
      rw [if_neg hr2] at this
      rw [if_pos (by simp; omega), if_neg hr, if_pos (by simpa using c1), this]
    · rw [if_neg (show ¬ decide (y ≤ p - 1) = true by simpa using c1)]
      by_cases c2 : y = p
      · subst c2
        have hr2 : y ∉ r := fun q => by have := h1 _ q; omega
        have := ih h2
        rw [if_neg hr2] at this
        rw [if_pos (by simp), if_pos (List.mem_cons_self ..), this]
      · have := ih h2
        rw [if_neg (show ¬ decide (y ≤ p) = true by simp; omega), this]
        by_cases c3 : p ∈ r
        · rw [if_pos c3, if_pos (List.mem_cons_of_mem _ c3)]
        · rw [if_neg c3, if_neg (fun q => by
            rcases List.mem_cons.1 q with q | q
            · exact c2 q.symm
            · exact c3 q)]
theorem rdots_l0 (l : List Int) (hf : Ft l) (Gf : List (Int × Int)) (hG : ∃ T, Ds T Gf) : ∀ (n : Nat) (p : Int) (T S : List Int) (G : List (Int × Int)), (p + 201).toNat = n → -201 ≤ p → p ≤ 200 → (∀ y, y ∈ S ↔ y ∈ T) → S.length = T.length → T.length + (below l p).length ≤ 16 → dotsG (below l p) T G = Gf →
    Ev (fun k => neumeref20_Dots.l0 k l (outP Gf l p) S p) (outP Gf l (-201), 0) := by
  intro n
  induction n with
  | zero =>
    intro p T S G hn h1 h2 hS hSl hlen hD
    have : p = -201 := by omega
    subst this
    refine Ev.succ ?_
    simp only [neumeref20_Dots.l0]
    exact Ev.neg (by omega) (Ev.now _)
  | succ n ih =>
    intro p T S G hn h1 h2 hS hSl hlen hD
    have hl := hf.1.2
    refine Ev.succ ?_
    simp only [neumeref20_Dots.l0]
    refine Ev.pos (by omega) (Ev.bind (in_ev l p (by omega)) ?_)
    have hb := below_step (l := l) (p := p)
    by_cases c : p ∈ l
    · rw [if_pos c] at hb
      rw [decide_eq_true c]
      rw [hb] at hD hlen
      simp only [List.length_cons] at hlen
      simp only [dotsG] at hD
      refine Ev.pos rfl (Ev.bind (rdot_ev T S p hS (by omega) (by omega) (by omega) (by omega)) (Ev.pos (by omega) ?_))
      have hmem : (p, sk T p) ∈ Gf := by
        rw [← hD]
        have : ∀ (ds T : List Int) (G : List (Int × Int)) (q : Int × Int), q ∈ G → q ∈ dotsG ds T G := by
          intro ds
          induction ds with
          | nil => intro T G q h; exact h
          | cons a r ih => intro T G q h; exact ih _ _ q (List.mem_cons_of_mem _ h)
        exact this _ _ _ _ (List.mem_cons_self ..)
      obtain ⟨T', hT'⟩ := hG
      have hlk := lk_pair hT' hmem
      have key := rdots_l1 l (S ++ [sk T p]) Gf p (by omega) (by omega) _ (ih (p - 1) (sk T p :: T) (S ++ [sk T p]) _ (by omega) (by omega) (by omega) (fun y => by
        rw [List.mem_append, List.mem_singleton, List.mem_cons, hS y]
        exact ⟨fun q => q.elim .inr .inl, fun q => q.elim .inr .inl⟩) (by simp [hSl]) (by simp only [List.length_cons]; omega) hD) _ 0 rfl (Nat.zero_le _)
      rw [outI_zero, hlk] at key
      exact key
    · rw [if_neg c] at hb
      rw [decide_eq_false c, outP_same c, wrap_id (x := p - 1) (by omega) (by omega)]
      rw [hb] at hD hlen
      exact Ev.neg (by decide) (ih (p - 1) T S G (by omega) (by omega) (by omega) hS hSl hlen hD)
theorem rdots_ev (l : List Int) (hl : l.length ≤ 1000000) : Ev (fun k => neumeref20_Dots.f k l) (if Ft l then (l.map (lk (dg l)), 0) else ([], 2)) := by
  unfold neumeref20_Dots.f
  refine Ev.bind (rfits l hl) ?_
  by_cases h : Ft l
  · rw [decide_eq_true h, if_pos h]
    have hb : below l 200 = desc l := by
      unfold below
      rw [List.filter_eq_self]
      intro x hx
      have := h.2 x (desc_mem.1 hx)
      simpa using this.2
    have h0 : outP (dg l) l 200 = List.replicate ((l.length : Int)).toNat 0 := by
      rw [Int.toNat_natCast]
      unfold outP
      apply List.ext_getElem (by simp)
      intro t h1 h2
      have ht : t < l.length := by simpa using h2
      have := h.2 _ (List.getElem_mem ht)
      simp only [List.getElem_map, List.getElem_replicate]
      rw [if_neg (by omega)]
    have h1 : outP (dg l) l (-201) = l.map (lk (dg l)) := by
      unfold outP
      refine List.map_congr_left (fun x hx => ?_)
      have := h.2 x hx
      rw [if_pos (by omega)]
    have := rdots_l0 l h (dg l) (dg_spec l).1 _ 200 [] [] [] rfl (by omega) (by omega) (fun y => Iff.rfl) rfl (by rw [hb]; have := desc_length l; have := h.1; simp; omega) (by rw [hb]; rfl)
    rw [h0, h1] at this
    exact Ev.pos rfl (Ev.pos (by omega) (Ev.pos (by rw [Int.toNat_natCast]; omega) this))
  · rw [decide_eq_false h, if_neg h]
    exact Ev.neg (by decide) (Ev.now _)
end Go.Proofs.Ytochpedmjpidkaa.Rp
