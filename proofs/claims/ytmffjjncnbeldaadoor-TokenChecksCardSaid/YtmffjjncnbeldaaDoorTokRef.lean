/- Tokens of a text: what the reference's functions tell. -/
import Derived.Test.YtmffjjncnbeldaaDoorTokEv
import Derived.Test.YtmffjjncnbeldaaDoorPx10
namespace Go.Proofs.YtmffjjncnbeldaaDoor.Rp
open Go.RowKit Go.Proofs.YtmffjjncnbeldaaDoor.P Go.Proofs.YtmffjjncnbeldaaDoorW.PrintWords Go.Proofs.YtmffjjncnbeldaaDoorW.PrintLast Go.Proofs.YtmffjjncnbeldaaDoorW.PrintMore Go.Lib
set_option linter.unusedVariables false
set_option linter.unusedSimpArgs false

theorem blank_iff (c : UInt8) : blankB c = true ↔ (c.toNat = 32 ∨ c.toNat = 9 ∨ c.toNat = 10 ∨ c.toNat = 13) := by
  unfold blankB
  simp only [Bool.or_eq_true, beq_iff_eq, or_assoc]
theorem skip_l0 : ∀ (m : Nat) (l : List UInt8) (i : Nat), l.length ≤ 4611686018427387904 → i ≤ l.length → l.length - i = m →
    Ev (fun k => neumeref08_skip.l0 k (bs l) (i : Int)) (((i + gapS false (l.drop i) : Nat) : Int)) ∧ Ev (fun k => neumeref08_skip.l1 k (bs l) (i : Int)) (((i + gapS true (l.drop i) : Nat) : Int)) := by
  intro m
  induction m with
  | zero =>
    intro l i hl hi hm
    have hd : l.drop i = [] := List.drop_eq_nil_of_le (by omega)
    have h0 : Ev (fun k => neumeref08_skip.l0 k (bs l) (i : Int)) (((i + gapS false (l.drop i) : Nat) : Int)) := by
      refine Ev.succ ?_
      simp only [neumeref08_skip.l0]
      refine Ev.neg (by rw [bs_size]; omega) (Ev.const ?_)
      rw [hd]; simp [gapS]
    refine ⟨h0, Ev.succ ?_⟩
    simp only [neumeref08_skip.l1]
    refine Ev.neg (by rw [bs_size]; omega) (Ev.to h0 ?_)
    rw [hd]; simp [gapS]
  | succ m ih =>
    intro l i hl hi hm
    rcases drop_cases l i with ⟨hd, hle⟩ | ⟨c, r, hd, hlt, hr⟩
    · omega
    obtain ⟨hb, _⟩ := bt_bs hd
    obtain ⟨ih0, ih1⟩ := ih l (i + 1) hl (by omega) (by omega)
    rw [← hr] at ih0 ih1
    have hw : wrap64 ((i : Int) + 1) = ((i + 1 : Nat) : Int) := by rw [wid (by omega) (by omega)]; omega
    have tob : ∀ b : Bool, b = blankB c → (blankB c = false → c.toNat = 37 → Ev (fun k => neumeref08_skip.l1 k (bs l) (i : Int)) (((i + gapS true (l.drop i) : Nat) : Int))) → Ev (fun k => neumeref08_skip.j1 k (bs l) (i : Int) (c.toNat : Int) b) (((i + gapS false (l.drop i) : Nat) : Int)) := by
      intro b hbb h1
      refine Ev.succ ?_
      simp only [neumeref08_skip.j1, hw]
      by_cases c1 : blankB c = true
      · refine Ev.pos (hbb.trans c1) (Ev.to ih0 ?_)
        rw [hd]
        simp only [gapS]
        rw [if_pos c1]
        congr 1
        omega
      · refine Ev.neg (by rw [hbb]; exact c1) ?_
        by_cases c2 : c.toNat = 37
        · refine Ev.pos (by omega) (Ev.to (h1 (by simpa using c1) c2) ?_)
          rw [hd]
          simp only [gapS]
          rw [if_neg c1, if_pos c2, if_neg (by omega)]
        · refine Ev.neg (by omega) (Ev.const ?_)
          rw [hd]
          simp only [gapS]
          rw [if_neg c1, if_neg c2]
          rfl
    have l0of : (blankB c = false → c.toNat = 37 → Ev (fun k => neumeref08_skip.l1 k (bs l) (i : Int)) (((i + gapS true (l.drop i) : Nat) : Int))) → Ev (fun k => neumeref08_skip.l0 k (bs l) (i : Int)) (((i + gapS false (l.drop i) : Nat) : Int)) := by
      intro h1
      refine Ev.succ ?_
      simp only [neumeref08_skip.l0]
      rw [hb]
      refine Ev.pos (by rw [bs_size]; omega) (Ev.pos (by omega) ?_)
      have hbl := blank_iff c
      by_cases c1 : c.toNat = 32
      · exact Ev.pos (by omega) (tob true (hbl.2 (Or.inl c1)).symm h1)
      refine Ev.neg (by omega) ?_
      by_cases c2 : c.toNat = 9
      · exact Ev.pos (by omega) (tob true (hbl.2 (Or.inr (Or.inl c2))).symm h1)
      refine Ev.neg (by omega) ?_
      by_cases c3 : c.toNat = 10
      · exact Ev.pos (by omega) (tob true (hbl.2 (Or.inr (Or.inr (Or.inl c3)))).symm h1)
      refine Ev.neg (by omega) ?_
      by_cases c4 : c.toNat = 13
      · exact tob _ ((beq_iff_eq.2 (by omega : (c.toNat : Int) = 13)).trans (hbl.2 (Or.inr (Or.inr (Or.inr c4)))).symm) h1
      · refine tob _ ((beq_eq_false_iff_ne.2 (by omega : (c.toNat : Int) ≠ 13)).trans ?_) h1
        cases hh : blankB c with
        | false => rfl
        | true => have := hbl.1 hh; omega
    by_cases c1 : c.toNat = 10
    · have h0 := l0of (fun _ q => by omega)
      refine ⟨h0, Ev.succ ?_⟩
      simp only [neumeref08_skip.l1]
      rw [hb]
      refine Ev.pos (by rw [bs_size]; omega) (Ev.pos (by omega) (Ev.pos (by omega) (Ev.to h0 ?_)))
      rw [hd]
      simp only [gapS]
      rw [if_pos c1, if_pos ((blank_iff c).2 (Or.inr (Or.inr (Or.inl c1))))]
    · have h1 : Ev (fun k => neumeref08_skip.l1 k (bs l) (i : Int)) (((i + gapS true (l.drop i) : Nat) : Int)) := by
        refine Ev.succ ?_
        simp only [neumeref08_skip.l1, hw]
        rw [hb]
        refine Ev.pos (by rw [bs_size]; omega) (Ev.pos (by omega) (Ev.neg (by omega) (Ev.to ih1 ?_)))
        rw [hd]
        simp only [gapS]
        rw [if_neg c1]
        congr 1
        omega
      exact ⟨l0of (fun _ _ => h1), h1⟩
theorem skip_ev (l : List UInt8) (i : Nat) (hl : l.length ≤ 4611686018427387904) (hi : i ≤ l.length) : Ev (fun k => neumeref08_skip.f k (bs l) (i : Int)) (((i + gapS false (l.drop i) : Nat) : Int)) := (skip_l0 _ l i hl hi rfl).1
theorem toNat_inj {a b : UInt8} : (a.toNat : Int) = (b.toNat : Int) ↔ a = b := by
  constructor
  · intro h
    have h : a.toNat = b.toNat := by omega
    rw [← UInt8.ofNat_toNat (x := a), h, UInt8.ofNat_toNat]
  · rintro rfl; rfl
theorem sign_l0 : ∀ (m : Nat) (l : List UInt8) (c : UInt8) (i : Nat), l.length ≤ 1000 → i ≤ l.length → l.length - i = m →
    Ev (fun k => neumeref08_sign.l0 k (c.toNat : Int) (bs l) (i : Int)) ((l.drop i).contains c) := by
  intro m
  induction m with
  | zero =>
    intro l c i hl hi hm
    refine Ev.succ ?_
    simp only [neumeref08_sign.l0]
    refine Ev.neg (by rw [bs_size]; omega) (Ev.const ?_)
    rw [List.drop_eq_nil_of_le (by omega)]
    rfl
  | succ m ih =>
    intro l c i hl hi hm
    refine Ev.succ ?_
    simp only [neumeref08_sign.l0]
    rcases drop_cases l i with ⟨hd, hle⟩ | ⟨d, r, hd, hlt, hr⟩
    · omega
    obtain ⟨hb, _⟩ := bt_bs hd
    rw [hb, hd]
    refine Ev.pos (by rw [bs_size]; omega) (Ev.pos (by omega) ?_)
    by_cases e : d = c
    · refine Ev.pos (toNat_inj.2 e) (Ev.const ?_)
      rw [e]; simp
    · refine Ev.neg (fun q => e (toNat_inj.1 q)) ?_
      rw [wid (by omega) (by omega), show ((i : Int) + 1) = ((i + 1 : Nat) : Int) by omega]
      refine Ev.to (ih l c (i + 1) hl (by omega) (by omega)) ?_
      rw [← hr]
      simp
      exact fun q => absurd q.symm e
theorem sign_ev (c : UInt8) : Ev (fun k => neumeref08_sign.f k (c.toNat : Int)) (signB c) := sign_l0 11 [123, 125, 60, 62, 124, 126, 40, 41, 47, 33, 46] c 0 (by decide) (by decide) rfl
theorem decV_ef (l : List UInt8) (h : l.take 3 = [239, 191, 189]) : decV l = (65533, 3) := by
  match l with
  | [] => simp at h
  | [a] => simp at h
  | [a, b] => simp at h
  | a :: b :: c :: r =>
    simp at h
    obtain ⟨rfl, rfl, rfl⟩ := h
    rfl
theorem bad_iff {l : List UInt8} {p : Nat} (h : p < l.length) : badAt (bs l) p ↔ decV (l.drop p) = (65533, 1) := by
  unfold badAt
  rw [decode_decV _ _ (show p < (bs l).size by rw [bs_size]; exact h), bs_dl, bs_size, bs_ext, bs_toList, show (⟨#[239, 191, 189]⟩ : ByteArray).toList = [239, 191, 189] from bs_toList [239, 191, 189]]
  rw [show (l.take (p + 3)).drop p = (l.drop p).take 3 by rw [List.drop_take]; congr 1; omega]
  have hld := List.length_drop (i := p) (l := l)
  constructor
  · rintro ⟨h1, h2⟩
    rcases decV_dec (l.drop p) with q | ⟨_, h3, _, _, _, h4, _⟩
    · exact q
    · obtain ⟨h5, h6⟩ := h4 (by omega)
      rcases h2 with h2 | h2
      · have := congrArg List.length h6
        rw [List.length_take] at this
        simp at this
        omega
      · exact absurd h6 h2
  · intro h1
    rw [h1]
    refine ⟨rfl, Or.inr fun h2 => ?_⟩
    rw [decV_ef _ h2] at h1
    exact absurd h1 (by decide)
theorem long_eq {l : List UInt8} {p : Nat} (h : p < l.length) (hl : l.length < 4611686018427387904) : neumeref08_long.f (bs l) (p : Int) = some (((if decV (l.drop p) = (65533, 1) then 0 else (decV (l.drop p)).2 : Nat) : Int)) := by
  unfold neumeref08_long.f
  rw [if_pos (by omega), if_pos (by rw [bs_size]; omega), if_pos (by rw [bs_size]; exact hl)]
  unfold longV
  rw [Int.toNat_natCast]
  by_cases c : badAt (bs l) p
  · rw [if_pos c, if_pos ((bad_iff h).1 c)]
  · rw [if_neg c, if_neg (fun q => c ((bad_iff h).2 q)), decode_decV _ _ (show p < (bs l).size by rw [bs_size]; exact h), bs_dl]
theorem decV_high {c : UInt8} {r : List UInt8} (h : 128 ≤ c.toNat) : decV (c :: r) = (65533, 1) ∨ 128 ≤ (decV (c :: r)).1 := by
  rcases decV_dec (c :: r) with q | ⟨_, _, _, q, _⟩
  · exact Or.inl q
  · refine Or.inr ?_
    rcases Nat.lt_or_ge (decV (c :: r)).1 128 with q2 | q2
    · obtain ⟨_, a, ha, hb⟩ := q q2
      injection ha with ha
      rw [← ha] at hb
      omega
    · exact q2
theorem decV_low {c : UInt8} {r : List UInt8} (h : c.toNat < 128) : decV (c :: r) = (c.toNat, 1) := by
  simp only [decV]
  rw [if_pos h]
theorem letter_ev {l : List UInt8} {p : Nat} (h : p < l.length) (hl : l.length < 4611686018427387904) : Ev (fun k => neumeref08_letter.f k (bs l) (p : Int)) (((if letS (decV (l.drop p)).1 (decV (l.drop p)).2 = true then (decV (l.drop p)).2 else 0 : Nat) : Int)) := by
  unfold neumeref08_letter.f
  rcases drop_cases l p with ⟨hd, hle⟩ | ⟨c, r, hd, hlt, hr⟩
  · omega
  obtain ⟨hb, _⟩ := bt_bs hd
  have hlong := long_eq h hl
  rw [hd] at hlong ⊢
  rw [hb]
  refine Ev.pos (by omega) (Ev.pos (by rw [bs_size]; omega) ?_)
  have core : ∀ b : Bool, (b = decide ((97 ≤ c.toNat ∧ c.toNat ≤ 122) ∨ (65 ≤ c.toNat ∧ c.toNat ≤ 90))) → Ev (fun k => neumeref08_letter.j0 k (bs l) (p : Int) (c.toNat : Int) b) (((if letS (decV (c :: r)).1 (decV (c :: r)).2 = true then (decV (c :: r)).2 else 0 : Nat) : Int)) := by
    intro b hbb
    refine Ev.succ ?_
    simp only [neumeref08_letter.j0]
    by_cases c1 : (97 ≤ c.toNat ∧ c.toNat ≤ 122) ∨ (65 ≤ c.toNat ∧ c.toNat ≤ 90)
    · rw [decide_eq_true c1] at hbb
      refine Ev.pos hbb (Ev.const ?_)
      rw [decV_low (by omega), if_pos (by unfold letS; rw [decide_eq_true_eq]; omega)]
      rfl
    · rw [decide_eq_false c1] at hbb
      refine Ev.neg (by rw [hbb]; simp) ?_
      by_cases c2 : 128 ≤ c.toNat
      · refine Ev.pos (by omega) (Ev.const ?_)
        rw [hlong, Option.bind_some]
        have hp := decV_pos (c :: r)
        by_cases c3 : decV (c :: r) = (65533, 1)
        · rw [if_pos c3, c3, if_neg (by decide)]
        · rw [if_neg c3, if_pos]
          rcases decV_high (r := r) c2 with q | q
          · exact absurd q c3
          · unfold letS
            rw [decide_eq_true_eq]
            refine Or.inr (Or.inr ⟨q, fun e => ?_⟩)
            rcases Nat.lt_or_ge 1 (decV (c :: r)).2 with q2 | q2
            · exact q2
            · exact absurd (Prod.ext e (by omega)) c3
      · refine Ev.neg (by omega) (Ev.const ?_)
        rw [decV_low (by omega), if_neg (by unfold letS; rw [decide_eq_true_eq]; omega)]
        rfl
  by_cases c1 : 97 ≤ c.toNat
  · refine Ev.pos (by omega) ?_
    by_cases c2 : c.toNat ≤ 122
    · exact Ev.pos (by omega) (core true (by rw [decide_eq_true (by omega)]))
    · refine Ev.neg (by omega) (Ev.pos (by omega) (core _ ?_))
      rw [decide_eq_false (by omega), decide_eq_false (by omega)]
  · refine Ev.neg (by omega) ?_
    by_cases c2 : 65 ≤ c.toNat
    · refine Ev.pos (by omega) (core _ ?_)
      apply decide_eq_decide.2
      omega
    · exact Ev.neg (by omega) (core false (by rw [decide_eq_false (by omega)]))
theorem quoted_l0 : ∀ (m : Nat) (l : List UInt8) (i : Nat), l.length < 4611686018427387000 → i ≤ l.length → l.length - i ≤ m →
    Ev (fun k => neumeref08_quoted.l0 k (bs l) (i : Int)) (quotI (quotK 0 (l.drop i) i)) := by
  intro m
  induction m with
  | zero =>
    intro l i hl hi hm
    refine Ev.succ ?_
    simp only [neumeref08_quoted.l0]
    refine Ev.neg (by rw [bs_size]; omega) ?_
    unfold neumeref08_fault.f
    refine Ev.const ?_
    rw [List.drop_eq_nil_of_le (by omega), bs_size]
    simp only [quotK, quotI]
    simp
    omega
  | succ m ih =>
    intro l i hl hi hm
    refine Ev.succ ?_
    simp only [neumeref08_quoted.l0]
    rcases drop_cases l i with ⟨hd, hle⟩ | ⟨c, r, hd, hlt, hr⟩
    · refine Ev.neg (by rw [bs_size]; omega) ?_
      unfold neumeref08_fault.f
      refine Ev.const ?_
      rw [hd, bs_size]
      simp only [quotK, quotI]
      simp
      omega
    obtain ⟨hb, _⟩ := bt_bs hd
    have hlong := long_eq hlt (by omega)
    rw [hb]
    refine Ev.pos (by rw [bs_size]; omega) (Ev.pos (by omega) ?_)
    have hne : l.drop i ≠ [] := by rw [hd]; simp
    rw [quotK_step i hne]
    have hp := decV_pos (l.drop i)
    have hle := decV_le hne
    rw [List.length_drop] at hle
    by_cases c1 : c.toNat = 34
    · refine Ev.pos (by omega) (Ev.const ?_)
      rw [hd, decV_low (by omega), if_pos c1, wid (by omega) (by omega)]
      simp [quotI]
    refine Ev.neg (by omega) ?_
    by_cases c2 : 128 ≤ c.toNat
    · refine Ev.pos (by omega) (Ev.bindc hlong ?_)
      refine Ev.neg (by omega) (Ev.neg (by omega) ?_)
      by_cases c3 : decV (l.drop i) = (65533, 1)
      · rw [if_pos c3, c3, if_neg (by decide), if_pos (Or.inr (Or.inr rfl))]
        refine Ev.pos (by rfl) ?_
        unfold neumeref08_fault.f
        exact Ev.now _
      · have h1 : 128 ≤ (decV (l.drop i)).1 := by
          rw [hd] at c3 ⊢
          rcases decV_high (r := r) c2 with q | q
          · exact absurd q c3
          · exact q
        rw [if_neg c3, if_neg (by omega), if_neg (by rintro (q | q | q) <;> first | omega | exact c3 q)]
        refine Ev.neg (by omega) ?_
        rw [wid (by omega) (by omega), show ((i : Int) + ((decV (l.drop i)).2 : Int)) = ((i + (decV (l.drop i)).2 : Nat) : Int) by omega, List.drop_drop]
        exact ih l _ hl (by omega) (by omega)
    · refine Ev.neg (by omega) ?_
      rw [hd, decV_low (by omega), if_neg c1]
      by_cases c3 : c.toNat < 32
      · rw [if_pos (Or.inl c3)]
        refine Ev.pos (by omega) ?_
        unfold neumeref08_fault.f
        exact Ev.now _
      refine Ev.neg (by omega) ?_
      by_cases c4 : c.toNat = 127
      · rw [if_pos (Or.inr (Or.inl c4))]
        refine Ev.pos (by omega) ?_
        unfold neumeref08_fault.f
        exact Ev.now _
      refine Ev.neg (by omega) (Ev.neg (by decide) ?_)
      rw [if_neg (by rintro (q | q | q); exact c3 q; exact c4 q; injection q with q _; omega)]
      rw [wid (by omega) (by omega), show ((i : Int) + 1) = ((i + 1 : Nat) : Int) by omega]
      refine Ev.to (ih l (i + 1) hl (by omega) (by omega)) ?_
      rw [← hr]
      rfl
/-- A token's end, and its fault, from the beginning of the text. -/
def nextA (p : Nat) (q : Nat × Nat × Nat × Nat) : Int × Int × Int × Int := ((q.1 : Int), (if q.2.2.1 = 0 then ((p + q.2.1 : Nat) : Int) else 0), (q.2.2.1 : Int), (if q.2.2.1 = 0 then 0 else ((p + q.2.2.2 : Nat) : Int)))
theorem double_eq {l : List UInt8} {p : Nat} {c : UInt8} {r : List UInt8} (hl : l.length < 4611686018427387000) (hd : l.drop p = c :: r) (hr : r = l.drop (p + 1)) (kk : Nat) :
    ((neumeref08_double.f (bs l) (p : Int)).bind fun t => some ((kk : Int), t.1, t.2.1, t.2.2)) = some (nextA p (kk, twiceS c r)) := by
  obtain ⟨hb, hlt⟩ := bt_bs hd
  unfold neumeref08_double.f neumeref08_fault.f
  rw [wid (by omega) (by omega), bs_size]
  cases r with
  | nil =>
    have : l.length ≤ p + 1 := by
      rcases Nat.lt_or_ge (p + 1) l.length with q | q
      · have := congrArg List.length hr
        rw [List.length_drop] at this
        simp at this
        omega
      · exact q
    rw [if_pos (by omega)]
    simp only [Option.bind_some, nextA, twiceS]
    rw [show l.length = p + 1 by omega]
    rfl
  | cons d q =>
    obtain ⟨hb2, hlt2⟩ := bt_bs hr.symm
    rw [if_neg (by omega), if_pos (by omega), if_pos (by omega), if_pos (by omega), if_pos (by omega), show ((p : Int) + 1) = ((p + 1 : Nat) : Int) by omega, hb, hb2]
    simp only [twiceS]
    by_cases e : d = c
    · rw [if_pos e, if_pos (toNat_inj.2 e), wid (by omega) (by omega)]
      simp [nextA]
    · rw [if_neg e, if_neg (fun q => e (toNat_inj.1 q))]
      simp [nextA]
theorem next_l0 : ∀ (m : Nat) (l : List UInt8) (i : Nat), l.length ≤ 4611686018427387000 → i ≤ l.length → l.length - i = m →
    Ev (fun k => neumeref08_next.l0 k (bs l) (i : Int)) (2, ((i + numS (l.drop i) : Nat) : Int), 0, 0) := by
  intro m
  induction m with
  | zero =>
    intro l i hl hi hm
    refine Ev.succ ?_
    simp only [neumeref08_next.l0]
    refine Ev.neg (by rw [bs_size]; omega) (Ev.const ?_)
    rw [List.drop_eq_nil_of_le (by omega)]
    simp [numS]
  | succ m ih =>
    intro l i hl hi hm
    refine Ev.succ ?_
    simp only [neumeref08_next.l0]
    rcases drop_cases l i with ⟨hd, hle⟩ | ⟨c, r, hd, hlt, hr⟩
    · omega
    obtain ⟨hb, _⟩ := bt_bs hd
    rw [hb, hd]
    refine Ev.pos (by rw [bs_size]; omega) (Ev.pos (by omega) (Ev.bindc (show neumeref08_digit.f (c.toNat : Int) = some (digB c) from dig_eq c) ?_))
    simp only [numS]
    by_cases c1 : digB c = true
    · refine Ev.pos c1 ?_
      rw [wid (by omega) (by omega), show ((i : Int) + 1) = ((i + 1 : Nat) : Int) by omega, if_pos c1]
      refine Ev.to (ih l (i + 1) hl (by omega) (by omega)) ?_
      rw [← hr]
      congr 2
      omega
    · refine Ev.neg c1 (Ev.const ?_)
      rw [if_neg c1]
      rfl
theorem next_l1 : ∀ (m : Nat) (l : List UInt8) (p i : Nat), l.length < 4611686018427387000 → p ≤ i → i ≤ l.length → l.length - i ≤ m →
    Ev (fun k => neumeref08_next.l1 k (bs l) (p : Int) (i : Int)) (if i + wordK 0 (l.drop i) = p then (0, 0, 10, (p : Int)) else (1, ((i + wordK 0 (l.drop i) : Nat) : Int), 0, 0)) := by
  intro m
  have stop : ∀ (l : List UInt8) (p i : Nat), wordK 0 (l.drop i) = 0 → (if (i : Int) = (p : Int) then (neumeref08_fault.f 10 (p : Int)).bind fun bt => some ((0 : Int), (0 : Int), bt.1, bt.2) else some ((1 : Int), (i : Int), (0 : Int), (0 : Int))) = some (if i + wordK 0 (l.drop i) = p then (0, 0, 10, (p : Int)) else (1, ((i + wordK 0 (l.drop i) : Nat) : Int), 0, 0)) := by
    intro l p i h
    rw [h, Nat.add_zero]
    unfold neumeref08_fault.f
    by_cases e : i = p
    · rw [if_pos (by omega), if_pos e]; rfl
    · rw [if_neg (by omega), if_neg e]
  induction m with
  | zero =>
    intro l p i hl hpi hi hm
    refine Ev.succ ?_
    simp only [neumeref08_next.l1]
    refine Ev.neg (by rw [bs_size]; omega) (Ev.const (stop l p i ?_))
    rw [List.drop_eq_nil_of_le (by omega)]
    rfl
  | succ m ih =>
    intro l p i hl hpi hi hm
    refine Ev.succ ?_
    simp only [neumeref08_next.l1]
    by_cases h : i < l.length
    · have hlet := letter_ev h (by omega)
      have hne : l.drop i ≠ [] := fun q => by have := congrArg List.length q; rw [List.length_drop] at this; simp at this; omega
      have hp := decV_pos (l.drop i)
      have hle := decV_le hne
      rw [List.length_drop] at hle
      have hws := wordK_step hne
      refine Ev.pos (by rw [bs_size]; omega) (Ev.bind hlet ?_)
      by_cases c1 : letS (decV (l.drop i)).1 (decV (l.drop i)).2 = true
      · rw [if_pos c1] at hlet hws ⊢
        refine Ev.pos (by omega) (Ev.bind hlet ?_)
        rw [wid (by omega) (by omega), show ((i : Int) + ((decV (l.drop i)).2 : Int)) = ((i + (decV (l.drop i)).2 : Nat) : Int) by omega]
        refine Ev.to (ih l p _ hl (by omega) (by omega) (by omega)) ?_
        rw [hws, List.drop_drop, Nat.add_assoc]
      · rw [if_neg c1] at hws ⊢
        exact Ev.neg (by decide) (Ev.const (stop l p i hws))
    · refine Ev.neg (by rw [bs_size]; omega) (Ev.const (stop l p i ?_))
      rw [List.drop_eq_nil_of_le (by omega)]
      rfl
theorem next_ev {l : List UInt8} {p : Nat} (hl : l.length < 4611686018427387000) (hp : p < l.length) : Ev (fun k => neumeref08_next.f k (bs l) (p : Int)) (nextA p (nextS (l.drop p))) := by
  rcases drop_cases l p with ⟨hd, hle⟩ | ⟨c, r, hd, hlt, hr⟩
  · omega
  obtain ⟨hb, _⟩ := bt_bs hd
  unfold neumeref08_next.f
  rw [hb]
  refine Ev.pos (by omega) (Ev.pos (by rw [bs_size]; omega) ?_)
  have w1 : wrap64 ((p : Int) + 1) = ((p + 1 : Nat) : Int) := by rw [wid (by omega) (by omega)]; omega
  have core : ∀ b : Bool, b = decide (c.toNat = 39 ∨ c.toNat = 44) → Ev (fun k => neumeref08_next.j0 k (bs l) (p : Int) (c.toNat : Int) (p : Int) b) (nextA p (nextS (l.drop p))) := by
    intro b hbb
    refine Ev.succ ?_
    simp only [neumeref08_next.j0, w1]
    have hn0 := next_l0 _ l p (by omega) (by omega) rfl
    have hn1 := next_l1 _ l p p (by omega) (Nat.le_refl _) (by omega) (Nat.le_refl _)
    rw [hd] at hn0 hn1 ⊢
    simp only [nextS]
    by_cases c0 : c.toNat = 39 ∨ c.toNat = 44
    · rw [decide_eq_true c0] at hbb
      rw [if_pos c0]
      exact Ev.pos hbb (Ev.const rfl)
    rw [decide_eq_false c0] at hbb
    rw [if_neg c0]
    refine Ev.neg (by rw [hbb]; simp) (Ev.bind (sign_ev c) ?_)
    by_cases c1 : signB c = true
    · rw [if_pos c1]
      exact Ev.pos c1 (Ev.const rfl)
    rw [if_neg c1]
    refine Ev.neg c1 ?_
    have hdig : digB c = true ↔ 48 ≤ c.toNat ∧ c.toNat ≤ 57 := by unfold digB; exact decide_eq_true_iff
    by_cases c3 : c.toNat = 34
    · rw [if_neg (by rw [hdig]; omega), if_pos c3]
      refine Ev.pos (by omega) ?_
      unfold neumeref08_quoted.f
      simp only [w1]
      refine Ev.bind (quoted_l0 _ l (p + 1) (by omega) (by omega) (Nat.le_refl _)) (Ev.const ?_)
      rw [← hr]
      have hshift : ∀ (m : Nat) (x : List UInt8) (i : Nat), x.length ≤ m → quotK 0 x (p + i) = if (quotK 0 x i).2.1 = 0 then (p + (quotK 0 x i).1, 0, 0) else (0, (quotK 0 x i).2.1, p + (quotK 0 x i).2.2) := by
        intro m
        induction m with
        | zero =>
          intro x i hx
          obtain rfl := List.eq_nil_of_length_eq_zero (Nat.le_zero.1 hx)
          simp [quotK]
        | succ m ih =>
          intro x i hx
          by_cases hxe : x = []
          · subst hxe; simp [quotK]
          have hp1 := decV_pos x
          have hp2 := decV_le hxe
          rw [quotK_step _ hxe, quotK_step _ hxe]
          split
          · simp; omega
          · split
            · simp
            · rw [Nat.add_assoc]
              exact ih _ _ (by rw [List.length_drop]; omega)
      rw [hshift _ r 1 (Nat.le_refl _)]
      simp only [nextA, quotI]
      by_cases e : (quotK 0 r 1).2.1 = 0
      · rw [if_pos e, if_pos e, if_pos e, e]; rfl
      · rw [if_neg e, if_neg e, if_neg e]; rfl
    refine Ev.neg (by omega) ?_
    by_cases c4 : c.toNat = 45
    · rw [if_neg (by rw [hdig]; omega), if_neg c3, if_pos c4]
      exact Ev.pos (by omega) (Ev.const (double_eq hl hd hr 6))
    refine Ev.neg (by omega) ?_
    by_cases c5 : c.toNat = 95
    · rw [if_neg (by rw [hdig]; omega), if_neg c3, if_neg c4, if_pos c5]
      exact Ev.pos (by omega) (Ev.const (double_eq hl hd hr 7))
    refine Ev.neg (by omega) (Ev.bindc (show neumeref08_digit.f (c.toNat : Int) = some (digB c) from dig_eq c) ?_)
    by_cases c2 : digB c = true
    · rw [if_pos c2]
      refine Ev.pos c2 (Ev.to hn0 ?_)
      simp only [numS, nextA]
      rw [if_pos c2]
      rfl
    rw [if_neg c2, if_neg c3, if_neg c4, if_neg c5]
    refine Ev.neg c2 (Ev.to hn1 ?_)
    by_cases c6 : wordK 0 (c :: r) = 0
    · rw [if_pos c6, if_pos (by omega)]
      rfl
    · rw [if_neg c6, if_neg (by omega)]
      rfl
  by_cases c0 : c.toNat = 39
  · exact Ev.pos (by omega) (core true (by simp [c0]))
  · refine Ev.neg (by omega) (core _ ?_)
    by_cases q : c.toNat = 44
    · rw [beq_iff_eq.2 (by omega), decide_eq_true (Or.inr q)]
    · rw [beq_eq_false_iff_ne.2 (by omega), decide_eq_false (by omega)]
theorem w_succ {p : Nat} (h : p < 4611686018427387904) : wrap64 ((p : Int) + 1) = ((p + 1 : Nat) : Int) := by rw [wid (by omega) (by omega)]; omega
theorem w_pred {q : Nat} (h0 : 1 ≤ q) (h : q < 4611686018427387904) : wrap64 ((q : Int) - 1) = ((q - 1 : Nat) : Int) := by rw [wid (by omega) (by omega)]; omega
theorem bare_five {l : List UInt8} {p n : Nat} (h1 : 2 ≤ n) (h : p + n ≤ l.length) : (bs l).extract (p + 1) (p + n - 1) = bs (bareS 5 ((l.drop p).take n)) := by
  have hlt : ((l.drop p).take n).length = n := by rw [List.length_take, List.length_drop]; omega
  rw [bs_ext]
  unfold bareS
  rw [if_pos rfl, List.dropLast_eq_take, List.length_drop, hlt, List.drop_take, List.drop_take, List.take_take, List.drop_drop]
  rw [show p + n - 1 - (p + 1) = min (n - 1 - 1) (n - 1) by omega]
theorem bare_other {l : List UInt8} {k p n : Nat} (h1 : k ≠ 5) (h : p + n ≤ l.length) : (bs l).extract p (p + n) = bs (bareS k ((l.drop p).take n)) := by
  rw [bs_ext]
  unfold bareS
  rw [if_neg h1, List.drop_take]
  rw [show p + n - p = n by omega]
theorem scan2_l0 : ∀ (f : Nat) (l : List UInt8) (p : Nat) (acc : List S34), l.length < 1000000000 → p ≤ l.length → l.length - p < f → acc.length + (l.length - p) < 4398046511000 →
    Ev (fun k => neumeref08_Scan.l0 k (bs l) acc (p : Int)) (withFirst acc (scanI (scanS f (l.drop p) p))) := by
  intro f
  induction f with
  | zero => intro l p acc _ _ h; omega
  | succ f ih =>
    intro l p acc hl hp hf hacc
    refine Ev.succ ?_
    simp only [neumeref08_Scan.l0, scanS]
    by_cases h : p < l.length
    · have hne : l.drop p ≠ [] := fun q => by have := congrArg List.length q; rw [List.length_drop] at this; simp at this; omega
      have hld := List.length_drop (i := p) (l := l)
      obtain ⟨e1, e2, e3⟩ := nextS_ends hne
      rw [if_neg hne]
      refine Ev.pos (by rw [bs_size]; omega) (Ev.bind (next_ev (by omega) h) ?_)
      generalize hq : nextS (l.drop p) = q at *
      obtain ⟨kk, n, e, a⟩ := q
      simp only [nextA] at *
      by_cases c1 : e = 0
      · subst c1
        obtain ⟨d1, d2, d3, d4, d5⟩ := e1 rfl
        rw [if_neg (show ¬ ((0 : Nat) ≠ 0) by simp), if_pos (show (0 : Nat) = 0 from rfl), if_pos (show (0 : Nat) = 0 from rfl)]
        refine Ev.pos (show ((0 : Nat) : Int) = 0 from rfl) (Ev.pos (by omega) (Ev.pos (by omega) (Ev.pos (by rw [bs_size]; omega) ?_)))
        have hg := gapS_le false (l.drop (p + n))
        have hgd := List.length_drop (i := p + n) (l := l)
        have hsk := skip_ev l (p + n) (by omega) (by omega)
        have hex : (l.take (p + n)).drop p = (l.drop p).take n := by rw [List.drop_take]; congr 1; omega
        have fin : ∀ acc', acc' = acc ++ [tokS (kk, bareS kk ((l.drop p).take n), p)] → Ev (fun k => neumeref08_Scan.l0 k (bs l) acc' ((p + n + gapS false (l.drop (p + n)) : Nat) : Int)) (withFirst acc (scanI (if (scanS f (((l.drop p).drop n).drop (gapS false ((l.drop p).drop n))) (p + n + gapS false ((l.drop p).drop n))).2.1 = 0 then ((kk, bareS kk ((l.drop p).take n), p) :: (scanS f (((l.drop p).drop n).drop (gapS false ((l.drop p).drop n))) (p + n + gapS false ((l.drop p).drop n))).1, 0, 0) else scanS f (((l.drop p).drop n).drop (gapS false ((l.drop p).drop n))) (p + n + gapS false ((l.drop p).drop n))))) := by
          rintro acc' rfl
          simp only [List.drop_drop]
          generalize gapS false (l.drop (p + n)) = g at *
          refine Ev.to (ih l (p + n + g) _ hl (by omega) (by omega) (by rw [List.length_append, List.length_singleton]; omega)) ?_
          have hz := scanS_zero f (l.drop (p + n + g)) (p + n + g)
          generalize scanS f (l.drop (p + n + g)) (p + n + g) = rr at *
          obtain ⟨rl, re, ra⟩ := rr
          simp only at hz ⊢
          by_cases c2 : re = 0
          · have hz2 := hz c2
            clear hz
            subst c2
            subst hz2
            rw [if_pos rfl]
            simp only [scanI]
            rw [withFirst_pos (by rfl), withFirst_pos (by rfl)]
            simp only [List.map_cons, List.append_assoc, List.singleton_append]
          · rw [if_neg c2]
            simp only [scanI]
            rw [withFirst_neg (by omega), withFirst_neg (by omega)]
        by_cases c5 : kk = 5
        · have hn2 := e3 c5 rfl
          have w1 := Aside0.mk (w_succ (p := p) (by omega))
          have w2 := Aside0.mk (w_pred (q := p + n) (by omega) (by omega))
          have hb5 := bare_five (l := l) (p := p) (n := n) hn2 (by omega)
          subst c5
          refine Ev.pos (by rfl) ?_
          rw [w1.out, w2.out]
          refine Ev.pos (by omega) (Ev.pos (by omega) (Ev.pos (by rw [bs_size]; omega) (Ev.pos (by omega) (Ev.bind hsk (fin _ ?_)))))
          simp only [tokS, Int.toNat_natCast]
          rw [hb5]
        · have hb6 := bare_other (l := l) (k := kk) (p := p) (n := n) c5 (by omega)
          refine Ev.neg (by omega) (Ev.pos (by omega) (Ev.bind hsk (fin _ ?_)))
          simp only [tokS, Int.toNat_natCast]
          rw [hb6]
      · have := e2 c1
        rw [if_pos c1, if_neg c1, if_neg c1]
        refine Ev.neg (by omega) (Ev.const ?_)
        simp only [scanI]
        rw [withFirst_neg (by omega)]
        simp only [List.map_nil]
    · have hd : l.drop p = [] := List.drop_eq_nil_of_le (by omega)
      rw [if_pos hd]
      refine Ev.neg (by rw [bs_size]; omega) (Ev.pos (by omega) (Ev.const ?_))
      simp only [scanI]
      rw [withFirst_pos (by rfl)]
      simp only [List.map_cons, List.map_nil, tokS, bs_size]
      rw [show l.length = p by omega]
      rfl
theorem scan2_ev (l : List UInt8) (hl : l.length < 1000000000) : Ev (fun k => neumeref08_Scan.f k (bs l)) (scanI (scanT l)) := by
  unfold neumeref08_Scan.f scanT
  by_cases c : 65536 < l.length
  · rw [if_pos c]
    refine Ev.pos (by rw [bs_size]; omega) ?_
    unfold neumeref08_fault.f
    exact Ev.now _
  · rw [if_neg c]
    refine Ev.neg (by rw [bs_size]; omega) ?_
    have h0 := skip_ev l 0 (by omega) (Nat.zero_le _)
    rw [List.drop_zero, Nat.zero_add] at h0
    refine Ev.bind h0 ?_
    have hg := gapS_le false l
    refine Ev.to (scan2_l0 (l.length + 1) l (gapS false l) [] hl hg (by omega) (by simp only [List.length_nil]; omega)) ?_
    unfold withFirst
    split
    · rfl
    · rfl
end Go.Proofs.YtmffjjncnbeldaaDoor.Rp
