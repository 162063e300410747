/- Tokens of a text: what the program's functions tell. -/
import Derived.Test.YtmffjjncnbeldaaDoorEv
import Derived.Test.YtmffjjncnbeldaaDoorTokSpec
import Derived.Test.YtmffjjncnbeldaaDoorPx4
import Derived.Lib.Strings
import Derived.Lib.Bytealg
namespace Go.Proofs.YtmffjjncnbeldaaDoor.Rp
open Go.RowKit Go.Proofs.YtmffjjncnbeldaaDoor.P Go.Proofs.YtmffjjncnbeldaaDoorW.PrintWords Go.Proofs.YtmffjjncnbeldaaDoorW.PrintLast Go.Proofs.YtmffjjncnbeldaaDoorW.PrintMore Go.Lib
set_option linter.unusedVariables false
set_option linter.unusedSimpArgs false

def bs (l : List UInt8) : ByteArray := ⟨l.toArray⟩
theorem bs_toList (l : List UInt8) : (bs l).toList = l := by rw [Go.Lib.toList_data]; rfl
theorem bs_size (l : List UInt8) : (bs l).size = l.length := Eq.trans (rfl : (bs l).size = l.toArray.size) (List.size_toArray ..)
theorem bs_app (a b : List UInt8) : bs a ++ bs b = bs (a ++ b) := by
  apply ByteArray.ext
  simp [bs]
theorem bs_data (s : ByteArray) : bs s.data.toList = s := by cases s; simp [bs]
theorem bs_dl (l : List UInt8) : (bs l).data.toList = l := rfl
theorem bs_ext (l : List UInt8) (a b : Nat) : (bs l).extract a b = bs ((l.take b).drop a) := by
  apply ByteArray.ext
  apply Array.ext'
  simp [bs, List.extract_eq_take_drop, List.drop_take]
theorem bs_tail (l : List UInt8) (a : Nat) : (bs l).extract a (bs l).size = bs (l.drop a) := by
  rw [bs_ext, bs_size, List.take_length]
theorem wid {x : Int} (h : -9223372036854775808 ≤ x) (h' : x ≤ 9223372036854775807) : wrap64 x = x := by unfold wrap64; omega
theorem bt_bs {l : List UInt8} {i : Nat} {c : UInt8} {r : List UInt8} (h : l.drop i = c :: r) : bt (bs l) (i : Int) = (c.toNat : Int) ∧ i < l.length := by
  have hl : i < l.length := by
    rcases Nat.lt_or_ge i l.length with q | q
    · exact q
    · rw [List.drop_eq_nil_of_le q] at h; cases h
  refine ⟨?_, hl⟩
  have hg : l[i] = c := by
    have := List.drop_eq_getElem_cons hl
    rw [h] at this
    injection this with q _
    exact q.symm
  unfold bt
  have hs : i < (bs l).size := by rw [bs_size]; exact hl
  rw [Int.toNat_natCast, dif_pos hs]
  have : (bs l)[i]'hs = c := by rw [← hg]; rfl
  rw [this]
theorem drop_cases (l : List UInt8) (i : Nat) : (l.drop i = [] ∧ l.length ≤ i) ∨ ∃ c r, l.drop i = c :: r ∧ i < l.length ∧ r = l.drop (i + 1) := by
  rcases Nat.lt_or_ge i l.length with q | q
  · exact Or.inr ⟨_, _, List.drop_eq_getElem_cons q, q, rfl⟩
  · exact Or.inl ⟨List.drop_eq_nil_of_le q, q⟩
theorem ixb_mem : ∀ (l : List UInt8) (c : UInt8), (0 ≤ indexByte l c) = (l.contains c = true) := by
  intro l c
  induction l with
  | nil => simp [indexByte]
  | cons d r ih =>
    have hge := indexByte_ge r c
    simp only [indexByte]
    by_cases h : d = c
    · simp [h]
    · have h' : ¬ c = d := fun q => h q.symm
      simp only [h, beq_iff_eq, if_false, List.contains_cons, Bool.or_eq_true, h', false_or]
      rw [← ih]
      split <;> simp <;> omega
theorem u8_back (c : UInt8) : ((c.toNat : Int)).toNat.toUInt8 = c := by
  rw [Int.toNat_natCast]
  exact UInt8.ofNat_toNat
theorem blank_ix (c : UInt8) : (0 ≤ indexByte (⟨#[32, 9, 10, 13]⟩ : ByteArray).data.toList ((c.toNat : Int)).toNat.toUInt8) = (blankB c = true) := by
  rw [ixb_mem, u8_back]
  have e : ∀ n : Nat, n < 256 → (c.toNat == n) = (c == UInt8.ofNat n) := fun n hn => by
    by_cases q : c.toNat = n
    · rw [u8_of q hn, beq_self_eq_true, beq_iff_eq]; rw [← u8_of q hn]; exact q
    · have : c ≠ UInt8.ofNat n := fun h => q (by rw [h]; simp; omega)
      rw [beq_eq_false_iff_ne.2 q, beq_eq_false_iff_ne.2 this]
  unfold blankB
  rw [e 32 (by decide), e 9 (by decide), e 10 (by decide), e 13 (by decide)]
  show (([32, 9, 10, 13] : List UInt8).contains c = true) = _
  simp only [List.contains_cons, List.contains_nil, Bool.or_false, Bool.or_assoc]
  rfl
theorem sign_ix (c : UInt8) : (0 ≤ indexByte (⟨#[123, 125, 60, 62, 124, 126, 40, 41, 47, 33, 46]⟩ : ByteArray).data.toList ((c.toNat : Int)).toNat.toUInt8) = (signB c = true) := by
  rw [ixb_mem, u8_back]
  rfl
/-- What a remark's end is. -/
theorem rem_ix : ∀ (l : List UInt8), (indexByte l 10 = -1 ∧ gapS true l = l.length) ∨ ∃ n : Nat, indexByte l 10 = (n : Int) ∧ n < l.length ∧ gapS true l = n + gapS false (l.drop n) ∧ (∃ r, l.drop n = 10 :: r) := by
  intro l
  induction l with
  | nil => exact Or.inl ⟨rfl, rfl⟩
  | cons d r ih =>
    simp only [indexByte, gapS, List.length_cons]
    by_cases h : d = 10
    · subst h
      refine Or.inr ⟨0, by simp, by omega, ?_, r, rfl⟩
      rw [List.drop_zero, Nat.zero_add, if_pos (by decide)]
      simp only [gapS]
      rw [if_pos (by decide)]
    · have h' : ¬ d.toNat = 10 := fun q => h (u8_of q (by decide))
      rw [if_neg h']
      simp only [h, beq_iff_eq, if_false]
      rcases ih with ⟨e1, e2⟩ | ⟨n, e1, e2, e3, e4⟩
      · exact Or.inl ⟨by rw [e1]; rfl, by omega⟩
      · refine Or.inr ⟨n + 1, by rw [e1]; simp, by omega, by rw [e3, List.drop_succ_cons]; omega, ?_⟩
        rw [List.drop_succ_cons]; exact e4
theorem gap_l0 : ∀ (m : Nat) (l : List UInt8) (i : Nat), l.length ≤ 4611686018427387904 → i ≤ l.length → l.length - i = m →
    Ev (fun k => token_gap.l0 k (bs l) (i : Int)) (((i + gapS false (l.drop i) : Nat) : Int)) := by
  intro m
  induction m using Nat.strongRecOn with
  | _ m ih =>
    intro l i hl hi hm
    refine Ev.succ ?_
    simp only [token_gap.l0]
    rcases drop_cases l i with ⟨hd, hle⟩ | ⟨c, r, hd, hlt, hr⟩
    · refine Ev.neg (by rw [bs_size]; omega) (Ev.const ?_)
      rw [hd]
      simp [gapS]
    · obtain ⟨hb, _⟩ := bt_bs hd
      refine Ev.pos (by rw [bs_size]; omega) (Ev.pos (by omega) ?_)
      unfold strings_IndexByte.f
      refine Ev.bindc rfl ?_
      have hbx := blank_ix c
      rw [hb]
      by_cases c1 : blankB c = true
      · refine Ev.pos (by rw [ge_iff_le, hbx]; exact c1) ?_
        rw [wid (by omega) (by omega), show ((i : Int) + 1) = ((i + 1 : Nat) : Int) by omega]
        refine Ev.to (ih (l.length - (i + 1)) (by omega) l (i + 1) hl (by omega) rfl) ?_
        rw [hd]
        simp only [gapS]
        rw [if_pos c1, ← hr]
        congr 1
        omega
      · refine Ev.neg (by rw [ge_iff_le, hbx]; exact c1) ?_
        by_cases c2 : c.toNat = 37
        · refine Ev.pos (by omega) (Ev.pos (by rw [bs_size]; omega) ?_)
          refine Ev.bindc rfl ?_
          rw [Int.toNat_natCast, bs_tail, bs_dl, show (10 : Int).toNat.toUInt8 = 10 from rfl]
          have hgS : gapS false (l.drop i) = gapS true (l.drop i) := by
            rw [hd]
            simp only [gapS]
            rw [if_neg c1, if_pos c2, if_neg (by omega)]
          rcases rem_ix (l.drop i) with ⟨e1, e2⟩ | ⟨n, e1, e2, e3, q, e4⟩
          · refine Ev.pos (by rw [e1]; decide) (Ev.const ?_)
            rw [hgS, e2, bs_size, List.length_drop]
            congr 2
            omega
          · rw [List.length_drop] at e2
            have hn1 : 1 ≤ n := by
              rcases Nat.eq_zero_or_pos n with q2 | q2
              · subst q2
                rw [List.drop_zero, hd] at e4
                injection e4 with q3 _
                rw [q3] at c2
                exact absurd c2 (by decide)
              · exact q2
            refine Ev.neg (by rw [e1]; omega) ?_
            rw [e1, wid (by omega) (by omega), show ((i : Int) + (n : Int)) = ((i + n : Nat) : Int) by omega]
            refine Ev.to (ih (l.length - (i + n)) (by omega) l (i + n) hl (by omega) rfl) ?_
            rw [hgS, e3, List.drop_drop]
            congr 1
            omega
        · refine Ev.neg (by omega) (Ev.const ?_)
          rw [hd]
          simp only [gapS]
          rw [if_neg c1, if_neg c2]
          rfl
theorem gap_ev (l : List UInt8) (hl : l.length ≤ 4611686018427387904) : Ev (fun k => token_gap.f k (bs l)) ((gapS false l : Nat) : Int) := by
  have := gap_l0 l.length l 0 hl (Nat.zero_le _) rfl
  rw [List.drop_zero, Nat.zero_add] at this
  exact this
theorem dig_eq (c : UInt8) : token_digit.f (c.toNat : Int) = some (digB c) := by
  unfold token_digit.f digB
  by_cases h : 48 ≤ c.toNat
  · rw [if_pos (by omega)]
    congr 1
    apply decide_eq_decide.2
    omega
  · rw [if_neg (by omega), decide_eq_false (by omega)]
theorem num_l0 : ∀ (m : Nat) (l : List UInt8) (i : Nat), l.length ≤ 4611686018427387904 → i ≤ l.length → l.length - i = m →
    Ev (fun k => token_number.l0 k (bs l) (i : Int)) (((i + numS (l.drop i) : Nat) : Int)) := by
  intro m
  induction m with
  | zero =>
    intro l i hl hi hm
    refine Ev.succ ?_
    simp only [token_number.l0]
    refine Ev.neg (by rw [bs_size]; omega) (Ev.const ?_)
    rw [List.drop_eq_nil_of_le (by omega)]
    rfl
  | succ m ih =>
    intro l i hl hi hm
    refine Ev.succ ?_
    simp only [token_number.l0]
    rcases drop_cases l i with ⟨hd, hle⟩ | ⟨c, r, hd, hlt, hr⟩
    · omega
    · obtain ⟨hb, _⟩ := bt_bs hd
      rw [hb, hd]
      refine Ev.pos (by rw [bs_size]; omega) (Ev.pos (by omega) (Ev.bindc (dig_eq c) ?_))
      simp only [numS]
      by_cases c1 : digB c = true
      · refine Ev.pos c1 ?_
        rw [wid (by omega) (by omega), show ((i : Int) + 1) = ((i + 1 : Nat) : Int) by omega, if_pos c1]
        refine Ev.to (ih l (i + 1) hl (by omega) (by omega)) ?_
        rw [← hr]
        congr 1
        omega
      · exact Ev.neg c1 (Ev.const (by rw [if_neg c1]; rfl))
theorem num_ev (l : List UInt8) (hl : l.length ≤ 4611686018427387904) : Ev (fun k => token_number.f k (bs l)) ((numS l : Nat) : Int) := by
  have := num_l0 l.length l 0 hl (Nat.zero_le _) rfl
  rw [List.drop_zero, Nat.zero_add] at this
  exact this
set_option maxRecDepth 100000 in
theorem letB_S (v n : Nat) : letB (v : Int) (n : Int) = letS v n := by
  unfold letB token_letter.f letS
  simp only [token_letter.j0, token_letter.j1]
  by_cases h1 : 97 ≤ v
  · rw [if_pos (by omega)]
    by_cases h2 : v ≤ 122
    · rw [decide_eq_true (show (v : Int) ≤ 122 by omega), if_pos rfl, if_pos rfl, decide_eq_true (by omega)]; rfl
    · rw [decide_eq_false (show ¬ (v : Int) ≤ 122 by omega), if_neg (by simp), if_pos (by omega), decide_eq_false (show ¬ (v : Int) ≤ 90 by omega), if_neg (by simp)]
      by_cases h3 : v < 128
      · rw [if_pos (by omega), decide_eq_false (by omega)]; rfl
      · rw [if_neg (by omega)]
        by_cases h4 : v = 65533
        · rw [if_pos (by omega)]
          show decide _ = decide _
          apply decide_eq_decide.2
          omega
        · rw [if_neg (by omega), decide_eq_true (by omega)]; rfl
  · rw [if_neg (by omega), if_neg (by simp)]
    by_cases h2 : 65 ≤ v
    · rw [if_pos (by omega)]
      by_cases h3 : v ≤ 90
      · rw [decide_eq_true (show (v : Int) ≤ 90 by omega), if_pos rfl, decide_eq_true (by omega)]; rfl
      · rw [decide_eq_false (show ¬ (v : Int) ≤ 90 by omega), if_neg (by simp), if_pos (by omega), decide_eq_false (by omega)]; rfl
    · rw [if_neg (by omega), if_neg (by simp), if_pos (by omega), decide_eq_false (by omega)]; rfl
theorem wordV_S : ∀ (b : Nat) (l : List UInt8) (p : Nat), p ≤ l.length → l.length ≤ p + b → wordV (bs l) b p = p + wordK 0 (l.drop p) := by
  intro b
  induction b with
  | zero =>
    intro l p hp hb
    rw [List.drop_eq_nil_of_le (by omega)]
    simp only [wordV, wordK, bs_size]
    omega
  | succ b ih =>
    intro l p hp hb
    simp only [wordV, bs_size]
    by_cases h : p < l.length
    · rw [if_pos h, decode_decV _ _ (show p < (bs l).size from h), bs_dl, letB_S]
      have hne : l.drop p ≠ [] := fun q => by have := congrArg List.length q; rw [List.length_drop] at this; simp at this; omega
      rw [wordK_step hne]
      have h1 := decV_pos (l.drop p)
      have h2 := decV_le hne
      rw [List.length_drop] at h2
      split
      · rw [ih l _ (by omega) (by omega), List.drop_drop]
        omega
      · rfl
    · rw [if_neg h, List.drop_eq_nil_of_le (by omega)]
      simp only [wordK]
      omega
theorem word_eq (l : List UInt8) (hl : l.length < 4611686018427387904) : token_word.f (bs l) = some ((wordK 0 l : Nat) : Int) := by
  unfold token_word.f
  rw [if_pos (by rw [bs_size]; exact hl), wordV_S _ l 0 (Nat.zero_le _) (by rw [bs_size]; omega), List.drop_zero, Nat.zero_add]
def quotI (q : Nat × Nat × Nat) : Int × Int × Int := ((q.1 : Int), (q.2.1 : Int), (q.2.2 : Int))
theorem quotedV_S : ∀ (b : Nat) (l : List UInt8) (p : Nat), 1 ≤ p → p ≤ l.length → l.length ≤ p + b → quotedV (bs l) b p = quotI (quotK 0 (l.drop p) p) := by
  intro b
  induction b with
  | zero =>
    intro l p h0 hp hb
    rw [List.drop_eq_nil_of_le (by omega)]
    simp only [quotedV, quotK, bs_size, quotI]
    simp
    omega
  | succ b ih =>
    intro l p h0 hp hb
    simp only [quotedV, bs_size]
    by_cases h : p < l.length
    · rw [if_pos h, if_neg (by omega), decode_decV _ _ (show p < (bs l).size from h), bs_dl]
      have hne : l.drop p ≠ [] := fun q => by have := congrArg List.length q; rw [List.length_drop] at this; simp at this; omega
      rw [quotK_step p hne]
      have h1 := decV_pos (l.drop p)
      have h2 := decV_le hne
      rw [List.length_drop] at h2
      by_cases c1 : (decV (l.drop p)).1 = 34
      · rw [if_pos c1, if_pos (by omega)]; simp [quotI]
      · rw [if_neg c1, if_neg (by omega)]
        by_cases c2 : (decV (l.drop p)).1 < 32 ∨ (decV (l.drop p)).1 = 127 ∨ decV (l.drop p) = (65533, 1)
        · rw [if_pos c2, if_pos ?_]
          · rfl
          · rcases c2 with q | q | q
            · exact Or.inl (by omega)
            · exact Or.inr (Or.inl (by omega))
            · rw [q]; exact Or.inr (Or.inr ⟨rfl, rfl⟩)
        · rw [if_neg c2, if_neg ?_]
          · rw [ih l _ (by omega) (by omega) (by omega), List.drop_drop]
          · rintro (q | q | ⟨q1, q2⟩)
            · exact c2 (Or.inl (by omega))
            · exact c2 (Or.inr (Or.inl (by omega)))
            · exact c2 (Or.inr (Or.inr (Prod.ext (by simp only; omega) q2)))
    · rw [if_neg h, List.drop_eq_nil_of_le (by omega)]
      simp only [quotK, quotI]
      simp
      omega
theorem quoted_eq (r : List UInt8) (hl : r.length < 4611686018427387000) : token_quoted.f (bs (34 :: r)) = some (quotI (quotK 0 r 1)) := by
  unfold token_quoted.f
  rw [if_pos (by rw [bs_size]; simp only [List.length_cons]; omega)]
  congr 1
  rw [bs_size, List.length_cons]
  simp only [quotedV, bs_size, List.length_cons]
  rw [if_pos (by omega), if_pos trivial, decode_decV _ _ (show 0 < (bs (34 :: r)).size by rw [bs_size]; simp), bs_dl, List.drop_zero]
  have e : decV (34 :: r) = (34, 1) := by
    simp only [decV]
    rw [if_pos (by decide)]
    rfl
  rw [e]
  have := quotedV_S r.length (34 :: r) 1 (Nat.le_refl _) (by simp) (by simp; omega)
  rw [List.drop_succ_cons, List.drop_zero] at this
  exact this
theorem twice_eq (c : UInt8) (r : List UInt8) : token_twice.f (bs (c :: r)) = some (quotI (twiceS c r)) := by
  unfold token_twice.f token_fault.f
  have h0 := (bt_bs (l := c :: r) (i := 0) (c := c) (r := r) rfl).1
  cases r with
  | nil => rfl
  | cons d q =>
    have h1 := (bt_bs (l := c :: d :: q) (i := 1) (c := d) (r := q) rfl).1
    rw [bs_size, if_neg (by simp only [List.length_cons]; omega), if_pos (by simp only [List.length_cons]; omega), if_pos (by simp only [List.length_cons]; omega)]
    rw [show ((1 : Nat) : Int) = 1 from rfl] at h1
    rw [show ((0 : Nat) : Int) = 0 from rfl] at h0
    rw [h1, h0]
    simp only [twiceS]
    by_cases e : d = c
    · rw [if_pos e, if_pos (by rw [e])]; rfl
    · rw [if_neg e, if_neg ?_]
      · rfl
      · intro h
        have h : d.toNat = c.toNat := by omega
        exact e (by rw [← UInt8.ofNat_toNat (x := d), h, UInt8.ofNat_toNat])
def nextI (q : Nat × Nat × Nat × Nat) : Int × Int × Int × Int := ((q.1 : Int), (q.2.1 : Int), (q.2.2.1 : Int), (q.2.2.2 : Int))
theorem first_ev {l : List UInt8} (hl : l.length < 4611686018427387000) (hne : l ≠ []) : Ev (fun k => token_first.f k (bs l)) (nextI (nextS l)) := by
  cases l with
  | nil => exact absurd rfl hne
  | cons c r =>
    have hb := (bt_bs (l := c :: r) (i := 0) (c := c) (r := r) rfl).1
    rw [show ((0 : Nat) : Int) = 0 from rfl] at hb
    unfold token_first.f
    rw [hb]
    refine Ev.pos (by rw [bs_size]; simp only [List.length_cons]; omega) ?_
    simp only [nextS]
    have core : ∀ b : Bool, b = decide (c.toNat = 39 ∨ c.toNat = 44) → Ev (fun k => token_first.j0 k (bs (c :: r)) (c.toNat : Int) b) (nextI (nextS (c :: r))) := by
      intro b hbb
      refine Ev.succ ?_
      simp only [token_first.j0, nextS]
      by_cases c0 : c.toNat = 39 ∨ c.toNat = 44
      · rw [decide_eq_true c0] at hbb
        rw [if_pos c0]
        exact Ev.pos hbb (Ev.now _)
      rw [decide_eq_false c0] at hbb
      rw [if_neg c0]
      refine Ev.neg (by rw [hbb]; simp) ?_
      unfold strings_IndexByte.f
      refine Ev.bindc rfl ?_
      have hsx := sign_ix c
      by_cases c1 : signB c = true
      · rw [if_pos c1]
        exact Ev.pos (by rw [ge_iff_le, hsx]; exact c1) (Ev.now _)
      rw [if_neg c1]
      refine Ev.neg (by rw [ge_iff_le, hsx]; exact c1) (Ev.bindc (dig_eq c) ?_)
      by_cases c2 : digB c = true
      · rw [if_pos c2]
        refine Ev.pos c2 (Ev.to (Ev.bind (num_ev (c :: r) (by omega)) (Ev.now _)) ?_)
        simp only [numS]
        rw [if_pos c2]
        rfl
      rw [if_neg c2]
      refine Ev.neg c2 ?_
      by_cases c3 : c.toNat = 34
      · rw [if_pos c3]
        have e34 : c = 34 := u8_of c3 (by decide)
        refine Ev.pos (by omega) ?_
        rw [e34]
        exact Ev.to (Ev.bindc (quoted_eq r (by simp only [List.length_cons] at hl; omega)) (Ev.now _)) rfl
      rw [if_neg c3]
      refine Ev.neg (by omega) ?_
      by_cases c4 : c.toNat = 45
      · rw [if_pos c4]
        exact Ev.pos (by omega) (Ev.to (Ev.bindc (twice_eq c r) (Ev.now _)) rfl)
      rw [if_neg c4]
      refine Ev.neg (by omega) ?_
      by_cases c5 : c.toNat = 95
      · rw [if_pos c5]
        exact Ev.pos (by omega) (Ev.to (Ev.bindc (twice_eq c r) (Ev.now _)) rfl)
      rw [if_neg c5]
      refine Ev.neg (by omega) (Ev.bindc (word_eq (c :: r) (by omega)) ?_)
      by_cases c6 : wordK 0 (c :: r) = 0
      · rw [if_pos c6]
        refine Ev.pos (by omega) ?_
        unfold token_fault.f
        exact Ev.now _
      · rw [if_neg c6]
        exact Ev.neg (by omega) (Ev.now _)
    have hn : nextI (nextS (c :: r)) = nextI (nextS (c :: r)) := rfl
    by_cases c0 : c.toNat = 39
    · refine Ev.pos (by omega) ?_
      have := core true (by simp [c0])
      simp only [nextS] at this
      exact this
    · refine Ev.neg (by omega) ?_
      have := core ((c.toNat : Int) == 44) (by
        by_cases q : c.toNat = 44
        · rw [beq_iff_eq.2 (by omega), decide_eq_true (Or.inr q)]
        · rw [beq_eq_false_iff_ne.2 (by omega), decide_eq_false (by omega)])
      simp only [nextS] at this
      exact this
theorem take_len {l : List UInt8} {n : Nat} (h : n ≤ l.length) : (l.take n).length = n := by rw [List.length_take]; omega
theorem bare_eq {k : Nat} {l : List UInt8} (h2 : k = 5 → 2 ≤ l.length) (hl : l.length < 4611686018427387000) : token_bare.f (k : Int) (bs l) = some (bs (bareS k l)) := by
  unfold token_bare.f bareS
  by_cases c : k = 5
  · have := h2 c
    rw [if_pos (by omega), if_pos c, bs_size, wid (by omega) (by omega), if_pos (by omega), if_pos (by omega), bs_ext]
    rw [show ((l.length : Int) - 1).toNat = l.length - 1 by omega, List.drop_take, List.dropLast_eq_take, List.length_drop]
  · rw [if_neg (by omega), if_neg c]
theorem raw_eq {k : Nat} {l : List UInt8} (a : Int) (hl : l.length < 4611686018427387000) : token_raw.f (k : Int) (bs l) a = some (bs (rawS k l)) := by
  unfold token_raw.f rawS
  by_cases c : k = 5
  · rw [if_pos (by omega), if_pos c, bs_size, if_pos (by omega), if_pos (by omega)]
    rw [show (⟨#[34]⟩ : ByteArray) = bs [34] from rfl, bs_app, bs_app]
    rfl
  · rw [if_neg (by omega), if_neg c]
def tokS (q : Tok) : S34 := ⟨(q.1 : Int), bs q.2.1, (q.2.2 : Int)⟩
def scanI (q : List Tok × Nat × Nat) : List S34 × Int × Int := (q.1.map tokS, (q.2.1 : Int), (q.2.2 : Int))
def withFirst (acc : List S34) (q : List S34 × Int × Int) : List S34 × Int × Int := if q.2.1 = 0 then (acc ++ q.1, q.2.1, q.2.2) else q
theorem withFirst_pos {acc l : List S34} {e a : Int} (h : e = 0) : withFirst acc (l, e, a) = (acc ++ l, e, a) := by unfold withFirst; rw [if_pos h]
theorem withFirst_neg {acc l : List S34} {e a : Int} (h : ¬ e = 0) : withFirst acc (l, e, a) = (l, e, a) := by unfold withFirst; rw [if_neg h]
theorem scanS_zero : ∀ (f : Nat) (l : List UInt8) (p : Nat), (scanS f l p).2.1 = 0 → (scanS f l p).2.2 = 0 := by
  intro f
  induction f with
  | zero => intro l p h; exact absurd h (by simp [scanS])
  | succ f ih =>
    intro l p h
    simp only [scanS] at h ⊢
    split
    · rfl
    · rename_i q
      rw [if_neg q] at h
      split
      · rename_i q2; rw [if_pos q2] at h; exact absurd h q2
      · rename_i q2
        rw [if_neg q2] at h
        split
        · rfl
        · rename_i q3; rw [if_neg q3] at h; exact absurd h q3
theorem scanS_fault : ∀ (f : Nat) (l : List UInt8) (p : Nat), (scanS f l p).2.1 ≠ 0 → (scanS f l p).1 = [] := by
  intro f
  induction f with
  | zero => intro l p _; rfl
  | succ f ih =>
    intro l p h
    simp only [scanS] at h ⊢
    split
    · rename_i q; rw [if_pos q] at h; exact absurd rfl h
    · rename_i q
      rw [if_neg q] at h
      split
      · rfl
      · rename_i q2
        rw [if_neg q2] at h
        split
        · rename_i q3; rw [if_pos q3] at h; exact absurd rfl h
        · rename_i q3
          exact ih _ _ q3
theorem scan_l0 : ∀ (f : Nat) (l : List UInt8) (p : Nat) (acc : List S34), l.length < 1000000000 → p ≤ l.length → l.length - p < f → acc.length + (l.length - p) < 4398046511000 →
    Ev (fun k => token_Scan.l0 k (bs l) acc (p : Int)) (withFirst acc (scanI (scanS f (l.drop p) p))) := by
  intro f
  induction f with
  | zero => intro l p acc _ _ h; omega
  | succ f ih =>
    intro l p acc hl hp hf hacc
    refine Ev.succ ?_
    simp only [token_Scan.l0, scanS]
    by_cases h : p < l.length
    · have hne : l.drop p ≠ [] := fun q => by have := congrArg List.length q; rw [List.length_drop] at this; simp at this; omega
      have hld := List.length_drop (i := p) (l := l)
      obtain ⟨e1, e2, e3⟩ := nextS_ends hne
      rw [if_neg hne]
      refine Ev.pos (by rw [bs_size]; omega) (Ev.pos (by omega) (Ev.pos (by rw [bs_size]; omega) ?_))
      rw [Int.toNat_natCast, bs_tail]
      refine Ev.bind (first_ev (by omega) hne) ?_
      generalize hq : nextS (l.drop p) = q at *
      obtain ⟨kk, n, e, a⟩ := q
      simp only [nextI] at *
      by_cases c1 : e = 0
      · subst c1
        obtain ⟨d1, d2, d3, d4, d5⟩ := e1 rfl
        rw [if_neg (by simp)]
        refine Ev.pos (show ((0 : Nat) : Int) = 0 from rfl) ?_
        have hw : wrap64 ((p : Int) + (n : Int)) = ((p + n : Nat) : Int) := by rw [wid (by omega) (by omega)]; omega
        simp only [hw]
        refine Ev.pos (by omega) (Ev.pos (by rw [bs_size]; omega) ?_)
        rw [Int.toNat_natCast, bs_ext, bs_tail]
        have hex : (l.take (p + n)).drop p = (l.drop p).take n := by rw [List.drop_take]; congr 1; omega
        rw [hex]
        refine Ev.bindc (bare_eq (fun q => by rw [take_len (by omega)]; exact e3 q rfl) (by rw [take_len (by omega)]; omega)) ?_
        refine Ev.pos (by omega) (Ev.pos (by omega) ?_)
        refine Ev.bind (gap_ev (l.drop (p + n)) (by rw [List.length_drop]; omega)) ?_
        have hg := gapS_le false (l.drop (p + n))
        have hgd := List.length_drop (i := p + n) (l := l)
        simp only [List.drop_drop]
        generalize gapS false (l.drop (p + n)) = g at *
        rw [wid (x := ((p + n : Nat) : Int) + (g : Int)) (by omega) (by omega), show ((p + n : Nat) : Int) + (g : Int) = ((p + n + g : Nat) : Int) by omega]
        refine Ev.to (ih l (p + n + g) _ hl (by omega) (by omega) (by rw [List.length_append, List.length_singleton]; omega)) ?_
        have hz := scanS_zero f (l.drop (p + n + g)) (p + n + g)
        generalize scanS f (l.drop (p + n + g)) (p + n + g) = rr at *
        obtain ⟨rl, re, ra⟩ := rr
        simp only at hz ⊢
        by_cases c2 : re = 0
        · have hz2 := hz c2
          clear hz
          subst c2
          subst hz2
          rw [if_pos rfl]
          simp only [scanI]
          rw [withFirst_pos (by rfl), withFirst_pos (by rfl)]
          simp only [List.map_cons, List.append_assoc, List.singleton_append, tokS]
        · rw [if_neg c2]
          simp only [scanI]
          rw [withFirst_neg (by omega), withFirst_neg (by omega)]
      · rw [if_pos c1]
        refine Ev.neg (by omega) (Ev.const ?_)
        have := e2 c1
        rw [wid (by omega) (by omega)]
        simp only [scanI]
        rw [withFirst_neg (by omega)]
        simp only [List.map_nil]
        congr 3
        omega
    · have hd : l.drop p = [] := List.drop_eq_nil_of_le (by omega)
      rw [if_pos hd]
      refine Ev.neg (by rw [bs_size]; omega) (Ev.pos (by omega) (Ev.const ?_))
      simp only [scanI]
      rw [withFirst_pos (by rfl)]
      simp only [List.map_cons, List.map_nil, tokS, bs_size]
      rw [show l.length = p by omega]
      rfl
/-- All tokens of a text. -/
def scanT (l : List UInt8) : List Tok × Nat × Nat := if 65536 < l.length then ([], 4, 65536) else scanS (l.length + 1) (l.drop (gapS false l)) (gapS false l)
theorem scan_ev (l : List UInt8) (hl : l.length < 1000000000) : Ev (fun k => token_Scan.f k (bs l)) (scanI (scanT l)) := by
  unfold token_Scan.f scanT
  by_cases c : 65536 < l.length
  · rw [if_pos c]
    refine Ev.pos (by rw [bs_size]; omega) ?_
    unfold token_fault.f
    exact Ev.now _
  · rw [if_neg c]
    refine Ev.neg (by rw [bs_size]; omega) (Ev.bind (gap_ev l (by omega)) ?_)
    have hg := gapS_le false l
    refine Ev.to (scan_l0 (l.length + 1) l (gapS false l) [] hl hg (by omega) (by simp only [List.length_nil]; omega)) ?_
    unfold withFirst
    split
    · rfl
    · rfl
end Go.Proofs.YtmffjjncnbeldaaDoor.Rp
