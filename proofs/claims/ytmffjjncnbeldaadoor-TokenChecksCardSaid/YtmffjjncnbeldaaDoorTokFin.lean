/- Tokens of a text: rows of tokens, as the program checks and joins them. -/
import Derived.Test.YtmffjjncnbeldaaDoorTokRef
import Derived.Test.YtmffjjncnbeldaaDoorTokLaw
import Derived.Test.YtmffjjncnbeldaaDoorPx5
import Derived.Test.YtmffjjncnbeldaaDoorPx15
import Derived.Test.YtmffjjncnbeldaaDoorPx6
namespace Go.Proofs.YtmffjjncnbeldaaDoor.Rp
open Go.RowKit Go.Proofs.YtmffjjncnbeldaaDoor.P Go.Proofs.YtmffjjncnbeldaaDoorW.PrintWords Go.Proofs.YtmffjjncnbeldaaDoorW.PrintLast Go.Proofs.YtmffjjncnbeldaaDoorW.PrintMore Go.Lib
set_option linter.unusedVariables false
set_option linter.unusedSimpArgs false
theorem heads_bind : Ev (fun k => (neumelaw08_heads.f k).bind fun t => some t) true := Ev.some_bind (Ev.of neumelaw08_heads.mono neumelaw08_heads.at)
abbrev TK := S34
def txT (t : TK) : List UInt8 := t.f1.data.toList
theorem f1_bs (t : TK) : t.f1 = bs (txT t) := (bs_data t.f1).symm
def rawT (t : TK) : List UInt8 := if t.f0 = 5 then 34 :: (txT t ++ [34]) else txT t
theorem rawT_eq (t : TK) (h : (txT t).length < 4611686018427387000) : token_raw.f t.f0 t.f1 t.f2 = some (bs (rawT t)) := by
  rw [f1_bs]
  unfold token_raw.f rawT
  by_cases c : t.f0 = 5
  · rw [if_pos c, if_pos c, bs_size, if_pos (by omega), if_pos (by omega)]
    rw [show (⟨#[34]⟩ : ByteArray) = bs [34] from rfl, bs_app, bs_app]
    rfl
  · rw [if_neg c, if_neg c]
/-- May a token stand by itself? -/
def aloneB (t : TK) : Bool := decide (rawT t ≠ [] ∧ (rawT t).length ≤ 65536 ∧ gapS false (rawT t) = 0 ∧ (nextS (rawT t)).2.2.1 = 0 ∧ ((nextS (rawT t)).1 : Int) = t.f0 ∧ (nextS (rawT t)).2.1 = (rawT t).length)
theorem bs_nil_iff (l : List UInt8) : (bs l).toList = [] ↔ l = [] := by rw [bs_toList]
theorem alone_ev (t : TK) (h : (txT t).length < 4611686018427380000) : Ev (fun k => token_alone.f k t.f0 t.f1 t.f2) (aloneB t) := by
  unfold token_alone.f
  refine Ev.bindc (rawT_eq t (by omega)) ?_
  have hl : (rawT t).length ≤ (txT t).length + 2 := by unfold rawT; split <;> simp
  unfold aloneB
  generalize rawT t = r at *
  by_cases c1 : r = []
  · exact Ev.pos (by rw [bs_toList]; exact c1) (Ev.const (by rw [decide_eq_false (fun q => q.1 c1)]))
  refine Ev.neg (by rw [bs_toList]; exact c1) ?_
  rw [bs_size]
  by_cases c2 : r.length ≤ 65536
  rotate_left
  · exact Ev.pos (by omega) (Ev.const (by rw [decide_eq_false (fun q => c2 q.2.1)]))
  refine Ev.neg (by omega) (Ev.bind (gap_ev r (by omega)) ?_)
  by_cases c3 : gapS false r = 0
  rotate_left
  · exact Ev.pos (by omega) (Ev.const (by rw [decide_eq_false (fun q => c3 q.2.2.1)]))
  refine Ev.neg (by omega) (Ev.bind (first_ev (by omega) c1) ?_)
  simp only [nextI]
  by_cases c4 : (nextS r).2.2.1 = 0
  rotate_left
  · exact Ev.neg (by omega) (Ev.const (by rw [decide_eq_false (fun q => c4 q.2.2.2.1)]))
  refine Ev.pos (by omega) ?_
  by_cases c5 : ((nextS r).1 : Int) = t.f0
  rotate_left
  · exact Ev.neg c5 (Ev.const (by rw [decide_eq_false (fun q => c5 q.2.2.2.2.1)]))
  refine Ev.pos c5 (Ev.const ?_)
  by_cases c6 : (nextS r).2.1 = r.length
  · rw [decide_eq_true ⟨c1, c2, c3, c4, c5, c6⟩, beq_iff_eq.2 (by omega)]
  · rw [decide_eq_false (fun q => c6 q.2.2.2.2.2), beq_eq_false_iff_ne.2 (by omega)]
/-- May tokens be, the first from a place on? -/
def checkB : List TK → Int → Bool
  | [], _ => false
  | [t], e => decide (e ≤ t.f2 ∧ t.f0 = 8 ∧ txT t = [])
  | t :: u :: r, e => decide (e ≤ t.f2) && (aloneB t && checkB (u :: r) (t.f2 + (rawT t).length))
/-- Tokens that may be in a program: none too long, numbers in their bounds. -/
def Fine (L : List TK) : Prop := L.length ≤ 1000000000 ∧ ∀ t ∈ L, (txT t).length < 1000000000 ∧ -9223372036854775808 ≤ t.f2 ∧ t.f2 ≤ 9223372036854775807
theorem rd_drop {L : List TK} {i : Nat} (h : i < L.length) : L.drop i = rd_T34 L (i : Int) :: L.drop (i + 1) := by
  rw [List.drop_eq_getElem_cons h]
  unfold rd_T34
  rw [Int.toNat_natCast, List.getD_eq_getElem?_getD, List.getElem?_eq_getElem h]
  rfl
theorem rd_mem {L : List TK} {i : Nat} (h : i < L.length) : rd_T34 L (i : Int) ∈ L := by
  have := rd_drop h
  exact List.mem_of_mem_drop (this ▸ List.mem_cons_self ..)
/-- The last one is the end's. -/
def lastB (L : List TK) : Bool := decide ((rd_T34 L ((L.length : Int) - 1)).f0 = 8 ∧ txT (rd_T34 L ((L.length : Int) - 1)) = [])
theorem check_l0 : ∀ (m : Nat) (L : List TK) (i : Nat) (e : Int), Fine L → lastB L = true → i < L.length → L.length - i = m + 1 → 0 ≤ e → e ≤ 9223372036854775807 + 1000000002 →
    (e ≤ 9223372036854775807 → Ev (fun k => token_Check.l0 k L e L (L.length : Int) (i : Int)) (checkB (L.drop i) e)) ∧ (9223372036854775807 < e → checkB (L.drop i) e = false) := by
  intro m
  induction m with
  | zero =>
    intro L i e hF hlast hi hm h0 h1
    have hd := rd_drop hi
    have hn : L.drop (i + 1) = [] := List.drop_eq_nil_of_le (by omega)
    rw [hn] at hd
    obtain ⟨b1, b2, b3⟩ := hF.2 _ (rd_mem hi)
    have hil : (i : Int) = (L.length : Int) - 1 := by omega
    have hl := hlast
    unfold lastB at hl
    rw [decide_eq_true_eq, ← hil] at hl
    have hlen := hF.1
    have hw : wrap64 ((L.length : Int) - 1) = (L.length : Int) - 1 := wid (by omega) (by omega)
    have HW := Aside0.mk hw
    clear hw
    rw [hd]
    simp only [checkB]
    refine ⟨fun he => ?_, fun he => by rw [decide_eq_false (fun q => by omega)]⟩
    refine Ev.succ ?_
    simp only [token_Check.l0]
    refine Ev.pos (by omega) (Ev.pos (by omega) (Ev.pos (by omega) ?_))
    by_cases c : (rd_T34 L (i : Int)).f2 < e
    · refine Ev.pos c ?_
      rw [decide_eq_false (fun q => by omega)]
      refine Ev.succ ?_
      simp only [token_Check.j2]
      exact Ev.pos trivial (Ev.now _)
    · refine Ev.neg c ?_
      rw [HW.out]
      refine Ev.neg (by omega) ?_
      rw [decide_eq_true ⟨by omega, hl.1, hl.2⟩]
      refine Ev.succ ?_
      simp only [token_Check.j2]
      refine Ev.neg (by simp) ?_
      rw [HW.out]
      refine Ev.neg (by omega) ?_
      rw [w_succ (by omega)]
      refine Ev.succ ?_
      simp only [token_Check.l0]
      exact Ev.neg (by omega) (Ev.now _)
  | succ m ih =>
    intro L i e hF hlast hi hm h0 h1
    have hd := rd_drop hi
    have hi2 : i + 1 < L.length := by omega
    have hd2 := rd_drop hi2
    obtain ⟨b1, b2, b3⟩ := hF.2 _ (rd_mem hi)
    have hlen := hF.1
    have HW := Aside0.mk (show wrap64 ((L.length : Int) - 1) = (L.length : Int) - 1 from wid (by omega) (by omega))
    generalize ht : rd_T34 L (i : Int) = t at *
    have hr1 := rawT_eq t (by omega)
    have hrl : (rawT t).length ≤ (txT t).length + 2 := by unfold rawT; split <;> simp
    have hcb : checkB (L.drop i) e = (decide (e ≤ t.f2) && (aloneB t && checkB (L.drop (i + 1)) (t.f2 + (rawT t).length))) := by rw [hd, hd2]; rfl
    rw [hcb]
    refine ⟨fun he => ?_, fun he => by rw [decide_eq_false (fun q => by omega)]; rfl⟩
    refine Ev.succ ?_
    simp only [token_Check.l0]
    rw [ht]
    refine Ev.pos (by omega) (Ev.pos (by omega) (Ev.pos (by omega) ?_))
    by_cases c : t.f2 < e
    · refine Ev.pos c ?_
      rw [decide_eq_false (fun q => by omega)]
      refine Ev.succ ?_
      simp only [token_Check.j2]
      exact Ev.pos trivial (Ev.now _)
    refine Ev.neg c ?_
    rw [HW.out, decide_eq_true (show e ≤ t.f2 by omega), Bool.true_and]
    refine Ev.pos (by omega) (Ev.bind (alone_ev t (by omega)) ?_)
    refine Ev.succ ?_
    simp only [token_Check.j2]
    cases ha : aloneB t with
    | false => exact Ev.pos rfl (Ev.now _)
    | true =>
      refine Ev.neg (by simp) ?_
      rw [HW.out, Bool.true_and]
      refine Ev.pos (by omega) (Ev.bindc hr1 ?_)
      obtain ⟨i1, i2⟩ := ih L (i + 1) (t.f2 + (rawT t).length) hF hlast hi2 (by omega) (by omega) (by omega)
      rw [bs_size, wid (x := 9223372036854775807 - t.f2) (by omega) (by omega)]
      by_cases c3 : t.f2 + (rawT t).length ≤ 9223372036854775807
      · refine Ev.neg (by omega) (Ev.bindc hr1 ?_)
        rw [bs_size, wid (x := t.f2 + ((rawT t).length : Int)) (by omega) (by omega), w_succ (by omega)]
        exact i1 c3
      · refine Ev.pos (by omega) (Ev.const ?_)
        rw [i2 (by omega)]
theorem check_last : ∀ (L : List TK) (e : Int), L ≠ [] → checkB L e = true → lastB L = true := by
  intro L
  induction L with
  | nil => intro e h; exact absurd rfl h
  | cons t r ih =>
    intro e _ h
    cases r with
    | nil =>
      simp only [checkB, decide_eq_true_eq] at h
      unfold lastB
      rw [decide_eq_true_eq]
      exact ⟨h.2.1, h.2.2⟩
    | cons u r =>
      simp only [checkB, Bool.and_eq_true] at h
      have := ih _ (by simp) h.2.2
      unfold lastB at this ⊢
      rw [decide_eq_true_eq] at this ⊢
      have e1 : rd_T34 (t :: u :: r) (((t :: u :: r).length : Int) - 1) = rd_T34 (u :: r) (((u :: r).length : Int) - 1) := by
        unfold rd_T34
        simp only [List.length_cons]
        rw [show ((((r.length + 1 + 1 : Nat) : Int)) - 1).toNat = r.length + 1 by omega, show ((((r.length + 1 : Nat) : Int)) - 1).toNat = r.length by omega]
        rfl
      rw [e1]
      exact this
theorem check_ev (L : List TK) (hF : Fine L) : Ev (fun k => token_Check.f k L) (checkB L 0) := by
  have hlen := hF.1
  unfold token_Check.f
  have fail : ∀ b : Bool, b = true → checkB L 0 = false → Ev (fun k => token_Check.j0 k L b) (checkB L 0) := by
    intro b hb h
    rw [h]
    refine Ev.succ ?_
    simp only [token_Check.j0]
    exact Ev.pos hb (Ev.now _)
  by_cases c0 : L = []
  · subst c0
    exact Ev.pos rfl (fail true rfl rfl)
  have hp := List.length_pos_iff.2 c0
  have hw : wrap64 ((L.length : Int) - 1) = (L.length : Int) - 1 := wid (by omega) (by omega)
  rw [hw]
  clear hw
  refine Ev.neg (by omega) (Ev.pos (by omega) (Ev.pos (by omega) ?_))
  have hno : lastB L = false → checkB L 0 = false := by
    intro h
    cases hc : checkB L 0 with
    | false => rfl
    | true => rw [check_last L 0 c0 hc] at h; exact absurd h (by simp)
  by_cases c1 : (rd_T34 L ((L.length : Int) - 1)).f0 = 8
  · refine Ev.pos c1 ?_
    rw [f1_bs, bs_toList]
    cases c2 : lastB L with
    | false =>
      refine fail _ ?_ (hno c2)
      unfold lastB at c2
      rw [decide_eq_false_iff_not] at c2
      exact bne_iff_ne.2 (fun q => c2 ⟨c1, q⟩)
    | true =>
      have c3 := c2
      unfold lastB at c3
      rw [decide_eq_true_eq] at c3
      refine Ev.succ ?_
      simp only [token_Check.j0]
      refine Ev.neg (by rw [c3.2]; simp) ?_
      have := (check_l0 (L.length - 1) L 0 0 hF c2 hp (by omega) (by omega) (by omega)).1 (by omega)
      rw [List.drop_zero] at this
      exact this
  · refine Ev.neg c1 (fail true rfl (hno ?_))
    unfold lastB
    rw [decide_eq_false (fun q => c1 q.1)]
/-- The same tokens, but for their places. -/
theorem alike_l0 : ∀ (m : Nat) (A B : List TK) (i : Nat), A.length ≤ 4611686018427387904 → A.map (fun t => (t.f0, txT t)) = B.map (fun t => (t.f0, txT t)) → i ≤ A.length → A.length - i = m → Ev (fun k => neumeref08_Alike.l0 k A B (i : Int)) true := by
  intro m
  induction m with
  | zero =>
    intro A B i hl h hi hm
    refine Ev.succ ?_
    simp only [neumeref08_Alike.l0]
    exact Ev.neg (by omega) (Ev.now _)
  | succ m ih =>
    intro A B i hl h hi hm
    have hlen : A.length = B.length := by have := congrArg List.length h; simpa using this
    have hA := rd_drop (L := A) (i := i) (by omega)
    have hB := rd_drop (L := B) (i := i) (by omega)
    have hm2 : (A.drop i).map (fun t => (t.f0, txT t)) = (B.drop i).map (fun t => (t.f0, txT t)) := by rw [List.map_drop, List.map_drop, h]
    rw [hA, hB] at hm2
    simp only [List.map_cons, List.cons.injEq, Prod.mk.injEq] at hm2
    refine Ev.succ ?_
    simp only [neumeref08_Alike.l0]
    refine Ev.pos (by omega) (Ev.pos (by omega) (Ev.pos (by omega) (Ev.pos hm2.1.1 (Ev.pos ?_ ?_))))
    · rw [f1_bs, f1_bs, bs_toList, bs_toList]; exact hm2.1.2
    · rw [w_succ (by omega)]
      exact ih A B (i + 1) hl h (by omega) (by omega)
theorem alike_ev (A B : List TK) (hl : A.length ≤ 4611686018427387904) (h : A.map (fun t => (t.f0, txT t)) = B.map (fun t => (t.f0, txT t))) : Ev (fun k => neumeref08_Alike.f k A B) true := by
  have hlen : A.length = B.length := by have := congrArg List.length h; simpa using this
  unfold neumeref08_Alike.f
  exact Ev.pos (by omega) (alike_l0 A.length A B 0 hl h (Nat.zero_le _) rfl)
theorem tok_alike (A B : List Tok) (h : A.map (fun t => (t.1, t.2.1)) = B.map (fun t => (t.1, t.2.1))) : (A.map tokS).map (fun t => (t.f0, txT t)) = (B.map tokS).map (fun t => (t.f0, txT t)) := by
  have e : ∀ C : List Tok, (C.map tokS).map (fun t => (t.f0, txT t)) = (C.map (fun t => (t.1, t.2.1))).map (fun q => ((q.1 : Int), q.2)) := by
    intro C
    rw [List.map_map, List.map_map]
    rfl
  rw [e, e, h]
theorem rawT_tok (t : Tok) : rawT (tokS t) = rawS t.1 t.2.1 := by
  unfold rawT rawS tokS
  simp only
  by_cases c : t.1 = 5
  · rw [if_pos (by omega), if_pos c]; rfl
  · rw [if_neg (by omega), if_neg c]; rfl
theorem check_tok : ∀ (ts : List Tok) (e : Nat), checkS ts e → checkB (ts.map tokS) (e : Int) = true := by
  intro ts
  induction ts with
  | nil => intro e h; exact absurd h (by simp [checkS])
  | cons t r ih =>
    intro e h
    cases r with
    | nil =>
      obtain ⟨h1, h2, h3⟩ := h
      simp only [List.map_cons, List.map_nil, checkB, decide_eq_true_eq]
      refine ⟨by unfold tokS; simp only; omega, by unfold tokS; simp only; omega, h3⟩
    | cons u r =>
      obtain ⟨h1, ⟨a1, a2, a3, a4⟩, h3⟩ := h
      have := ih _ h3
      simp only [List.map_cons] at this ⊢
      simp only [checkB, Bool.and_eq_true, decide_eq_true_eq]
      refine ⟨by unfold tokS; simp only; omega, ?_, ?_⟩
      · unfold aloneB
        rw [decide_eq_true_eq, rawT_tok, a4]
        exact ⟨a1, a2, a3, rfl, rfl, rfl⟩
      · rw [rawT_tok]
        have e1 : (tokS t).f2 + ((rawS t.1 t.2.1).length : Int) = ((t.2.2 + (rawS t.1 t.2.1).length : Nat) : Int) := by unfold tokS; simp only; omega
        rw [e1]
        exact this
theorem scanS_fine : ∀ (f : Nat) (l : List UInt8) (p : Nat), ∀ t ∈ (scanS f l p).1, t.2.1.length ≤ l.length ∧ t.2.2 ≤ p + l.length := by
  intro f
  induction f with
  | zero => intro l p t h; simp [scanS] at h
  | succ f ih =>
    intro l p t h
    simp only [scanS] at h
    split at h
    · simp only [List.mem_singleton] at h
      rw [h]; exact ⟨by simp, by simp only; omega⟩
    · rename_i hne
      split at h
      · simp at h
      · rename_i h2
        obtain ⟨e1, _, _⟩ := nextS_ends hne
        obtain ⟨d1, d2, _⟩ := e1 (Decidable.not_not.1 h2)
        have hg := gapS_le false (l.drop (nextS l).2.1)
        rw [List.length_drop] at hg
        have key : ∀ t ∈ (scanS f ((l.drop (nextS l).2.1).drop (gapS false (l.drop (nextS l).2.1))) (p + (nextS l).2.1 + gapS false (l.drop (nextS l).2.1))).1, t.2.1.length ≤ l.length ∧ t.2.2 ≤ p + l.length := by
          intro t ht
          have := ih _ _ t ht
          rw [List.length_drop, List.length_drop] at this
          omega
        split at h
        · simp only [List.mem_cons] at h
          rcases h with rfl | h
          · refine ⟨?_, by simp only; omega⟩
            simp only
            unfold bareS
            split
            · rw [List.length_dropLast, List.length_drop, List.length_take]; omega
            · rw [List.length_take]; omega
          · exact key t h
        · exact key t h
end Go.Proofs.YtmffjjncnbeldaaDoor.Rp
