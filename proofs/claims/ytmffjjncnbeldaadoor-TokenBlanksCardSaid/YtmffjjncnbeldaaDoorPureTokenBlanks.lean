/- TokenBlanks: blanks and a remark, put in at a token's beginning, change nothing but places. -/
import Derived.Test.YtmffjjncnbeldaaDoorStatTokenBlanks
import Derived.Test.YtmffjjncnbeldaaDoorTokFin
namespace Go.Proofs.YtmffjjncnbeldaaDoor.Pure
open Go.RowKit Go.Proofs.YtmffjjncnbeldaaDoor.P Go.Proofs.YtmffjjncnbeldaaDoor.Rp Go.Proofs.YtmffjjncnbeldaaDoorW.PrintWords Go.Proofs.YtmffjjncnbeldaaDoorW.PrintLast Go.Proofs.YtmffjjncnbeldaaDoorW.PrintMore
set_option linter.unusedVariables false
set_option linter.unusedSimpArgs false
theorem scanS_len : ∀ (f : Nat) (l : List UInt8) (p : Nat), (scanS f l p).1.length ≤ f := by
  intro f
  induction f with
  | zero => intro l p; exact Nat.le_refl _
  | succ f ih =>
    intro l p
    simp only [scanS]
    split
    · simp
    · split
      · simp
      · split
        · simp only [List.length_cons]
          have := ih ((l.drop (nextS l).2.1).drop (gapS false (l.drop (nextS l).2.1))) (p + (nextS l).2.1 + gapS false (l.drop (nextS l).2.1))
          omega
        · exact Nat.le_succ_of_le (ih _ _)
/-- The same suffix, read from elsewhere, with other rounds. -/
theorem again {f g : Nat} {l : List UInt8} {p q : Nat} {ts : List Tok} (h : scanS f l p = (ts, 0, 0)) (hf : l.length < f) (hg : l.length < g) : ∃ ts', scanS g l q = (ts', 0, 0) ∧ ts'.map (fun t => (t.1, t.2.1)) = ts.map (fun t => (t.1, t.2.1)) := by
  have hh := scan_fuel g f l q p hg hf
  rw [h] at hh
  exact ⟨(scanS g l q).1, Prod.ext rfl (Prod.ext hh.2 (scanS_zero _ _ _ hh.2)), hh.1⟩
/-- Blanks ahead of all. -/
theorem ins_front {l rm : List UInt8} {ts : List Tok} (hl : l.length ≤ 3000) (hr : rm.length ≤ 100) (hrm : ∀ c ∈ rm, c.toNat ≠ 10) (h : scanT l = (ts, 0, 0)) : ∃ ts', scanT (insS rm ++ l) = (ts', 0, 0) ∧ ts'.map (fun t => (t.1, t.2.1)) = ts.map (fun t => (t.1, t.2.1)) := by
  have hil : (insS rm).length = rm.length + 4 := by unfold insS; simp
  have hg := gapS_le false l
  unfold scanT at h ⊢
  rw [if_neg (by omega)] at h
  rw [if_neg (by rw [List.length_append]; omega), ins_gap rm l hrm]
  have hd : (insS rm ++ l).drop ((insS rm).length + gapS false l) = l.drop (gapS false l) := by
    rw [← List.drop_drop, List.drop_left]
  rw [hd]
  exact again h (by rw [List.length_drop]; omega) (by rw [List.length_drop, List.length_append]; omega)
/-- Blanks at a token's beginning. -/
theorem ins_at {l rm : List UInt8} {ts : List Tok} {j : Nat} {t : Tok} (hl : l.length ≤ 3000) (hr : rm.length ≤ 100) (hrm : ∀ c ∈ rm, c.toNat ≠ 10) (h : scanT l = (ts, 0, 0)) (hj : ts[j]? = some t) (ht : t.1 ≠ 8 ∨ l = []) :
    ∃ ts', scanT (l.take t.2.2 ++ (insS rm ++ l.drop t.2.2)) = (ts', 0, 0) ∧ ts'.map (fun t => (t.1, t.2.1)) = ts.map (fun t => (t.1, t.2.1)) := by
  have hil : (insS rm).length = rm.length + 4 := by unfold insS; simp
  have hg := gapS_le false l
  rcases ht with ht | rfl
  rotate_left
  · have := ins_front (l := []) hl hr hrm h
    rw [List.take_nil, List.drop_nil, List.nil_append]
    exact this
  have h' := h
  unfold scanT at h
  rw [if_neg (by omega)] at h
  have hpge : ∀ (f : Nat) (l : List UInt8) (p j : Nat) (ts : List Tok) (t : Tok), scanS f l p = (ts, 0, 0) → ts[j]? = some t → p ≤ t.2.2 := by
    intro f
    induction f with
    | zero => intro l p j ts t h; simp [scanS] at h
    | succ f ih2 =>
      intro l p j ts t h hj
      rcases scanS_step h with ⟨rfl, rfl⟩ | ⟨_, k, n, ts', _, rfl, h2⟩
      · cases j with
        | zero => simp only [List.getElem?_cons_zero, Option.some.injEq] at hj; rw [← hj]; exact Nat.le_refl _
        | succ j => simp at hj
      · cases j with
        | zero => simp only [List.getElem?_cons_zero, Option.some.injEq] at hj; rw [← hj]; exact Nat.le_refl _
        | succ j =>
          rw [List.getElem?_cons_succ] at hj
          have := ih2 _ _ _ _ _ h2 hj
          omega
  have hp := hpge _ _ _ _ _ _ h hj
  have hg2 := gap_idem l
  have hldl : (l.drop (gapS false l)).length = l.length - gapS false l := List.length_drop
  -- the text is not at its end
  have hne : l.drop (gapS false l) ≠ [] := by
    intro q
    rw [q] at h
    rcases scanS_step h with ⟨_, rfl⟩ | ⟨q2, _⟩
    · cases j with
      | zero => simp only [List.getElem?_cons_zero, Option.some.injEq] at hj; rw [← hj] at ht; exact ht rfl
      | succ j => simp at hj
    · exact absurd rfl q2
  have hend := gapS_end false (l.take (gapS false l)) (l.drop (gapS false l)) (by rw [List.take_append_drop, List.length_take]; omega) hne
  have hnp := List.length_pos_iff.2 hne
  generalize hgg : gapS false l = g at *
  rcases Nat.lt_or_ge g t.2.2 with hlt | hge
  · -- behind the first one
    obtain ⟨i1, ts', i2, i3⟩ := scan_insert (l.length + 1) (l.drop g) g g (t.2.2 - g) j rm ts t hrm (by omega) hg2 h hj (by omega) ht (by omega) (l.length + (insS rm).length + 1) (by omega)
    have e1 : l.take t.2.2 = l.take g ++ (l.drop g).take (t.2.2 - g) := by
      have := List.take_add (l := l) (i := g) (j := t.2.2 - g)
      rw [show g + (t.2.2 - g) = t.2.2 by omega] at this
      exact this
    have e2 : l.drop t.2.2 = (l.drop g).drop (t.2.2 - g) := by rw [List.drop_drop]; congr 1; omega
    have hlen : (l.take g ++ ((l.drop g).take (t.2.2 - g) ++ (insS rm ++ (l.drop g).drop (t.2.2 - g)))).length = l.length + (insS rm).length := by
      simp only [List.length_append, List.length_take, List.length_drop]; omega
    have hgap : gapS false (l.take g ++ ((l.drop g).take (t.2.2 - g) ++ (insS rm ++ (l.drop g).drop (t.2.2 - g)))) = g := by
      rw [hend.2.2, List.length_take]
      have hh : gapS false ((l.drop g).take (t.2.2 - g) ++ (l.drop g).drop (t.2.2 - g)) = 0 := by rw [List.take_append_drop]; exact hg2
      rw [gapS_app false _ _ (by rw [hh, List.length_take]; omega), hh]
      omega
    refine ⟨ts', ?_, i3⟩
    rw [e1, e2, List.append_assoc]
    unfold scanT
    rw [if_neg (by omega), hgap, hlen]
    have hdr : (l.take g ++ ((l.drop g).take (t.2.2 - g) ++ (insS rm ++ (l.drop g).drop (t.2.2 - g)))).drop g = (l.drop g).take (t.2.2 - g) ++ (insS rm ++ (l.drop g).drop (t.2.2 - g)) := List.drop_left' (by rw [List.length_take]; omega)
    rw [hdr]
    exact i2
  · have he : t.2.2 = g := by omega
    rw [he]
    have hlen : (l.take g ++ (insS rm ++ l.drop g)).length = l.length + (insS rm).length := by
      simp only [List.length_append, List.length_take, List.length_drop]; omega
    have hgap : gapS false (l.take g ++ (insS rm ++ l.drop g)) = g + (insS rm).length := by
      rw [hend.2.2, ins_gap rm _ hrm, hg2, List.length_take]
      omega
    unfold scanT
    rw [if_neg (by omega), hgap, hlen]
    have hdr : (l.take g ++ (insS rm ++ l.drop g)).drop (g + (insS rm).length) = l.drop g := by
      rw [← List.append_assoc]
      exact List.drop_left' (by rw [List.length_append, List.length_take]; omega)
    rw [hdr]
    exact again h (by omega) (by omega)
theorem blanks_end {l rm : List UInt8} {ts : List Tok} (k : Nat) (hk : k ≤ l.length) (hl : l.length ≤ 3000) (hr : rm.length ≤ 100) (h : scanT l = (ts, 0, 0)) (hi : ∃ ts', scanT (l.take k ++ (insS rm ++ l.drop k)) = (ts', 0, 0) ∧ ts'.map (fun t => (t.1, t.2.1)) = ts.map (fun t => (t.1, t.2.1))) :
    Ev (fun m => (token_Scan.f m (((((bs (l.take k)) ++ (⟨#[32, 9, 37]⟩ : ByteArray)) ++ (bs rm)) ++ (⟨#[10]⟩ : ByteArray)) ++ (bs (l.drop k)))).bind fun bt => if bt.2.1 = 0 then (neumeref08_Alike.f m (ts.map tokS) bt.1).bind fun t => if t = true then (neumelaw08_heads.f m).bind fun t => some t else some false else some false) true := by
  obtain ⟨ts', h1, h2⟩ := hi
  have e : ((((bs (l.take k)) ++ (⟨#[32, 9, 37]⟩ : ByteArray)) ++ (bs rm)) ++ (⟨#[10]⟩ : ByteArray)) ++ (bs (l.drop k)) = bs (l.take k ++ (insS rm ++ l.drop k)) := by
    rw [show (⟨#[32, 9, 37]⟩ : ByteArray) = bs [32, 9, 37] from rfl, show (⟨#[10]⟩ : ByteArray) = bs [10] from rfl, bs_app, bs_app, bs_app, bs_app]
    unfold insS
    simp
  rw [e]
  have hil : (insS rm).length = rm.length + 4 := by unfold insS; simp
  have hs := scan_ev (l.take k ++ (insS rm ++ l.drop k)) (by simp only [List.length_append, List.length_take, List.length_drop]; omega)
  rw [h1] at hs
  have hlen := scanS_len (l.length + 1) (l.drop (gapS false l)) (gapS false l)
  have hT : scanT l = scanS (l.length + 1) (l.drop (gapS false l)) (gapS false l) := by unfold scanT; rw [if_neg (by omega)]
  rw [← hT, h] at hlen
  simp only at hlen
  exact Ev.bind hs (Ev.pos (by rfl) (Ev.bind (alike_ev _ _ (by rw [List.length_map]; omega) (tok_alike ts ts' h2.symm)) (Ev.pos rfl heads_bind)))
theorem blanks_rem : ∀ (m : Nat) (l rm : List UInt8) (x1 : Int) (i : Nat), rm.length ≤ 100 → i ≤ rm.length → rm.length - i = m → (∀ c ∈ rm.take i, c.toNat ≠ 10) →
    ((∀ c ∈ rm, c.toNat ≠ 10) → Ev (fun k => neumelaw08_TokenBlanks.l0 k (bs l) x1 (bs rm) (rm.length : Int)) true) → Ev (fun k => neumelaw08_TokenBlanks.l0 k (bs l) x1 (bs rm) (i : Int)) true := by
  intro m
  induction m with
  | zero =>
    intro l rm x1 i hr hi hm hb hfin
    have : i = rm.length := by omega
    subst this
    rw [List.take_length] at hb
    exact hfin hb
  | succ m ih =>
    intro l rm x1 i hr hi hm hb hfin
    rcases drop_cases rm i with ⟨hd, hle⟩ | ⟨c, r, hd, hlt, hr2⟩
    · omega
    obtain ⟨hbt, _⟩ := bt_bs hd
    refine Ev.succ ?_
    simp only [neumelaw08_TokenBlanks.l0]
    rw [hbt]
    refine Ev.pos (by rw [bs_size]; omega) (Ev.pos (by omega) ?_)
    by_cases c1 : c.toNat = 10
    · exact Ev.pos (by omega) heads_bind
    · refine Ev.neg (by omega) ?_
      rw [w_succ (by omega)]
      refine ih l rm x1 (i + 1) hr (by omega) (by omega) ?_ hfin
      intro d hdm
      rw [List.take_add_one] at hdm
      rcases List.mem_append.1 hdm with q | q
      · exact hb d q
      · have : rm[i]? = some c := by
          have := List.getElem?_drop (xs := rm) (i := i) (j := 0)
          rw [hd, Nat.add_zero] at this
          exact this.symm
        rw [this] at q
        simp at q
        rw [q]
        exact c1
theorem TokenBlanks : TokenBlanks_Pure := by
  intro s x1 s2 _ _ _
  suffices h : Ev (fun k => neumelaw08_TokenBlanks.f k s x1 s2) true by
    obtain ⟨k, hk⟩ := h
    exact ⟨k, hk k (Nat.le_refl _)⟩
  unfold neumelaw08_TokenBlanks.f
  rw [← bs_data s, ← bs_data s2, bs_size, bs_size]
  generalize s.data.toList = l
  generalize s2.data.toList = rm
  have dull : ∀ b : Bool, b = true → Ev (fun k => neumelaw08_TokenBlanks.j0 k (bs l) x1 (bs rm) b) true := by
    intro b hb
    refine Ev.succ ?_
    simp only [neumelaw08_TokenBlanks.j0]
    exact Ev.pos hb heads_bind
  by_cases c : (l.length : Int) > 3000
  · exact Ev.pos c (dull true rfl)
  refine Ev.neg c ?_
  by_cases c2 : (rm.length : Int) > 100
  · exact dull _ (decide_eq_true c2)
  refine Ev.succ ?_
  simp only [neumelaw08_TokenBlanks.j0]
  refine Ev.neg (by rw [decide_eq_false c2]; simp) ?_
  refine blanks_rem rm.length l rm x1 0 (by omega) (Nat.zero_le _) rfl (by simp) (fun hrm => ?_)
  have hl3 : l.length ≤ 3000 := by omega
  have hr3 : rm.length ≤ 100 := by omega
  clear dull c c2
  refine Ev.succ ?_
  simp only [neumelaw08_TokenBlanks.l0]
  refine Ev.neg (by rw [bs_size]; omega) (Ev.bind (scan_ev l (by omega)) ?_)
  have hT : scanT l = scanS (l.length + 1) (l.drop (gapS false l)) (gapS false l) := by unfold scanT; rw [if_neg (by omega)]
  have hz := scanS_zero (l.length + 1) (l.drop (gapS false l)) (gapS false l)
  have hfa := scanS_fault (l.length + 1) (l.drop (gapS false l)) (gapS false l)
  rw [← hT] at hz hfa
  cases hsc : scanT l with
  | mk ts ea =>
  obtain ⟨e, a⟩ := ea
  rw [hsc] at hz hfa
  simp only at hz hfa
  rw [show scanI (ts, e, a) = (ts.map tokS, (e : Int), (a : Int)) from rfl]
  have dull2 : ∀ (b : Bool) (e' a' : Int), b = true → (e' = 0 ∨ ts = []) → Ev (fun k => neumelaw08_TokenBlanks.j2 k (bs l) x1 (bs rm) (ts.map tokS) b e' a') true := by
    intro b e' a' hb h
    refine Ev.succ ?_
    simp only [neumelaw08_TokenBlanks.j2]
    refine Ev.pos hb ?_
    by_cases q : e' = 0
    · exact Ev.pos q heads_bind
    · rcases h with h | h
      · exact absurd h q
      · refine Ev.neg q (Ev.pos ?_ heads_bind)
        rw [h]; rfl
  by_cases c2 : e = 0
  rotate_left
  · refine Ev.neg (show ¬ ((e : Int) = 0) by omega) (dull2 true _ _ rfl (Or.inr (hfa c2)))
  have hz2 := hz c2
  subst c2
  subst hz2
  refine Ev.pos (by rfl) ?_
  by_cases c3 : x1 < 0
  · exact Ev.pos c3 (dull2 true _ _ rfl (Or.inl rfl))
  refine Ev.neg c3 ?_
  have hlm : (ts.map tokS).length = ts.length := List.length_map ..
  by_cases c4 : x1 ≥ ((ts.map tokS).length : Int)
  · exact Ev.pos c4 (dull2 true _ _ rfl (Or.inl rfl))
  refine Ev.neg c4 (Ev.pos (by omega) (Ev.pos (show x1 < ((ts.map tokS).length : Int) by omega) ?_))
  obtain ⟨j, rfl⟩ : ∃ j : Nat, x1 = (j : Int) := ⟨x1.toNat, by omega⟩
  have hj : ts[j]? = some ts[j] := List.getElem?_eq_getElem (by omega)
  have hrd : rd_T34 (ts.map tokS) (j : Int) = tokS ts[j] := by
    unfold rd_T34
    rw [Int.toNat_natCast, List.getD_eq_getElem?_getD, List.getElem?_map, hj]
    rfl
  generalize ts[j] = t at *
  have hr0 := congrArg S34.f0 hrd
  have hr2 := congrArg S34.f2 hrd
  change _ = (t.1 : Int) at hr0
  change _ = (t.2.2 : Int) at hr2
  rw [hr2]
  refine Ev.neg (by omega) ?_
  by_cases c5 : (t.2.2 : Int) > ((bs l).size : Int)
  · exact dull2 _ _ _ (decide_eq_true c5) (Or.inl rfl)
  rw [bs_size] at c5
  refine Ev.succ ?_
  simp only [neumelaw08_TokenBlanks.j2]
  rw [hr0, hr2]
  refine Ev.neg (by rw [bs_size, decide_eq_false c5]; simp) (Ev.pos (by omega) (Ev.pos (by omega) ?_))
  have jb : ∀ k : Nat, k ≤ l.length → (∃ ts', scanT (l.take k ++ (insS rm ++ l.drop k)) = (ts', 0, 0) ∧ ts'.map (fun t => (t.1, t.2.1)) = ts.map (fun t => (t.1, t.2.1))) → Ev (fun m => neumelaw08_TokenBlanks.j3 m (bs l) (bs rm) (ts.map tokS) (k : Int) false) true := by
    intro k hk hi
    refine Ev.succ ?_
    simp only [neumelaw08_TokenBlanks.j3]
    have hb := blanks_end (rm := rm) k hk hl3 hr3 hsc hi
    have e1 : (bs l).extract 0 ((k : Int)).toNat = bs (l.take k) := by rw [Int.toNat_natCast, bs_ext, List.drop_zero]
    have e2 : (bs l).extract ((k : Int)).toNat (bs l).size = bs (l.drop k) := by rw [Int.toNat_natCast, bs_tail]
    rw [e1, e2]
    have l1 : (bs (l.take k)).size ≤ 3000 := by rw [bs_size, List.length_take]; omega
    have l2 : (bs (l.drop k)).size ≤ 3000 := by rw [bs_size, List.length_drop]; omega
    have l3 : (bs rm).size ≤ 100 := by rw [bs_size]; omega
    refine Ev.neg (by simp) (Ev.pos (by omega) (Ev.pos (by rw [bs_size]; omega) (Ev.pos (by omega) (Ev.pos (by omega) (Ev.pos (by omega) (Ev.pos (by omega) hb))))))
  have jt : ∀ (b : Bool) (k : Int), b = true → Ev (fun m => neumelaw08_TokenBlanks.j3 m (bs l) (bs rm) (ts.map tokS) k b) true := by
    intro b k hb
    refine Ev.succ ?_
    simp only [neumelaw08_TokenBlanks.j3]
    have hi := ins_front hl3 hr3 hrm hsc
    have hb2 := blanks_end (rm := rm) 0 (Nat.zero_le _) hl3 hr3 hsc (by rw [List.take_zero, List.drop_zero, List.nil_append]; exact hi)
    have e1 : (bs l).extract 0 0 = bs (l.take 0) := by rw [bs_ext, List.drop_zero]
    have e2 : (bs l).extract 0 (bs l).size = bs (l.drop 0) := by rw [bs_tail]
    rw [e1, e2]
    have l1 : (bs (l.take 0)).size ≤ 3000 := by rw [bs_size, List.length_take]; omega
    have l2 : (bs (l.drop 0)).size ≤ 3000 := by rw [bs_size, List.length_drop]; omega
    have l3 : (bs rm).size ≤ 100 := by rw [bs_size]; omega
    refine Ev.pos hb (Ev.pos (by omega) (Ev.pos (by rw [bs_size]; omega) (Ev.pos (by omega) (Ev.pos (by omega) (Ev.pos (by omega) (Ev.pos (by omega) hb2))))))
  by_cases c6 : t.1 = 8
  · refine Ev.pos (by omega) ?_
    by_cases c7 : l = []
    · have hd0 : decide (((bs l).size : Int) > 0) = false := by rw [c7]; rfl
      rw [hd0]
      exact jb t.2.2 (by omega) (ins_at hl3 hr3 hrm hsc hj (Or.inr c7))
    · refine jt _ _ (decide_eq_true ?_)
      have := List.length_pos_iff.2 c7
      rw [bs_size]
      omega
  · refine Ev.neg (by omega) ?_
    exact jb t.2.2 (by omega) (ins_at hl3 hr3 hrm hsc hj (Or.inl c6))
end Go.Proofs.YtmffjjncnbeldaaDoor.Pure
