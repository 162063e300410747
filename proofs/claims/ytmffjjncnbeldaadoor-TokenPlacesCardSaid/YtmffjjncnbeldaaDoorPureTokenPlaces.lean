/- TokenPlaces: each token stands in the text where it says, and nothing but blanks and remarks between. -/
import Derived.Test.YtmffjjncnbeldaaDoorStatTokenPlaces
import Derived.Test.YtmffjjncnbeldaaDoorTokFin
namespace Go.Proofs.YtmffjjncnbeldaaDoor.Pure
open Go.RowKit Go.Proofs.YtmffjjncnbeldaaDoor.P Go.Proofs.YtmffjjncnbeldaaDoor.Rp Go.Proofs.YtmffjjncnbeldaaDoorW.PrintWords Go.Proofs.YtmffjjncnbeldaaDoorW.PrintLast Go.Proofs.YtmffjjncnbeldaaDoorW.PrintMore
set_option linter.unusedVariables false
set_option linter.unusedSimpArgs false
/-- What is all blanks and remarks is read as no token. -/
theorem scan_blank (x : List UInt8) (hx : x.length ≤ 60000) (y : List UInt8) (h : x.length ≤ gapS false (x ++ y)) : scanT (x ++ [10]) = ([(8, [], x.length + 1)], 0, 0) := by
  have hg : gapS false (x ++ [10]) = x.length + 1 := by
    rw [(gapS_split false x y h).2 [10]]
    cases remS false x <;> rfl
  unfold scanT
  rw [if_neg (by simp only [List.length_append, List.length_singleton]; omega), hg]
  rw [List.drop_eq_nil_of_le (by simp)]
  rfl
theorem places_l0 : ∀ (f : Nat) (l : List UInt8) (p e : Nat) (pre : List TK) (ts : List Tok), l.length ≤ 3000 → p ≤ l.length → e ≤ p → gapS false (l.drop e) = p - e → scanS f (l.drop p) p = (ts, 0, 0) → pre.length + ts.length ≤ 5000 →
    (Ev (fun k => (token_Check.f k (pre ++ ts.map tokS)).bind fun t => if t = true then (neumelaw08_heads.f k).bind fun t => some t else some false) true) →
    Ev (fun k => neumelaw08_TokenPlaces.l0 k (bs l) (pre ++ ts.map tokS) (e : Int) (pre.length : Int)) true := by
  intro f
  induction f with
  | zero => intro l p e pre ts _ _ _ _ h; simp [scanS] at h
  | succ f ih =>
    intro l p e pre ts hl hp he hg h hlen hfin
    have hrd : ∀ (t : Tok) (r : List Tok), rd_T34 (pre ++ (t :: r).map tokS) (pre.length : Int) = tokS t := by
      intro t r
      unfold rd_T34
      rw [Int.toNat_natCast, List.getD_eq_getElem?_getD, List.getElem?_append_right (Nat.le_refl _), Nat.sub_self]
      rfl
    have hge : gapS false ((l.drop e).take (p - e) ++ (l.drop e).drop (p - e)) = p - e := by rw [List.take_append_drop]; exact hg
    have hexl : ((l.take p).drop e).length = p - e := by rw [List.length_drop, List.length_take]; omega
    have hbl := scan_blank ((l.take p).drop e) (by omega) ((l.drop e).drop (p - e)) (by rw [List.drop_take, hge, List.length_take, List.length_drop]; omega)
    have hsb := scan_ev ((l.take p).drop e ++ [10]) (by simp only [List.length_append, List.length_singleton]; omega)
    rw [hbl] at hsb
    -- one token's round, once its bytes are known
    have round : ∀ (k : Nat) (t : List UInt8) (r : List Tok) (n : Nat), p + n ≤ l.length → rawS k t = (l.drop p).take n → t.length ≤ 3000 → pre.length + (((k, t, p) : Tok) :: r).length ≤ 5000 →
        Ev (fun m => neumelaw08_TokenPlaces.l0 m (bs l) (pre ++ (((k, t, p) : Tok) :: r).map tokS) ((p + n : Nat) : Int) ((pre.length + 1 : Nat) : Int)) true →
        Ev (fun m => neumelaw08_TokenPlaces.l0 m (bs l) (pre ++ (((k, t, p) : Tok) :: r).map tokS) (e : Int) (pre.length : Int)) true := by
      intro k t r n hn hraw ht hlen2 hnext
      have hLl : (pre ++ (((k, t, p) : Tok) :: r).map tokS).length = pre.length + (r.length + 1) := by simp
      have hr := hrd (k, t, p) r
      simp only [List.length_cons] at hlen2
      have hr0 := congrArg S34.f0 hr
      have hr1 := congrArg S34.f1 hr
      have hr2 := congrArg S34.f2 hr
      change _ = (k : Int) at hr0
      change _ = bs t at hr1
      change _ = (p : Int) at hr2
      clear hr
      generalize pre ++ (((k, t, p) : Tok) :: r).map tokS = L at *
      have hrl : (rawS k t).length = n := by rw [hraw, List.length_take, List.length_drop]; omega
      have h2 : Ev (fun m => neumelaw08_TokenPlaces.j2 m (bs l) L (e : Int) (pre.length : Int) (bs (rawS k t)) false) true := by
        refine Ev.succ ?_
        simp only [neumelaw08_TokenPlaces.j2]
        rw [hr2]
        refine Ev.neg (by simp) (Ev.pos (by omega) (Ev.pos (by omega) (Ev.pos (by omega) (Ev.pos (show (e : Int) ≤ (p : Int) by omega) (Ev.pos (show (p : Int) ≤ _ by rw [bs_size]; omega) ?_)))))
        rw [Int.toNat_natCast, Int.toNat_natCast]
        rw [show (⟨#[10]⟩ : ByteArray) = bs [10] from rfl, bs_ext, bs_app, bs_size, hexl]
        refine Ev.pos (by omega) (Ev.bind hsb (Ev.pos (by rfl) (Ev.pos (by rfl) ?_)))
        have HW3 := Aside0.mk (show wrap64 ((p : Int) + (n : Int)) = ((p + n : Nat) : Int) by rw [wid (by omega) (by omega)]; omega)
        have HW4 := Aside0.mk (w_succ (p := pre.length) (by omega))
        rw [bs_size, hrl]
        simp only [HW3.out, HW4.out]
        exact hnext
      have h1 : Ev (fun m => neumelaw08_TokenPlaces.j1 m (bs l) L (e : Int) (pre.length : Int) (bs (rawS k t))) true := by
        refine Ev.succ ?_
        simp only [neumelaw08_TokenPlaces.j1]
        rw [hr2, bs_size, bs_size, hrl]
        have HW1 := Aside0.mk (show wrap64 ((l.length : Int) - (n : Int)) = (l.length : Int) - (n : Int) from wid (by omega) (by omega))
        have HW2 := Aside0.mk (show wrap64 ((p : Int) + (n : Int)) = ((p + n : Nat) : Int) by rw [wid (by omega) (by omega)]; omega)
        simp only [HW1.out]
        refine Ev.pos (by omega) (Ev.pos (by omega) (Ev.neg (by omega) (Ev.neg (by omega) (Ev.pos (by omega) ?_))))
        simp only [HW2.out]
        refine Ev.pos (by omega) (Ev.pos (by omega) ?_)
        rw [Int.toNat_natCast, Int.toNat_natCast, bs_ext, bs_toList, bs_toList]
        have e1 : (l.take (p + n)).drop p = (l.drop p).take n := by rw [List.drop_take]; congr 1; omega
        rw [e1, hraw, bne_self_eq_false]
        rw [hraw] at h2
        exact h2
      refine Ev.succ ?_
      simp only [neumelaw08_TokenPlaces.l0]
      rw [hr0, hr1]
      refine Ev.pos (by omega) (Ev.pos (by omega) ?_)
      by_cases c : k = 5
      · refine Ev.pos (by omega) ?_
        have e2 : bs (rawS k t) = ((⟨#[34]⟩ : ByteArray) ++ bs t) ++ (⟨#[34]⟩ : ByteArray) := by
          rw [show (⟨#[34]⟩ : ByteArray) = bs [34] from rfl, bs_app, bs_app]
          unfold rawS
          rw [if_pos c]
          rfl
        rw [e2] at h1
        rw [bs_size]
        exact Ev.pos (by omega) (Ev.pos (by omega) h1)
      · refine Ev.neg (by omega) ?_
        have e2 : bs (rawS k t) = bs t := by
          unfold rawS
          rw [if_neg c]
        rw [e2] at h1
        exact h1
    rcases scanS_step h with ⟨hnil, rfl⟩ | ⟨hne, k, n, ts', h1, rfl, h2⟩
    · have hpl : p = l.length := by
        have := congrArg List.length hnil
        rw [List.length_drop] at this
        simp at this
        omega
      refine round 8 [] [] 0 (by omega) (by rw [hnil]; rfl) (by simp) hlen ?_
      refine Ev.succ ?_
      simp only [neumelaw08_TokenPlaces.l0]
      refine Ev.neg (by simp) (Ev.pos (by rw [bs_size]; omega) hfin)
    · obtain ⟨e1, _, _⟩ := nextS_ends hne
      rw [h1] at e1
      obtain ⟨d1, d2, _⟩ := e1 rfl
      simp only at d1 d2
      rw [List.length_drop] at d2
      refine round k (bareS k ((l.drop p).take n)) ts' n (by omega) (raw_bare h1) ?_ hlen ?_
      · unfold bareS
        split
        · rw [List.length_dropLast, List.length_drop, List.length_take, List.length_drop]; omega
        · rw [List.length_take, List.length_drop]; omega
      · have hgl := gapS_le false (l.drop (p + n))
        rw [List.length_drop] at hgl
        simp only [List.drop_drop] at h2
        have hpre : pre ++ (((k, bareS k ((l.drop p).take n), p) : Tok) :: ts').map tokS = (pre ++ [tokS (k, bareS k ((l.drop p).take n), p)]) ++ ts'.map tokS := by simp
        rw [hpre] at hfin ⊢
        have := ih l (p + n + gapS false (l.drop (p + n))) (p + n) (pre ++ [tokS (k, bareS k ((l.drop p).take n), p)]) ts' hl (by omega) (by omega) (by omega) h2 (by simp only [List.length_append, List.length_cons, List.length_nil] at hlen ⊢; omega) hfin
        rw [List.length_append, List.length_singleton] at this
        exact this
theorem scanS_len : ∀ (f : Nat) (l : List UInt8) (p : Nat), (scanS f l p).1.length ≤ f := by
  intro f
  induction f with
  | zero => intro l p; exact Nat.le_refl _
  | succ f ih =>
    intro l p
    simp only [scanS]
    split
    · simp
    · split
      · simp
      · split
        · simp only [List.length_cons]
          have := ih ((l.drop (nextS l).2.1).drop (gapS false (l.drop (nextS l).2.1))) (p + (nextS l).2.1 + gapS false (l.drop (nextS l).2.1))
          omega
        · exact Nat.le_succ_of_le (ih _ _)
/-- A fault lies within the text. -/
theorem scanS_at : ∀ (f : Nat) (l : List UInt8) (p : Nat), l.length < f → (scanS f l p).2.2 ≤ p + l.length := by
  intro f
  induction f with
  | zero => intro l p h; omega
  | succ f ih =>
    intro l p h
    simp only [scanS]
    split
    · simp
    · rename_i hne
      obtain ⟨e1, e2, _⟩ := nextS_ends hne
      split
      · rename_i q; have := e2 q; simp only; omega
      · rename_i q
        obtain ⟨d1, d2, _⟩ := e1 (Decidable.not_not.1 q)
        have hg := gapS_le false (l.drop (nextS l).2.1)
        rw [List.length_drop] at hg
        split
        · simp
        · have := ih ((l.drop (nextS l).2.1).drop (gapS false (l.drop (nextS l).2.1))) (p + (nextS l).2.1 + gapS false (l.drop (nextS l).2.1)) (by rw [List.length_drop, List.length_drop]; omega)
          rw [List.length_drop, List.length_drop] at this
          omega
theorem TokenPlaces : TokenPlaces_Pure := by
  intro s _
  suffices h : Ev (fun k => neumelaw08_TokenPlaces.f k s) true by
    obtain ⟨k, hk⟩ := h
    exact ⟨k, hk k (Nat.le_refl _)⟩
  unfold neumelaw08_TokenPlaces.f
  by_cases c : (s.size : Int) > 3000
  · exact Ev.pos c heads_bind
  refine Ev.neg c ?_
  rw [← bs_data s, bs_size] at c
  rw [← bs_data s]
  generalize s.data.toList = l at *
  refine Ev.bind (scan_ev l (by omega)) ?_
  have hT : scanT l = scanS (l.length + 1) (l.drop (gapS false l)) (gapS false l) := by unfold scanT; rw [if_neg (by omega)]
  have hgl := gapS_le false l
  have hlen := scanS_len (l.length + 1) (l.drop (gapS false l)) (gapS false l)
  have hat := scanS_at (l.length + 1) (l.drop (gapS false l)) (gapS false l) (by rw [List.length_drop]; omega)
  have hz := scanS_zero (l.length + 1) (l.drop (gapS false l)) (gapS false l)
  have hfa := scanS_fault (l.length + 1) (l.drop (gapS false l)) (gapS false l)
  have hfi := scanS_fine (l.length + 1) (l.drop (gapS false l)) (gapS false l)
  rw [List.length_drop] at hat hfi
  rw [hT]
  cases hsc : scanS (l.length + 1) (l.drop (gapS false l)) (gapS false l) with
  | mk ts ea =>
  obtain ⟨e, a⟩ := ea
  rw [hsc] at hlen hat hz hfa hfi
  simp only at hlen hat hz hfa hfi
  simp only [scanI]
  by_cases c2 : e = 0
  · have hz2 := hz c2
    subst c2
    subst hz2
    refine Ev.pos (by rfl) ?_
    have hchk : Ev (fun k => (token_Check.f k (ts.map tokS)).bind fun t => if t = true then (neumelaw08_heads.f k).bind fun t => some t else some false) true := by
      have hF : Fine (ts.map tokS) := by
        refine ⟨by rw [List.length_map]; omega, fun t ht => ?_⟩
        obtain ⟨q, hq, rfl⟩ := List.mem_map.1 ht
        have := hfi q hq
        refine ⟨by show q.2.1.length < _; omega, ?_, ?_⟩
        · show -9223372036854775808 ≤ (q.2.2 : Int); omega
        · show (q.2.2 : Int) ≤ _; omega
      refine Ev.bind (check_ev _ hF) ?_
      rw [show (0 : Int) = ((0 : Nat) : Int) from rfl, check_tok ts 0 (scan_check _ _ _ 0 ts (by rw [List.length_drop]; omega) (gap_idem l) (Nat.zero_le _) hsc)]
      exact Ev.pos rfl heads_bind
    have := places_l0 (l.length + 1) l (gapS false l) 0 [] ts (by omega) hgl (Nat.zero_le _) (by rw [List.drop_zero]; rfl) hsc (by simp only [List.length_nil]; omega) hchk
    exact this
  · rw [hfa c2]
    refine Ev.neg (by omega) (Ev.pos (by omega) (Ev.pos (by rw [bs_size]; omega) (Ev.pos (by rfl) heads_bind)))
end Go.Proofs.YtmffjjncnbeldaaDoor.Pure
