/- TokenBack: tokens that are written are read as they were, but for their places. -/
import Derived.Test.YtmffjjncnbeldaaDoorStatTokenBack
import Derived.Test.YtmffjjncnbeldaaDoorTokJoin
namespace Go.Proofs.YtmffjjncnbeldaaDoor.Pure
open Go.RowKit Go.Proofs.YtmffjjncnbeldaaDoor.P Go.Proofs.YtmffjjncnbeldaaDoor.Rp Go.Proofs.YtmffjjncnbeldaaDoorW.PrintWords Go.Proofs.YtmffjjncnbeldaaDoorW.PrintLast Go.Proofs.YtmffjjncnbeldaaDoorW.PrintMore
set_option linter.unusedVariables false
set_option linter.unusedSimpArgs false
theorem joinL_true (Y : List TK) : joinL true Y = if Y = [] then [] else 32 :: joinL false Y := by
  cases Y with
  | nil => rfl
  | cons t r => rw [if_neg (by simp)]; simp [joinL]
theorem take_cons2 (t u : TK) (r : List TK) : (t :: u :: r).take ((t :: u :: r).length - 1) = t :: (u :: r).take ((u :: r).length - 1) := by
  simp only [List.length_cons, Nat.add_sub_cancel]
  rfl
theorem aloneB_of {t : TK} (h : aloneB t = true) : rawT t ≠ [] ∧ gapS false (rawT t) = 0 ∧ ∃ k : Nat, (k : Int) = t.f0 ∧ nextS (rawT t) = (k, (rawT t).length, 0, 0) ∧ rawT t = rawS k (txT t) := by
  unfold aloneB at h
  rw [decide_eq_true_eq] at h
  obtain ⟨h1, h2, h3, h4, h5, h6⟩ := h
  have hf := nextS_full h1 h4
  refine ⟨h1, h3, (nextS (rawT t)).1, h5, by rw [hf, h6], ?_⟩
  generalize (nextS (rawT t)).1 = k at *
  unfold rawT rawS
  by_cases c : k = 5
  · rw [if_pos c, if_pos (by omega)]
  · rw [if_neg c, if_neg (by omega)]
theorem join_gap : ∀ (X : List TK) (e : Int), checkB X e = true → gapS false (joinL false (X.take (X.length - 1))) = 0 := by
  intro X e h
  match X with
  | [] => simp [checkB] at h
  | [t] => rfl
  | t :: u :: r =>
    simp only [checkB, Bool.and_eq_true] at h
    obtain ⟨h1, h2, _⟩ := aloneB_of h.2.1
    rw [take_cons2]
    simp only [joinL, Bool.false_eq_true, if_false, List.nil_append]
    have hp := List.length_pos_iff.2 h1
    have := gapS_app false (rawT t) [] (by rw [List.append_nil]; omega) (joinL true ((u :: r).take ((u :: r).length - 1)))
    rw [this, List.append_nil, h2]
theorem join_scan : ∀ (X : List TK) (e : Int) (f p : Nat), checkB X e = true → (joinL false (X.take (X.length - 1))).length < f →
    ∃ ts, scanS f (joinL false (X.take (X.length - 1))) p = (ts, 0, 0) ∧ (ts.map tokS).map (fun t => (t.f0, txT t)) = X.map (fun t => (t.f0, txT t)) := by
  intro X
  induction X with
  | nil => intro e f p h; simp [checkB] at h
  | cons t X ih =>
    intro e f p h hf
    obtain ⟨f, rfl⟩ : ∃ m, f = m + 1 := ⟨f - 1, by omega⟩
    cases X with
    | nil =>
      simp only [checkB, decide_eq_true_eq] at h
      refine ⟨[(8, [], p)], rfl, ?_⟩
      simp only [List.map_cons, List.map_nil]
      rw [h.2.1, h.2.2]
      rfl
    | cons u r =>
      simp only [checkB, Bool.and_eq_true] at h
      obtain ⟨h1, h2, k, hk, h3, h4⟩ := aloneB_of h.2.1
      rw [take_cons2] at hf ⊢
      simp only [joinL, Bool.false_eq_true, if_false, List.nil_append] at hf ⊢
      have hg := join_gap (u :: r) _ h.2.2
      have hz : numS (joinL true ((u :: r).take ((u :: r).length - 1))) = 0 ∧ wordK 0 (joinL true ((u :: r).take ((u :: r).length - 1))) = 0 := by
        rw [joinL_true]
        split
        · exact ⟨rfl, rfl⟩
        · refine ⟨rfl, ?_⟩
          rw [wordK_step (by simp)]
          have : ∀ x, decV (32 :: x) = (32, 1) := fun x => by simp only [decV]; rw [if_pos (by decide)]; rfl
          rw [this, if_neg (by decide)]
      have hgz : gapS false (joinL true ((u :: r).take ((u :: r).length - 1))) = if (u :: r).take ((u :: r).length - 1) = [] then 0 else 1 := by
        rw [joinL_true]
        split
        · rfl
        · simp only [gapS]
          rw [if_pos (by decide), hg]
      have hdz : (joinL true ((u :: r).take ((u :: r).length - 1))).drop (if (u :: r).take ((u :: r).length - 1) = [] then 0 else 1) = joinL false ((u :: r).take ((u :: r).length - 1)) := by
        rw [joinL_true]
        split
        · rename_i q; rw [q]; rfl
        · rfl
      have hlz := congrArg List.length hdz
      rw [List.length_drop] at hlz
      have hne : rawT t ++ joinL true ((u :: r).take ((u :: r).length - 1)) ≠ [] := by simp [h1]
      have hnx := nextS_cont2 (x := rawT t) (y := []) (z := joinL true ((u :: r).take ((u :: r).length - 1))) h1 (by rw [List.append_nil]; exact h3) (fun _ => hz.1) (fun _ => hz.2)
      have hp := List.length_pos_iff.2 h1
      rw [List.length_append] at hf
      generalize joinL true ((u :: r).take ((u :: r).length - 1)) = z at *
      obtain ⟨ts, i1, i2⟩ := ih _ f (p + (rawT t).length + gapS false z) h.2.2 (by split at hlz <;> omega)
      refine ⟨(k, txT t, p) :: ts, ?_, ?_⟩
      · simp only [scanS]
        rw [if_neg hne, hnx]
        have hdr : (rawT t ++ z).drop (rawT t).length = z := List.drop_left
        have htk : (rawT t ++ z).take (rawT t).length = rawT t := List.take_left
        have hdz2 : z.drop (gapS false z) = joinL false ((u :: r).take ((u :: r).length - 1)) := by rw [hgz]; exact hdz
        simp only [hdr, htk, hdz2, i1]
        rw [h4, bare_raw]
        simp
      · simp only [List.map_cons] at i2 ⊢
        rw [i2]
        have e1 : (tokS (k, txT t, p)).f0 = t.f0 := hk
        have e2 : txT (tokS (k, txT t, p)) = txT t := rfl
        rw [e1, e2]
theorem TokenBack : TokenBack_Pure := by
  intro L hb
  suffices h : Ev (fun k => neumelaw08_TokenBack.f k L) true by
    obtain ⟨k, hk⟩ := h
    exact ⟨k, hk k (Nat.le_refl _)⟩
  unfold neumelaw08_TokenBack.f
  obtain ⟨b, h1, h2⟩ := few_ev L hb.2.2
  have dull : ∀ b : Bool, b = true → Ev (fun k => neumelaw08_TokenBack.j0 k L b) true := by
    intro b hb
    refine Ev.succ ?_
    simp only [neumelaw08_TokenBack.j0]
    exact Ev.pos hb heads_bind
  refine Ev.bind h1 ?_
  cases b with
  | false => exact Ev.neg (by simp) (dull true rfl)
  | true =>
    obtain ⟨hF, hl, hs, _⟩ := h2 rfl
    refine Ev.pos rfl (Ev.bind (check_ev L hF) ?_)
    cases hc : checkB L 0 with
    | false => exact dull _ rfl
    | true =>
      refine Ev.succ ?_
      simp only [neumelaw08_TokenBack.j0]
      refine Ev.neg (by simp) (Ev.bind (join_ev L hF (by omega)) ?_)
      rw [hc, if_pos rfl]
      have hlen := joinL_len (L.take (L.length - 1)) false
      have hsub := sumT_sub L (L.length - 1)
      rw [List.length_take] at hlen
      have hg := join_gap L 0 hc
      obtain ⟨ts, i1, i2⟩ := join_scan L 0 ((joinL false (L.take (L.length - 1))).length + 1) 0 hc (by omega)
      generalize joinL false (L.take (L.length - 1)) = j at *
      have hT : scanT j = (ts, 0, 0) := by
        unfold scanT
        rw [if_neg (by omega), hg, List.drop_zero]
        exact i1
      have hsc := scan_ev j (by omega)
      rw [hT] at hsc
      have hfi := scanS_fine (j.length + 1) j 0
      rw [i1] at hfi
      have hlt : (ts.map tokS).length = L.length := by have := congrArg List.length i2; simpa using this
      have hF2 : Fine (ts.map tokS) := by
        refine ⟨by omega, fun t ht => ?_⟩
        obtain ⟨q, hq, rfl⟩ := List.mem_map.1 ht
        have := hfi q hq
        refine ⟨by show q.2.1.length < _; omega, ?_, ?_⟩
        · show -9223372036854775808 ≤ (q.2.2 : Int); omega
        · show (q.2.2 : Int) ≤ _; omega
      have hck := check_ev _ hF2
      rw [show (0 : Int) = ((0 : Nat) : Int) from rfl, check_tok ts 0 (scan_check _ j 0 0 ts (by omega) hg (Nat.zero_le _) i1)] at hck
      exact Ev.bind hsc (Ev.pos (by rfl) (Ev.bind (alike_ev _ _ (by omega) i2.symm) (Ev.pos rfl (Ev.bind hck (Ev.pos rfl heads_bind)))))
end Go.Proofs.YtmffjjncnbeldaaDoor.Pure
