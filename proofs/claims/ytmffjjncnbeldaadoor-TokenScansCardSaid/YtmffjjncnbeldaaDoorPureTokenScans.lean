/- TokenScans: the program's tokens of a text, and its fault, are the reference's: both are those of the plain lists. -/
import Derived.Test.YtmffjjncnbeldaaDoorStatTokenScans
import Derived.Test.YtmffjjncnbeldaaDoorTokRef
namespace Go.Proofs.YtmffjjncnbeldaaDoor.Pure
open Go.RowKit Go.Proofs.YtmffjjncnbeldaaDoor.P Go.Proofs.YtmffjjncnbeldaaDoor.Rp Go.Proofs.YtmffjjncnbeldaaDoorW.PrintWords Go.Proofs.YtmffjjncnbeldaaDoorW.PrintLast Go.Proofs.YtmffjjncnbeldaaDoorW.PrintMore
set_option linter.unusedVariables false
theorem heads_bind : Ev (fun k => (neumelaw08_heads.f k).bind fun t => some t) true := Ev.some_bind (Ev.of neumelaw08_heads.mono neumelaw08_heads.at)
theorem same_l0 : ∀ (m : Nat) (L : List S34) (i : Nat), L.length ≤ 4611686018427387904 → i ≤ L.length → L.length - i = m → Ev (fun k => neumeref08_Same.l0 k L L (i : Int)) true := by
  intro m
  induction m with
  | zero =>
    intro L i hl hi hm
    refine Ev.succ ?_
    simp only [neumeref08_Same.l0]
    exact Ev.neg (by omega) (Ev.now _)
  | succ m ih =>
    intro L i hl hi hm
    refine Ev.succ ?_
    simp only [neumeref08_Same.l0]
    refine Ev.pos (by omega) (Ev.pos (by omega) (Ev.pos (by omega) (Ev.neg (by simp) ?_)))
    rw [w_succ (by omega)]
    exact ih L (i + 1) hl (by omega) (by omega)
theorem same_ev (L : List S34) (h : L.length ≤ 4611686018427387904) : Ev (fun k => neumeref08_Same.f k L L) true := by
  unfold neumeref08_Same.f
  exact Ev.pos rfl (same_l0 L.length L 0 h (Nat.zero_le _) rfl)
theorem scanS_len : ∀ (f : Nat) (l : List UInt8) (p : Nat), (scanS f l p).1.length ≤ f := by
  intro f
  induction f with
  | zero => intro l p; exact Nat.le_refl _
  | succ f ih =>
    intro l p
    simp only [scanS]
    split
    · simp
    · split
      · simp
      · split
        · simp only [List.length_cons]
          have := ih ((l.drop (nextS l).2.1).drop (gapS false (l.drop (nextS l).2.1))) (p + (nextS l).2.1 + gapS false (l.drop (nextS l).2.1))
          omega
        · exact Nat.le_succ_of_le (ih _ _)
theorem scanT_len (l : List UInt8) : (scanT l).1.length ≤ l.length + 1 := by
  unfold scanT
  split
  · simp
  · exact scanS_len _ _ _
theorem TokenScans : TokenScans_Pure := by
  intro s _
  suffices h : Ev (fun k => neumelaw08_TokenScans.f k s) true by
    obtain ⟨k, hk⟩ := h
    exact ⟨k, hk k (Nat.le_refl _)⟩
  unfold neumelaw08_TokenScans.f
  by_cases c : (s.size : Int) > 3000
  · exact Ev.pos c heads_bind
  refine Ev.neg c ?_
  rw [← bs_data s, bs_size] at c
  rw [← bs_data s]
  generalize s.data.toList = l at *
  refine Ev.bind (scan_ev l (by omega)) (Ev.bind (scan2_ev l (by omega)) (Ev.bind (same_ev _ ?_) (Ev.pos rfl (Ev.pos (by simp) heads_bind))))
  have := scanT_len l
  simp only [scanI, List.length_map]
  omega
end Go.Proofs.YtmffjjncnbeldaaDoor.Pure
