/- The law DotsLedgers of layer 20: for all places the law answers true (no condition). -/
import Derived.Test.YtochpedmjpidkaaPx9
import Derived.Test.YtochpedmjpidkaaDotsLedg
namespace Go.Proofs.Ytochpedmjpidkaa.Pure
open Go.RowKit Go.Proofs.Ytochpedmjpidkaa.P Go.Proofs.Ytochpedmjpidkaa.Rp Go.Proofs.YtochpedmjpidkaaW.PrintWords Go.Proofs.YtochpedmjpidkaaW.PrintLast
set_option linter.unusedVariables false
def most (l : List Int) : Int := l.foldl (fun a b => mx a b) 0
def least (l : List Int) : Int := l.foldl (fun a b => mn a b) 0
/-- What is asked of lines. -/
def Lines (x : List Int) (b a : Int) : Prop := (∀ y ∈ x, y % 2 = 0 ∧ ¬ (-6 < y ∧ y < 6) ∧ y ≤ b ∧ a ≤ y) ∧ x.Pairwise (fun u v => u < v)
theorem lines_l1 (l x : List Int) (b a : Int) (hx : x.length ≤ 1000) (hL : Lines x b a) (hend : Ev (fun k => neumelaw20_DotsLedgers.l1 k l x b a x.length x.length) true) : ∀ (d i : Nat), x.length - i = d → i ≤ x.length → Ev (fun k => neumelaw20_DotsLedgers.l1 k l x b a i i) true := by
  intro d
  induction d with
  | zero =>
    intro i hd hi
    have : i = x.length := by omega
    subst this
    exact hend
  | succ d ih =>
    intro i hd hi0
    have hi : i < x.length := by omega
    obtain ⟨h1, h2, h3, h4⟩ := hL.1 _ (List.getElem_mem hi)
    have hm : Int.tmod x[i] 2 = 0 := Int.dvd_iff_tmod_eq_zero.1 (Int.dvd_iff_emod_eq_zero.2 h1)
    refine Ev.succ ?_
    simp only [neumelaw20_DotsLedgers.l1]
    rw [rd_eq x hi, wrap_id (x := (i : Int) + 1) (by omega) (by omega)]
    have next : Ev (fun k => neumelaw20_DotsLedgers.l1 k l x b a ((i : Int) + 1) ((i : Int) + 1)) true := by
      rw [show ((i : Nat) : Int) + 1 = ((i + 1 : Nat) : Int) by omega]
      exact ih (i + 1) (by omega) (by omega)
    have tail : Ev (fun k => if x[i] > b then some false else if x[i] < a then some false else if (i : Int) > 0 then if 0 ≤ wrap64 ((i : Int) - 1) then if wrap64 ((i : Int) - 1) < (x.length : Int) then if x[i] ≤ rd x (wrap64 ((i : Int) - 1)) then some false else neumelaw20_DotsLedgers.l1 k l x b a ((i : Int) + 1) ((i : Int) + 1) else none else none else neumelaw20_DotsLedgers.l1 k l x b a ((i : Int) + 1) ((i : Int) + 1)) true := by
      refine Ev.neg (by omega) (Ev.neg (by omega) ?_)
      by_cases c : (i : Int) > 0
      · have hp := List.pairwise_iff_getElem.1 hL.2 (i - 1) i (by omega) hi (by omega)
        rw [wrap_id (x := (i : Int) - 1) (by omega) (by omega), show (i : Int) - 1 = ((i - 1 : Nat) : Int) by omega, rd_eq x (i := i - 1) (by omega)]
        exact Ev.pos c (Ev.pos (by omega) (Ev.pos (by omega) (Ev.neg (by omega) next)))
      · exact Ev.neg c next
    refine Ev.pos (by omega) (Ev.pos (by omega) (Ev.pos hm ?_))
    by_cases c1 : x[i] < 6
    · exact Ev.pos c1 (Ev.neg (by omega) tail)
    · exact Ev.neg c1 tail
theorem lines_l0 (l x : List Int) (hl : l.length ≤ 1000000) (h : Ev (fun k => neumelaw20_DotsLedgers.l1 k l x (most l) (least l) 0 0) true) : ∀ (d i : Nat), l.length - i = d → i ≤ l.length → Ev (fun k => neumelaw20_DotsLedgers.l0 k l x ((l.take i).foldl (fun a b => mx a b) 0) ((l.take i).foldl (fun a b => mn a b) 0) i) true := by
  intro d
  induction d with
  | zero =>
    intro i hd hi
    have : i = l.length := by omega
    subst this
    refine Ev.succ ?_
    simp only [neumelaw20_DotsLedgers.l0]
    rw [List.take_length]
    exact Ev.neg (by omega) h
  | succ d ih =>
    intro i hd hi0
    have hi : i < l.length := by omega
    refine Ev.succ ?_
    simp only [neumelaw20_DotsLedgers.l0]
    rw [rd_eq l hi, wrap_id (x := (i : Int) + 1) (by omega) (by omega)]
    refine Ev.pos (by omega) (Ev.pos (by omega) ?_)
    have := ih (i + 1) (by omega) (by omega)
    rw [List.take_succ_eq_append_getElem hi, List.foldl_append, List.foldl_append] at this
    rw [show ((i : Nat) : Int) + 1 = ((i + 1 : Nat) : Int) by omega]
    exact this
theorem DotsLedgers : neumelaw20_DotsLedgers.Pure := by
  intro l _ _ hw
  suffices h : Ev (fun k => neumelaw20_DotsLedgers.f k l) true by
    obtain ⟨k, hk⟩ := h
    exact ⟨k, hk k (Nat.le_refl _)⟩
  unfold neumelaw20_DotsLedgers.f
  by_cases c : (l.length : Int) > 100
  · exact Ev.pos c heads_bind
  refine Ev.neg c (Ev.bind (ledgers_ev l) ?_)
  obtain ⟨m1, m2, m3⟩ := fold_mx l 0
  obtain ⟨n1, n2, n3⟩ := fold_mn l 0
  have wf : ∀ x ∈ l, -9223372036854775808 ≤ x ∧ x ≤ 9223372036854775807 := fun x hx => by have h := hw x hx; simp [Lit.wf, IntKind.min, IntKind.max, IntKind.signed, IntKind.bits] at h; omega
  have done : ∀ x : List Int, x = (if Ft l then ledg (lo l) (hi l) else []) → Ev (fun k => neumelaw20_DotsLedgers.l1 k l x (most l) (least l) x.length x.length) true := by
    intro x hx
    refine Ev.succ ?_
    simp only [neumelaw20_DotsLedgers.l1]
    refine Ev.neg (by omega) ?_
    have bad : ¬ Ft l → Ev (fun k => neumelaw20_DotsLedgers.j2 k (most l) (least l) x.length true) true := by
      intro hf
      rw [if_neg hf] at hx
      subst hx
      refine Ev.succ ?_
      simp only [neumelaw20_DotsLedgers.j2]
      exact Ev.pos trivial (Ev.pos rfl heads_bind)
    by_cases c1 : (l.length : Int) < 1
    · exact Ev.pos c1 (bad (fun q => by have := q.1; omega))
    refine Ev.neg c1 ?_
    by_cases c2 : (l.length : Int) > 16
    · exact Ev.pos c2 (bad (fun q => by have := q.1; omega))
    refine Ev.neg c2 ?_
    have h0 : 0 < l.length := by omega
    by_cases c3 : most l > 200
    · refine Ev.pos c3 (bad (fun q => ?_))
      rcases m3 with m3 | m3
      · unfold most at c3; omega
      · have := q.2 _ m3; unfold most at c3; omega
    refine Ev.neg c3 ?_
    by_cases c4 : least l < -200
    · rw [decide_eq_true c4]
      refine bad (fun q => ?_)
      rcases n3 with n3 | n3
      · unfold least at c4; omega
      · have := q.2 _ n3; unfold least at c4; omega
    rw [decide_eq_false c4]
    have hf : Ft l := ⟨by omega, fun y hy => by have := m2 y hy; have := n2 y hy; unfold most at c3; unfold least at c4; omega⟩
    rw [if_pos hf] at hx
    subst hx
    have p1 := hi_mem h0
    have p2 := lo_mem h0
    have e1 : most l = (if 0 < hi l then hi l else 0) := by
      have q1 := m2 _ p1.1
      unfold most
      rcases m3 with m3 | m3
      · rw [m3] at q1 ⊢
        rw [if_neg (by omega)]
      · have := p1.2 _ m3
        split <;> omega
    have e2 : least l = (if lo l < 0 then lo l else 0) := by
      have q1 := n2 _ p2.1
      unfold least
      rcases n3 with n3 | n3
      · rw [n3] at q1 ⊢
        rw [if_neg (by omega)]
      · have := p2.2 _ n3
        split <;> omega
    have b1 := hf.2 _ p1.1
    have b2 := hf.2 _ p2.1
    have f1 : 0 ≤ most l ∧ most l ≤ 200 := by rw [e1]; split <;> omega
    have f2 : least l ≤ 0 ∧ -200 ≤ least l := by rw [e2]; split <;> omega
    have t1 : Int.tdiv (most l) 2 = most l / 2 := Int.tdiv_eq_ediv_of_nonneg f1.1
    have t2 : Int.tdiv (-least l) 2 = (-least l) / 2 := Int.tdiv_eq_ediv_of_nonneg (by omega)
    refine Ev.succ ?_
    simp only [neumelaw20_DotsLedgers.j2]
    refine Ev.neg (by simp) (Ev.pos ?_ heads_bind)
    rw [wrap_id (x := -least l) (by omega) (by omega), t1, t2, wrap_id (x := most l / 2) (by omega) (by omega), wrap_id (x := -least l / 2) (by omega) (by omega), wrap_id (x := most l / 2 - 2) (by omega) (by omega), wrap_id (x := -least l / 2 - 2) (by omega) (by omega)]
    have g1 := mx_ge 0 (most l / 2 - 2)
    have g2 := mx_ge 0 (-least l / 2 - 2)
    rw [wrap_id (by omega) (by omega), ledg_length]
    have k1 : ((cu (hi l) : Nat) : Int) = mx 0 (most l / 2 - 2) := by
      unfold cu
      rw [e1] at g1 ⊢
      split at g1 <;> split <;> omega
    have k2 : ((cd (lo l) : Nat) : Int) = mx 0 (-least l / 2 - 2) := by
      unfold cd
      rw [e2] at g2 ⊢
      split at g2 <;> split <;> omega
    omega
  have hL : Lines (if Ft l then ledg (lo l) (hi l) else []) (most l) (least l) := by
    split
    · rename_i hf
      have h0 : 0 < l.length := hf.1.1
      refine ⟨fun y hy => ?_, ledg_rises _ _⟩
      have := ledg_mem hy
      have := m2 _ (hi_mem h0).1
      have := n2 _ (lo_mem h0).1
      unfold most least
      omega
    · exact ⟨fun y hy => absurd hy List.not_mem_nil, List.Pairwise.nil⟩
  have hlen : (if Ft l then ledg (lo l) (hi l) else []).length ≤ 1000 := by
    split
    · rename_i hf
      have h0 : 0 < l.length := hf.1.1
      have b1 := hf.2 _ (hi_mem h0).1
      have b2 := hf.2 _ (lo_mem h0).1
      rw [ledg_length]
      unfold cd cu
      omega
    · simp
  have := lines_l0 l (if Ft l then ledg (lo l) (hi l) else []) (by omega) (lines_l1 l _ _ _ hlen hL (done _ rfl) _ 0 rfl (Nat.zero_le _)) _ 0 rfl (Nat.zero_le _)
  exact this
end Go.Proofs.Ytochpedmjpidkaa.Pure
