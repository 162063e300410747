/- The law ChordTurns of layer 23: for all places the law answers true (no condition). -/
import Derived.Test.YtcokemaiploejaaDoorStatChordTurns
import Derived.Test.YtcokemaiploejaaDoorChordPlain
namespace Go.Proofs.YtcokemaiploejaaDoor.Pure
open Go.RowKit Go.Proofs.YtcokemaiploejaaDoor.P Go.Proofs.YtcokemaiploejaaDoor.Rp Go.Proofs.YtcokemaiploejaaDoorW.PrintWords Go.Proofs.YtcokemaiploejaaDoorW.PrintLast
set_option linter.unusedVariables false
theorem turns_l0 (l : List Int) (up : Bool) (hf : Ft l) : ∀ (d i : Nat), l.length - i = d → Ev (fun k => neumelaw23_ChordTurns.l0 k l (sd l up) i) true := by
  intro d
  have hl := hf.1
  induction d with
  | zero =>
    intro i hd
    refine Ev.succ ?_
    simp only [neumelaw23_ChordTurns.l0]
    exact Ev.neg (by rw [sd_length]; omega) heads_bind
  | succ d ih =>
    intro i hd
    have hi : i < l.length := by omega
    obtain ⟨h1, h2, h3⟩ := sd_like hf up hi
    have hb := hf.bd hi
    have next : Ev (fun k => neumelaw23_ChordTurns.l0 k l (sd l up) ((i : Int) + 1)) true := by
      rw [show ((i : Nat) : Int) + 1 = ((i + 1 : Nat) : Int) by omega]
      exact ih (i + 1) (by omega)
    have hsi : rd (sd l up) (i : Int) = (sd l up)[i]'(by rw [sd_length]; exact hi) := rd_eq _ (by rw [sd_length]; exact hi)
    have hli : rd l (i : Int) = l.getD i 0 := by rw [rd_eq l hi, getD_at hi]
    obtain ⟨s, hs⟩ : ∃ s, (sd l up)[i]'(by rw [sd_length]; exact hi) = s := ⟨_, rfl⟩
    rw [hs] at h1 h2 h3 hsi
    have j3 : ∀ n m : Bool, (n = false → m = false → s = 0) → Ev (fun k => neumelaw23_ChordTurns.j3 k l (sd l up) i n m) true := by
      intro n m hnm
      refine Ev.succ ?_
      simp only [neumelaw23_ChordTurns.j3]
      rw [hsi, wrap_id (x := (i : Int) + 1) (by omega) (by omega)]
      by_cases c : m = true
      · exact Ev.pos c (Ev.pos (by omega) (Ev.pos (by rw [sd_length]; omega) (Ev.neg (by omega) (Ev.neg (by omega) next))))
      · refine Ev.neg c (Ev.pos (by omega) (Ev.pos (by rw [sd_length]; omega) (Ev.neg (by omega) (Ev.neg (by omega) ?_))))
        by_cases c2 : n = true
        · exact Ev.pos c2 next
        · exact Ev.neg c2 (Ev.pos (hnm (Bool.eq_false_iff.2 c2) (Bool.eq_false_iff.2 c)) next)
    have j2 : ∀ n : Bool, (n = false → i = 0 ∨ 1 < l.getD i 0 - l.getD (i - 1) 0) → Ev (fun k => neumelaw23_ChordTurns.j2 k l (sd l up) i n) true := by
      intro n hn
      refine Ev.succ ?_
      simp only [neumelaw23_ChordTurns.j2]
      rw [wrap_id (x := (i : Int) + 1) (by omega) (by omega), hli]
      by_cases c : (i : Int) + 1 < (l.length : Int)
      · have hb2 := hf.bd (i := i + 1) (by omega)
        have hl2 : rd l ((i : Int) + 1) = l.getD (i + 1) 0 := by rw [show ((i : Nat) : Int) + 1 = ((i + 1 : Nat) : Int) by omega, rd_eq l (by omega), getD_at (by omega)]
        rw [hl2, wrap_id (x := l.getD (i + 1) 0 - l.getD i 0) (by omega) (by omega)]
        refine Ev.pos c (Ev.pos (by omega) (Ev.pos (by omega) (Ev.pos (by omega) (j3 n _ (fun q1 q2 => h3 (hn q1) (.inr ?_))))))
        have := of_decide_eq_false q2
        omega
      · exact Ev.neg c (j3 n _ (fun q1 _ => h3 (hn q1) (.inl (by omega))))
    refine Ev.succ ?_
    simp only [neumelaw23_ChordTurns.l0]
    rw [hli]
    refine Ev.pos (by rw [sd_length]; omega) ?_
    by_cases c : (i : Int) > 0
    · have hb2 := hf.bd (i := i - 1) (by omega)
      have hl2 : rd l ((i - 1 : Nat) : Int) = l.getD (i - 1) 0 := by rw [rd_eq l (by omega), getD_at (by omega)]
      rw [wrap_id (x := (i : Int) - 1) (by omega) (by omega), show (i : Int) - 1 = ((i - 1 : Nat) : Int) by omega, hl2, wrap_id (x := l.getD i 0 - l.getD (i - 1) 0) (by omega) (by omega)]
      refine Ev.pos c (Ev.pos (by omega) (Ev.pos (by omega) (Ev.pos (by omega) (Ev.pos (by omega) (Ev.succ ?_)))))
      simp only [neumelaw23_ChordTurns.j1]
      have hsp : rd (sd l up) ((i - 1 : Nat) : Int) = (sd l up)[i - 1]'(by rw [sd_length]; omega) := rd_eq _ (by rw [sd_length]; omega)
      rw [hsi, wrap_id (x := (i : Int) - 1) (by omega) (by omega), show (i : Int) - 1 = ((i - 1 : Nat) : Int) by omega, hsp]
      by_cases n : l.getD i 0 - l.getD (i - 1) 0 ≤ 1
      · have h2' := h2 (by omega) n
        refine Ev.pos (decide_eq_true n) (Ev.pos (by omega) (Ev.pos (by rw [sd_length]; omega) ?_))
        by_cases z : s = 0
        · exact Ev.pos z (Ev.pos (by omega) (Ev.pos (by rw [sd_length]; omega) (Ev.neg (fun q => h2' ⟨z, q⟩) (j2 true (fun q => by cases q)))))
        · exact Ev.neg z (j2 true (fun q => by cases q))
      · exact Ev.neg (by rw [decide_eq_false n]; decide) (j2 false (fun _ => .inr (by omega)))
    · refine Ev.neg c (Ev.succ ?_)
      simp only [neumelaw23_ChordTurns.j1]
      exact Ev.neg (by simp) (j2 false (fun _ => .inl (by omega)))
theorem ChordTurns : ChordTurns_Pure := by
  intro l up _
  suffices h : Ev (fun k => neumelaw23_ChordTurns.f k l up) true by
    obtain ⟨k, hk⟩ := h
    exact ⟨k, hk k (Nat.le_refl _)⟩
  unfold neumelaw23_ChordTurns.f
  by_cases c : (l.length : Int) > 100
  · exact Ev.pos c heads_bind
  refine Ev.neg c (Ev.bind (sides_ev l up) ?_)
  by_cases f : Ft l
  · rw [if_pos f]
    exact Ev.pos rfl (Ev.pos (by rw [sd_length]) (turns_l0 l up f _ 0 rfl))
  · rw [if_neg f]
    exact Ev.neg (by decide) (Ev.pos (by simp) heads_bind)
end Go.Proofs.YtcokemaiploejaaDoor.Pure
