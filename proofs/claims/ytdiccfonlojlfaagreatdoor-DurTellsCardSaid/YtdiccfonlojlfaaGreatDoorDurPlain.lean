/- Durations: what the program's functions tell, by numbers alone. -/
import Derived.Test.YtdiccfonlojlfaaGreatDoorPx3
import Derived.Test.YtdiccfonlojlfaaGreatDoorPx4
import Derived.Test.YtdiccfonlojlfaaGreatDoorPx6
import Derived.Test.YtdiccfonlojlfaaGreatDoorEv
import Derived.Test.YtdiccfonlojlfaaGreatDoorRatPlain
namespace Go.Proofs.YtdiccfonlojlfaaGreatDoor.Rp
open Go.RowKit Go.Proofs.YtdiccfonlojlfaaGreatDoor.P Go.Proofs.YtdiccfonlojlfaaGreatDoorW.PrintWords Go.Proofs.YtdiccfonlojlfaaGreatDoorW.PrintLast Go.Proofs.YtdiccfonlojlfaaGreatDoorW.PrintMore
set_option linter.unusedVariables false
set_option linter.unusedSimpArgs false

def okD (l d : Int) : Prop := (-1 ≤ l ∧ l ≤ 6) ∧ 0 ≤ d ∧ d ≤ 3
instance (l d : Int) : Decidable (okD l d) := by unfold okD; infer_instance
theorem dcheck_eq (l d : Int) : dur_Check.f l d = some (decide (okD l d)) := by
  unfold dur_Check.f
  by_cases h1 : -1 ≤ l
  · rw [if_pos h1]
    by_cases h2 : l ≤ 6
    · rw [if_pos h2]
      by_cases h3 : 0 ≤ d
      · rw [if_pos h3]; congr 1; apply decide_eq_decide.2; unfold okD; omega
      · rw [if_neg h3, decide_eq_false (by unfold okD; omega)]
    · rw [if_neg h2, decide_eq_false (by unfold okD; omega)]
  · rw [if_neg h1, decide_eq_false (by unfold okD; omega)]
/-- The values, in lowest terms. -/
def valL : List (Int × Int) := [(2, 1), (3, 1), (7, 2), (15, 4), (1, 1), (3, 2), (7, 4), (15, 8), (1, 2), (3, 4), (7, 8), (15, 16), (1, 4), (3, 8), (7, 16), (15, 32), (1, 8), (3, 16), (7, 32), (15, 64), (1, 16), (3, 32), (7, 64), (15, 128), (1, 32), (3, 64), (7, 128), (15, 256), (1, 64), (3, 128), (7, 256), (15, 512)]
def valT (l d : Int) : Int × Int := valL.getD (4 * (l + 1) + d).toNat (0, 1)
def ix (l d : Int) : Nat := (4 * (l + 1) + d).toNat
/-- What holds of all 32 holds of each. -/
theorem all32 {p : Int → Int → Bool} (h : ((List.range 8).all fun (l : Nat) => (List.range 4).all fun (d : Nat) => p ((l : Int) - 1) (d : Int)) = true) {l d : Int} (hd : okD l d) : p l d = true := by
  obtain ⟨⟨h1, h2⟩, h3, h4⟩ := hd
  have t := List.all_eq_true.1 h (l + 1).toNat (List.mem_range.2 (by omega))
  have t := List.all_eq_true.1 t d.toNat (List.mem_range.2 (by omega))
  rw [show (((l + 1).toNat : Nat) : Int) - 1 = l by omega, show ((d.toNat : Nat) : Int) = d by omega] at t
  exact t
theorem val_tab {l d : Int} (h : okD l d) : dur_Value.f 60 l d = some ((valT l d).1, (valT l d).2, 0) :=
  of_decide_eq_true (all32 (p := fun l d => decide (dur_Value.f 60 l d = some ((valT l d).1, (valT l d).2, 0))) (by decide +kernel) h)
theorem val_ok {l d : Int} (h : okD l d) : Ok (valT l d).1 (valT l d).2 ∧ 0 < (valT l d).1 :=
  of_decide_eq_true (all32 (p := fun l d => decide (Ok (valT l d).1 (valT l d).2 ∧ 0 < (valT l d).1)) (by decide +kernel) h)
theorem val_one {l d l' d' : Int} (h : okD l d) (h' : okD l' d') (e : valT l d = valT l' d') : l = l' ∧ d = d' := by
  have t := all32 (p := fun l d => (List.range 8).all fun (l' : Nat) => (List.range 4).all fun (d' : Nat) => decide (valT l d = valT ((l' : Int) - 1) (d' : Int) → l = (l' : Int) - 1 ∧ d = (d' : Int))) (by decide +kernel) h
  exact of_decide_eq_true (all32 (p := fun l' d' => decide (valT l d = valT l' d' → l = l' ∧ d = d')) t h') e
def valV (l d : Int) : Int × Int × Int := if okD l d then ((valT l d).1, (valT l d).2, 0) else (0, 0, 2)
theorem value_ev (l d : Int) : Ev (fun k => dur_Value.f k l d) (valV l d) := by
  unfold valV
  by_cases h : okD l d
  · rw [if_pos h]
    exact Ev.of (dur_Value.mono l d) (val_tab h)
  · rw [if_neg h]
    unfold dur_Value.f
    refine Ev.bindc (dcheck_eq l d) ?_
    rw [decide_eq_false h]
    exact Ev.bindc rfl (Ev.neg (by decide) (Ev.bindc (show dur_errno.f _ = some 2 by decide) (Ev.now _)))
/-- The one duration of a value: what is looked for. -/
def dfound (x y : Int) (r : Int × Int × Bool) : Prop := (∀ l d, okD l d → valT l d = (x, y) → r = (l, d, true)) ∧ ((∀ l d, okD l d → valT l d ≠ (x, y)) → r = (0, 0, false))
theorem dfound_ex (x y : Int) : ∃ r, dfound x y r := by
  refine (Classical.em (∃ l d, okD l d ∧ valT l d = (x, y))).elim (fun h => ?_) (fun h => ?_)
  · obtain ⟨l, d, h1, h2⟩ := h
    refine ⟨(l, d, true), fun l' d' h' e => ?_, fun hn => absurd h2 (hn l d h1)⟩
    obtain ⟨rfl, rfl⟩ := val_one h1 h' (h2.trans e.symm)
    rfl
  · exact ⟨(0, 0, false), fun l d h1 h2 => absurd ⟨l, d, h1, h2⟩ h, fun _ => rfl⟩
theorem dfound_tells {x y : Int} {r : Int × Int × Bool} (h : dfound x y r) : r = (0, 0, false) ∨ ∃ l d, okD l d ∧ valT l d = (x, y) ∧ r = (l, d, true) := by
  refine (Classical.em (∃ l d, okD l d ∧ valT l d = (x, y))).elim (fun q => ?_) (fun q => .inl (h.2 fun l d h1 h2 => q ⟨l, d, h1, h2⟩))
  obtain ⟨l, d, h1, h2⟩ := q
  exact .inr ⟨l, d, h1, h2, h.1 l d h1 h2⟩
theorem val_beq {l d x y : Int} (h : okD l d) : (((valT l d).1 == x) && ((valT l d).2 == y)) = true ↔ valT l d = (x, y) := by
  rw [Bool.and_eq_true, beq_iff_eq, beq_iff_eq, Prod.ext_iff]
section
variable (x y : Int) (r : Int × Int × Bool)
theorem of1_ev (hf : dfound x y r) (l : Int) (hl : -1 ≤ l ∧ l ≤ 6) (hno : (∀ d, 0 ≤ d → d ≤ 3 → valT l d ≠ (x, y)) → Ev (fun k => dur_Of.l0 k (l + 1) x y) r) :
    ∀ (n : Nat) (d : Int), 0 ≤ d → d ≤ 4 → (4 - d).toNat = n → (∀ q, 0 ≤ q → q < d → valT l q ≠ (x, y)) → Ev (fun k => dur_Of.l1 k l d x y) r := by
  intro n
  induction n with
  | zero =>
    intro d h0 h1 hn hb
    obtain rfl : d = 4 := by omega
    refine Ev.succ ?_
    simp only [dur_Of.l1]
    refine Ev.neg (by decide) ?_
    rw [wrap_id (x := l + 1) (by omega) (by omega)]
    exact hno (fun q h h' => hb q h (by omega))
  | succ n ih =>
    intro d h0 h1 hn hb
    have ho : okD l d := ⟨hl, h0, by omega⟩
    refine Ev.succ ?_
    simp only [dur_Of.l1]
    refine Ev.pos (by omega) (Ev.bind (value_ev l d) ?_)
    unfold valV
    rw [if_pos ho]
    by_cases hq : valT l d = (x, y)
    · rw [hf.1 l d ho hq]
      exact Ev.pos ((val_beq ho).2 hq) (Ev.now _)
    · refine Ev.neg (fun e => hq ((val_beq ho).1 e)) ?_
      rw [wrap_id (x := d + 1) (by omega) (by omega)]
      refine ih (d + 1) (by omega) (by omega) (by omega) (fun q h h' => ?_)
      by_cases e : q = d
      · rw [e]; exact hq
      · exact hb q h (by omega)
theorem of0_ev (hf : dfound x y r) :
    ∀ (n : Nat) (l : Int), -1 ≤ l → l ≤ 7 → (7 - l).toNat = n → (∀ q d, -1 ≤ q → q < l → 0 ≤ d → d ≤ 3 → valT q d ≠ (x, y)) → Ev (fun k => dur_Of.l0 k l x y) r := by
  intro n
  induction n with
  | zero =>
    intro l h0 h1 hn hb
    obtain rfl : l = 7 := by omega
    refine Ev.succ ?_
    simp only [dur_Of.l0]
    refine Ev.neg (by decide) ?_
    rw [hf.2 (fun q d h => hb q d h.1.1 (by have := h.1.2; omega) h.2.1 h.2.2)]
    exact Ev.now _
  | succ n ih =>
    intro l h0 h1 hn hb
    refine Ev.succ ?_
    simp only [dur_Of.l0]
    refine Ev.pos (by omega) ?_
    refine of1_ev x y r hf l ⟨h0, by omega⟩ (fun hall => ih (l + 1) (by omega) (by omega) (by omega) (fun q d h h' => ?_)) _ 0 (by omega) (by omega) rfl (fun q h h' => by omega)
    by_cases e : q = l
    · rw [e]; exact hall d
    · exact hb q d h (by omega)
end
theorem dof_ev {x y : Int} {r : Int × Int × Bool} (hf : dfound x y r) : Ev (fun k => dur_Of.f k x y) r := by
  unfold dur_Of.f
  exact of0_ev x y r hf _ (-1) (by omega) (by omega) rfl (fun q d h h' => by omega)
theorem name_back {l d : Int} (h : okD l d) : (dur_Name.f l d).bind (dur_Parse.f 30) = some (l, d, true) :=
  of_decide_eq_true (all32 (p := fun l d => decide ((dur_Name.f l d).bind (dur_Parse.f 30) = some (l, d, true))) (by decide +kernel) h)
theorem name_ok {l d : Int} (h : okD l d) : ∃ t, dur_Name.f l d = some t ∧ dur_Parse.f 30 t = some (l, d, true) := by
  have := name_back h
  cases hn : dur_Name.f l d with
  | none => rw [hn] at this; cases this
  | some t => rw [hn] at this; exact ⟨t, rfl, this⟩
end Go.Proofs.YtdiccfonlojlfaaGreatDoor.Rp