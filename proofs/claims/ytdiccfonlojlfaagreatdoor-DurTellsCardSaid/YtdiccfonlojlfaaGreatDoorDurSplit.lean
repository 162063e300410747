/- Durations put together: what Split tells, by plain numbers. -/
import Derived.Test.YtdiccfonlojlfaaGreatDoorPx5
import Derived.Test.YtdiccfonlojlfaaGreatDoorPx6
import Derived.Test.YtdiccfonlojlfaaGreatDoorDurPlain
import Derived.Test.YtdiccfonlojlfaaGreatDoorRatSum
namespace Go.Proofs.YtdiccfonlojlfaaGreatDoor.Rp
open Go.RowKit Go.Proofs.YtdiccfonlojlfaaGreatDoor.P Go.Proofs.YtdiccfonlojlfaaGreatDoorW.PrintWords Go.Proofs.YtdiccfonlojlfaaGreatDoorW.PrintLast Go.Proofs.YtdiccfonlojlfaaGreatDoorW.PrintMore
set_option linter.unusedVariables false
set_option linter.unusedSimpArgs false

/-- The first of the undotted durations that is not above a time; 7: none. -/
def lgN : Nat → Int → Int → Int → Int
  | 0, l, _, _ => l
  | n + 1, l, x, y => if rcmp (valT l 0).1 (valT l 0).2 x y ≤ 0 then l else lgN n (l + 1) x y
def lg (x y : Int) : Int := lgN 8 (-1) x y
theorem lgN_tells (x y : Int) : ∀ (n : Nat) (l : Int), l + n = 7 → -1 ≤ l →
    (l ≤ lgN n l x y ∧ lgN n l x y ≤ 7) ∧ (lgN n l x y ≤ 6 → rcmp (valT (lgN n l x y) 0).1 (valT (lgN n l x y) 0).2 x y ≤ 0) ∧ ∀ j, l ≤ j → j < lgN n l x y → ¬ rcmp (valT j 0).1 (valT j 0).2 x y ≤ 0
  | 0, l, h, h' => ⟨⟨Int.le_refl _, by unfold lgN; omega⟩, fun q => by unfold lgN at q; omega, fun j a b => by unfold lgN at b; omega⟩
  | n + 1, l, h, h' => by
    unfold lgN
    by_cases c : rcmp (valT l 0).1 (valT l 0).2 x y ≤ 0
    · rw [if_pos c]
      exact ⟨⟨Int.le_refl _, by omega⟩, fun _ => c, fun j a b => by omega⟩
    · rw [if_neg c]
      obtain ⟨⟨a1, a2⟩, a3, a4⟩ := lgN_tells x y n (l + 1) (by omega) (by omega)
      refine ⟨⟨by omega, a2⟩, a3, fun j p q => ?_⟩
      by_cases e : j = l
      · rw [e]; exact c
      · exact a4 j (by omega) q
theorem lg_tells (x y : Int) : (-1 ≤ lg x y ∧ lg x y ≤ 7) ∧ (lg x y ≤ 6 → rcmp (valT (lg x y) 0).1 (valT (lg x y) 0).2 x y ≤ 0) ∧ ∀ j, -1 ≤ j → j < lg x y → ¬ rcmp (valT j 0).1 (valT j 0).2 x y ≤ 0 := lgN_tells x y 8 (-1) (by decide) (by decide)
theorem ok_rng {a b : Int} (h : Ok a b) : -9223372036854775808 ≤ a ∧ a ≤ 9223372036854775807 := by unfold Ok at h; omega
theorem longest_ev (x y : Int) (hx : -9223372036854775808 ≤ x ∧ x ≤ 9223372036854775807) : ∀ (n : Nat) (l : Int), l + n = 7 → -1 ≤ l → Ev (fun k => dur_longestIn.l0 k l x y) (if lgN n l x y ≤ 6 then (lgN n l x y, 0, (valT (lgN n l x y) 0).1, (valT (lgN n l x y) 0).2, true) else (0, 0, 0, 0, false))
  | 0, l, h, h' => by
    obtain rfl : l = 7 := by omega
    refine Ev.succ ?_
    simp only [dur_longestIn.l0]
    exact Ev.neg (by decide) (Ev.now _)
  | n + 1, l, h, h' => by
    have ho : okD l 0 := ⟨⟨h', by omega⟩, by decide, by decide⟩
    refine Ev.succ ?_
    simp only [dur_longestIn.l0]
    refine Ev.pos (by omega) (Ev.bind (value_ev l 0) ?_)
    unfold valV
    rw [if_pos ho]
    refine Ev.bind (cmp_ev _ _ x y (ok_rng (val_ok ho).1) hx) ?_
    unfold lgN
    by_cases c : rcmp (valT l 0).1 (valT l 0).2 x y ≤ 0
    · rw [if_pos c, if_pos (by omega)]
      exact Ev.pos c (Ev.now _)
    · rw [if_neg c]
      refine Ev.neg c ?_
      rw [wrap_id (x := l + 1) (by omega) (by omega)]
      exact longest_ev x y hx n (l + 1) (by omega) (by omega)
theorem longest (x y : Int) (hx : -9223372036854775808 ≤ x ∧ x ≤ 9223372036854775807) : Ev (fun k => dur_longestIn.f k x y) (if lg x y ≤ 6 then (lg x y, 0, (valT (lg x y) 0).1, (valT (lg x y) 0).2, true) else (0, 0, 0, 0, false)) := longest_ev x y hx 8 (-1) (by decide) (by decide)
/-- Split, by fuel. -/
def spl : Nat → List S23 → Int → Int → List S23 × Bool
  | 0, L, x, y => if x > 0 then ([], false) else (L, true)
  | n + 1, L, x, y => if x > 0 then (if lg x y ≤ 6 then (if (rsub x y (valT (lg x y) 0).1 (valT (lg x y) 0).2).2.2 = 0 then spl n (L ++ [⟨lg x y, 0⟩]) (rsub x y (valT (lg x y) 0).1 (valT (lg x y) 0).2).1 (rsub x y (valT (lg x y) 0).1 (valT (lg x y) 0).2).2.1 else ([], false)) else ([], false)) else (L, true)
theorem code0 {s : Int × Int × Int} (z : s.2.2 = 0) : s = (s.1, s.2.1, 0) := by obtain ⟨a, b, c⟩ := s; simp only at z; rw [z]
theorem rsub_ok {x y a b : Int} (h : Ok x y) (h' : Ok a b) (hz : (rsub x y a b).2.2 = 0) : Ok (rsub x y a b).1 (rsub x y a b).2.1 := by
  have := (radd_cross (a := (rsub x y a b).1) (b := (rsub x y a b).2.1) h (Ok.neg.2 h') (by rw [← hz]; rfl)).1
  exact this
theorem okl (x y : Int) (h : lg x y ≤ 6) : okD (lg x y) 0 := ⟨⟨(lg_tells x y).1.1, h⟩, by decide, by decide⟩
theorem split_ev : ∀ (n : Nat) (L : List S23) (x y : Int), L.length + n = 64 → Ok x y → Ev (fun k => dur_Split.l0 k L x y) (spl n L x y) := by
  have stop : ∀ (L : List S23) (x y : Int), ¬ x > 0 → Ev (fun k => dur_Split.l0 k L x y) (L, true) := by
    intro L x y h
    refine Ev.succ ?_
    simp only [dur_Split.l0]
    exact Ev.neg h (Ev.now _)
  intro n
  induction n with
  | zero =>
    intro L x y hL hx
    unfold spl
    by_cases c : x > 0
    · rw [if_pos c]
      refine Ev.succ ?_
      simp only [dur_Split.l0]
      refine Ev.pos c (Ev.bind (longest x y (ok_rng hx)) ?_)
      by_cases g : lg x y ≤ 6
      · rw [if_pos g]
        refine Ev.bind (sub_ev _ _ _ _ (ok_rng hx) (ok_rng (val_ok (okl x y g)).1)) (Ev.pos rfl ?_)
        by_cases z : (rsub x y (valT (lg x y) 0).1 (valT (lg x y) 0).2).2.2 = 0
        · exact Ev.pos z (Ev.pos (by omega) (Ev.now _))
        · exact Ev.neg z (Ev.now _)
      · rw [if_neg g]
        exact Ev.bind (sub_ev _ _ _ _ (ok_rng hx) (by decide)) (Ev.neg (by decide) (Ev.now _))
    · rw [if_neg c]
      exact stop L x y c
  | succ n ih =>
    intro L x y hL hx
    unfold spl
    by_cases c : x > 0
    · rw [if_pos c]
      refine Ev.succ ?_
      simp only [dur_Split.l0]
      refine Ev.pos c (Ev.bind (longest x y (ok_rng hx)) ?_)
      by_cases g : lg x y ≤ 6
      · rw [if_pos g, if_pos g]
        refine Ev.bind (sub_ev _ _ _ _ (ok_rng hx) (ok_rng (val_ok (okl x y g)).1)) (Ev.pos rfl ?_)
        by_cases z : (rsub x y (valT (lg x y) 0).1 (valT (lg x y) 0).2).2.2 = 0
        · rw [if_pos z]
          exact Ev.pos z (Ev.neg (by omega) (Ev.pos (by omega) (ih _ _ _ (by rw [List.length_append, List.length_singleton]; omega) (rsub_ok hx (val_ok (okl x y g)).1 z))))
        · rw [if_neg z]
          exact Ev.neg z (Ev.now _)
      · rw [if_neg g, if_neg g]
        exact Ev.bind (sub_ev _ _ _ _ (ok_rng hx) (by decide)) (Ev.neg (by decide) (Ev.now _))
    · rw [if_neg c]
      exact stop L x y c
def splV (x y : Int) : List S23 × Bool := if Ok x y ∧ 0 < x then spl 64 [] x y else ([], false)
theorem dsplit_ev (x y : Int) (hx : -9223372036854775808 ≤ x ∧ x ≤ 9223372036854775807) : Ev (fun k => dur_Split.f k x y) (splV x y) := by
  have no : Ev (fun k => dur_Split.j0 k true x y) ([], false) := by
    refine Ev.succ ?_
    simp only [dur_Split.j0]
    exact Ev.pos trivial (Ev.now _)
  unfold dur_Split.f splV
  refine Ev.bind (check_ev x y hx) ?_
  by_cases h : Ok x y
  · rw [decide_eq_true h]
    refine Ev.pos rfl ?_
    by_cases c : 0 < x
    · rw [if_pos ⟨h, c⟩, decide_eq_false (by omega)]
      refine Ev.succ ?_
      simp only [dur_Split.j0]
      exact Ev.neg (by decide) (split_ev 64 [] x y rfl h)
    · rw [if_neg (fun q => c q.2), decide_eq_true (by omega)]
      exact no
  · rw [decide_eq_false h, if_neg (fun q => h q.1)]
    exact Ev.neg (by decide) no
/-- How many 64ths an undotted duration has. -/
def pw (l : Int) : Int := ([128, 64, 32, 16, 8, 4, 2, 1] : List Int).getD (l + 1).toNat 0
theorem all8 {p : Int → Bool} (h : ((List.range 8).all fun (l : Nat) => p ((l : Int) - 1)) = true) {l : Int} (h1 : -1 ≤ l) (h2 : l ≤ 6) : p l = true := by
  have t := List.all_eq_true.1 h (l + 1).toNat (List.mem_range.2 (by omega))
  rw [show (((l + 1).toNat : Nat) : Int) - 1 = l by omega] at t
  exact t
theorem pw_isF {l : Int} (h1 : -1 ≤ l) (h2 : l ≤ 6) : isF (valT l 0).1 (valT l 0).2 (pw l) := of_decide_eq_true (all8 (p := fun l => decide (isF (valT l 0).1 (valT l 0).2 (pw l))) (by decide +kernel) h1 h2)
theorem pw_bd {l : Int} (h1 : -1 ≤ l) (h2 : l ≤ 6) : 1 ≤ pw l ∧ pw l ≤ 128 := of_decide_eq_true (all8 (p := fun l => decide (1 ≤ pw l ∧ pw l ≤ 128)) (by decide +kernel) h1 h2)
def tot (ms : List Int) : Int := (ms.map pw).sum
theorem tot_cons (m : Int) (ms : List Int) : tot (m :: ms) = pw m + tot ms := by unfold tot; rw [List.map_cons, List.sum_cons]
theorem tot_bd : ∀ (ms : List Int), (∀ m ∈ ms, -1 ≤ m ∧ m ≤ 6) → 0 ≤ tot ms ∧ tot ms ≤ 128 * (ms.length : Int) ∧ ∀ m ∈ ms, pw m ≤ tot ms
  | [], _ => ⟨by decide, by decide, fun m h => absurd h (by simp)⟩
  | a :: ms, h => by
    obtain ⟨h1, h2, h3⟩ := tot_bd ms (fun m q => h m (List.mem_cons_of_mem _ q))
    have b := pw_bd (h a (List.mem_cons_self ..)).1 (h a (List.mem_cons_self ..)).2
    rw [tot_cons, List.length_cons]
    refine ⟨by omega, by omega, fun m q => ?_⟩
    rcases List.mem_cons.1 q with rfl | q
    · omega
    · have := h3 m q
      omega
/-- What is split adds up. -/
theorem spl_tells : ∀ (n : Nat) (L : List S23) (x y : Int) (R : List S23), Ok x y → 0 ≤ x → spl n L x y = (R, true) →
    ∃ ms : List Int, R = L ++ ms.map (fun m => (⟨m, 0⟩ : S23)) ∧ ms.length ≤ n ∧ (∀ m ∈ ms, -1 ≤ m ∧ m ≤ 6) ∧ ms.Pairwise (· ≤ ·) ∧ isF x y (tot ms) := by
  have stop : ∀ (L : List S23) (x y : Int) (R : List S23) (n : Nat), Ok x y → 0 ≤ x → ¬ x > 0 → (L, true) = (R, true) →
      ∃ ms : List Int, R = L ++ ms.map (fun m => (⟨m, 0⟩ : S23)) ∧ ms.length ≤ n ∧ (∀ m ∈ ms, -1 ≤ m ∧ m ≤ 6) ∧ ms.Pairwise (· ≤ ·) ∧ isF x y (tot ms) := by
    intro L x y R n hx h0 c h
    simp only [Prod.mk.injEq, and_true] at h
    refine ⟨[], by simp [h], Nat.zero_le _, fun m q => absurd q (by simp), List.Pairwise.nil, hx, ?_⟩
    obtain rfl : x = 0 := by omega
    show (0 : Int) * 64 = 0 * y
    omega
  intro n
  induction n with
  | zero =>
    intro L x y R hx h0 h
    unfold spl at h
    by_cases c : x > 0
    · rw [if_pos c] at h; cases h
    · rw [if_neg c] at h
      exact stop L x y R 0 hx h0 c h
  | succ n ih =>
    intro L x y R hx h0 h
    unfold spl at h
    by_cases c : x > 0
    · rw [if_pos c] at h
      by_cases g : lg x y ≤ 6
      · rw [if_pos g] at h
        by_cases z : (rsub x y (valT (lg x y) 0).1 (valT (lg x y) 0).2).2.2 = 0
        · rw [if_pos z] at h
          have lt := lg_tells x y
          have fl := pw_isF lt.1.1 g
          have hr := rsub_ok hx fl.1 z
          have es : rsub x y (valT (lg x y) 0).1 (valT (lg x y) 0).2 = ((rsub x y (valT (lg x y) 0).1 (valT (lg x y) 0).2).1, (rsub x y (valT (lg x y) 0).1 (valT (lg x y) 0).2).2.1, 0) := code0 z
          have nn : 0 ≤ (rsub x y (valT (lg x y) 0).1 (valT (lg x y) 0).2).1 := by
            have cr := (radd_cross hx (Ok.neg.2 fl.1) es).2
            have lc := lt.2.1 g
            have y0 := hx.1
            have v0 := fl.1.1
            have p0 := hr.1
            unfold rcmp at lc
            rw [if_pos ⟨fl.1, hx⟩] at lc
            generalize (rsub x y (valT (lg x y) 0).1 (valT (lg x y) 0).2).1 = p at *
            generalize (rsub x y (valT (lg x y) 0).1 (valT (lg x y) 0).2).2.1 = q at *
            generalize (valT (lg x y) 0).1 = a at *
            generalize (valT (lg x y) 0).2 = b at *
            have le : a * y ≤ x * b := by
              split at lc
              · omega
              · split at lc <;> omega
            have rhs : 0 ≤ (x * b + -a * y) * q := Int.mul_nonneg (by rw [Int.neg_mul]; omega) (by omega)
            rw [← cr] at rhs
            rcases Int.lt_or_le p 0 with w | w
            · have := Int.mul_neg_of_neg_of_pos w (Int.mul_pos (show 0 < y by omega) (show 0 < b by omega))
              omega
            · exact w
          obtain ⟨ms, h1, h2, h3, h4, h5⟩ := ih _ _ _ R hr nn h
          have F := isF_rsub hx fl es h5
          refine ⟨lg x y :: ms, ?_, by rw [List.length_cons]; omega, ?_, ?_, ?_⟩
          · rw [h1, List.append_assoc]; rfl
          · intro m q
            rcases List.mem_cons.1 q with rfl | q
            · exact ⟨lt.1.1, g⟩
            · exact h3 m q
          · refine List.pairwise_cons.2 ⟨fun m q => ?_, h4⟩
            have b := h3 m q
            have tb := tot_bd ms h3
            have tm := tb.2.2 m q
            have pl := pw_bd lt.1.1 g
            rcases Int.lt_or_le m (lg x y) with w | w
            · exact absurd ((isF_cmp (pw_isF b.1 b.2) F).2 (by omega)) (lt.2.2 m b.1 w)
            · exact w
          · rw [tot_cons, Int.add_comm]; exact F
        · rw [if_neg z] at h; cases h
      · rw [if_neg g] at h; cases h
    · rw [if_neg c] at h
      exact stop L x y R (n + 1) hx h0 c h
end Go.Proofs.YtdiccfonlojlfaaGreatDoor.Rp