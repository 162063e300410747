/- Beams: plain facts on what slope's functions come to. -/
import Derived.Test.YtbmdbkjmleimmaaPx2
import Derived.Test.YtbmdbkjmleimmaaSlopeHeads
import Derived.Test.YtbmdbkjmleimmaaRatPlain
namespace Go.Proofs.Ytbmdbkjmleimmaa.Sl
open Go.RowKit Go.Proofs.Ytbmdbkjmleimmaa.P Go.Proofs.Ytbmdbkjmleimmaa.Rp Go.Proofs.YtbmdbkjmleimmaaW.PrintWords Go.Proofs.YtbmdbkjmleimmaaW.PrintLast Go.Proofs.YtbmdbkjmleimmaaW.PrintMore
set_option linter.unusedVariables false

/-- To the nearest number, halves away from 0. -/
def near (n d : Int) : Int := if n < 0 then -((2 * (-n) + d) / (2 * d)) else (2 * n + d) / (2 * d)
theorem div_bd {a d : Int} (hd : 0 < d) : 2 * d * (a / (2 * d)) ≤ a ∧ a < 2 * d * (a / (2 * d)) + 2 * d := by
  have h1 := Int.mul_ediv_add_emod a (2 * d)
  have h2 := Int.emod_nonneg a (show 2 * d ≠ 0 by omega)
  have h3 := Int.emod_lt_of_pos a (show 0 < 2 * d by omega)
  generalize 2 * d * (a / (2 * d)) = q at *
  omega
theorem near_bd (n d : Int) (hd : 0 < d) : -d ≤ 2 * (near n d * d - n) ∧ 2 * (near n d * d - n) ≤ d := by
  unfold near
  split
  · have h := div_bd (a := 2 * (-n) + d) hd
    have e : -((2 * -n + d) / (2 * d)) * d = -(d * ((2 * -n + d) / (2 * d))) := by rw [Int.neg_mul, Int.mul_comm]
    have e2 : 2 * d * ((2 * -n + d) / (2 * d)) = 2 * (d * ((2 * -n + d) / (2 * d))) := by rw [Int.mul_assoc]
    rw [e]
    rw [e2] at h
    generalize d * ((2 * -n + d) / (2 * d)) = q at *
    omega
  · have h := div_bd (a := 2 * n + d) hd
    have e2 : 2 * d * ((2 * n + d) / (2 * d)) = 2 * ((2 * n + d) / (2 * d) * d) := by rw [Int.mul_assoc, Int.mul_comm d]
    rw [e2] at h
    generalize (2 * n + d) / (2 * d) * d = q at *
    omega
theorem near_neg (n d : Int) (hd : 0 < d) : near (-n) d = -near n d := by
  unfold near
  by_cases h : n < 0
  · rw [if_pos h, if_neg (by omega), Int.neg_neg]
  · by_cases h0 : n = 0
    · subst h0
      have hz : (2 * 0 + d) / (2 * d) = 0 := Int.ediv_eq_zero_of_lt (by omega) (by omega)
      rw [if_neg (by omega), if_neg (by omega), Int.neg_zero, hz]
      rfl
    · rw [if_neg h, if_pos (by omega), Int.neg_neg]
theorem near_zero (d : Int) (hd : 0 < d) : near 0 d = 0 := by
  unfold near
  rw [if_neg (by omega)]
  exact Int.ediv_eq_zero_of_lt (by omega) (by omega)
theorem near_self (s d : Int) (hd : 0 < d) : near (s * d) d = s := by
  have h := near_bd (s * d) d hd
  have e : near (s * d) d * d - s * d = (near (s * d) d - s) * d := by rw [Int.sub_mul]
  rw [e] at h
  obtain ⟨q, hq⟩ : ∃ q, near (s * d) d - s = q := ⟨_, rfl⟩
  rw [hq] at h
  rcases Int.lt_trichotomy q 0 with h1 | h1 | h1
  · have := Int.mul_le_mul_of_nonneg_right (show q ≤ -1 by omega) (Int.le_of_lt hd)
    omega
  · omega
  · have := Int.mul_le_mul_of_nonneg_right (show 1 ≤ q by omega) (Int.le_of_lt hd)
    omega
theorem near_rng (n d B : Int) (hd : 0 < d) (hB : 0 ≤ B) (h : -B ≤ n ∧ n ≤ B) : -(B + 1) ≤ near n d ∧ near n d ≤ B + 1 := by
  have h1 := near_bd n d hd
  generalize near n d = q at *
  have hBd : B * 1 ≤ B * d := Int.mul_le_mul_of_nonneg_left (by omega) hB
  constructor
  · rcases Int.lt_or_le q (-(B + 1)) with c | c
    · have := Int.mul_le_mul_of_nonneg_right (show q ≤ -B - 2 by omega) (Int.le_of_lt hd)
      have e : (-B - 2) * d = -(B * d) - 2 * d := by rw [Int.sub_mul, Int.neg_mul]
      omega
    · exact c
  · rcases Int.lt_or_le (B + 1) q with c | c
    · have := Int.mul_le_mul_of_nonneg_right (show B + 2 ≤ q by omega) (Int.le_of_lt hd)
      have e : (B + 2) * d = B * d + 2 * d := by rw [Int.add_mul]
      omega
    · exact c
theorem near_eq (n d : Int) (hd : 0 < d) (hd' : d ≤ 1099511627776) (hn : -1125899906842624 ≤ n ∧ n ≤ 1125899906842624) : slope_near.f n d = some (near n d) := by
  have r := near_rng n d 1125899906842624 hd (by omega) hn
  unfold slope_near.f
  rw [wrap_id (x := 2 * d) (by omega) (by omega)]
  unfold near at r ⊢
  by_cases c : n < 0
  · rw [if_pos c] at r ⊢
    rw [if_pos c, if_neg (by omega), wrap_id (x := -n) (by omega) (by omega), wrap_id (x := 2 * -n) (by omega) (by omega), wrap_id (x := 2 * -n + d) (by omega) (by omega), Int.tdiv_eq_ediv_of_nonneg (by omega)]
    generalize (2 * -n + d) / (2 * d) = q at *
    rw [wrap_id (x := q) (by omega) (by omega), show -1 * q = -q by omega, wrap_id (by omega) (by omega)]
  · rw [if_neg c] at r ⊢
    rw [if_neg c, if_neg (by omega), wrap_id (x := 2 * n) (by omega) (by omega), wrap_id (x := 2 * n + d) (by omega) (by omega), Int.tdiv_eq_ediv_of_nonneg (by omega)]
    generalize (2 * n + d) / (2 * d) = q at *
    rw [wrap_id (x := q) (by omega) (by omega), Int.one_mul, wrap_id (by omega) (by omega)]

/-- May xs and tips be? -/
def Close (x : Int) : Prop := -1073741824 ≤ x ∧ x ≤ 1073741824
instance (x : Int) : Decidable (Close x) := by unfold Close; exact inferInstance
def Step (l0 l1 : List Int) (i : Nat) : Prop := Close (rd l0 i) ∧ Close (rd l1 i) ∧ (0 < i → rd l0 ((i : Int) - 1) < rd l0 i)
instance (l0 l1 : List Int) (i : Nat) : Decidable (Step l0 l1 i) := by unfold Step; exact inferInstance
def Fits (l0 l1 : List Int) : Prop := l0.length = l1.length ∧ 2 ≤ l0.length ∧ l0.length ≤ 4096 ∧ ∀ i : Nat, i < l0.length → Step l0 l1 i
theorem close_eq (x : Int) : slope_close.f x = some (decide (Close x)) := by
  unfold slope_close.f
  by_cases c : x ≥ -1073741824
  · rw [if_pos c]
    congr 1
    by_cases c2 : x ≤ 1073741824
    · rw [decide_eq_true c2, decide_eq_true (show Close x from ⟨c, c2⟩)]
    · rw [decide_eq_false c2, decide_eq_false (fun h : Close x => c2 h.2)]
  · rw [if_neg c, decide_eq_false (fun h : Close x => c h.1)]
theorem fits_loop (l0 l1 : List Int) (hl : l0.length = l1.length) (hb : l0.length ≤ 4096) : ∀ (d i : Nat), i + d = l0.length → ∃ b : Bool, Ev (fun k => slope_fits.l0 k l0 l1 l0 (l0.length : Int) (i : Int)) b ∧ (b = true ↔ ∀ j : Nat, i ≤ j → j < l0.length → Step l0 l1 j)
  | 0, i, h => by
    refine ⟨true, Ev.succ ?_, ⟨fun _ j h1 h2 => by omega, fun _ => rfl⟩⟩
    simp only [slope_fits.l0]
    exact Ev.neg (by omega) (Ev.now _)
  | d + 1, i, h => by
    obtain ⟨b, e, hb2⟩ := fits_loop l0 l1 hl hb d (i + 1) (by omega)
    have stop : ∀ (q : ¬ Step l0 l1 i), (false = true ↔ ∀ j : Nat, i ≤ j → j < l0.length → Step l0 l1 j) := fun q => ⟨fun h => (by cases h), fun h => absurd (h i (Nat.le_refl _) (by omega)) q⟩
    by_cases c1 : Close (rd l0 i)
    · by_cases c2 : Close (rd l1 i)
      · by_cases c3 : (i : Int) > 0
        · by_cases c4 : rd l0 i ≤ rd l0 ((i : Int) - 1)
          · refine ⟨false, Ev.succ ?_, stop (fun q => by have := q.2.2 (by omega); omega)⟩
            simp only [slope_fits.l0]
            rw [close_eq, close_eq, decide_eq_true c1, decide_eq_true c2, wrap_id (x := (i : Int) - 1) (by omega) (by omega)]
            simp only [Option.bind_some, if_true]
            exact Ev.pos (by omega) (Ev.pos (by omega) (Ev.pos (by omega) (Ev.pos (by omega) (Ev.pos c3 (Ev.pos (by omega) (Ev.pos (by omega) (Ev.pos c4 (Ev.now _))))))))
          · refine ⟨b, Ev.succ ?_, ?_⟩
            · simp only [slope_fits.l0]
              rw [close_eq, close_eq, decide_eq_true c1, decide_eq_true c2, wrap_id (x := (i : Int) - 1) (by omega) (by omega), wrap_id (x := (i : Int) + 1) (by omega) (by omega)]
              simp only [Option.bind_some, if_true]
              exact Ev.pos (by omega) (Ev.pos (by omega) (Ev.pos (by omega) (Ev.pos (by omega) (Ev.pos c3 (Ev.pos (by omega) (Ev.pos (by omega) (Ev.neg c4 (by exact_mod_cast e))))))))
            · rw [hb2]
              constructor
              · intro g j h1 h2
                rcases Nat.eq_or_lt_of_le h1 with rfl | h1
                · exact ⟨c1, c2, fun _ => by omega⟩
                · exact g j h1 h2
              · intro g j h1 h2; exact g j (by omega) h2
        · refine ⟨b, Ev.succ ?_, ?_⟩
          · simp only [slope_fits.l0]
            rw [close_eq, close_eq, decide_eq_true c1, decide_eq_true c2, wrap_id (x := (i : Int) + 1) (by omega) (by omega)]
            simp only [Option.bind_some, if_true]
            exact Ev.pos (by omega) (Ev.pos (by omega) (Ev.pos (by omega) (Ev.pos (by omega) (Ev.neg c3 (by exact_mod_cast e)))))
          · rw [hb2]
            constructor
            · intro g j h1 h2
              rcases Nat.eq_or_lt_of_le h1 with rfl | h1
              · exact ⟨c1, c2, fun _ => by omega⟩
              · exact g j h1 h2
            · intro g j h1 h2; exact g j (by omega) h2
      · refine ⟨false, Ev.succ ?_, stop (fun q => c2 q.2.1)⟩
        simp only [slope_fits.l0]
        rw [close_eq, close_eq, decide_eq_true c1, decide_eq_false c2]
        simp only [Option.bind_some, if_true, Bool.false_eq_true, if_false]
        exact Ev.pos (by omega) (Ev.pos (by omega) (Ev.pos (by omega) (Ev.pos (by omega) (Ev.now _))))
    · refine ⟨false, Ev.succ ?_, stop (fun q => c1 q.1)⟩
      simp only [slope_fits.l0]
      rw [close_eq, decide_eq_false c1]
      simp only [Option.bind_some, Bool.false_eq_true, if_false]
      exact Ev.pos (by omega) (Ev.pos (by omega) (Ev.pos (by omega) (Ev.now _)))
theorem fits_ev (l0 l1 : List Int) : ∃ b : Bool, Ev (fun k => slope_fits.f k l0 l1) b ∧ (b = true ↔ Fits l0 l1) := by
  have bad : Ev (fun k => slope_fits.j0 k l0 l1 true) false := by
    refine Ev.succ ?_
    simp only [slope_fits.j0, if_true]
    exact Ev.now _
  unfold slope_fits.f
  by_cases c1 : (l0.length : Int) = l1.length
  · by_cases c2 : (l0.length : Int) < 2
    · exact ⟨false, Ev.pos c1 (Ev.pos c2 bad), ⟨fun h => (by cases h), fun h => absurd h.2.1 (by omega)⟩⟩
    · by_cases c3 : (l0.length : Int) > 4096
      · rw [decide_eq_true c3]
        exact ⟨false, Ev.pos c1 (Ev.neg c2 bad), ⟨fun h => (by cases h), fun h => absurd h.2.2.1 (by omega)⟩⟩
      · rw [decide_eq_false c3]
        obtain ⟨b, e, hb⟩ := fits_loop l0 l1 (by omega) (by omega) l0.length 0 (by omega)
        refine ⟨b, Ev.pos c1 (Ev.neg c2 (Ev.succ ?_)), ?_⟩
        · simp only [slope_fits.j0, Bool.false_eq_true, if_false]
          exact e
        · rw [hb]
          exact ⟨fun h => ⟨by omega, by omega, by omega, fun i hi => h i (by omega) hi⟩, fun h j _ hj => h.2.2.2 j hj⟩
  · exact ⟨false, Ev.neg c1 bad, ⟨fun h => (by cases h), fun h => absurd h.1 (by omega)⟩⟩
theorem rd_lt {l : List Int} {j : Nat} (h : j < l.length) : rd l (j : Int) = l[j] := by
  unfold rd
  rw [Int.toNat_natCast, List.getD_eq_getElem?_getD, List.getElem?_eq_getElem h]
  rfl
theorem rd_map {l : List Int} (g : Int → Int) {j : Nat} (h : j < l.length) : rd (l.map g) (j : Int) = g (rd l j) := by
  rw [rd_lt (by simpa using h), rd_lt h]; simp
theorem ext_rd {l m : List Int} (hl : l.length = m.length) (h : ∀ j : Nat, j < l.length → rd l j = rd m j) : l = m := by
  refine List.ext_getElem hl (fun j h1 h2 => ?_)
  have := h j h1
  rw [rd_lt h1, rd_lt h2] at this
  exact this
/-- Some told, the others 0. -/
def told (g : Int → Int) (l : List Int) (j : Nat) : List Int := (l.take j).map g ++ List.replicate (l.length - j) 0
theorem told_succ (g : Int → Int) (l : List Int) (j : Nat) (hj : j < l.length) : (told g l j).set j (g (rd l j)) = told g l (j + 1) := by
  unfold told
  rw [List.take_succ_eq_append_getElem hj, List.map_append, List.set_append_right _ _ (by simp; omega), List.append_assoc]
  congr 1
  rw [show l.length - j = (l.length - (j + 1)) + 1 by omega, List.replicate_succ]
  simp only [List.length_map, List.length_take, show min j l.length = j by omega, Nat.sub_self, List.set_cons_zero, List.map_cons, List.map_nil, List.singleton_append]
  rw [rd_lt hj]
theorem mirrored_ev (l : List Int) (hl : l.length ≤ 4096) : Ev (fun k => slope_mirrored.f k l) (l.map fun y => wrap64 (-y)) := by
  have go : ∀ (d j : Nat), j + d = l.length → Ev (fun k => slope_mirrored.l0 k (told (fun y => wrap64 (-y)) l j) l (l.length : Int) (j : Int)) (l.map fun y => wrap64 (-y)) := by
    intro d
    induction d with
    | zero =>
      intro j h
      refine Ev.succ ?_
      simp only [slope_mirrored.l0]
      refine Ev.to (Ev.neg (by omega) (Ev.now _)) ?_
      obtain rfl : j = l.length := by omega
      simp [told]
    | succ d ih =>
      intro j h
      refine Ev.succ ?_
      simp only [slope_mirrored.l0]
      have hlen : (told (fun y => wrap64 (-y)) l j).length = l.length := by simp [told]; omega
      rw [wrap_id (x := (j : Int) + 1) (by omega) (by omega), hlen, Int.toNat_natCast, told_succ _ l j (by omega)]
      exact Ev.pos (by omega) (Ev.pos (by omega) (Ev.pos (by omega) (Ev.pos (by omega) (by exact_mod_cast ih (j + 1) (by omega)))))
  unfold slope_mirrored.f
  refine Ev.pos (by omega) (Ev.pos (by omega) ?_)
  have := go l.length 0 (by omega)
  simpa [told] using this
/-- How steep. -/
def slantV (l : List Int) (up : Bool) : Int :=
  if slope_ah up (slope_ext up l (rd l 0)) (rd l 0) = true ∧ slope_ah up (slope_ext up l (rd l 0)) (rd l ((l.length : Int) - 1)) = true then 0
  else mx (-1024) (mn 1024 (256 * near (rd l ((l.length : Int) - 1) - rd l 0) 512))
theorem slant_eq (l : List Int) (up : Bool) (h0 : l.length ≠ 0) (h1 : -1099511627776 ≤ rd l 0 ∧ rd l 0 ≤ 1099511627776) (h2 : -1099511627776 ≤ rd l ((l.length : Int) - 1) ∧ rd l ((l.length : Int) - 1) ≤ 1099511627776) : slope_slant.f l up = some (slantV l up) := by
  unfold slope_slant.f slantV
  rw [if_neg h0]
  split
  · rfl
  · rw [wrap_id (by omega) (by omega), near_eq _ 512 (by omega) (by omega) (by omega)]
    have r := near_rng (rd l ((l.length : Int) - 1) - rd l 0) 512 2199023255552 (by omega) (by omega) (by omega)
    simp only [Option.bind_some]
    rw [wrap_id (by omega) (by omega)]
theorem slant_rng (l : List Int) (up : Bool) : -1024 ≤ slantV l up ∧ slantV l up ≤ 1024 ∧ slantV l up % 256 = 0 := by
  unfold slantV mx mn
  split
  · decide
  · split <;> split <;> omega
theorem ah_neg (up : Bool) (a b : Int) : slope_ah (!up) (-a) (-b) = slope_ah up a b := by
  unfold slope_ah
  cases up <;> simp
theorem ext_neg (up : Bool) : ∀ (l : List Int) (x : Int), slope_ext (!up) (l.map fun y => -y) (-x) = -slope_ext up l x
  | [], x => rfl
  | y :: r, x => by
    have e1 : slope_ext (!up) ((y :: r).map fun y => -y) (-x) = slope_ext (!up) (r.map fun y => -y) (if slope_ah (!up) (-y) (-x) = true then -y else -x) := rfl
    have e2 : slope_ext up (y :: r) x = slope_ext up r (if slope_ah up y x = true then y else x) := rfl
    rw [e1, e2, ah_neg]
    split
    · exact ext_neg up r y
    · exact ext_neg up r x
theorem slant_neg (l : List Int) (up : Bool) (h0 : l.length ≠ 0) : slantV (l.map fun y => -y) (!up) = -slantV l up := by
  have r0 : rd (l.map fun y => -y) 0 = -rd l 0 := rd_map (fun y => -y) (j := 0) (by omega)
  have r1 : rd (l.map fun y => -y) (((l.map fun y => -y).length : Int) - 1) = -rd l ((l.length : Int) - 1) := by
    have := rd_map (l := l) (fun y => -y) (j := l.length - 1) (by omega)
    rw [List.length_map, show ((l.length : Int) - 1) = ((l.length - 1 : Nat) : Int) by omega]
    exact this
  unfold slantV
  rw [r0, r1, ext_neg, ah_neg, ah_neg]
  split
  · rfl
  · rw [show -rd l ((l.length : Int) - 1) - -rd l 0 = -(rd l ((l.length : Int) - 1) - rd l 0) by omega, near_neg _ _ (by omega)]
    generalize near (rd l ((l.length : Int) - 1) - rd l 0) 512 = q
    unfold mx mn
    (repeat' split) <;> omega
theorem rises_eq (x0 s wd : Int) (hw : 0 < wd) (hw' : wd ≤ 2147483648) (hs : -1024 ≤ s ∧ s ≤ 1024) : ∀ (l : List Int), (∀ x ∈ l, -2147483648 ≤ x - x0 ∧ x - x0 ≤ 2147483648) → slope_rises x0 s wd l = some (l.map fun x => near (s * (x - x0)) wd)
  | [], _ => rfl
  | x :: r, h => by
    have hx := h x (by simp)
    have hm : -2199023255552 ≤ s * (x - x0) ∧ s * (x - x0) ≤ 2199023255552 := by
      rcases Int.le_total 0 (x - x0) with c | c
      · have u := Int.mul_le_mul_of_nonneg_right hs.2 c
        have v := Int.mul_le_mul_of_nonneg_right hs.1 c
        omega
      · have u := Int.mul_le_mul_of_nonpos_right hs.2 c
        have v := Int.mul_le_mul_of_nonpos_right hs.1 c
        omega
    simp only [slope_rises]
    rw [wrap_id (x := x - x0) (by omega) (by omega), wrap_id (x := s * (x - x0)) (by omega) (by omega), near_eq _ wd hw (by omega) (by omega), rises_eq x0 s wd hw hw' hs r (fun y hy => h y (by simp [hy]))]
    rfl
theorem slopeb_rng (b0 : Int) (ts rs : List Int) (hb : -9007199254740992 ≤ b0 ∧ b0 ≤ 9007199254740992) (n : Nat) (ht : ∀ j : Nat, j < n → -1073741824 ≤ rd ts j ∧ rd ts j ≤ 1073741824) (hr : ∀ j : Nat, j < n → -4398046511104 ≤ rd rs j ∧ rd rs j ≤ 4398046511104) :
    ∀ j : Nat, j ≤ n → b0 ≤ slope_b b0 ts rs j ∧ slope_b b0 ts rs j ≤ 9007199254740992 ∧ ∀ i : Nat, i < j → rd ts i - 1024 - rd rs i ≤ slope_b b0 ts rs j
  | 0, _ => ⟨Int.le_refl _, hb.2, fun i hi => absurd hi (by omega)⟩
  | j + 1, hj => by
    obtain ⟨h1, h2, h3⟩ := slopeb_rng b0 ts rs hb n ht hr j (by omega)
    have a := ht j (by omega)
    have c := hr j (by omega)
    have e : slope_b b0 ts rs (j + 1) = mx (slope_b b0 ts rs j) (rd ts j - 1024 - rd rs j) := by
      simp only [slope_b]
      rw [wrap_id (x := rd ts j - 1024) (by omega) (by omega), wrap_id (x := rd ts j - 1024 - rd rs j) (by omega) (by omega)]
    rw [e]
    unfold mx
    split
    · refine ⟨by omega, by omega, fun i hi => ?_⟩
      rcases Nat.lt_succ_iff_lt_or_eq.1 hi with hi | rfl
      · have := h3 i hi; omega
      · omega
    · refine ⟨h1, h2, fun i hi => ?_⟩
      rcases Nat.lt_succ_iff_lt_or_eq.1 hi with hi | rfl
      · exact h3 i hi
      · omega
theorem slopeup_rng (b : Int) (h : -9007199254740992 ≤ b ∧ b ≤ 9007199254740992) : b ≤ slope_up b ∧ slope_up b ≤ b + 255 ∧ slope_up b % 256 = 0 := by
  unfold slope_up
  rw [wrap_id (x := -b) (by omega) (by omega)]
  have e1 : Int.tmod (-b) 256 = if 0 ≤ -b then (-b) % 256 else -(b % 256) := by
    split
    · rename_i c; exact Int.tmod_eq_emod_of_nonneg c
    · rename_i c
      rw [Int.neg_tmod, Int.tmod_eq_emod_of_nonneg (by omega)]
  have e2 : -256 < Int.tmod (-b) 256 ∧ Int.tmod (-b) 256 < 256 := by rw [e1]; split <;> omega
  rw [wrap_id (x := Int.tmod (-b) 256 + 256) (by omega) (by omega), Int.tmod_eq_emod_of_nonneg (show 0 ≤ Int.tmod (-b) 256 + 256 by omega)]
  rw [wrap_id (by omega) (by omega)]
  rw [e1]
  split <;> omega
theorem rising {l0 l1 : List Int} (h : Fits l0 l1) : ∀ (d i : Nat), i + d < l0.length → rd l0 i ≤ rd l0 ((i + d : Nat) : Int) ∧ (0 < d → rd l0 i < rd l0 ((i + d : Nat) : Int))
  | 0, i, _ => ⟨Int.le_refl _, fun h => absurd h (by omega)⟩
  | d + 1, i, hi => by
    have g := rising h d i (by omega)
    have s := (h.2.2.2 (i + d + 1) (by omega)).2.2 (by omega)
    rw [show ((i + d + 1 : Nat) : Int) - 1 = ((i + d : Nat) : Int) by omega] at s
    rw [show i + (d + 1) = i + d + 1 by omega]
    exact ⟨by omega, fun _ => by omega⟩
/-- Where stems end that go up. -/
theorem upwards_ok (l0 l1 : List Int) (h : Fits l0 l1) : ∃ s W b : Int, slope_upwards.f l0 l1 = some (l0.map fun x => b + near (s * (x - rd l0 0)) W) ∧ W = rd l0 ((l0.length : Int) - 1) - rd l0 0 ∧ 0 < W ∧ W ≤ 2147483648 ∧ s = slantV l1 true ∧ b % 256 = 0 ∧ rd l1 0 - 512 ≤ b ∧ -9007199254740992 ≤ b ∧ b ≤ 9007199254741247 ∧
    ∀ j : Nat, j < l0.length → rd l1 j - 1024 - near (s * (rd l0 j - rd l0 0)) W ≤ b := by
  obtain ⟨hl, h2, h4, hS⟩ := h
  have hF : Fits l0 l1 := ⟨hl, h2, h4, hS⟩
  have f0 := (hS 0 (by omega)).2.1
  have fl := (hS (l0.length - 1) (by omega)).2.1
  rw [show ((l0.length - 1 : Nat) : Int) = (l1.length : Int) - 1 by omega] at fl
  have g0 := (hS 0 (by omega)).1
  have gl := (hS (l0.length - 1) (by omega)).1
  have hr := (rising hF (l0.length - 1) 0 (by omega)).2 (by omega)
  rw [show 0 + (l0.length - 1) = l0.length - 1 by omega] at hr
  rw [show ((l0.length - 1 : Nat) : Int) = (l0.length : Int) - 1 by omega] at hr gl
  simp only [Int.natCast_zero] at f0 g0 hr
  unfold Close at *
  have sr := slant_rng l1 true
  have hx : ∀ x ∈ l0, -2147483648 ≤ x - rd l0 0 ∧ x - rd l0 0 ≤ 2147483648 := by
    intro x hx
    obtain ⟨j, hj, rfl⟩ := List.mem_iff_getElem.1 hx
    have := (hS j hj).1
    rw [rd_lt hj] at this
    unfold Close at this
    omega
  have R := rises_eq (rd l0 0) (slantV l1 true) (rd l0 ((l0.length : Int) - 1) - rd l0 0) (by omega) (by omega) ⟨sr.1, sr.2.1⟩ l0 hx
  have B := slopeb_rng (rd l1 0 - 512) l1 (l0.map fun x => near (slantV l1 true * (x - rd l0 0)) (rd l0 ((l0.length : Int) - 1) - rd l0 0)) (by omega) l1.length (fun j hj => (hS j (by omega)).2.1) (fun j hj => by
    rw [rd_map _ (by omega)]
    have hxj := hx (rd l0 j) (by rw [rd_lt (by omega)]; exact List.getElem_mem _)
    have hm : -2199023255552 ≤ slantV l1 true * (rd l0 j - rd l0 0) ∧ slantV l1 true * (rd l0 j - rd l0 0) ≤ 2199023255552 := by
      rcases Int.le_total 0 (rd l0 j - rd l0 0) with c | c
      · have u := Int.mul_le_mul_of_nonneg_right sr.2.1 c
        have v := Int.mul_le_mul_of_nonneg_right sr.1 c
        omega
      · have u := Int.mul_le_mul_of_nonpos_right sr.2.1 c
        have v := Int.mul_le_mul_of_nonpos_right sr.1 c
        omega
    have := near_rng (slantV l1 true * (rd l0 j - rd l0 0)) (rd l0 ((l0.length : Int) - 1) - rd l0 0) 2199023255552 (by omega) (by omega) hm
    omega) l1.length (Nat.le_refl _)
  have U := slopeup_rng _ ⟨show -9007199254740992 ≤ _ by omega, B.2.1⟩
  refine ⟨slantV l1 true, _, slope_up _, ?_, rfl, by omega, by omega, rfl, U.2.2, by omega, by omega, by omega, fun j hj => ?_⟩
  · unfold slope_upwards.f
    rw [if_neg (by omega), if_neg (by omega), if_neg (by omega), slant_eq l1 true (by omega) (by omega) (by omega)]
    simp only [Option.bind_some]
    rw [wrap_id (x := rd l0 ((l0.length : Int) - 1) - rd l0 0) (by omega) (by omega), R]
    simp only [Option.bind_some]
    rw [wrap_id (x := rd l1 0 - 512) (by omega) (by omega), List.map_map]
    congr 1
    refine List.map_congr_left (fun x hxm => ?_)
    have hxj := hx x hxm
    have hm : -2199023255552 ≤ slantV l1 true * (x - rd l0 0) ∧ slantV l1 true * (x - rd l0 0) ≤ 2199023255552 := by
      rcases Int.le_total 0 (x - rd l0 0) with c | c
      · have u := Int.mul_le_mul_of_nonneg_right sr.2.1 c
        have v := Int.mul_le_mul_of_nonneg_right sr.1 c
        omega
      · have u := Int.mul_le_mul_of_nonpos_right sr.2.1 c
        have v := Int.mul_le_mul_of_nonpos_right sr.1 c
        omega
    have := near_rng (slantV l1 true * (x - rd l0 0)) (rd l0 ((l0.length : Int) - 1) - rd l0 0) 2199023255552 (by omega) (by omega) hm
    simp only [Function.comp_apply]
    rw [wrap_id (by omega) (by omega)]
  · have := B.2.2 j (by omega)
    rw [rd_map _ (by omega)] at this
    omega
end Go.Proofs.Ytbmdbkjmleimmaa.Sl
