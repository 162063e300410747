/- Fractions: how the reference writes, and reads, them: plain values. -/
import Derived.Test.YtmbdbinbdiiapaaDoorRatText
import Derived.Test.YtmbdbinbdiiapaaDoorRatBRef
import Derived.Test.YtmbdbinbdiiapaaDoorPx17
namespace Go.Proofs.YtmbdbinbdiiapaaDoor.Rp
open Go.RowKit Go.Proofs.YtmbdbinbdiiapaaDoor.P Go.Proofs.YtmbdbinbdiiapaaDoorW.PrintWords Go.Proofs.YtmbdbinbdiiapaaDoorW.PrintLast Go.Proofs.YtmbdbinbdiiapaaDoorW.PrintMore Go.Lib
set_option linter.unusedVariables false
set_option linter.unusedSimpArgs false

theorem one_byte {v : Int} (h1 : 48 ≤ v) (h2 : v < 256) : strOfNums [v] = bs [UInt8.ofNat v.toNat] := rfl
theorem nDigits_le (u : Nat) (h : u < 9223372036854775808) : nDigits u ≤ 20 := nDigits_le20 u (by omega)
theorem digits_l0 : ∀ (m : Nat) (x : Int) (l : List UInt8), 0 ≤ x → x ≤ 9223372036854775000 → x.toNat = m → l.length + nDigits m ≤ 1100 → Ev (fun k => neumeref02_digits.l0 k x (bs l)) (bs (decDigits x.toNat ++ l)) := by
  intro m
  induction m using Nat.strongRecOn with
  | _ m ih =>
    intro x l h0 h1 hm hl
    refine Ev.succ ?_
    simp only [neumeref02_digits.l0]
    have hmod : x.tmod 10 = x % 10 := Int.tmod_eq_emod_of_nonneg h0
    have hdiv : x.tdiv 10 = x / 10 := Int.tdiv_eq_ediv_of_nonneg h0
    rw [wrap_id (x := Int.tdiv x 10) (by omega) (by omega), wrap_id (x := 48 + x.tmod 10) (by omega) (by omega)]
    by_cases c : x > 9
    · refine Ev.pos c (Ev.bindc rfl ?_)
      rw [hmod, show (48 + x % 10) % 256 = 48 + x % 10 by omega, one_byte (by omega) (by omega), bs_size, bs_size, bs_app]
      simp only [List.length_singleton]
      refine Ev.pos (by omega) ?_
      rw [hdiv]
      have hn : nDigits m = nDigits (m / 10) + 1 := nDigits_big (by omega)
      have e : decDigits x.toNat ++ l = decDigits (x / 10).toNat ++ ([UInt8.ofNat (48 + x % 10).toNat] ++ l) := by
        conv => lhs; rw [decDigits]
        rw [dif_neg (by omega), List.append_assoc, show x.toNat / 10 = (x / 10).toNat by omega, show 48 + x.toNat % 10 = (48 + x % 10).toNat by omega]
      rw [e]
      have big := nDigits_le (m / 10) (by omega)
      exact ih (x / 10).toNat (by omega) (x / 10) _ (by omega) (by omega) rfl (by rw [show (x / 10).toNat = m / 10 by omega]; simp only [List.length_append, List.length_singleton]; omega)
    · refine Ev.neg c ?_
      rw [wrap_id (x := 48 + x) (by omega) (by omega)]
      refine Ev.bindc rfl (Ev.const ?_)
      rw [show (48 + x) % 256 = 48 + x by omega, one_byte (by omega) (by omega), bs_size, bs_size, bs_app]
      simp only [List.length_singleton]
      rw [if_pos (by omega), decDigits, dif_pos (by omega), show 48 + x.toNat = (48 + x).toNat by omega]
theorem digits_ev (x : Int) (h0 : 0 ≤ x) (h1 : x ≤ 9223372036854775000) : Ev (fun k => neumeref02_digits.f k x) (bs (decDigits x.toNat)) := by
  have := digits_l0 x.toNat x [] h0 h1 rfl (by have := nDigits_le x.toNat (by omega); simp only [List.length_nil]; omega)
  rw [List.append_nil] at this
  exact this
theorem dec_len {u : Nat} (h : u < 9223372036854775808) : (decDigits u).length ≤ 20 := by rw [decDigits_length]; exact nDigits_le u h
theorem text2_ev (n d : Int) (hn : -9223372036854775808 ≤ n ∧ n ≤ 9223372036854775807) : Ev (fun k => neumeref02_Text.f k n d) (bs (txt n d)) := by
  unfold neumeref02_Text.f
  refine Ev.bind (check2_ev n d hn) ?_
  unfold txt
  by_cases h : Ok n d
  rotate_left
  · rw [decide_eq_false h, if_neg h]
    exact Ev.neg (by decide) (Ev.now _)
  rw [decide_eq_true h, if_pos h, abs2_eq n (by have := h.2.2.1; omega) (by have := h.2.2.2.1; omega)]
  obtain ⟨a1, a2, a3, a4, a5⟩ := h
  have hab := (ab_le (x := n) (m := 1099511627776)).2 ⟨a3, a4⟩
  have hab0 := ab_nn n
  refine Ev.pos rfl (Ev.bindc rfl (Ev.bind (digits_ev (ab n) (ab_nn n) (by omega)) ?_))
  have l1 := dec_len (u := (ab n).toNat) (by omega)
  have l2 := dec_len (u := d.toNat) (by omega)
  have ed : itoa d = decDigits d.toNat := if_neg (by omega)
  rw [bs_size]
  by_cases c : n < 0
  · have en : itoa n = 45 :: decDigits (ab n).toNat := by
      unfold itoa
      rw [if_pos c, ab_eq]; rfl
    refine Ev.pos c (Ev.pos (by omega) ?_)
    rw [en, ed]
    by_cases d1 : d > 1
    · rw [show (if d > 1 then 47 :: decDigits d.toNat else []) = 47 :: decDigits d.toNat from if_pos d1]
      refine Ev.pos d1 (Ev.pos (by omega) (Ev.bind (digits_ev d (by omega) (by omega)) ?_))
      rw [bs_size]
      refine Ev.pos (by omega) (Ev.const ?_)
      rw [show (⟨#[45]⟩ : ByteArray) = bs [45] from rfl, show (⟨#[47]⟩ : ByteArray) = bs [47] from rfl, bs_app, bs_app, bs_app]
      simp
    · rw [show (if d > 1 then 47 :: decDigits d.toNat else []) = [] from if_neg d1, List.append_nil]
      refine Ev.neg d1 (Ev.const ?_)
      rw [show (⟨#[45]⟩ : ByteArray) = bs [45] from rfl, bs_app]
      rfl
  · have en : itoa n = decDigits (ab n).toNat := by
      unfold itoa
      rw [if_neg c, ab_self (by omega)]
    refine Ev.neg c ?_
    rw [en, ed]
    by_cases d1 : d > 1
    · rw [show (if d > 1 then 47 :: decDigits d.toNat else []) = 47 :: decDigits d.toNat from if_pos d1]
      refine Ev.pos d1 (Ev.pos (by omega) (Ev.bind (digits_ev d (by omega) (by omega)) ?_))
      rw [bs_size]
      refine Ev.pos (by omega) (Ev.const ?_)
      rw [show (⟨#[47]⟩ : ByteArray) = bs [47] from rfl, bs_app, bs_app]
      simp
    · rw [show (if d > 1 then 47 :: decDigits d.toNat else []) = [] from if_neg d1, List.append_nil]
      exact Ev.neg d1 (Ev.now _)
/-- The number that digits begin with, and how many there are. -/
def numL : List UInt8 → Nat → Nat × Nat
  | [], n => (n, 0)
  | c :: r, n => if 48 ≤ c.toNat ∧ c.toNat ≤ 57 ∧ n < 1125899906842624 then ((numL r (n * 10 + (c.toNat - 48))).1, (numL r (n * 10 + (c.toNat - 48))).2 + 1) else (n, 0)
theorem numL_bd : ∀ (l : List UInt8) (n : Nat), n < 11258999068426250 → (numL l n).1 < 11258999068426250 ∧ (numL l n).2 ≤ l.length := by
  intro l
  induction l with
  | nil => intro n h; exact ⟨h, Nat.le_refl _⟩
  | cons c r ih =>
    intro n h
    unfold numL
    split
    · have := ih (n * 10 + (c.toNat - 48)) (by omega)
      simp only [List.length_cons]
      omega
    · exact ⟨h, Nat.zero_le _⟩
theorem numL_dig : ∀ (D R : List UInt8) (n : Nat), (∀ c ∈ D, isDig c) → val n D < 1125899906842624 → numL (D ++ R) n = ((numL R (val n D)).1, D.length + (numL R (val n D)).2) := by
  intro D
  induction D with
  | nil => intro R n _ _; simp [val]
  | cons c r ih =>
    intro R n hd hv
    have hc : 48 ≤ c.toNat ∧ c.toNat ≤ 57 := hd c (List.mem_cons_self ..)
    have e : val n (c :: r) = val (n * 10 + (c.toNat - 48)) r := rfl
    rw [e] at hv ⊢
    have hg := val_ge r (n * 10 + (c.toNat - 48))
    rw [List.cons_append, numL, if_pos (by omega), ih R _ (fun x hx => hd x (List.mem_cons_of_mem _ hx)) hv]
    simp only [List.length_cons]
    congr 1
    omega
theorem numL_stop {R : List UInt8} {n : Nat} (h : R = [] ∨ ∃ c r, R = c :: r ∧ ¬ isDig c) : numL R n = (n, 0) := by
  rcases h with rfl | ⟨c, r, rfl, hc⟩
  · rfl
  · unfold numL
    rw [if_neg (fun q => hc ⟨q.1, q.2.1⟩)]
theorem bt_drop {s : ByteArray} {i : Int} {c : UInt8} {r : List UInt8} (h : s.data.toList.drop i.toNat = c :: r) : bt s i = c.toNat ∧ i.toNat < s.size := by
  have hl : i.toNat < s.data.toList.length := by
    rcases Nat.lt_or_ge i.toNat s.data.toList.length with q | q
    · exact q
    · rw [List.drop_eq_nil_of_le q] at h; cases h
  have hs : i.toNat < s.size := by rw [← data_length]; exact hl
  refine ⟨?_, hs⟩
  have hg : s.data.toList[i.toNat] = c := by
    have := List.drop_eq_getElem_cons hl
    rw [h] at this
    injection this with q _
    exact q.symm
  unfold bt
  rw [dif_pos hs]
  have : s[i.toNat] = c := by rw [← hg]; rfl
  rw [this]
theorem number_l0 : ∀ (m : Nat) (s : ByteArray) (i : Int) (n : Nat), s.size ≤ 1000000 → 0 ≤ i → i ≤ s.size → s.size - i.toNat = m → n < 11258999068426250 →
    Ev (fun k => neumeref02_number.l0 k s i n) (((numL (s.data.toList.drop i.toNat) n).1 : Int), i + (numL (s.data.toList.drop i.toNat) n).2) := by
  intro m
  induction m with
  | zero =>
    intro s i n hs h0 h1 hm hn
    refine Ev.succ ?_
    simp only [neumeref02_number.l0]
    rw [List.drop_eq_nil_of_le (by rw [data_length]; omega)]
    refine Ev.neg (by omega) (Ev.const ?_)
    simp [numL]
  | succ m ih =>
    intro s i n hs h0 h1 hm hn
    refine Ev.succ ?_
    simp only [neumeref02_number.l0]
    match hD : s.data.toList.drop i.toNat with
    | [] =>
      have := congrArg List.length hD
      rw [List.length_drop, data_length] at this
      simp at this
      omega
    | c :: r =>
      obtain ⟨hb, hlt⟩ := bt_drop hD
      have hc := c.toNat_lt
      have hr : s.data.toList.drop (i + 1).toNat = r := by
        rw [show (i + 1).toNat = i.toNat + 1 by omega, ← List.drop_drop, hD]; rfl
      rw [hb]
      refine Ev.pos (by omega) (Ev.pos h0 ?_)
      unfold numL
      by_cases c1 : (c.toNat : Int) ≥ 48
      rotate_left
      · rw [if_neg (by omega)]
        refine Ev.to (Ev.neg c1 (Ev.now _)) ?_
        simp
      refine Ev.pos c1 ?_
      by_cases c2 : (c.toNat : Int) ≤ 57
      rotate_left
      · rw [if_neg (by omega)]
        refine Ev.to (Ev.neg c2 (Ev.now _)) ?_
        simp
      refine Ev.pos c2 ?_
      by_cases c3 : (n : Int) < 1125899906842624
      rotate_left
      · rw [if_neg (by omega)]
        refine Ev.to (Ev.neg c3 (Ev.now _)) ?_
        simp
      refine Ev.pos c3 ?_
      rw [if_pos (by omega)]
      have := ih s (i + 1) (n * 10 + (c.toNat - 48)) hs (by omega) (by omega) (by omega) (by omega)
      rw [hr] at this
      rw [wrap_id (x := i + 1) (by omega) (by omega), wrap_id (x := 10 * (n : Int)) (by omega) (by omega), wrap_id (x := 10 * (n : Int) + ((c.toNat : Int) - 48) % 256) (by omega) (by omega)]
      rw [show 10 * (n : Int) + ((c.toNat : Int) - 48) % 256 = ((n * 10 + (c.toNat - 48) : Nat) : Int) by omega]
      refine Ev.to this ?_
      simp only [Prod.mk.injEq, true_and]
      omega
theorem number_ev (s : ByteArray) (i : Int) (hs : s.size ≤ 1000000) (h0 : 0 ≤ i) (h1 : i ≤ s.size) :
    Ev (fun k => neumeref02_number.f k s i) (((numL (s.data.toList.drop i.toNat) 0).1 : Int), i + (numL (s.data.toList.drop i.toNat) 0).2) := number_l0 _ s i 0 hs h0 h1 rfl (by omega)
/-- The end of the reference's reading. -/
theorem j4_any (s : ByteArray) (n d : Int) (hn : -9223372036854775808 ≤ n ∧ n ≤ 9223372036854775807) : ∃ r, Ev (fun k => neumeref02_Parse.j4 k s n d) r ∧ Reads s r ∧ (Ok n d → bs (txt n d) = s → r = (n, d, true)) := by
  by_cases h : Ok n d
  · by_cases c : (bs (txt n d)).toList = s.toList
    · refine ⟨(n, d, true), Ev.succ ?_, .inr ⟨n, d, h, toList_inj c, rfl⟩, fun _ _ => rfl⟩
      simp only [neumeref02_Parse.j4]
      refine Ev.bind (check2_ev n d hn) ?_
      rw [decide_eq_true h]
      exact Ev.pos rfl (Ev.bind (text2_ev n d hn) (Ev.pos c (Ev.now _)))
    · refine ⟨(0, 0, false), Ev.succ ?_, .inl rfl, fun _ e => absurd (by rw [e]) c⟩
      simp only [neumeref02_Parse.j4]
      refine Ev.bind (check2_ev n d hn) ?_
      rw [decide_eq_true h]
      exact Ev.pos rfl (Ev.bind (text2_ev n d hn) (Ev.neg c (Ev.now _)))
  · refine ⟨(0, 0, false), Ev.succ ?_, .inl rfl, fun q => absurd q h⟩
    simp only [neumeref02_Parse.j4]
    refine Ev.bind (check2_ev n d hn) ?_
    rw [decide_eq_false h]
    exact Ev.neg (by decide) (Ev.now _)
/-- What the reference reads, in words of lists. -/
def at0 (s : ByteArray) : Nat := if s.data.toList.head? = some 45 then 1 else 0
def numN (s : ByteArray) : Int := if at0 s = 1 then -((numL (s.data.toList.drop (at0 s)) 0).1 : Int) else ((numL (s.data.toList.drop (at0 s)) 0).1 : Int)
def endN (s : ByteArray) : Nat := at0 s + (numL (s.data.toList.drop (at0 s)) 0).2
def denN (s : ByteArray) : Int := if (s.data.toList.drop (endN s)).head? = some 47 then ((numL (s.data.toList.drop (endN s + 1)) 0).1 : Int) else 1
theorem at0_le (s : ByteArray) : at0 s ≤ s.size := by
  unfold at0
  split
  · rename_i h
    rw [← data_length]
    match hl : s.data.toList with
    | [] => rw [hl] at h; cases h
    | c :: r => simp
  · omega
theorem parse2_to (s : ByteArray) (hs : s.size ≤ 1000000) (r : Int × Int × Bool) (h : Ev (fun k => neumeref02_Parse.j4 k s (numN s) (denN s)) r) : Ev (fun k => neumeref02_Parse.f k s) r := by
  have bd := numL_bd (s.data.toList.drop (at0 s)) 0 (by omega)
  have hend : endN s ≤ s.size := by
    have := bd.2
    rw [List.length_drop, data_length] at this
    have := at0_le s
    unfold endN
    omega
  have step2 : Ev (fun k => neumeref02_Parse.j2 k s (endN s) (numN s) 1) r := by
    refine Ev.succ ?_
    simp only [neumeref02_Parse.j2]
    have j3 : ∀ b : Bool, b = decide ((s.data.toList.drop (endN s)).head? = some 47) → Ev (fun k => neumeref02_Parse.j3 k s (endN s) b (numN s) 1) r := by
      intro b hb
      subst hb
      unfold denN at h
      by_cases c : (s.data.toList.drop (endN s)).head? = some 47
      · rw [if_pos c] at h
        rw [decide_eq_true c]
        refine Ev.succ ?_
        simp only [neumeref02_Parse.j3]
        have hlt : endN s < s.size := by
          rcases Nat.lt_or_ge (endN s) s.size with q | q
          · exact q
          · rw [List.drop_eq_nil_of_le (by rw [data_length]; exact q)] at c; cases c
        rw [wrap_id (x := ((endN s : Nat) : Int) + 1) (by omega) (by omega)]
        refine Ev.pos (by trivial) (Ev.bind (number_ev s (endN s + 1) hs (by omega) (by omega)) ?_)
        rw [show ((endN s : Int) + 1).toNat = endN s + 1 by omega]
        exact h
      · rw [if_neg c] at h
        rw [decide_eq_false c]
        refine Ev.succ ?_
        simp only [neumeref02_Parse.j3]
        exact Ev.neg (by simp) h
    by_cases c : (endN s : Int) < (s.size : Int)
    · refine Ev.pos c (Ev.pos (by omega) (j3 _ ?_))
      match hD : s.data.toList.drop (endN s) with
      | [] =>
        have := congrArg List.length hD
        rw [List.length_drop, data_length] at this
        simp at this
        omega
      | x :: q =>
        obtain ⟨hb, _⟩ := bt_drop (i := endN s) (by rw [Int.toNat_natCast]; exact hD)
        rw [hb]
        simp only [List.head?_cons, Option.some.injEq]
        by_cases e : x = 47
        · subst e; rfl
        · rw [decide_eq_false e]
          refine beq_eq_false_iff_ne.2 fun q => e ?_
          apply UInt8.toNat_inj.1
          show x.toNat = 47
          omega
    · refine Ev.neg c (j3 _ ?_)
      rw [List.drop_eq_nil_of_le (by rw [data_length]; omega)]
      rfl
  have step1 : Ev (fun k => neumeref02_Parse.j1 k s (at0 s) 0 1) r := by
    refine Ev.succ ?_
    simp only [neumeref02_Parse.j1]
    have := at0_le s
    refine Ev.bind (number_ev s (at0 s) hs (by omega) (by omega)) ?_
    rw [Int.toNat_natCast, show (at0 s : Int) + ((numL (s.data.toList.drop (at0 s)) 0).2 : Int) = (endN s : Int) by unfold endN; omega]
    by_cases c : at0 s = 1
    · have e : numN s = -((numL (s.data.toList.drop (at0 s)) 0).1 : Int) := if_pos c
      rw [wrap_id (x := -((numL (s.data.toList.drop (at0 s)) 0).1 : Int)) (by omega) (by omega), ← e]
      exact Ev.pos (by omega) step2
    · have e : numN s = ((numL (s.data.toList.drop (at0 s)) 0).1 : Int) := if_neg c
      rw [← e]
      exact Ev.neg (by omega) step2
  unfold neumeref02_Parse.f
  have j0 : ∀ b : Bool, b = decide (s.data.toList.head? = some 45) → Ev (fun k => neumeref02_Parse.j0 k s 0 b 0 1) r := by
    intro b hb
    subst hb
    refine Ev.succ ?_
    simp only [neumeref02_Parse.j0]
    unfold at0 at step1
    by_cases c : s.data.toList.head? = some 45
    · rw [if_pos c] at step1
      rw [decide_eq_true c]
      exact Ev.pos (by trivial) step1
    · rw [if_neg c] at step1
      rw [decide_eq_false c]
      exact Ev.neg (by simp) step1
  by_cases c : (s.size : Int) > 0
  · refine Ev.pos c (Ev.pos c (j0 _ ?_))
    match hD : s.data.toList with
    | [] =>
      have := congrArg List.length hD
      rw [data_length, List.length_nil] at this
      omega
    | x :: q =>
      obtain ⟨hb, _⟩ := bt_drop (s := s) (i := 0) (by rw [show (0 : Int).toNat = 0 from rfl, List.drop_zero]; exact hD)
      rw [hb]
      simp only [List.head?_cons, Option.some.injEq]
      by_cases e : x = 45
      · subst e; rfl
      · rw [decide_eq_false e]
        refine beq_eq_false_iff_ne.2 fun q => e ?_
        apply UInt8.toNat_inj.1
        show x.toNat = 45
        omega
  · refine Ev.neg c (j0 _ ?_)
    have : s.data.toList = [] := List.eq_nil_of_length_eq_zero (by rw [data_length]; omega)
    rw [this]; rfl
theorem numN_bd (s : ByteArray) : -9223372036854775808 ≤ numN s ∧ numN s ≤ 9223372036854775807 := by
  have bd := numL_bd (s.data.toList.drop (at0 s)) 0 (by omega)
  unfold numN
  split <;> omega
theorem parse2_any (s : ByteArray) (hs : s.size ≤ 1000000) : ∃ r, Ev (fun k => neumeref02_Parse.f k s) r ∧ Reads s r := by
  obtain ⟨r, h1, h2, _⟩ := j4_any s (numN s) (denN s) (numN_bd s)
  exact ⟨r, parse2_to s hs r h1, h2⟩
theorem parse2_yes (n d : Int) (h : Ok n d) : Ev (fun k => neumeref02_Parse.f k (bs (txt n d))) (n, d, true) := by
  have ht : txt n d = itoa n ++ (if d > 1 then 47 :: itoa d else []) := if_pos h
  have hb := h
  obtain ⟨a1, a2, a3, a4, a5⟩ := h
  have l1 := itoa_length_le n (by omega) (by omega)
  have l2 := itoa_length_le d (by omega) (by omega)
  have hlen : (txt n d).length ≤ 50 := by
    rw [ht, List.length_append]
    split
    · rw [List.length_cons]; omega
    · rw [List.length_nil]; omega
  have ed : itoa d = decDigits d.toNat := if_neg (by omega)
  -- what stands behind the digits
  generalize hR : (if d > 1 then 47 :: itoa d else []) = R at ht
  have stop : R = [] ∨ ∃ c r, R = c :: r ∧ ¬ isDig c := by
    rw [← hR]
    split
    · exact .inr ⟨47, _, rfl, by decide⟩
    · exact .inl rfl
  have hdat : (bs (txt n d)).data.toList = txt n d := rfl
  have parts : numN (bs (txt n d)) = n ∧ (txt n d).drop (endN (bs (txt n d))) = R := by
    by_cases c : n < 0
    · have en : itoa n = 45 :: decDigits n.natAbs := if_pos c
      have e0 : at0 (bs (txt n d)) = 1 := by
        unfold at0
        rw [hdat, ht, en]; rfl
      have e1 : (txt n d).drop 1 = decDigits n.natAbs ++ R := by rw [ht, en]; rfl
      have e2 : numL (decDigits n.natAbs ++ R) 0 = (n.natAbs, (decDigits n.natAbs).length) := by
        rw [numL_dig _ _ _ (dec_dig _) (by rw [val_dec]; omega), val_dec, numL_stop stop]; rfl
      constructor
      · unfold numN
        rw [e0, hdat, e1, e2]
        simp only [if_true]
        omega
      · unfold endN
        rw [e0, hdat, e1, e2, ← List.drop_drop, e1]
        simp
    · have en : itoa n = decDigits n.toNat := if_neg c
      have e0 : at0 (bs (txt n d)) = 0 := by
        unfold at0
        rw [hdat, ht, en, if_neg]
        have hd := dec_dig n.toNat
        have hne := dec_ne n.toNat
        match hl : decDigits n.toNat with
        | [] => exact absurd hl hne
        | x :: r =>
          rw [hl] at hd
          have hx : 48 ≤ x.toNat ∧ x.toNat ≤ 57 := hd x (List.mem_cons_self ..)
          simp only [List.cons_append, List.head?_cons, Option.some.injEq]
          rintro rfl
          exact absurd hx (by decide)
      have e1 : (txt n d).drop 0 = decDigits n.toNat ++ R := by rw [ht, en]; rfl
      have e2 : numL (decDigits n.toNat ++ R) 0 = (n.toNat, (decDigits n.toNat).length) := by
        rw [numL_dig _ _ _ (dec_dig _) (by rw [val_dec]; omega), val_dec, numL_stop stop]; rfl
      constructor
      · unfold numN
        rw [e0, hdat, e1, e2]
        simp only [if_neg (show ¬ (0 : Nat) = 1 by omega)]
        omega
      · unfold endN
        rw [e0, hdat, e1, e2, ← List.drop_drop, e1]
        simp
  have hden : denN (bs (txt n d)) = d := by
    unfold denN
    rw [hdat, ← List.drop_drop, parts.2, ← hR]
    by_cases d1 : d > 1
    · rw [if_pos d1]
      rw [if_pos (show (47 :: itoa d).head? = some 47 from rfl), ed, show (47 :: decDigits d.toNat).drop 1 = decDigits d.toNat ++ [] by simp, numL_dig _ _ _ (dec_dig _) (by rw [val_dec]; omega), val_dec, numL_stop (.inl rfl)]
      simp only
      omega
    · rw [if_neg d1, if_neg (by simp)]
      omega
  obtain ⟨r, h1, h2, h3⟩ := j4_any (bs (txt n d)) n d (by omega)
  obtain rfl := h3 hb rfl
  refine parse2_to _ (by rw [bs_size]; omega) _ ?_
  rw [parts.1, hden]
  exact h1
end Go.Proofs.YtmbdbinbdiiapaaDoor.Rp
