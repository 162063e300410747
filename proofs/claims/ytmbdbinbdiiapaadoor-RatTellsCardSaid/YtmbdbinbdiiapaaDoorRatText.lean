/- Fractions: how they are written, and read, by rat and by its reference: plain values. -/
import Derived.Test.YtmbdbinbdiiapaaDoorPx6
import Derived.Test.YtmbdbinbdiiapaaDoorRatB
import Derived.Lib.ItoaLen
import Derived.Lib.AtoiAll
import Derived.Lib.IndexBytes
import Derived.Lib.IndexMore
import Derived.Laws.Strings
namespace Go.Proofs.YtmbdbinbdiiapaaDoor.Rp
open Go.RowKit Go.Proofs.YtmbdbinbdiiapaaDoor.P Go.Proofs.YtmbdbinbdiiapaaDoorW.PrintWords Go.Proofs.YtmbdbinbdiiapaaDoorW.PrintLast Go.Proofs.YtmbdbinbdiiapaaDoorW.PrintMore Go.Lib
set_option linter.unusedVariables false
set_option linter.unusedSimpArgs false

/-- A string of bytes. -/
def bs (l : List UInt8) : ByteArray := ⟨l.toArray⟩
theorem bs_toList (l : List UInt8) : (bs l).toList = l := by rw [Go.Lib.toList_data]; rfl
theorem bs_size (l : List UInt8) : (bs l).size = l.length := by rw [← data_length]; rfl
theorem bs_app (a b : List UInt8) : bs a ++ bs b = bs (a ++ b) := by
  apply ByteArray.ext
  rw [ByteArray.data_append]
  simp [bs]
theorem bs_data (s : ByteArray) : bs s.data.toList = s := by cases s; simp [bs]
theorem bs_inj {a b : List UInt8} (h : bs a = bs b) : a = b := by
  have := congrArg ByteArray.toList h
  rwa [bs_toList, bs_toList] at this
/-- A fraction, written. -/
def txt (n d : Int) : List UInt8 := if Ok n d then itoa n ++ (if d > 1 then 47 :: itoa d else []) else []
theorem itoa_eq {n : Int} (h1 : -9223372036854775808 ≤ n) (h2 : n ≤ 9223372036854775807) : strconv_Itoa.f n = some (bs (itoa n)) := by
  unfold strconv_Itoa.f
  rw [if_pos ⟨h1, h2⟩]; rfl
theorem text_ev (n d : Int) (hn : -9223372036854775808 ≤ n ∧ n ≤ 9223372036854775807) : Ev (fun k => rat_Text.f k n d) (bs (txt n d)) := by
  unfold rat_Text.f
  refine Ev.bind (check_ev n d hn) ?_
  unfold txt
  by_cases h : Ok n d
  rotate_left
  · rw [decide_eq_false h, if_neg h]
    exact Ev.neg (by decide) (Ev.now _)
  rw [decide_eq_true h, if_pos h, itoa_eq hn.1 hn.2]
  obtain ⟨a1, a2, a3, a4, a5⟩ := h
  refine Ev.pos rfl (Ev.bindc rfl ?_)
  by_cases d1 : d > 1
  · rw [show (if d > 1 then 47 :: itoa d else []) = 47 :: itoa d from if_pos d1]
    refine Ev.pos d1 ?_
    rw [itoa_eq (by omega) (by omega)]
    have l1 := itoa_length_le n hn.1 hn.2
    have l2 := itoa_length_le d (by omega) (by omega)
    refine Ev.bindc rfl (Ev.const ?_)
    rw [bs_size, bs_size, if_pos (by omega), if_pos (by omega)]
    rw [show (⟨#[47]⟩ : ByteArray) = bs [47] from rfl, bs_app, bs_app]
    rfl
  · rw [show (if d > 1 then 47 :: itoa d else []) = [] from if_neg d1, List.append_nil]
    exact Ev.neg d1 (Ev.now _)

/-- Is it a digit? -/
def isDig (c : UInt8) : Prop := 48 ≤ c.toNat ∧ c.toNat ≤ 57
instance (c : UInt8) : Decidable (isDig c) := by unfold isDig; exact inferInstance
theorem dig_ofNat {i : Nat} (h : i < 10) : (UInt8.ofNat (48 + i)).toNat = 48 + i := by rw [UInt8.toNat_ofNat']; omega
theorem dec_dig : ∀ (u : Nat), ∀ c ∈ decDigits u, isDig c := by
  intro u
  induction u using Nat.strongRecOn with
  | _ u ih =>
    intro c hc
    rw [decDigits] at hc
    split at hc
    · rename_i h
      rw [List.mem_singleton] at hc
      subst hc
      unfold isDig
      rw [dig_ofNat h]; omega
    · rename_i h
      rcases List.mem_append.1 hc with q | q
      · exact ih (u / 10) (by omega) c q
      · rw [List.mem_singleton] at q
        subst q
        unfold isDig
        rw [dig_ofNat (Nat.mod_lt _ (by omega))]; omega
theorem dec_ne (u : Nat) : decDigits u ≠ [] := by
  rw [decDigits]
  split <;> simp
/-- What digits come to, behind n. -/
def val (n : Nat) (l : List UInt8) : Nat := l.foldl (fun a c => a * 10 + (c.toNat - 48)) n
theorem val_dec : ∀ (u : Nat), val 0 (decDigits u) = u := by
  intro u
  induction u using Nat.strongRecOn with
  | _ u ih =>
    rw [decDigits]
    split
    · rename_i h
      simp only [val, List.foldl_cons, List.foldl_nil]
      rw [dig_ofNat h]; omega
    · rename_i h
      have := ih (u / 10) (by omega)
      unfold val at this ⊢
      rw [List.foldl_append, this]
      simp only [List.foldl_cons, List.foldl_nil]
      rw [dig_ofNat (Nat.mod_lt _ (by omega))]; omega
theorem val_ge : ∀ (l : List UInt8) (n : Nat), n ≤ val n l := by
  intro l
  induction l with
  | nil => intro n; exact Nat.le_refl _
  | cons c r ih =>
    intro n
    have := ih (n * 10 + (c.toNat - 48))
    unfold val at this ⊢
    simp only [List.foldl_cons]
    omega
theorem no47 {l : List UInt8} (h : ∀ c ∈ l, isDig c ∨ c = 45) : (47 : UInt8) ∉ l := by
  intro hm
  rcases h _ hm with q | q
  · exact absurd q (by decide)
  · exact absurd q (by decide)
theorem itoa_bytes (n : Int) : ∀ c ∈ itoa n, isDig c ∨ c = 45 := by
  intro c hc
  unfold itoa at hc
  split at hc
  · rcases List.mem_cons.1 hc with q | q
    · exact .inr q
    · exact .inl (dec_dig _ c q)
  · exact .inl (dec_dig _ c hc)
theorem indexByte_app {A B : List UInt8} (h : (47 : UInt8) ∉ A) : indexByte (A ++ 47 :: B) 47 = A.length := by
  induction A with
  | nil => rfl
  | cons c r ih =>
    have h1 : c ≠ 47 := fun q => h (by rw [q]; exact List.mem_cons_self ..)
    have h2 : (47 : UInt8) ∉ r := fun q => h (List.mem_cons_of_mem _ q)
    have := ih h2
    simp only [List.cons_append, indexByte, this]
    rw [if_neg (by simpa using h1), if_neg (by simp <;> omega)]
    simp only [List.length_cons]
    omega
theorem indexByte_no {A : List UInt8} (h : (47 : UInt8) ∉ A) : indexByte A 47 = -1 := by
  induction A with
  | nil => rfl
  | cons c r ih =>
    have h1 : c ≠ 47 := fun q => h (by rw [q]; exact List.mem_cons_self ..)
    have h2 : (47 : UInt8) ∉ r := fun q => h (List.mem_cons_of_mem _ q)
    simp only [indexByte, ih h2]
    rw [if_neg (by simpa using h1), if_pos (by decide)]
theorem cut_app {A B : List UInt8} (h : (47 : UInt8) ∉ A) : cut (A ++ 47 :: B) [47] = (A, B, true) := by
  unfold cut
  rw [index_one, indexByte_app h, if_pos (by omega)]
  simp
theorem cut_no {A : List UInt8} (h : (47 : UInt8) ∉ A) : cut A [47] = (A, [], false) := by
  unfold cut
  rw [index_one, indexByte_no h, if_neg (by omega)]
theorem parse10 : ∀ (l : List UInt8) (n : Nat), (∀ c ∈ l, isDig c) → val n l < 1125899906842624 → parseUint10 n l = .ok (val n l) := by
  intro l
  induction l with
  | nil => intro n _ _; rfl
  | cons c r ih =>
    intro n hd hv
    have hc := hd c (List.mem_cons_self ..)
    have hg := val_ge r (n * 10 + (c.toNat - 48))
    have e : val n (c :: r) = val (n * 10 + (c.toNat - 48)) r := rfl
    rw [e] at hv ⊢
    have h1 : 48 ≤ c.toNat ∧ c.toNat ≤ 57 := hc
    rw [parseUint10, if_pos h1, if_neg (by omega), if_neg (by omega)]
    exact ih _ (fun x hx => hd x (List.mem_cons_of_mem _ hx)) hv
theorem atoi_itoa {n : Int} (h : -1125899906842623 ≤ n ∧ n ≤ 1125899906842623) : atoiAll (itoa n) = .ok n := by
  unfold itoa
  split
  · rename_i hn
    have e : parseMag (decDigits n.natAbs) = .ok n.natAbs := by
      unfold parseMag
      rw [if_neg (dec_ne _), parse10 _ _ (dec_dig _) (by rw [val_dec]; omega), val_dec]
    simp only [atoiAll]
    rw [show (45 : UInt8).toNat = 45 from rfl, if_pos (by omega), e]
    simp only [not_true_eq_false, false_and, if_false, true_and, if_true]
    rw [if_neg (by omega)]
    congr 1
    omega
  · rename_i hn
    have e : parseMag (decDigits n.toNat) = .ok n.toNat := by
      unfold parseMag
      rw [if_neg (dec_ne _), parse10 _ _ (dec_dig _) (by rw [val_dec]; omega), val_dec]
    have hd := dec_dig n.toNat
    have hne := dec_ne n.toNat
    generalize decDigits n.toNat = l at *
    match l with
    | [] => exact absurd rfl hne
    | c :: r =>
      have hc : 48 ≤ c.toNat ∧ c.toNat ≤ 57 := hd c (List.mem_cons_self ..)
      simp only [atoiAll]
      rw [if_neg (show ¬ (c.toNat = 43 ∨ c.toNat = 45) by omega), e]
      have q : ¬ c.toNat = 45 := by omega
      simp only [q, not_false_eq_true, true_and, false_and, if_false]
      rw [if_neg (by omega)]
      congr 1
      omega
theorem atoi_range {l : List UInt8} {v : Int} (h : atoiAll l = .ok v) : -9223372036854775808 ≤ v ∧ v ≤ 9223372036854775807 := by
  unfold atoiAll at h
  split at h
  · cases h
  · simp only at h
    split at h
    · cases h
    · cases h
    · rename_i u hu
      split at h
      · cases h
      · split at h
        · cases h
        · injection h with h
          rename_i c1 c2
          split at h
          · rename_i c3
            have : ¬ 9223372036854775808 < u := fun q => c2 ⟨c3, q⟩
            omega
          · rename_i c3
            have : ¬ 9223372036854775808 ≤ u := fun q => c1 ⟨c3, q⟩
            omega
/-- What is written is read. -/
theorem parse_yes (n d : Int) (h : Ok n d) : Ev (fun k => rat_Parse.f k (bs (txt n d))) (n, d, true) := by
  have ht : txt n d = itoa n ++ (if d > 1 then 47 :: itoa d else []) := if_pos h
  have hb := h
  obtain ⟨a1, a2, a3, a4, a5⟩ := h
  have l1 := itoa_length_le n (by omega) (by omega)
  have l2 := itoa_length_le d (by omega) (by omega)
  have hlen : (txt n d).length ≤ 50 := by
    rw [ht, List.length_append]
    split
    · rw [List.length_cons]; omega
    · rw [List.length_nil]; omega
  have hne : txt n d ≠ [] := by
    rw [ht]
    unfold itoa
    split
    · simp
    · intro q
      exact dec_ne _ (List.append_eq_nil_iff.1 q).1
  have n47 := no47 (itoa_bytes n)
  have fin : Ev (fun k => parse_end k (bs (txt n d)) n d) (n, d, true) := by
    unfold parse_end
    refine Ev.bind (text_ev n d (by omega)) (Ev.pos rfl (Ev.neg ?_ (Ev.now _)))
    rw [bs_toList, show (⟨#[]⟩ : ByteArray).toList = [] from bs_toList []]
    exact hne
  have hA : atoiV (bs (itoa n)) = some n := by
    unfold atoiV
    rw [show (bs (itoa n)).data.toList = itoa n from rfl, atoi_itoa (by omega)]
  have hB : atoiV (bs (itoa d)) = some d := by
    unfold atoiV
    rw [show (bs (itoa d)).data.toList = itoa d from rfl, atoi_itoa (by omega)]
  unfold rat_Parse.f
  rw [bs_size]
  refine Ev.pos (by omega) ?_
  have hdat : (bs (txt n d)).data.toList = txt n d := rfl
  by_cases d1 : d > 1
  · have hc : cut (txt n d) [47] = (itoa n, itoa d, true) := by rw [ht, if_pos d1]; exact cut_app n47
    have e1 : cutA (bs (txt n d)) = bs (itoa n) := by unfold cutA; rw [hdat, hc]; rfl
    have e2 : cutB (bs (txt n d)) = bs (itoa d) := by unfold cutB; rw [hdat, hc]; rfl
    have e3 : cutC (bs (txt n d)) = true := by unfold cutC; rw [hdat, hc]
    rw [e1, e2, e3, hA, hB]
    exact Ev.pos rfl fin
  · have hc : cut (txt n d) [47] = (itoa n, [], false) := by rw [ht, if_neg d1, List.append_nil]; exact cut_no n47
    have e1 : cutA (bs (txt n d)) = bs (itoa n) := by unfold cutA; rw [hdat, hc]; rfl
    have e3 : cutC (bs (txt n d)) = false := by unfold cutC; rw [hdat, hc]
    rw [e1, e3, hA]
    obtain rfl : d = 1 := by omega
    exact Ev.neg (by decide) fin
/-- What is read is written so, or is none. -/
def Reads (s : ByteArray) (r : Int × Int × Bool) : Prop := r = (0, 0, false) ∨ ∃ n d, Ok n d ∧ bs (txt n d) = s ∧ r = (n, d, true)
theorem atoiV_range {s : ByteArray} {v : Int} (h : atoiV s = some v) : -9223372036854775808 ≤ v ∧ v ≤ 9223372036854775807 := by
  unfold atoiV at h
  split at h
  · rename_i u hu
    obtain rfl := Option.some.inj h
    exact atoi_range hu
  · cases h
theorem toList_inj {s t : ByteArray} (h : s.toList = t.toList) : s = t := by
  rw [Go.Lib.toList_data, Go.Lib.toList_data] at h
  rw [← bs_data s, ← bs_data t, h]
theorem end_any (s : ByteArray) (n d : Int) (hn : -9223372036854775808 ≤ n ∧ n ≤ 9223372036854775807) : ∃ r, Ev (fun k => parse_end k s n d) r ∧ Reads s r := by
  unfold parse_end
  by_cases c : (bs (txt n d)).toList = s.toList
  · by_cases c' : s.toList = (⟨#[]⟩ : ByteArray).toList
    · exact ⟨_, Ev.bind (text_ev n d hn) (Ev.pos c (Ev.pos c' (Ev.now _))), .inl rfl⟩
    · refine ⟨_, Ev.bind (text_ev n d hn) (Ev.pos c (Ev.neg c' (Ev.now _))), .inr ⟨n, d, ?_, toList_inj c, rfl⟩⟩
      refine Decidable.byContradiction fun h => c' ?_
      rw [← c, show txt n d = [] from if_neg h]
      rfl
  · exact ⟨_, Ev.bind (text_ev n d hn) (Ev.neg c (Ev.now _)), .inl rfl⟩
theorem parse_any (s : ByteArray) (hs : s.size < 4294967281) : ∃ r, Ev (fun k => rat_Parse.f k s) r ∧ Reads s r := by
  unfold rat_Parse.f
  cases hA : atoiV (cutA s) with
  | none => exact ⟨_, Ev.pos hs (Ev.now _), .inl rfl⟩
  | some n =>
    have hn := atoiV_range hA
    by_cases hC : cutC s = true
    · cases hB : atoiV (cutB s) with
      | none => exact ⟨_, Ev.pos hs (Ev.pos hC (Ev.now _)), .inl rfl⟩
      | some d =>
        obtain ⟨r, h1, h2⟩ := end_any s n d hn
        exact ⟨r, Ev.pos hs (Ev.pos hC h1), h2⟩
    · obtain ⟨r, h1, h2⟩ := end_any s n 1 hn
      exact ⟨r, Ev.pos hs (Ev.neg hC h1), h2⟩
theorem parse_none (h : txt 0 0 = []) : Ev (fun k => rat_Parse.f k (bs [])) (0, 0, false) := by
  obtain ⟨r, h1, h2⟩ := parse_any (bs []) (by decide)
  rcases h2 with rfl | ⟨n, d, ok, e, rfl⟩
  · exact h1
  · have e2 := bs_inj e
    have : txt n d = itoa n ++ (if d > 1 then 47 :: itoa d else []) := if_pos ok
    rw [this] at e2
    have e3 := (List.append_eq_nil_iff.1 e2).1
    unfold itoa at e3
    split at e3
    · cases e3
    · exact absurd e3 (dec_ne _)
end Go.Proofs.YtmbdbinbdiiapaaDoor.Rp
