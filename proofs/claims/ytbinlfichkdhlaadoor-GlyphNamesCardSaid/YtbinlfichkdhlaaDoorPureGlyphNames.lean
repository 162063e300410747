/- The law GlyphNames of layer 5: a glyph's name names it, and no other one. -/
import Derived.Test.YtbinlfichkdhlaaDoorStatGlyphNames
import Derived.Test.YtbinlfichkdhlaaDoorPx8
import Derived.Test.YtbinlfichkdhlaaDoorPx4
import Derived.Test.YtbinlfichkdhlaaDoorEv
import Derived.Lib.Strings
namespace Go.Proofs.YtbinlfichkdhlaaDoor.Pure
open Go.RowKit Go.Proofs.YtbinlfichkdhlaaDoor.P Go.Proofs.YtbinlfichkdhlaaDoor.Rp Go.Proofs.YtbinlfichkdhlaaDoorW.PrintWords Go.Proofs.YtbinlfichkdhlaaDoorW.PrintLast
set_option linter.unusedVariables false
theorem heads_bind : Ev (fun k => (neumelaw05_heads.f k).bind fun t => some t) true := Ev.some_bind (Ev.of neumelaw05_heads.mono neumelaw05_heads.at)
theorem wrap_id {x : Int} (h1 : -9223372036854775808 ≤ x) (h2 : x ≤ 9223372036854775807) : wrap64 x = x := by unfold wrap64; omega
/-- All names. -/
def nmL : List (List UInt8) := [[98, 114, 101, 118, 101], [119, 104, 111, 108, 101], [104, 97, 108, 102], [98, 108, 97, 99, 107], [114, 101, 115, 116, 45, 98, 114, 101, 118, 101], [114, 101, 115, 116, 45, 49], [114, 101, 115, 116, 45, 50], [114, 101, 115, 116, 45, 52], [114, 101, 115, 116, 45, 56], [114, 101, 115, 116, 45, 49, 54], [114, 101, 115, 116, 45, 51, 50], [114, 101, 115, 116, 45, 54, 52], [117, 112, 45, 56], [117, 112, 45, 49, 54], [117, 112, 45, 51, 50], [117, 112, 45, 54, 52], [100, 111, 119, 110, 45, 56], [100, 111, 119, 110, 45, 49, 54], [100, 111, 119, 110, 45, 51, 50], [100, 111, 119, 110, 45, 54, 52], [115, 104, 97, 114, 112], [102, 108, 97, 116], [110, 97, 116, 117, 114, 97, 108], [100, 111, 117, 98, 108, 101, 45, 115, 104, 97, 114, 112], [100, 111, 117, 98, 108, 101, 45, 102, 108, 97, 116], [116, 114, 101, 98, 108, 101], [98, 97, 115, 115], [97, 108, 116, 111], [116, 101, 110, 111, 114], [48], [49], [50], [51], [52], [53], [54], [55], [56], [57], [100, 111, 116], [98, 97, 114], [98, 97, 114, 45, 100, 111, 117, 98, 108, 101], [98, 97, 114, 45, 101, 110, 100], [112], [109], [102], [98, 114, 97, 99, 101]]
def nm (g : Int) : List UInt8 := if 1 ≤ g ∧ g ≤ 47 then nmL.getD (g - 1).toNat [] else []
theorem name_l : ((List.range 47).all fun n => decide (((nameAt ((n : Int) + 1)).map fun q => q.2.2.2) = some (nmL.getD n []))) = true := by kernel_rfl
theorem name_two : ((List.range 47).all fun a => (List.range 47).all fun b => decide (nmL.getD a [] = nmL.getD b [] → a = b)) = true := by kernel_rfl
theorem name_some : ((List.range 47).all fun a => decide (nmL.getD a [] ≠ [])) = true := by kernel_rfl
theorem toL (l : List UInt8) : (⟨l.toArray⟩ : ByteArray).toList = l := by
  rw [Go.Lib.toList_data]
theorem name_eq (g : Int) : glyph_Name.f g = some ⟨(nm g).toArray⟩ := by
  unfold glyph_Name.f nm
  by_cases c : 1 ≤ g ∧ g ≤ 47
  · rw [if_pos c, if_pos c]
    have h := of_decide_eq_true (List.all_eq_true.1 name_l (g - 1).toNat (List.mem_range.2 (by omega)))
    rw [show (((g - 1).toNat : Nat) : Int) + 1 = g by omega] at h
    obtain ⟨q, h1, h2⟩ := Option.map_eq_some_iff.1 h
    rw [h1, ← h2]
    rfl
  · rw [if_neg c, if_neg c]
    rfl
theorem nm_in {g : Int} (h : 1 ≤ g ∧ g ≤ 47) : nm g = nmL.getD (g - 1).toNat [] := by unfold nm; rw [if_pos h]
theorem nm_inj {g h : Int} (hg : 1 ≤ g ∧ g ≤ 47) (hh : 1 ≤ h ∧ h ≤ 47) (e : nm g = nm h) : g = h := by
  rw [nm_in hg, nm_in hh] at e
  have q := of_decide_eq_true (List.all_eq_true.1 (List.all_eq_true.1 name_two (g - 1).toNat (List.mem_range.2 (by omega))) (h - 1).toNat (List.mem_range.2 (by omega))) e
  omega
theorem nm_ne {g : Int} (hg : 1 ≤ g ∧ g ≤ 47) : nm g ≠ [] := by
  rw [nm_in hg]
  exact of_decide_eq_true (List.all_eq_true.1 name_some (g - 1).toNat (List.mem_range.2 (by omega)))
theorem known_eq (g : Int) : glyph_Known.f g = some (decide (1 ≤ g ∧ g ≤ 47)) := by
  unfold glyph_Known.f
  by_cases c : g ≥ 1
  · rw [if_pos c]; congr 1; exact decide_eq_decide.2 ⟨fun q => ⟨c, q⟩, fun q => q.2⟩
  · rw [if_neg c]; congr 1; exact (decide_eq_false (fun q => c q.1)).symm
theorem by_hit {g : Int} (hg : 1 ≤ g ∧ g ≤ 47) : ∀ (d : Nat) (i : Int), 1 ≤ i → i + d = g → Ev (fun k => glyph_ByName.l0 k ⟨(nm g).toArray⟩ i) (g, true) := by
  intro d
  induction d with
  | zero =>
    intro i h1 h2
    obtain rfl : i = g := by omega
    refine Ev.succ ?_
    simp only [glyph_ByName.l0]
    exact Ev.pos (by omega) (Ev.bindc (name_eq i) (Ev.pos rfl (Ev.now _)))
  | succ d ih =>
    intro i h1 h2
    refine Ev.succ ?_
    simp only [glyph_ByName.l0]
    rw [wrap_id (x := i + 1) (by omega) (by omega)]
    refine Ev.pos (by omega) (Ev.bindc (name_eq i) (Ev.neg (fun q => ?_) (ih (i + 1) (by omega) (by omega))))
    rw [toL, toL] at q
    have := nm_inj (by omega) hg q
    omega
theorem by_miss : ∀ (d : Nat) (i : Int), 1 ≤ i → i + d = 48 → Ev (fun k => glyph_ByName.l0 k ⟨([] : List UInt8).toArray⟩ i) (0, false) := by
  intro d
  induction d with
  | zero =>
    intro i h1 h2
    refine Ev.succ ?_
    simp only [glyph_ByName.l0]
    exact Ev.neg (by omega) (Ev.now _)
  | succ d ih =>
    intro i h1 h2
    refine Ev.succ ?_
    simp only [glyph_ByName.l0]
    rw [wrap_id (x := i + 1) (by omega) (by omega)]
    refine Ev.pos (by omega) (Ev.bindc (name_eq i) (Ev.neg (fun q => ?_) (ih (i + 1) (by omega) (by omega))))
    rw [toL, toL] at q
    exact nm_ne (by omega) q
theorem byname_ev (g : Int) : Ev (fun k => glyph_ByName.f k ⟨(nm g).toArray⟩) (if 1 ≤ g ∧ g ≤ 47 then (g, true) else (0, false)) := by
  unfold glyph_ByName.f
  by_cases c : 1 ≤ g ∧ g ≤ 47
  · rw [if_pos c]
    exact by_hit c (g - 1).toNat 1 (by omega) (by omega)
  · rw [if_neg c]
    have e : nm g = [] := by unfold nm; rw [if_neg c]
    rw [e]
    exact by_miss 47 1 (by omega) (by omega)
theorem GlyphNames : GlyphNames_Pure := by
  intro g h _ _
  suffices h : Ev (fun k => neumelaw05_GlyphNames.f k g h) true by
    obtain ⟨k, hk⟩ := h
    exact ⟨k, hk k (Nat.le_refl _)⟩
  have j0 : Ev (fun k => neumelaw05_GlyphNames.j0 k g h false) true := by
    refine Ev.succ ?_
    simp only [neumelaw05_GlyphNames.j0]
    refine Ev.neg (by simp) (Ev.bindc (known_eq g) ?_)
    by_cases c : 1 ≤ g ∧ g ≤ 47
    · refine Ev.pos (decide_eq_true c) (Ev.bindc (known_eq h) ?_)
      by_cases c2 : 1 ≤ h ∧ h ≤ 47
      · refine Ev.pos (decide_eq_true c2) (Ev.bindc (name_eq g) (Ev.bindc (name_eq h) (Ev.pos ?_ heads_bind)))
        rw [toL, toL]
        by_cases e : g = h
        · subst e; simp
        · have n : nm g ≠ nm h := fun q => e (nm_inj c c2 q)
          have e1 : (nm g == nm h) = false := beq_eq_false_iff_ne.2 n
          have e2 : (g == h) = false := beq_eq_false_iff_ne.2 e
          rw [e1, e2]; rfl
      · exact Ev.neg (by rw [decide_eq_false c2]; decide) heads_bind
    · exact Ev.neg (by rw [decide_eq_false c]; decide) heads_bind
  unfold neumelaw05_GlyphNames.f
  refine Ev.bindc (name_eq g) (Ev.bind (byname_ev g) (Ev.bindc (known_eq g) ?_))
  by_cases c : 1 ≤ g ∧ g ≤ 47
  · rw [if_pos c, decide_eq_true c]
    refine Ev.neg (by simp) (Ev.pos rfl ?_)
    simpa using j0
  · rw [if_neg c, decide_eq_false c]
    exact Ev.neg (by decide) (Ev.neg (by decide) j0)
end Go.Proofs.YtbinlfichkdhlaaDoor.Pure
