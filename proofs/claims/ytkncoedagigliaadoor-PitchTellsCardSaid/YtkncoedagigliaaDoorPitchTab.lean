/- The names of all pitches: the program's, the document's, and reading them. -/
import Derived.Test.YtkncoedagigliaaDoorPitchPlain
import Derived.Test.YtkncoedagigliaaDoorPx3
import Derived.Test.YtkncoedagigliaaDoorPx2
namespace Go.Proofs.YtkncoedagigliaaDoor.Rp
open Go.RowKit Go.Proofs.YtkncoedagigliaaDoor.P Go.Proofs.YtkncoedagigliaaDoorW.PrintWords Go.Proofs.YtkncoedagigliaaDoorW.PrintLast Go.Proofs.YtkncoedagigliaaDoorW.PrintMore
set_option linter.unusedVariables false
set_option linter.unusedSimpArgs false
theorem toList_inj {s t : ByteArray} (h : s.toList = t.toList) : s = t := by
  rw [Go.Lib.toList_data, Go.Lib.toList_data] at h
  cases s; cases t
  simp only at h
  congr 1
  exact Array.toList_inj.1 h
theorem tab_back : ((List.range 7).all fun (s : Nat) => (List.range 5).all fun (a : Nat) => (List.range 10).all fun (o : Nat) => decide ((pitch_Name.f (s : Int) ((a : Int) - 2) (o : Int)).bind pitch_Parse.f = some ((s : Int), (a : Int) - 2, (o : Int), true))) = true := by decide +kernel
theorem parse_name {s a o : Int} (h : okP s a o) : (pitch_Name.f s a o).bind pitch_Parse.f = some (s, a, o, true) := by
  obtain ⟨h1, h2, h3, h4, h5, h6⟩ := h
  have t := List.all_eq_true.1 tab_back s.toNat (List.mem_range.2 (by omega))
  have t := List.all_eq_true.1 t (a + 2).toNat (List.mem_range.2 (by omega))
  have t := of_decide_eq_true (List.all_eq_true.1 t o.toNat (List.mem_range.2 (by omega)))
  rw [show ((s.toNat : Nat) : Int) = s by omega, show (((a + 2).toNat : Nat) : Int) - 2 = a by omega, show ((o.toNat : Nat) : Int) = o by omega] at t
  exact t
theorem name_ok {s a o : Int} (h : okP s a o) : ∃ t, pitch_Name.f s a o = some t ∧ pitch_Parse.f t = some (s, a, o, true) := by
  have := parse_name h
  cases hn : pitch_Name.f s a o with
  | none => rw [hn] at this; cases this
  | some t => rw [hn] at this; exact ⟨t, rfl, this⟩
theorem name_no {s a o : Int} (h : ¬ okP s a o) : pitch_Name.f s a o = some ⟨#[]⟩ := by
  unfold pitch_Name.f
  rw [check_eq, Option.bind_some, if_neg (by rw [decide_eq_true_eq]; exact h)]
theorem name_any (s a o : Int) : ∃ t, pitch_Name.f s a o = some t := by
  by_cases h : okP s a o
  · obtain ⟨t, ht, _⟩ := name_ok h; exact ⟨t, ht⟩
  · exact ⟨_, name_no h⟩
theorem parse_empty : pitch_Parse.f ⟨#[]⟩ = some (0, 0, 0, false) := by decide +kernel
end Go.Proofs.YtkncoedagigliaaDoor.Rp
