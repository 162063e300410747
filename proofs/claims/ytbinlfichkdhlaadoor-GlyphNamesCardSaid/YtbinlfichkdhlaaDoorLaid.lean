/- What the card's condition gives a walk: the variable that holds the type of errors, the table of blanks; a world that meets it. After the kit's worked proof of errors.As. -/
import Derived.Test.YtbinlfichkdhlaaDoorRows
import Derived.Test.YtbinlfichkdhlaaDoorPx3
import Derived.ChangeSame
import Derived.ChangeVars
import Derived.JoinedOf
import Derived.RowKit
import Derived.RowKitTokens
import Derived.LaidLaws
import Derived.LaidHandle
import Derived.Stop.Joined
import Derived.ProofKit
import Derived.LaidMore
import Derived.MakeChecks
import Derived.OpenShut
import Derived.Stop.LaidErr
import Derived.Lib.LaidTab
namespace Go.Proofs.YtbinlfichkdhlaaDoor.Laid
open Go.ChangeShapes Go.WideShapes Go.RowKit Go.Proofs.YtbinlfichkdhlaaDoor.P
def laid : List (String × DataW Unit) := [("errors.errorType", Rows.laid_errors_errorType), ("unicode.White_Space", Rows.laid_unicode_White_Space), ("strings.asciiSpace", Rows.laid_strings_asciiSpace)]
theorem blanks : (Rows.laid_strings_asciiSpace : DataW Unit) = Go.Lib.tabData .u8 Go.Lib.asciiSpaceTab := by
  unfold Rows.laid_strings_asciiSpace
  kernel_rfl
theorem et : Tryd.prog.globalNamed "errors.errorType" = some 4 := by kernel_rfl
theorem oneRow : ((List.range 163).filter fun t => Tryd.prog.rowNamed t [101, 114, 114, 111, 114]) = [73] := by kernel_rfl
theorem size : Tryd.prog.types.size = 163 := by kernel_rfl
theorem handle_of_laid {W : World} (h : laidMetH Tryd.prog laid W) : LaidE W := by
  have h' : laidMet Tryd.prog [("unicode.White_Space", Rows.laid_unicode_White_Space), ("strings.asciiSpace", Rows.laid_strings_asciiSpace)] W ∧ handlesMet Tryd.prog [("errors.errorType", Rows.laid_errors_errorType)] W := h
  refine ⟨?_, ?_⟩
  rotate_left
  · have h2 := h'.1.tail
    rw [blanks] at h2
    exact Go.Lib.tabIs_of_head (g := 0) (t := 53) (e := 5) (n := 256) (by kernel_rfl) (by kernel_rfl) Tryd.underlying53 Tryd.underlying5 (by kernel_rfl) (by kernel_rfl) h2
  obtain ⟨name, u, ty, e1, e2, e3, e4, e5⟩ := h'.2 _ (List.mem_singleton.2 rfl)
  have en : name = [101, 114, 114, 111, 114] := (Option.some.inj e1).symm
  subst en
  obtain rfl : 119 = u := Option.some.inj ((show _ = some 119 by kernel_rfl).symm.trans e2)
  have hm : ty ∈ (List.range 163).filter fun t => Tryd.prog.rowNamed t [101, 114, 114, 111, 114] := List.mem_filter.2 ⟨List.mem_range.2 (by rw [← size]; exact e3), e4⟩
  rw [oneRow] at hm
  obtain rfl := List.mem_singleton.1 hm
  have hh : typeHandle Tryd.prog 73 = .pointer (some ⟨6, 73, none⟩) := by kernel_rfl
  rw [hh] at e5
  simpa [LaidT] using World.var?_cell et e5 0
/-- A world that meets the condition: the settled one, the variable's cell laid. -/
noncomputable def laidWorld (os : Os) : World := World.doorLaid Tryd.prog 400 os
theorem laidWorld_met (os : Os) (args : Array Value) : laidMetH Tryd.prog laid ((laidWorld os).forCall (fun _ _ => 0) ⟨#[], args, []⟩).memory :=
  laidMetH_of_parts3 (fuel := 8) (laidMet_of_run' 8 (by kernel_rfl) (by kernel_rfl)) (by kernel_rfl) (by kernel_rfl)
end Go.Proofs.YtbinlfichkdhlaaDoor.Laid
