/-
  DERIVED. GIVEN WITH THE SEED: THE CARDS: each row of YtbinlfichkdhlaaDoorRows.lean that lists a variable, with what it lists TIED to the program's text (the seventh form; the later family's looks); each row that meets fmt, with fmt's text TOLD by the authors' own Lean function (tested against real Go, not proved from fmt's source: count such statements apart). THE CARD IS WHAT COUNTS. Prove the row's statement (the work); the ties are given (YtbinlfichkdhlaaDoorTie.lean); close each card by the builder's one call (the guide's Derived/Test/ToyasCard.lean, 'card_holds'). Laid BY PROGRAM, IN A SANDBOX (cutbox-door.mjs). By AI agents, Wed Nov 11 2026. No macro, syntax, notation, axiom, sorry.
-/
import Derived.Test.YtbinlfichkdhlaaDoorRows
import GoSem.ClaimSeven
namespace Go.Proofs.YtbinlfichkdhlaaDoor
namespace Rows

/-- THE TIED CARD OF 'neumelaw05.GlyphNames'. -/
def glyphNamesCard : Claim7 := { stood := { row := glyphNamesRow, standIns := [], harness := (true, "13409d35ce4e677d1ebe7243f135dac45219304797d3692bd0208f5a52909de0"), looks := true }, kinds := [], alts := [], laidByText := true, laidKinds := [.handle, .listed, .data], laidTests := true, laidLooks := .later }
def GlyphNamesCardSaid : Prop := Claim7.holds Tryd.pinned (.plain (OpenSpec.ofChange glyphNamesSpec)) glyphNamesCard

/-- THE TIED CARD OF 'neumelaw05.GlyphSmall'. -/
def glyphSmallCard : Claim7 := { stood := { row := glyphSmallRow, standIns := [], harness := (true, "13409d35ce4e677d1ebe7243f135dac45219304797d3692bd0208f5a52909de0"), looks := true }, kinds := [], alts := [], laidByText := true, laidKinds := [.handle, .listed, .data], laidTests := true, laidLooks := .later }
def GlyphSmallCardSaid : Prop := Claim7.holds Tryd.pinned (.plain (OpenSpec.ofChange glyphSmallSpec)) glyphSmallCard

/-- THE TIED CARD OF 'neumelaw05.GlyphWidths'. -/
def glyphWidthsCard : Claim7 := { stood := { row := glyphWidthsRow, standIns := [], harness := (true, "13409d35ce4e677d1ebe7243f135dac45219304797d3692bd0208f5a52909de0"), looks := true }, kinds := [], alts := [], laidByText := true, laidKinds := [.handle, .listed, .data], laidTests := true, laidLooks := .later }
def GlyphWidthsCardSaid : Prop := Claim7.holds Tryd.pinned (.plain (OpenSpec.ofChange glyphWidthsSpec)) glyphWidthsCard

/-- THE TIED CARD OF 'neumelaw05.GlyphDigits'. -/
def glyphDigitsCard : Claim7 := { stood := { row := glyphDigitsRow, standIns := [], harness := (true, "13409d35ce4e677d1ebe7243f135dac45219304797d3692bd0208f5a52909de0"), looks := true }, kinds := [], alts := [], laidByText := true, laidKinds := [.handle, .listed, .data], laidTests := true, laidLooks := .later }
def GlyphDigitsCardSaid : Prop := Claim7.holds Tryd.pinned (.plain (OpenSpec.ofChange glyphDigitsSpec)) glyphDigitsCard

/-- THE SECOND FORM's CARD OF 'neumelaw05.GlyphNames'. -/
def glyphNamesUptoCard : Claim7 := { stood := { row := glyphNamesUptoRow, standIns := [], harness := (true, "13409d35ce4e677d1ebe7243f135dac45219304797d3692bd0208f5a52909de0"), looks := true }, kinds := [], alts := [], laidByText := true, laidKinds := [.handle, .listed, .data], laidTests := true, laidLooks := .later }
def GlyphNamesUptoCardSaid : Prop := Claim7.holds Tryd.pinned (.plain (OpenSpec.upto glyphNamesSpec)) glyphNamesUptoCard

/-- THE SECOND FORM's CARD OF 'neumelaw05.GlyphSmall'. -/
def glyphSmallUptoCard : Claim7 := { stood := { row := glyphSmallUptoRow, standIns := [], harness := (true, "13409d35ce4e677d1ebe7243f135dac45219304797d3692bd0208f5a52909de0"), looks := true }, kinds := [], alts := [], laidByText := true, laidKinds := [.handle, .listed, .data], laidTests := true, laidLooks := .later }
def GlyphSmallUptoCardSaid : Prop := Claim7.holds Tryd.pinned (.plain (OpenSpec.upto glyphSmallSpec)) glyphSmallUptoCard

/-- THE SECOND FORM's CARD OF 'neumelaw05.GlyphWidths'. -/
def glyphWidthsUptoCard : Claim7 := { stood := { row := glyphWidthsUptoRow, standIns := [], harness := (true, "13409d35ce4e677d1ebe7243f135dac45219304797d3692bd0208f5a52909de0"), looks := true }, kinds := [], alts := [], laidByText := true, laidKinds := [.handle, .listed, .data], laidTests := true, laidLooks := .later }
def GlyphWidthsUptoCardSaid : Prop := Claim7.holds Tryd.pinned (.plain (OpenSpec.upto glyphWidthsSpec)) glyphWidthsUptoCard

/-- THE SECOND FORM's CARD OF 'neumelaw05.GlyphDigits'. -/
def glyphDigitsUptoCard : Claim7 := { stood := { row := glyphDigitsUptoRow, standIns := [], harness := (true, "13409d35ce4e677d1ebe7243f135dac45219304797d3692bd0208f5a52909de0"), looks := true }, kinds := [], alts := [], laidByText := true, laidKinds := [.handle, .listed, .data], laidTests := true, laidLooks := .later }
def GlyphDigitsUptoCardSaid : Prop := Claim7.holds Tryd.pinned (.plain (OpenSpec.upto glyphDigitsSpec)) glyphDigitsUptoCard
end Rows
end Go.Proofs.YtbinlfichkdhlaaDoor
