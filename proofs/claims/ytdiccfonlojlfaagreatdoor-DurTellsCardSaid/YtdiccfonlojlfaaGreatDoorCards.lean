/-
  DERIVED. GIVEN WITH THE SEED: THE CARDS: each row of YtdiccfonlojlfaaGreatDoorRows.lean that lists a variable, with what it lists TIED to the program's text (the seventh form; the later family's looks); each row that meets fmt, with fmt's text TOLD by the authors' own Lean function (tested against real Go, not proved from fmt's source: count such statements apart). THE CARD IS WHAT COUNTS. Prove the row's statement (the work); the ties are given (YtdiccfonlojlfaaGreatDoorTie.lean); close each card by the builder's one call (the guide's Derived/Test/ToyasCard.lean, 'card_holds'). Laid BY PROGRAM, IN A SANDBOX (cutbox-door.mjs). By AI agents, Wed Nov 11 2026. No macro, syntax, notation, axiom, sorry.
-/
import Derived.Test.YtdiccfonlojlfaaGreatDoorRows
import GoSem.ClaimSeven
namespace Go.Proofs.YtdiccfonlojlfaaGreatDoor
namespace Rows

/-- THE TIED CARD OF 'neumelaw07.DurTells'. -/
def durTellsCard : Claim7 := { stood := { row := durTellsRow, standIns := [], harness := (true, "b103d22af67996b8fc6890d88ae255954efe50fa2350f381e12d8f0a033528f8"), looks := true }, kinds := [], alts := [], laidByText := true, laidKinds := [.data, .pinned], laidTests := true, laidLooks := .later }
def DurTellsCardSaid : Prop := Claim7.holds Tryz.pinned (.plain (OpenSpec.ofChange durTellsSpec)) durTellsCard

/-- THE TIED CARD OF 'neumelaw07.DurMeters'. -/
def durMetersCard : Claim7 := { stood := { row := durMetersRow, standIns := [], harness := (true, "b103d22af67996b8fc6890d88ae255954efe50fa2350f381e12d8f0a033528f8"), looks := true }, kinds := [], alts := [], laidByText := true, laidKinds := [.data, .pinned], laidTests := true, laidLooks := .later }
def DurMetersCardSaid : Prop := Claim7.holds Tryz.pinned (.plain (OpenSpec.ofChange durMetersSpec)) durMetersCard

/-- THE SECOND FORM's CARD OF 'neumelaw07.DurTells'. -/
def durTellsUptoCard : Claim7 := { stood := { row := durTellsUptoRow, standIns := [], harness := (true, "b103d22af67996b8fc6890d88ae255954efe50fa2350f381e12d8f0a033528f8"), looks := true }, kinds := [], alts := [], laidByText := true, laidKinds := [.data, .pinned], laidTests := true, laidLooks := .later }
def DurTellsUptoCardSaid : Prop := Claim7.holds Tryz.pinned (.plain (OpenSpec.upto durTellsSpec)) durTellsUptoCard

/-- THE SECOND FORM's CARD OF 'neumelaw07.DurMeters'. -/
def durMetersUptoCard : Claim7 := { stood := { row := durMetersUptoRow, standIns := [], harness := (true, "b103d22af67996b8fc6890d88ae255954efe50fa2350f381e12d8f0a033528f8"), looks := true }, kinds := [], alts := [], laidByText := true, laidKinds := [.data, .pinned], laidTests := true, laidLooks := .later }
def DurMetersUptoCardSaid : Prop := Claim7.holds Tryz.pinned (.plain (OpenSpec.upto durMetersSpec)) durMetersUptoCard
end Rows
end Go.Proofs.YtdiccfonlojlfaaGreatDoor
