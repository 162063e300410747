/-
  DERIVED. GIVEN WITH THE SEED: THE CARDS: each row of YtdiccfonlojlfaaDoorRows.lean that lists a variable, with what it lists TIED to the program's text (the seventh form; the later family's looks); each row that meets fmt, with fmt's text TOLD by the authors' own Lean function (tested against real Go, not proved from fmt's source: count such statements apart). THE CARD IS WHAT COUNTS. Prove the row's statement (the work); the ties are given (YtdiccfonlojlfaaDoorTie.lean); close each card by the builder's one call (the guide's Derived/Test/ToyasCard.lean, 'card_holds'). Laid BY PROGRAM, IN A SANDBOX (cutbox-door.mjs). By AI agents, Wed Nov 11 2026. No macro, syntax, notation, axiom, sorry.
-/
import Derived.Test.YtdiccfonlojlfaaDoorRows
import GoSem.ClaimSeven
namespace Go.Proofs.YtdiccfonlojlfaaDoor
namespace Rows

/-- THE TIED CARD OF 'neumelaw07.DurBack'. -/
def durBackCard : Claim7 := { stood := { row := durBackRow, standIns := [], harness := (true, "dde33e790ae269969d04eec6408b7dff6ce820026c0cb3c134263926e3a41439"), looks := true }, kinds := [], alts := [], laidByText := true, laidKinds := [.data, .pinned], laidTests := true, laidLooks := .later }
def DurBackCardSaid : Prop := Claim7.holds Tryd.pinned (.plain (OpenSpec.ofChange durBackSpec)) durBackCard

/-- THE TIED CARD OF 'neumelaw07.DurSplits'. -/
def durSplitsCard : Claim7 := { stood := { row := durSplitsRow, standIns := [], harness := (true, "dde33e790ae269969d04eec6408b7dff6ce820026c0cb3c134263926e3a41439"), looks := true }, kinds := [], alts := [], laidByText := true, laidKinds := [.data, .pinned], laidTests := true, laidLooks := .later }
def DurSplitsCardSaid : Prop := Claim7.holds Tryd.pinned (.plain (OpenSpec.ofChange durSplitsSpec)) durSplitsCard

/-- THE TIED CARD OF 'neumelaw07.DurBeats'. -/
def durBeatsCard : Claim7 := { stood := { row := durBeatsRow, standIns := [], harness := (true, "dde33e790ae269969d04eec6408b7dff6ce820026c0cb3c134263926e3a41439"), looks := true }, kinds := [], alts := [], laidByText := true, laidKinds := [.data, .pinned], laidTests := true, laidLooks := .later }
def DurBeatsCardSaid : Prop := Claim7.holds Tryd.pinned (.plain (OpenSpec.ofChange durBeatsSpec)) durBeatsCard

/-- THE SECOND FORM's CARD OF 'neumelaw07.DurBack'. -/
def durBackUptoCard : Claim7 := { stood := { row := durBackUptoRow, standIns := [], harness := (true, "dde33e790ae269969d04eec6408b7dff6ce820026c0cb3c134263926e3a41439"), looks := true }, kinds := [], alts := [], laidByText := true, laidKinds := [.data, .pinned], laidTests := true, laidLooks := .later }
def DurBackUptoCardSaid : Prop := Claim7.holds Tryd.pinned (.plain (OpenSpec.upto durBackSpec)) durBackUptoCard

/-- THE SECOND FORM's CARD OF 'neumelaw07.DurSplits'. -/
def durSplitsUptoCard : Claim7 := { stood := { row := durSplitsUptoRow, standIns := [], harness := (true, "dde33e790ae269969d04eec6408b7dff6ce820026c0cb3c134263926e3a41439"), looks := true }, kinds := [], alts := [], laidByText := true, laidKinds := [.data, .pinned], laidTests := true, laidLooks := .later }
def DurSplitsUptoCardSaid : Prop := Claim7.holds Tryd.pinned (.plain (OpenSpec.upto durSplitsSpec)) durSplitsUptoCard

/-- THE SECOND FORM's CARD OF 'neumelaw07.DurBeats'. -/
def durBeatsUptoCard : Claim7 := { stood := { row := durBeatsUptoRow, standIns := [], harness := (true, "dde33e790ae269969d04eec6408b7dff6ce820026c0cb3c134263926e3a41439"), looks := true }, kinds := [], alts := [], laidByText := true, laidKinds := [.data, .pinned], laidTests := true, laidLooks := .later }
def DurBeatsUptoCardSaid : Prop := Claim7.holds Tryd.pinned (.plain (OpenSpec.upto durBeatsSpec)) durBeatsUptoCard
end Rows
end Go.Proofs.YtdiccfonlojlfaaDoor
