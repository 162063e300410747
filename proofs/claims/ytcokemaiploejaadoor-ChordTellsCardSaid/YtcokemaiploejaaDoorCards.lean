/-
  DERIVED. GIVEN WITH THE SEED: THE CARDS: each row of YtcokemaiploejaaDoorRows.lean that lists a variable, with what it lists TIED to the program's text (the seventh form; the later family's looks); each row that meets fmt, with fmt's text TOLD by the authors' own Lean function (tested against real Go, not proved from fmt's source: count such statements apart). THE CARD IS WHAT COUNTS. Prove the row's statement (the work); the ties are given (YtcokemaiploejaaDoorTie.lean); close each card by the builder's one call (the guide's Derived/Test/ToyasCard.lean, 'card_holds'). Laid BY PROGRAM, IN A SANDBOX (cutbox-door.mjs). By AI agents, Wed Nov 11 2026. No macro, syntax, notation, axiom, sorry.
-/
import Derived.Test.YtcokemaiploejaaDoorRows
import GoSem.ClaimSeven
namespace Go.Proofs.YtcokemaiploejaaDoor
namespace Rows

/-- THE TIED CARD OF 'neumelaw23.ChordTells'. -/
def chordTellsCard : Claim7 := { stood := { row := chordTellsRow, standIns := [], harness := (true, "e1e196bbf4bd068b8d4a8b532ea7dde686b017f50f9a4c09303d421b3b0340c8"), looks := true }, kinds := [], alts := [], laidByText := true, laidKinds := [.handle], laidTests := true, laidLooks := .later }
def ChordTellsCardSaid : Prop := Claim7.holds Tryd.pinned (.plain (OpenSpec.ofChange chordTellsSpec)) chordTellsCard

/-- THE TIED CARD OF 'neumelaw23.ChordApart'. -/
def chordApartCard : Claim7 := { stood := { row := chordApartRow, standIns := [], harness := (true, "e1e196bbf4bd068b8d4a8b532ea7dde686b017f50f9a4c09303d421b3b0340c8"), looks := true }, kinds := [], alts := [], laidByText := true, laidKinds := [.handle], laidTests := true, laidLooks := .later }
def ChordApartCardSaid : Prop := Claim7.holds Tryd.pinned (.plain (OpenSpec.ofChange chordApartSpec)) chordApartCard

/-- THE TIED CARD OF 'neumelaw23.ChordMirror'. -/
def chordMirrorCard : Claim7 := { stood := { row := chordMirrorRow, standIns := [], harness := (true, "e1e196bbf4bd068b8d4a8b532ea7dde686b017f50f9a4c09303d421b3b0340c8"), looks := true }, kinds := [], alts := [], laidByText := true, laidKinds := [.handle], laidTests := true, laidLooks := .later }
def ChordMirrorCardSaid : Prop := Claim7.holds Tryd.pinned (.plain (OpenSpec.ofChange chordMirrorSpec)) chordMirrorCard

/-- THE TIED CARD OF 'neumelaw23.ChordTurns'. -/
def chordTurnsCard : Claim7 := { stood := { row := chordTurnsRow, standIns := [], harness := (true, "e1e196bbf4bd068b8d4a8b532ea7dde686b017f50f9a4c09303d421b3b0340c8"), looks := true }, kinds := [], alts := [], laidByText := true, laidKinds := [.handle], laidTests := true, laidLooks := .later }
def ChordTurnsCardSaid : Prop := Claim7.holds Tryd.pinned (.plain (OpenSpec.ofChange chordTurnsSpec)) chordTurnsCard

/-- THE SECOND FORM's CARD OF 'neumelaw23.ChordTells'. -/
def chordTellsUptoCard : Claim7 := { stood := { row := chordTellsUptoRow, standIns := [], harness := (true, "e1e196bbf4bd068b8d4a8b532ea7dde686b017f50f9a4c09303d421b3b0340c8"), looks := true }, kinds := [], alts := [], laidByText := true, laidKinds := [.handle], laidTests := true, laidLooks := .later }
def ChordTellsUptoCardSaid : Prop := Claim7.holds Tryd.pinned (.plain (OpenSpec.upto chordTellsSpec)) chordTellsUptoCard

/-- THE SECOND FORM's CARD OF 'neumelaw23.ChordApart'. -/
def chordApartUptoCard : Claim7 := { stood := { row := chordApartUptoRow, standIns := [], harness := (true, "e1e196bbf4bd068b8d4a8b532ea7dde686b017f50f9a4c09303d421b3b0340c8"), looks := true }, kinds := [], alts := [], laidByText := true, laidKinds := [.handle], laidTests := true, laidLooks := .later }
def ChordApartUptoCardSaid : Prop := Claim7.holds Tryd.pinned (.plain (OpenSpec.upto chordApartSpec)) chordApartUptoCard

/-- THE SECOND FORM's CARD OF 'neumelaw23.ChordMirror'. -/
def chordMirrorUptoCard : Claim7 := { stood := { row := chordMirrorUptoRow, standIns := [], harness := (true, "e1e196bbf4bd068b8d4a8b532ea7dde686b017f50f9a4c09303d421b3b0340c8"), looks := true }, kinds := [], alts := [], laidByText := true, laidKinds := [.handle], laidTests := true, laidLooks := .later }
def ChordMirrorUptoCardSaid : Prop := Claim7.holds Tryd.pinned (.plain (OpenSpec.upto chordMirrorSpec)) chordMirrorUptoCard

/-- THE SECOND FORM's CARD OF 'neumelaw23.ChordTurns'. -/
def chordTurnsUptoCard : Claim7 := { stood := { row := chordTurnsUptoRow, standIns := [], harness := (true, "e1e196bbf4bd068b8d4a8b532ea7dde686b017f50f9a4c09303d421b3b0340c8"), looks := true }, kinds := [], alts := [], laidByText := true, laidKinds := [.handle], laidTests := true, laidLooks := .later }
def ChordTurnsUptoCardSaid : Prop := Claim7.holds Tryd.pinned (.plain (OpenSpec.upto chordTurnsSpec)) chordTurnsUptoCard
end Rows
end Go.Proofs.YtcokemaiploejaaDoor
