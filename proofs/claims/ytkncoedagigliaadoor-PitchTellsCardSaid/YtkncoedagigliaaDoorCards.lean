/-
  DERIVED. GIVEN WITH THE SEED: THE CARDS: each row of YtkncoedagigliaaDoorRows.lean that lists a variable, with what it lists TIED to the program's text (the seventh form; the later family's looks); each row that meets fmt, with fmt's text TOLD by the authors' own Lean function (tested against real Go, not proved from fmt's source: count such statements apart). THE CARD IS WHAT COUNTS. Prove the row's statement (the work); the ties are given (YtkncoedagigliaaDoorTie.lean); close each card by the builder's one call (the guide's Derived/Test/ToyasCard.lean, 'card_holds'). Laid BY PROGRAM, IN A SANDBOX (cutbox-door.mjs). By AI agents, Wed Nov 11 2026. No macro, syntax, notation, axiom, sorry.
-/
import Derived.Test.YtkncoedagigliaaDoorRows
import GoSem.ClaimSeven
namespace Go.Proofs.YtkncoedagigliaaDoor
namespace Rows

/-- THE TIED CARD OF 'neumelaw06.PitchTells'. -/
def pitchTellsCard : Claim7 := { stood := { row := pitchTellsRow, standIns := [], harness := (true, "e9c3c58a14ffd31b88b2cab5e03d4dc71f79e64b8971395adc801b40a7ef24f7"), looks := false }, kinds := [], alts := [], laidByText := true, laidKinds := [.data, .pinned], laidTests := true, laidLooks := .later }
def PitchTellsCardSaid : Prop := Claim7.holds Tryd.pinned (.plain (OpenSpec.ofChange pitchTellsSpec)) pitchTellsCard

/-- THE TIED CARD OF 'neumelaw06.PitchBack'. -/
def pitchBackCard : Claim7 := { stood := { row := pitchBackRow, standIns := [], harness := (true, "e9c3c58a14ffd31b88b2cab5e03d4dc71f79e64b8971395adc801b40a7ef24f7"), looks := false }, kinds := [], alts := [], laidByText := true, laidKinds := [.data, .pinned], laidTests := true, laidLooks := .later }
def PitchBackCardSaid : Prop := Claim7.holds Tryd.pinned (.plain (OpenSpec.ofChange pitchBackSpec)) pitchBackCard

/-- THE TIED CARD OF 'neumelaw06.PitchNear'. -/
def pitchNearCard : Claim7 := { stood := { row := pitchNearRow, standIns := [], harness := (true, "e9c3c58a14ffd31b88b2cab5e03d4dc71f79e64b8971395adc801b40a7ef24f7"), looks := false }, kinds := [], alts := [], laidByText := true, laidKinds := [.data, .pinned], laidTests := true, laidLooks := .later }
def PitchNearCardSaid : Prop := Claim7.holds Tryd.pinned (.plain (OpenSpec.ofChange pitchNearSpec)) pitchNearCard

/-- THE TIED CARD OF 'neumelaw06.PitchSigns'. -/
def pitchSignsCard : Claim7 := { stood := { row := pitchSignsRow, standIns := [], harness := (true, "e9c3c58a14ffd31b88b2cab5e03d4dc71f79e64b8971395adc801b40a7ef24f7"), looks := false }, kinds := [], alts := [], laidByText := true, laidKinds := [.data, .pinned], laidTests := true, laidLooks := .later }
def PitchSignsCardSaid : Prop := Claim7.holds Tryd.pinned (.plain (OpenSpec.ofChange pitchSignsSpec)) pitchSignsCard

/-- THE SECOND FORM's CARD OF 'neumelaw06.PitchTells'. -/
def pitchTellsUptoCard : Claim7 := { stood := { row := pitchTellsUptoRow, standIns := [], harness := (true, "e9c3c58a14ffd31b88b2cab5e03d4dc71f79e64b8971395adc801b40a7ef24f7"), looks := false }, kinds := [], alts := [], laidByText := true, laidKinds := [.data, .pinned], laidTests := true, laidLooks := .later }
def PitchTellsUptoCardSaid : Prop := Claim7.holds Tryd.pinned (.plain (OpenSpec.upto pitchTellsSpec)) pitchTellsUptoCard

/-- THE SECOND FORM's CARD OF 'neumelaw06.PitchBack'. -/
def pitchBackUptoCard : Claim7 := { stood := { row := pitchBackUptoRow, standIns := [], harness := (true, "e9c3c58a14ffd31b88b2cab5e03d4dc71f79e64b8971395adc801b40a7ef24f7"), looks := false }, kinds := [], alts := [], laidByText := true, laidKinds := [.data, .pinned], laidTests := true, laidLooks := .later }
def PitchBackUptoCardSaid : Prop := Claim7.holds Tryd.pinned (.plain (OpenSpec.upto pitchBackSpec)) pitchBackUptoCard

/-- THE SECOND FORM's CARD OF 'neumelaw06.PitchNear'. -/
def pitchNearUptoCard : Claim7 := { stood := { row := pitchNearUptoRow, standIns := [], harness := (true, "e9c3c58a14ffd31b88b2cab5e03d4dc71f79e64b8971395adc801b40a7ef24f7"), looks := false }, kinds := [], alts := [], laidByText := true, laidKinds := [.data, .pinned], laidTests := true, laidLooks := .later }
def PitchNearUptoCardSaid : Prop := Claim7.holds Tryd.pinned (.plain (OpenSpec.upto pitchNearSpec)) pitchNearUptoCard

/-- THE SECOND FORM's CARD OF 'neumelaw06.PitchSigns'. -/
def pitchSignsUptoCard : Claim7 := { stood := { row := pitchSignsUptoRow, standIns := [], harness := (true, "e9c3c58a14ffd31b88b2cab5e03d4dc71f79e64b8971395adc801b40a7ef24f7"), looks := false }, kinds := [], alts := [], laidByText := true, laidKinds := [.data, .pinned], laidTests := true, laidLooks := .later }
def PitchSignsUptoCardSaid : Prop := Claim7.holds Tryd.pinned (.plain (OpenSpec.upto pitchSignsSpec)) pitchSignsUptoCard
end Rows
end Go.Proofs.YtkncoedagigliaaDoor
