/-
  DERIVED. GIVEN WITH THE SEED: THE CARDS: each row of YtmbdbinbdiiapaaDoorRows.lean that lists a variable, with what it lists TIED to the program's text (the seventh form; the later family's looks); each row that meets fmt, with fmt's text TOLD by the authors' own Lean function (tested against real Go, not proved from fmt's source: count such statements apart). THE CARD IS WHAT COUNTS. Prove the row's statement (the work); the ties are given (YtmbdbinbdiiapaaDoorTie.lean); close each card by the builder's one call (the guide's Derived/Test/ToyasCard.lean, 'card_holds'). Laid BY PROGRAM, IN A SANDBOX (cutbox-door.mjs). By AI agents, Wed Nov 11 2026. No macro, syntax, notation, axiom, sorry.
-/
import Derived.Test.YtmbdbinbdiiapaaDoorRows
import GoSem.ClaimSeven
namespace Go.Proofs.YtmbdbinbdiiapaaDoor
namespace Rows

/-- THE TIED CARD OF 'neumelaw02.RatReckons'. -/
def ratReckonsCard : Claim7 := { stood := { row := ratReckonsRow, standIns := [], harness := (true, "52b7fb9652608261e96872c782407bc0c9a588c87c63f4db95e18548e02ae3c2"), looks := true }, kinds := [], alts := [], laidByText := true, laidKinds := [.data, .data, .data, .sentinel, .sentinel], laidTests := true, laidLooks := .later }
def RatReckonsCardSaid : Prop := Claim7.holds Tryd.pinned (.plain (OpenSpec.ofChange ratReckonsSpec)) ratReckonsCard

/-- THE TIED CARD OF 'neumelaw02.RatTells'. -/
def ratTellsCard : Claim7 := { stood := { row := ratTellsRow, standIns := [], harness := (true, "52b7fb9652608261e96872c782407bc0c9a588c87c63f4db95e18548e02ae3c2"), looks := true }, kinds := [], alts := [], laidByText := true, laidKinds := [.data, .data, .data, .sentinel, .sentinel], laidTests := true, laidLooks := .later }
def RatTellsCardSaid : Prop := Claim7.holds Tryd.pinned (.plain (OpenSpec.ofChange ratTellsSpec)) ratTellsCard

/-- THE TIED CARD OF 'neumelaw02.RatBack'. -/
def ratBackCard : Claim7 := { stood := { row := ratBackRow, standIns := [], harness := (true, "52b7fb9652608261e96872c782407bc0c9a588c87c63f4db95e18548e02ae3c2"), looks := true }, kinds := [], alts := [], laidByText := true, laidKinds := [.data, .data, .data, .sentinel, .sentinel], laidTests := true, laidLooks := .later }
def RatBackCardSaid : Prop := Claim7.holds Tryd.pinned (.plain (OpenSpec.ofChange ratBackSpec)) ratBackCard

/-- THE TIED CARD OF 'neumelaw02.RatOrder'. -/
def ratOrderCard : Claim7 := { stood := { row := ratOrderRow, standIns := [], harness := (true, "52b7fb9652608261e96872c782407bc0c9a588c87c63f4db95e18548e02ae3c2"), looks := true }, kinds := [], alts := [], laidByText := true, laidKinds := [.data, .data, .data, .sentinel, .sentinel], laidTests := true, laidLooks := .later }
def RatOrderCardSaid : Prop := Claim7.holds Tryd.pinned (.plain (OpenSpec.ofChange ratOrderSpec)) ratOrderCard

/-- THE TIED CARD OF 'neumelaw02.RatWords'. -/
def ratWordsCard : Claim7 := { stood := { row := ratWordsRow, standIns := [], harness := (true, "52b7fb9652608261e96872c782407bc0c9a588c87c63f4db95e18548e02ae3c2"), looks := true }, kinds := [], alts := [], laidByText := true, laidKinds := [.data, .data, .data, .sentinel, .sentinel], laidTests := true, laidLooks := .later }
def RatWordsCardSaid : Prop := Claim7.holds Tryd.pinned (.plain (OpenSpec.ofChange ratWordsSpec)) ratWordsCard

/-- THE SECOND FORM's CARD OF 'neumelaw02.RatReckons'. -/
def ratReckonsUptoCard : Claim7 := { stood := { row := ratReckonsUptoRow, standIns := [], harness := (true, "52b7fb9652608261e96872c782407bc0c9a588c87c63f4db95e18548e02ae3c2"), looks := true }, kinds := [], alts := [], laidByText := true, laidKinds := [.data, .data, .data, .sentinel, .sentinel], laidTests := true, laidLooks := .later }
def RatReckonsUptoCardSaid : Prop := Claim7.holds Tryd.pinned (.plain (OpenSpec.upto ratReckonsSpec)) ratReckonsUptoCard

/-- THE SECOND FORM's CARD OF 'neumelaw02.RatTells'. -/
def ratTellsUptoCard : Claim7 := { stood := { row := ratTellsUptoRow, standIns := [], harness := (true, "52b7fb9652608261e96872c782407bc0c9a588c87c63f4db95e18548e02ae3c2"), looks := true }, kinds := [], alts := [], laidByText := true, laidKinds := [.data, .data, .data, .sentinel, .sentinel], laidTests := true, laidLooks := .later }
def RatTellsUptoCardSaid : Prop := Claim7.holds Tryd.pinned (.plain (OpenSpec.upto ratTellsSpec)) ratTellsUptoCard

/-- THE SECOND FORM's CARD OF 'neumelaw02.RatBack'. -/
def ratBackUptoCard : Claim7 := { stood := { row := ratBackUptoRow, standIns := [], harness := (true, "52b7fb9652608261e96872c782407bc0c9a588c87c63f4db95e18548e02ae3c2"), looks := true }, kinds := [], alts := [], laidByText := true, laidKinds := [.data, .data, .data, .sentinel, .sentinel], laidTests := true, laidLooks := .later }
def RatBackUptoCardSaid : Prop := Claim7.holds Tryd.pinned (.plain (OpenSpec.upto ratBackSpec)) ratBackUptoCard

/-- THE SECOND FORM's CARD OF 'neumelaw02.RatOrder'. -/
def ratOrderUptoCard : Claim7 := { stood := { row := ratOrderUptoRow, standIns := [], harness := (true, "52b7fb9652608261e96872c782407bc0c9a588c87c63f4db95e18548e02ae3c2"), looks := true }, kinds := [], alts := [], laidByText := true, laidKinds := [.data, .data, .data, .sentinel, .sentinel], laidTests := true, laidLooks := .later }
def RatOrderUptoCardSaid : Prop := Claim7.holds Tryd.pinned (.plain (OpenSpec.upto ratOrderSpec)) ratOrderUptoCard

/-- THE SECOND FORM's CARD OF 'neumelaw02.RatWords'. -/
def ratWordsUptoCard : Claim7 := { stood := { row := ratWordsUptoRow, standIns := [], harness := (true, "52b7fb9652608261e96872c782407bc0c9a588c87c63f4db95e18548e02ae3c2"), looks := true }, kinds := [], alts := [], laidByText := true, laidKinds := [.data, .data, .data, .sentinel, .sentinel], laidTests := true, laidLooks := .later }
def RatWordsUptoCardSaid : Prop := Claim7.holds Tryd.pinned (.plain (OpenSpec.upto ratWordsSpec)) ratWordsUptoCard
end Rows
end Go.Proofs.YtmbdbinbdiiapaaDoor
