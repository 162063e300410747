/-
  DERIVED. GIVEN WITH THE SEED: THE CARDS: each row of YteecpeggnejeaaaDoorRows.lean that lists a variable, with what it lists TIED to the program's text (the seventh form; the later family's looks); each row that meets fmt, with fmt's text TOLD by the authors' own Lean function (tested against real Go, not proved from fmt's source: count such statements apart). THE CARD IS WHAT COUNTS. Prove the row's statement (the work); the ties are given (YteecpeggnejeaaaDoorTie.lean); close each card by the builder's one call (the guide's Derived/Test/ToyasCard.lean, 'card_holds'). Laid BY PROGRAM, IN A SANDBOX (cutbox-door.mjs). By AI agents, Wed Nov 11 2026. No macro, syntax, notation, axiom, sorry.
-/
import Derived.Test.YteecpeggnejeaaaDoorRows
import GoSem.ClaimSeven
namespace Go.Proofs.YteecpeggnejeaaaDoor
namespace Rows

/-- THE TIED CARD OF 'neumelaw03.BoxTells'. -/
def boxTellsCard : Claim7 := { stood := { row := boxTellsRow, standIns := [], harness := (true, "3b2a7ca16627852fc908a91c09499f05bfc8726dc08b9cd8e52f16b80d9cbd73"), looks := true }, kinds := [], alts := [], laidByText := true, laidKinds := [.handle], laidTests := true, laidLooks := .later }
def BoxTellsCardSaid : Prop := Claim7.holds Tryd.pinned (.plain (OpenSpec.ofChange boxTellsSpec)) boxTellsCard

/-- THE TIED CARD OF 'neumelaw03.BoxRows'. -/
def boxRowsCard : Claim7 := { stood := { row := boxRowsRow, standIns := [], harness := (true, "3b2a7ca16627852fc908a91c09499f05bfc8726dc08b9cd8e52f16b80d9cbd73"), looks := true }, kinds := [], alts := [], laidByText := true, laidKinds := [.handle], laidTests := true, laidLooks := .later }
def BoxRowsCardSaid : Prop := Claim7.holds Tryd.pinned (.plain (OpenSpec.ofChange boxRowsSpec)) boxRowsCard

/-- THE TIED CARD OF 'neumelaw03.BoxMeets'. -/
def boxMeetsCard : Claim7 := { stood := { row := boxMeetsRow, standIns := [], harness := (true, "3b2a7ca16627852fc908a91c09499f05bfc8726dc08b9cd8e52f16b80d9cbd73"), looks := true }, kinds := [], alts := [], laidByText := true, laidKinds := [.handle], laidTests := true, laidLooks := .later }
def BoxMeetsCardSaid : Prop := Claim7.holds Tryd.pinned (.plain (OpenSpec.ofChange boxMeetsSpec)) boxMeetsCard

/-- THE TIED CARD OF 'neumelaw03.BoxAround'. -/
def boxAroundCard : Claim7 := { stood := { row := boxAroundRow, standIns := [], harness := (true, "3b2a7ca16627852fc908a91c09499f05bfc8726dc08b9cd8e52f16b80d9cbd73"), looks := true }, kinds := [], alts := [], laidByText := true, laidKinds := [.handle], laidTests := true, laidLooks := .later }
def BoxAroundCardSaid : Prop := Claim7.holds Tryd.pinned (.plain (OpenSpec.ofChange boxAroundSpec)) boxAroundCard

/-- THE TIED CARD OF 'neumelaw03.BoxBack'. -/
def boxBackCard : Claim7 := { stood := { row := boxBackRow, standIns := [], harness := (true, "3b2a7ca16627852fc908a91c09499f05bfc8726dc08b9cd8e52f16b80d9cbd73"), looks := true }, kinds := [], alts := [], laidByText := true, laidKinds := [.handle], laidTests := true, laidLooks := .later }
def BoxBackCardSaid : Prop := Claim7.holds Tryd.pinned (.plain (OpenSpec.ofChange boxBackSpec)) boxBackCard

/-- THE SECOND FORM's CARD OF 'neumelaw03.BoxTells'. -/
def boxTellsUptoCard : Claim7 := { stood := { row := boxTellsUptoRow, standIns := [], harness := (true, "3b2a7ca16627852fc908a91c09499f05bfc8726dc08b9cd8e52f16b80d9cbd73"), looks := true }, kinds := [], alts := [], laidByText := true, laidKinds := [.handle], laidTests := true, laidLooks := .later }
def BoxTellsUptoCardSaid : Prop := Claim7.holds Tryd.pinned (.plain (OpenSpec.upto boxTellsSpec)) boxTellsUptoCard

/-- THE SECOND FORM's CARD OF 'neumelaw03.BoxRows'. -/
def boxRowsUptoCard : Claim7 := { stood := { row := boxRowsUptoRow, standIns := [], harness := (true, "3b2a7ca16627852fc908a91c09499f05bfc8726dc08b9cd8e52f16b80d9cbd73"), looks := true }, kinds := [], alts := [], laidByText := true, laidKinds := [.handle], laidTests := true, laidLooks := .later }
def BoxRowsUptoCardSaid : Prop := Claim7.holds Tryd.pinned (.plain (OpenSpec.upto boxRowsSpec)) boxRowsUptoCard

/-- THE SECOND FORM's CARD OF 'neumelaw03.BoxMeets'. -/
def boxMeetsUptoCard : Claim7 := { stood := { row := boxMeetsUptoRow, standIns := [], harness := (true, "3b2a7ca16627852fc908a91c09499f05bfc8726dc08b9cd8e52f16b80d9cbd73"), looks := true }, kinds := [], alts := [], laidByText := true, laidKinds := [.handle], laidTests := true, laidLooks := .later }
def BoxMeetsUptoCardSaid : Prop := Claim7.holds Tryd.pinned (.plain (OpenSpec.upto boxMeetsSpec)) boxMeetsUptoCard

/-- THE SECOND FORM's CARD OF 'neumelaw03.BoxAround'. -/
def boxAroundUptoCard : Claim7 := { stood := { row := boxAroundUptoRow, standIns := [], harness := (true, "3b2a7ca16627852fc908a91c09499f05bfc8726dc08b9cd8e52f16b80d9cbd73"), looks := true }, kinds := [], alts := [], laidByText := true, laidKinds := [.handle], laidTests := true, laidLooks := .later }
def BoxAroundUptoCardSaid : Prop := Claim7.holds Tryd.pinned (.plain (OpenSpec.upto boxAroundSpec)) boxAroundUptoCard

/-- THE SECOND FORM's CARD OF 'neumelaw03.BoxBack'. -/
def boxBackUptoCard : Claim7 := { stood := { row := boxBackUptoRow, standIns := [], harness := (true, "3b2a7ca16627852fc908a91c09499f05bfc8726dc08b9cd8e52f16b80d9cbd73"), looks := true }, kinds := [], alts := [], laidByText := true, laidKinds := [.handle], laidTests := true, laidLooks := .later }
def BoxBackUptoCardSaid : Prop := Claim7.holds Tryd.pinned (.plain (OpenSpec.upto boxBackSpec)) boxBackUptoCard
end Rows
end Go.Proofs.YteecpeggnejeaaaDoor
