/-
  DERIVED. GIVEN WITH THE SEED: THE CARDS: each row of YtfnpnkhhmehidaaDoorRows.lean that lists a variable, with what it lists TIED to the program's text (the seventh form; the later family's looks); each row that meets fmt, with fmt's text TOLD by the authors' own Lean function (tested against real Go, not proved from fmt's source: count such statements apart). THE CARD IS WHAT COUNTS. Prove the row's statement (the work); the ties are given (YtfnpnkhhmehidaaDoorTie.lean); close each card by the builder's one call (the guide's Derived/Test/ToyasCard.lean, 'card_holds'). Laid BY PROGRAM, IN A SANDBOX (cutbox-door.mjs). By AI agents, Wed Nov 11 2026. No macro, syntax, notation, axiom, sorry.
-/
import Derived.Test.YtfnpnkhhmehidaaDoorRows
import GoSem.ClaimSeven
namespace Go.Proofs.YtfnpnkhhmehidaaDoor
namespace Rows

/-- THE TIED CARD OF 'neumelaw01.FixReckons'. -/
def fixReckonsCard : Claim7 := { stood := { row := fixReckonsRow, standIns := [], harness := (true, "37896a00bfb8d66a204b1d9ac1438e2b3a7e40c87b1cfcfad0e14dfc88344486"), looks := true }, kinds := [], alts := [], laidByText := true, laidKinds := [.handle], laidTests := true, laidLooks := .later }
def FixReckonsCardSaid : Prop := Claim7.holds Tryd.pinned (.plain (OpenSpec.ofChange fixReckonsSpec)) fixReckonsCard

/-- THE TIED CARD OF 'neumelaw01.FixCosts'. -/
def fixCostsCard : Claim7 := { stood := { row := fixCostsRow, standIns := [], harness := (true, "37896a00bfb8d66a204b1d9ac1438e2b3a7e40c87b1cfcfad0e14dfc88344486"), looks := true }, kinds := [], alts := [], laidByText := true, laidKinds := [.handle], laidTests := true, laidLooks := .later }
def FixCostsCardSaid : Prop := Claim7.holds Tryd.pinned (.plain (OpenSpec.ofChange fixCostsSpec)) fixCostsCard

/-- THE TIED CARD OF 'neumelaw01.FixBack'. -/
def fixBackCard : Claim7 := { stood := { row := fixBackRow, standIns := [], harness := (true, "37896a00bfb8d66a204b1d9ac1438e2b3a7e40c87b1cfcfad0e14dfc88344486"), looks := true }, kinds := [], alts := [], laidByText := true, laidKinds := [.handle], laidTests := true, laidLooks := .later }
def FixBackCardSaid : Prop := Claim7.holds Tryd.pinned (.plain (OpenSpec.ofChange fixBackSpec)) fixBackCard

/-- THE TIED CARD OF 'neumelaw01.FixRises'. -/
def fixRisesCard : Claim7 := { stood := { row := fixRisesRow, standIns := [], harness := (true, "37896a00bfb8d66a204b1d9ac1438e2b3a7e40c87b1cfcfad0e14dfc88344486"), looks := true }, kinds := [], alts := [], laidByText := true, laidKinds := [.handle], laidTests := true, laidLooks := .later }
def FixRisesCardSaid : Prop := Claim7.holds Tryd.pinned (.plain (OpenSpec.ofChange fixRisesSpec)) fixRisesCard

/-- THE TIED CARD OF 'neumelaw01.FixRoots'. -/
def fixRootsCard : Claim7 := { stood := { row := fixRootsRow, standIns := [], harness := (true, "37896a00bfb8d66a204b1d9ac1438e2b3a7e40c87b1cfcfad0e14dfc88344486"), looks := true }, kinds := [], alts := [], laidByText := true, laidKinds := [.handle], laidTests := true, laidLooks := .later }
def FixRootsCardSaid : Prop := Claim7.holds Tryd.pinned (.plain (OpenSpec.ofChange fixRootsSpec)) fixRootsCard

/-- THE SECOND FORM's CARD OF 'neumelaw01.FixReckons'. -/
def fixReckonsUptoCard : Claim7 := { stood := { row := fixReckonsUptoRow, standIns := [], harness := (true, "37896a00bfb8d66a204b1d9ac1438e2b3a7e40c87b1cfcfad0e14dfc88344486"), looks := true }, kinds := [], alts := [], laidByText := true, laidKinds := [.handle], laidTests := true, laidLooks := .later }
def FixReckonsUptoCardSaid : Prop := Claim7.holds Tryd.pinned (.plain (OpenSpec.upto fixReckonsSpec)) fixReckonsUptoCard

/-- THE SECOND FORM's CARD OF 'neumelaw01.FixCosts'. -/
def fixCostsUptoCard : Claim7 := { stood := { row := fixCostsUptoRow, standIns := [], harness := (true, "37896a00bfb8d66a204b1d9ac1438e2b3a7e40c87b1cfcfad0e14dfc88344486"), looks := true }, kinds := [], alts := [], laidByText := true, laidKinds := [.handle], laidTests := true, laidLooks := .later }
def FixCostsUptoCardSaid : Prop := Claim7.holds Tryd.pinned (.plain (OpenSpec.upto fixCostsSpec)) fixCostsUptoCard

/-- THE SECOND FORM's CARD OF 'neumelaw01.FixBack'. -/
def fixBackUptoCard : Claim7 := { stood := { row := fixBackUptoRow, standIns := [], harness := (true, "37896a00bfb8d66a204b1d9ac1438e2b3a7e40c87b1cfcfad0e14dfc88344486"), looks := true }, kinds := [], alts := [], laidByText := true, laidKinds := [.handle], laidTests := true, laidLooks := .later }
def FixBackUptoCardSaid : Prop := Claim7.holds Tryd.pinned (.plain (OpenSpec.upto fixBackSpec)) fixBackUptoCard

/-- THE SECOND FORM's CARD OF 'neumelaw01.FixRises'. -/
def fixRisesUptoCard : Claim7 := { stood := { row := fixRisesUptoRow, standIns := [], harness := (true, "37896a00bfb8d66a204b1d9ac1438e2b3a7e40c87b1cfcfad0e14dfc88344486"), looks := true }, kinds := [], alts := [], laidByText := true, laidKinds := [.handle], laidTests := true, laidLooks := .later }
def FixRisesUptoCardSaid : Prop := Claim7.holds Tryd.pinned (.plain (OpenSpec.upto fixRisesSpec)) fixRisesUptoCard

/-- THE SECOND FORM's CARD OF 'neumelaw01.FixRoots'. -/
def fixRootsUptoCard : Claim7 := { stood := { row := fixRootsUptoRow, standIns := [], harness := (true, "37896a00bfb8d66a204b1d9ac1438e2b3a7e40c87b1cfcfad0e14dfc88344486"), looks := true }, kinds := [], alts := [], laidByText := true, laidKinds := [.handle], laidTests := true, laidLooks := .later }
def FixRootsUptoCardSaid : Prop := Claim7.holds Tryd.pinned (.plain (OpenSpec.upto fixRootsSpec)) fixRootsUptoCard
end Rows
end Go.Proofs.YtfnpnkhhmehidaaDoor
