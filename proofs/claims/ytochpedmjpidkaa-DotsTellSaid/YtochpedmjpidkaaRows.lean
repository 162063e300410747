/-
  No cell of these rows narrows 'for every input' (looked for: loops, veiled, ifaces, maps, wideKeys, modest, calm, conditions, laid).
  DERIVED. THE GIVEN ROWS OF THIS SEAT. 3 by the template 'for every input the law returns true; each argument reads behind the call as it read before'; 0 by the template 'total and deterministic' (their statements: YtochpedmjpidkaaTotals.lean).
  GIVEN WITH THE SEED: the statements are not yours to turn. If you find one false, say at which input.
  Laid BY PROGRAM, IN A SANDBOX (cutbox-rows.mjs): the forced cells as the released guide's own fill.sh prints them over the translation cb32162683d7b197… (all of the seat's roots in one cut). By AI agents, Wed Nov 11 2026. No macro, syntax, notation, axiom, sorry.
-/
import Derived.Test.YtochpedmjpidkaaChecked
import GoSem.Claim
import GoSem.ClaimJoined
import GoSem.ClaimMapViews
import Derived.JoinedTies
import Derived.KernelRfl
namespace Go.Proofs.Ytochpedmjpidkaa
/- THE CELL 'sum', in the pinned program and in every row, IS THE sha256 OF THE DUMP (.gsa) THAT YtochpedmjpidkaaProg.lean LOADS. Nothing in Lean hashes anything: it is a label: what it is worth is what the hold of that sum in a sandbox is worth. -/
noncomputable def Try.pinned : Pinned := { name := "ytochpedmjpidkaa", sum := "cb32162683d7b1976651dadd5934ff65b20dcf89dccc657f276f502d56230a02", checked := Try.checked }
namespace Rows
def none {H : Type} : Left H := { results := [], args := [] }

/-- 'neumelaw20.DotsTell': WHATEVER THE INPUT: true; the input reads as it did. -/
def dotsTellSpec : ChangeSpec := { name := "dotsTell", fn := fun _ => fun
  | [d1, d2, d3, d4, d5] => { results := [.lit (.bool true)], args := [d1, d2, d3, d4, d5] }
  | _ => none }
def dotsTellRow : OpenClaim := { program := "ytochpedmjpidkaa", sum := "cb32162683d7b1976651dadd5934ff65b20dcf89dccc657f276f502d56230a02", func := "neume/neumelaw20.DotsTell", spec := "dotsTell", recurses := true, apart := false }
def DotsTellSaid : Prop := dotsTellRow.holds Try.pinned (OpenSpec.ofChange dotsTellSpec)

/-- ITS FALSE NEIGHBOUR: 'it returns false'. Refute it at one input. -/
def dotsTellWrong : ChangeSpec := { name := "dotsTell", fn := fun _ => fun
  | [d1, d2, d3, d4, d5] => { results := [.lit (.bool false)], args := [d1, d2, d3, d4, d5] }
  | _ => none }
def DotsTellWrongFalsely : Prop := dotsTellRow.holds Try.pinned (OpenSpec.ofChange dotsTellWrong)

/-- 'neumelaw20.DotsApart': WHATEVER THE INPUT: true; the input reads as it did. -/
def dotsApartSpec : ChangeSpec := { name := "dotsApart", fn := fun _ => fun
  | [d] => { results := [.lit (.bool true)], args := [d] }
  | _ => none }
def dotsApartRow : OpenClaim := { program := "ytochpedmjpidkaa", sum := "cb32162683d7b1976651dadd5934ff65b20dcf89dccc657f276f502d56230a02", func := "neume/neumelaw20.DotsApart", spec := "dotsApart", recurses := true, apart := false }
def DotsApartSaid : Prop := dotsApartRow.holds Try.pinned (OpenSpec.ofChange dotsApartSpec)

/-- ITS FALSE NEIGHBOUR: 'it returns false'. Refute it at one input. -/
def dotsApartWrong : ChangeSpec := { name := "dotsApart", fn := fun _ => fun
  | [d] => { results := [.lit (.bool false)], args := [d] }
  | _ => none }
def DotsApartWrongFalsely : Prop := dotsApartRow.holds Try.pinned (OpenSpec.ofChange dotsApartWrong)

/-- 'neumelaw20.DotsLedgers': WHATEVER THE INPUT: true; the input reads as it did. -/
def dotsLedgersSpec : ChangeSpec := { name := "dotsLedgers", fn := fun _ => fun
  | [d] => { results := [.lit (.bool true)], args := [d] }
  | _ => none }
def dotsLedgersRow : OpenClaim := { program := "ytochpedmjpidkaa", sum := "cb32162683d7b1976651dadd5934ff65b20dcf89dccc657f276f502d56230a02", func := "neume/neumelaw20.DotsLedgers", spec := "dotsLedgers", recurses := true, apart := false }
def DotsLedgersSaid : Prop := dotsLedgersRow.holds Try.pinned (OpenSpec.ofChange dotsLedgersSpec)

/-- ITS FALSE NEIGHBOUR: 'it returns false'. Refute it at one input. -/
def dotsLedgersWrong : ChangeSpec := { name := "dotsLedgers", fn := fun _ => fun
  | [d] => { results := [.lit (.bool false)], args := [d] }
  | _ => none }
def DotsLedgersWrongFalsely : Prop := dotsLedgersRow.holds Try.pinned (OpenSpec.ofChange dotsLedgersWrong)

/- THE SECOND FORM. 'bulk': how many values and letters a reading holds, each counted each time it is reached (what is shared counts as often as it is met; a slice's spare places count too). A statement '..UptoSaid' is the law's where the arguments, and the package variables that the reading takes, are together of bulk at most 1048576: NARROWER than '..Said'. Prove '..Said' where nothing that the law and all that it calls make is longer than what came in: it says more and counts as full. Else prove '..UptoSaid'. A law counts once. -/
mutual
def uptoBulk {H : Type} : DataW H → Nat
  | .lit (.string bytes) => bytes.length + 1
  | .lit _ => 1
  | .nil => 1
  | .ptr d => uptoBulk d + 1
  | .slice elems spare => uptoBulkAll elems + uptoBulkAll spare + 1
  | .agg parts => uptoBulkAll parts + 1
  | .iface _ d => uptoBulk d + 1
  | .map entries => uptoBulkEntries entries + 1
  | .held _ => 1
def uptoBulkAll {H : Type} : List (DataW H) → Nat
  | [] => 0
  | d :: r => uptoBulk d + uptoBulkAll r
def uptoBulkEntries {H : Type} : List (Lit × DataW H) → Nat
  | [] => 0
  | x :: r => uptoBulkEntry x + uptoBulkEntries r
def uptoBulkEntry {H : Type} : Lit × DataW H → Nat
  | (.string bytes, d) => bytes.length + uptoBulk d + 1
  | (_, d) => uptoBulk d + 1
 end
def uptoSmall : (H : Type) → List (DataW H) → Bool := fun _ ds => decide (uptoBulkAll ds ≤ 1048576)
def OpenSpec.upto (s : _root_.Go.ChangeSpec) : _root_.Go.OpenSpec := { _root_.Go.OpenSpec.ofChange s with cond := some uptoSmall }

/-- 'neumelaw20.DotsTell', WHERE WHAT IT READS IS OF BULK AT MOST 1048576: true; the input reads as it did. -/
def dotsTellUptoRow : OpenClaim := { program := "ytochpedmjpidkaa", sum := "cb32162683d7b1976651dadd5934ff65b20dcf89dccc657f276f502d56230a02", func := "neume/neumelaw20.DotsTell", spec := "dotsTell", recurses := true, apart := false, narrowed := true }
def DotsTellUptoSaid : Prop := dotsTellUptoRow.holds Try.pinned (OpenSpec.upto dotsTellSpec)

/-- 'neumelaw20.DotsApart', WHERE WHAT IT READS IS OF BULK AT MOST 1048576: true; the input reads as it did. -/
def dotsApartUptoRow : OpenClaim := { program := "ytochpedmjpidkaa", sum := "cb32162683d7b1976651dadd5934ff65b20dcf89dccc657f276f502d56230a02", func := "neume/neumelaw20.DotsApart", spec := "dotsApart", recurses := true, apart := false, narrowed := true }
def DotsApartUptoSaid : Prop := dotsApartUptoRow.holds Try.pinned (OpenSpec.upto dotsApartSpec)

/-- 'neumelaw20.DotsLedgers', WHERE WHAT IT READS IS OF BULK AT MOST 1048576: true; the input reads as it did. -/
def dotsLedgersUptoRow : OpenClaim := { program := "ytochpedmjpidkaa", sum := "cb32162683d7b1976651dadd5934ff65b20dcf89dccc657f276f502d56230a02", func := "neume/neumelaw20.DotsLedgers", spec := "dotsLedgers", recurses := true, apart := false, narrowed := true }
def DotsLedgersUptoSaid : Prop := dotsLedgersUptoRow.holds Try.pinned (OpenSpec.upto dotsLedgersSpec)

end Rows
end Go.Proofs.Ytochpedmjpidkaa
