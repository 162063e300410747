/-
  No cell of these rows narrows 'for every input' (looked for: loops, veiled, ifaces, maps, wideKeys, modest, calm, conditions, laid).
  DERIVED. THE GIVEN ROWS OF THIS SEAT. 3 by the template 'for every input the law returns true; each argument reads behind the call as it read before'; 0 by the template 'total and deterministic' (their statements: YtbmdbkjmleimmaaTotals.lean).
  GIVEN WITH THE SEED: the statements are not yours to turn. If you find one false, say at which input.
  Laid BY PROGRAM, IN A SANDBOX (cutbox-rows.mjs): the forced cells as the released guide's own fill.sh prints them over the translation 52e5e60bd8552211… (all of the seat's roots in one cut). By AI agents, Wed Nov 11 2026. No macro, syntax, notation, axiom, sorry.
-/
import Derived.Test.YtbmdbkjmleimmaaChecked
import GoSem.Claim
import GoSem.ClaimJoined
import GoSem.ClaimMapViews
import Derived.JoinedTies
import Derived.KernelRfl
namespace Go.Proofs.Ytbmdbkjmleimmaa
/- THE CELL 'sum', in the pinned program and in every row, IS THE sha256 OF THE DUMP (.gsa) THAT YtbmdbkjmleimmaaProg.lean LOADS. Nothing in Lean hashes anything: it is a label: what it is worth is what the hold of that sum in a sandbox is worth. -/
noncomputable def Try.pinned : Pinned := { name := "ytbmdbkjmleimmaa", sum := "52e5e60bd855221162ce9555c2f45fbf590b2c6e6ef351a91130b8db09d79744", checked := Try.checked }
namespace Rows
def none {H : Type} : Left H := { results := [], args := [] }

/-- 'neumelaw19.SlopeShort': WHATEVER THE INPUT: true; the input reads as it did. -/
def slopeShortSpec : ChangeSpec := { name := "slopeShort", fn := fun _ => fun
  | [d1, d2, d3] => { results := [.lit (.bool true)], args := [d1, d2, d3] }
  | _ => none }
def slopeShortRow : OpenClaim := { program := "ytbmdbkjmleimmaa", sum := "52e5e60bd855221162ce9555c2f45fbf590b2c6e6ef351a91130b8db09d79744", func := "neume/neumelaw19.SlopeShort", spec := "slopeShort", unfollowed := true, recurses := true, apart := false }
def SlopeShortSaid : Prop := slopeShortRow.holds Try.pinned (OpenSpec.ofChange slopeShortSpec)

/-- ITS FALSE NEIGHBOUR: 'it returns false'. Refute it at one input. -/
def slopeShortWrong : ChangeSpec := { name := "slopeShort", fn := fun _ => fun
  | [d1, d2, d3] => { results := [.lit (.bool false)], args := [d1, d2, d3] }
  | _ => none }
def SlopeShortWrongFalsely : Prop := slopeShortRow.holds Try.pinned (OpenSpec.ofChange slopeShortWrong)

/-- 'neumelaw19.SlopeMirror': WHATEVER THE INPUT: true; the input reads as it did. -/
def slopeMirrorSpec : ChangeSpec := { name := "slopeMirror", fn := fun _ => fun
  | [d1, d2, d3] => { results := [.lit (.bool true)], args := [d1, d2, d3] }
  | _ => none }
def slopeMirrorRow : OpenClaim := { program := "ytbmdbkjmleimmaa", sum := "52e5e60bd855221162ce9555c2f45fbf590b2c6e6ef351a91130b8db09d79744", func := "neume/neumelaw19.SlopeMirror", spec := "slopeMirror", unfollowed := true, recurses := true, apart := false }
def SlopeMirrorSaid : Prop := slopeMirrorRow.holds Try.pinned (OpenSpec.ofChange slopeMirrorSpec)

/-- ITS FALSE NEIGHBOUR: 'it returns false'. Refute it at one input. -/
def slopeMirrorWrong : ChangeSpec := { name := "slopeMirror", fn := fun _ => fun
  | [d1, d2, d3] => { results := [.lit (.bool false)], args := [d1, d2, d3] }
  | _ => none }
def SlopeMirrorWrongFalsely : Prop := slopeMirrorRow.holds Try.pinned (OpenSpec.ofChange slopeMirrorWrong)

/-- 'neumelaw19.SlopeLayers': WHATEVER THE INPUT: true; the input reads as it did. -/
def slopeLayersSpec : ChangeSpec := { name := "slopeLayers", fn := fun _ => fun
  | [d1, d2] => { results := [.lit (.bool true)], args := [d1, d2] }
  | _ => none }
def slopeLayersRow : OpenClaim := { program := "ytbmdbkjmleimmaa", sum := "52e5e60bd855221162ce9555c2f45fbf590b2c6e6ef351a91130b8db09d79744", func := "neume/neumelaw19.SlopeLayers", spec := "slopeLayers", unfollowed := true, recurses := true, apart := false }
def SlopeLayersSaid : Prop := slopeLayersRow.holds Try.pinned (OpenSpec.ofChange slopeLayersSpec)

/-- ITS FALSE NEIGHBOUR: 'it returns false'. Refute it at one input. -/
def slopeLayersWrong : ChangeSpec := { name := "slopeLayers", fn := fun _ => fun
  | [d1, d2] => { results := [.lit (.bool false)], args := [d1, d2] }
  | _ => none }
def SlopeLayersWrongFalsely : Prop := slopeLayersRow.holds Try.pinned (OpenSpec.ofChange slopeLayersWrong)

/- THE SECOND FORM. 'bulk': how many values and letters a reading holds, each counted each time it is reached (what is shared counts as often as it is met; a slice's spare places count too). A statement '..UptoSaid' is the law's where the arguments, and the package variables that the reading takes, are together of bulk at most 1048576: NARROWER than '..Said'. Prove '..Said' where nothing that the law and all that it calls make is longer than what came in: it says more and counts as full. Else prove '..UptoSaid'. A law counts once. -/
mutual
def uptoBulk {H : Type} : DataW H → Nat
  | .lit (.string bytes) => bytes.length + 1
  | .lit _ => 1
  | .nil => 1
  | .ptr d => uptoBulk d + 1
  | .slice elems spare => uptoBulkAll elems + uptoBulkAll spare + 1
  | .agg parts => uptoBulkAll parts + 1
  | .iface _ d => uptoBulk d + 1
  | .map entries => uptoBulkEntries entries + 1
  | .held _ => 1
def uptoBulkAll {H : Type} : List (DataW H) → Nat
  | [] => 0
  | d :: r => uptoBulk d + uptoBulkAll r
def uptoBulkEntries {H : Type} : List (Lit × DataW H) → Nat
  | [] => 0
  | x :: r => uptoBulkEntry x + uptoBulkEntries r
def uptoBulkEntry {H : Type} : Lit × DataW H → Nat
  | (.string bytes, d) => bytes.length + uptoBulk d + 1
  | (_, d) => uptoBulk d + 1
 end
def uptoSmall : (H : Type) → List (DataW H) → Bool := fun _ ds => decide (uptoBulkAll ds ≤ 1048576)
def OpenSpec.upto (s : _root_.Go.ChangeSpec) : _root_.Go.OpenSpec := { _root_.Go.OpenSpec.ofChange s with cond := some uptoSmall }

/-- 'neumelaw19.SlopeShort', WHERE WHAT IT READS IS OF BULK AT MOST 1048576: true; the input reads as it did. -/
def slopeShortUptoRow : OpenClaim := { program := "ytbmdbkjmleimmaa", sum := "52e5e60bd855221162ce9555c2f45fbf590b2c6e6ef351a91130b8db09d79744", func := "neume/neumelaw19.SlopeShort", spec := "slopeShort", unfollowed := true, recurses := true, apart := false, narrowed := true }
def SlopeShortUptoSaid : Prop := slopeShortUptoRow.holds Try.pinned (OpenSpec.upto slopeShortSpec)

/-- 'neumelaw19.SlopeMirror', WHERE WHAT IT READS IS OF BULK AT MOST 1048576: true; the input reads as it did. -/
def slopeMirrorUptoRow : OpenClaim := { program := "ytbmdbkjmleimmaa", sum := "52e5e60bd855221162ce9555c2f45fbf590b2c6e6ef351a91130b8db09d79744", func := "neume/neumelaw19.SlopeMirror", spec := "slopeMirror", unfollowed := true, recurses := true, apart := false, narrowed := true }
def SlopeMirrorUptoSaid : Prop := slopeMirrorUptoRow.holds Try.pinned (OpenSpec.upto slopeMirrorSpec)

/-- 'neumelaw19.SlopeLayers', WHERE WHAT IT READS IS OF BULK AT MOST 1048576: true; the input reads as it did. -/
def slopeLayersUptoRow : OpenClaim := { program := "ytbmdbkjmleimmaa", sum := "52e5e60bd855221162ce9555c2f45fbf590b2c6e6ef351a91130b8db09d79744", func := "neume/neumelaw19.SlopeLayers", spec := "slopeLayers", unfollowed := true, recurses := true, apart := false, narrowed := true }
def SlopeLayersUptoSaid : Prop := slopeLayersUptoRow.holds Try.pinned (OpenSpec.upto slopeLayersSpec)

end Rows
end Go.Proofs.Ytbmdbkjmleimmaa
