/-
  No cell of these rows narrows 'for every input' (looked for: loops, veiled, ifaces, maps, wideKeys, modest, calm, conditions, laid).
  DERIVED. THE GIVEN ROWS OF THIS SEAT. 3 by the template 'for every input the law returns true; each argument reads behind the call as it read before'; 0 by the template 'total and deterministic' (their statements: YtchmcljinkemaaaTotals.lean).
  GIVEN WITH THE SEED: the statements are not yours to turn. If you find one false, say at which input.
  Laid BY PROGRAM, IN A SANDBOX (cutbox-rows.mjs): the forced cells as the released guide's own fill.sh prints them over the translation c0d8392747a37287… (all of the seat's roots in one cut). By AI agents, Wed Nov 11 2026. No macro, syntax, notation, axiom, sorry.
-/
import Derived.Test.YtchmcljinkemaaaChecked
import GoSem.Claim
import GoSem.ClaimJoined
import GoSem.ClaimMapViews
import Derived.JoinedTies
import Derived.KernelRfl
namespace Go.Proofs.Ytchmcljinkemaaa
/- THE CELL 'sum', in the pinned program and in every row, IS THE sha256 OF THE DUMP (.gsa) THAT YtchmcljinkemaaaProg.lean LOADS. Nothing in Lean hashes anything: it is a label: what it is worth is what the hold of that sum in a sandbox is worth. -/
noncomputable def Try.pinned : Pinned := { name := "ytchmcljinkemaaa", sum := "c0d8392747a37287a804dcff27f475073b4002d6f27507fa0c85458f41993174", checked := Try.checked }
namespace Rows
def none {H : Type} : Left H := { results := [], args := [] }

/-- 'neumelaw24.VoicesTell': WHATEVER THE INPUT: true; the input reads as it did. -/
def voicesTellSpec : ChangeSpec := { name := "voicesTell", fn := fun _ => fun
  | [d1, d2, d3] => { results := [.lit (.bool true)], args := [d1, d2, d3] }
  | _ => none }
def voicesTellRow : OpenClaim := { program := "ytchmcljinkemaaa", sum := "c0d8392747a37287a804dcff27f475073b4002d6f27507fa0c85458f41993174", func := "neume/neumelaw24.VoicesTell", spec := "voicesTell", unfollowed := true, recurses := true, apart := false }
def VoicesTellSaid : Prop := voicesTellRow.holds Try.pinned (OpenSpec.ofChange voicesTellSpec)

/-- ITS FALSE NEIGHBOUR: 'it returns false'. Refute it at one input. -/
def voicesTellWrong : ChangeSpec := { name := "voicesTell", fn := fun _ => fun
  | [d1, d2, d3] => { results := [.lit (.bool false)], args := [d1, d2, d3] }
  | _ => none }
def VoicesTellWrongFalsely : Prop := voicesTellRow.holds Try.pinned (OpenSpec.ofChange voicesTellWrong)

/-- 'neumelaw24.VoicesApart': WHATEVER THE INPUT: true; the input reads as it did. -/
def voicesApartSpec : ChangeSpec := { name := "voicesApart", fn := fun _ => fun
  | [d1, d2, d3] => { results := [.lit (.bool true)], args := [d1, d2, d3] }
  | _ => none }
def voicesApartRow : OpenClaim := { program := "ytchmcljinkemaaa", sum := "c0d8392747a37287a804dcff27f475073b4002d6f27507fa0c85458f41993174", func := "neume/neumelaw24.VoicesApart", spec := "voicesApart", unfollowed := true, recurses := true, apart := false }
def VoicesApartSaid : Prop := voicesApartRow.holds Try.pinned (OpenSpec.ofChange voicesApartSpec)

/-- ITS FALSE NEIGHBOUR: 'it returns false'. Refute it at one input. -/
def voicesApartWrong : ChangeSpec := { name := "voicesApart", fn := fun _ => fun
  | [d1, d2, d3] => { results := [.lit (.bool false)], args := [d1, d2, d3] }
  | _ => none }
def VoicesApartWrongFalsely : Prop := voicesApartRow.holds Try.pinned (OpenSpec.ofChange voicesApartWrong)

/-- 'neumelaw24.VoicesLeast': WHATEVER THE INPUT: true; the input reads as it did. -/
def voicesLeastSpec : ChangeSpec := { name := "voicesLeast", fn := fun _ => fun
  | [d1, d2, d3, d4] => { results := [.lit (.bool true)], args := [d1, d2, d3, d4] }
  | _ => none }
def voicesLeastRow : OpenClaim := { program := "ytchmcljinkemaaa", sum := "c0d8392747a37287a804dcff27f475073b4002d6f27507fa0c85458f41993174", func := "neume/neumelaw24.VoicesLeast", spec := "voicesLeast", unfollowed := true, recurses := true, apart := false }
def VoicesLeastSaid : Prop := voicesLeastRow.holds Try.pinned (OpenSpec.ofChange voicesLeastSpec)

/-- ITS FALSE NEIGHBOUR: 'it returns false'. Refute it at one input. -/
def voicesLeastWrong : ChangeSpec := { name := "voicesLeast", fn := fun _ => fun
  | [d1, d2, d3, d4] => { results := [.lit (.bool false)], args := [d1, d2, d3, d4] }
  | _ => none }
def VoicesLeastWrongFalsely : Prop := voicesLeastRow.holds Try.pinned (OpenSpec.ofChange voicesLeastWrong)

/- THE SECOND FORM. 'bulk': how many values and letters a reading holds, each counted each time it is reached (what is shared counts as often as it is met; a slice's spare places count too). A statement '..UptoSaid' is the law's where the arguments, and the package variables that the reading takes, are together of bulk at most 1048576: NARROWER than '..Said'. Prove '..Said' where nothing that the law and all that it calls make is longer than what came in: it says more and counts as full. Else prove '..UptoSaid'. A law counts once. -/
mutual
def uptoBulk {H : Type} : DataW H → Nat
  | .lit (.string bytes) => bytes.length + 1
  | .lit _ => 1
  | .nil => 1
  | .ptr d => uptoBulk d + 1
  | .slice elems spare => uptoBulkAll elems + uptoBulkAll spare + 1
  | .agg parts => uptoBulkAll parts + 1
  | .iface _ d => uptoBulk d + 1
  | .map entries => uptoBulkEntries entries + 1
  | .held _ => 1
def uptoBulkAll {H : Type} : List (DataW H) → Nat
  | [] => 0
  | d :: r => uptoBulk d + uptoBulkAll r
def uptoBulkEntries {H : Type} : List (Lit × DataW H) → Nat
  | [] => 0
  | x :: r => uptoBulkEntry x + uptoBulkEntries r
def uptoBulkEntry {H : Type} : Lit × DataW H → Nat
  | (.string bytes, d) => bytes.length + uptoBulk d + 1
  | (_, d) => uptoBulk d + 1
 end
def uptoSmall : (H : Type) → List (DataW H) → Bool := fun _ ds => decide (uptoBulkAll ds ≤ 1048576)
def OpenSpec.upto (s : _root_.Go.ChangeSpec) : _root_.Go.OpenSpec := { _root_.Go.OpenSpec.ofChange s with cond := some uptoSmall }

/-- 'neumelaw24.VoicesTell', WHERE WHAT IT READS IS OF BULK AT MOST 1048576: true; the input reads as it did. -/
def voicesTellUptoRow : OpenClaim := { program := "ytchmcljinkemaaa", sum := "c0d8392747a37287a804dcff27f475073b4002d6f27507fa0c85458f41993174", func := "neume/neumelaw24.VoicesTell", spec := "voicesTell", unfollowed := true, recurses := true, apart := false, narrowed := true }
def VoicesTellUptoSaid : Prop := voicesTellUptoRow.holds Try.pinned (OpenSpec.upto voicesTellSpec)

/-- 'neumelaw24.VoicesApart', WHERE WHAT IT READS IS OF BULK AT MOST 1048576: true; the input reads as it did. -/
def voicesApartUptoRow : OpenClaim := { program := "ytchmcljinkemaaa", sum := "c0d8392747a37287a804dcff27f475073b4002d6f27507fa0c85458f41993174", func := "neume/neumelaw24.VoicesApart", spec := "voicesApart", unfollowed := true, recurses := true, apart := false, narrowed := true }
def VoicesApartUptoSaid : Prop := voicesApartUptoRow.holds Try.pinned (OpenSpec.upto voicesApartSpec)

/-- 'neumelaw24.VoicesLeast', WHERE WHAT IT READS IS OF BULK AT MOST 1048576: true; the input reads as it did. -/
def voicesLeastUptoRow : OpenClaim := { program := "ytchmcljinkemaaa", sum := "c0d8392747a37287a804dcff27f475073b4002d6f27507fa0c85458f41993174", func := "neume/neumelaw24.VoicesLeast", spec := "voicesLeast", unfollowed := true, recurses := true, apart := false, narrowed := true }
def VoicesLeastUptoSaid : Prop := voicesLeastUptoRow.holds Try.pinned (OpenSpec.upto voicesLeastSpec)

end Rows
end Go.Proofs.Ytchmcljinkemaaa
