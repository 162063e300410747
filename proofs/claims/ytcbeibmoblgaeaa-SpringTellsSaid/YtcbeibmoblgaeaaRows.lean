/-
  No cell of these rows narrows 'for every input' (looked for: loops, veiled, ifaces, maps, wideKeys, modest, calm, conditions, laid).
  DERIVED. THE GIVEN ROWS OF THIS SEAT. 3 by the template 'for every input the law returns true; each argument reads behind the call as it read before'; 0 by the template 'total and deterministic' (their statements: YtcbeibmoblgaeaaTotals.lean).
  GIVEN WITH THE SEED: the statements are not yours to turn. If you find one false, say at which input.
  Laid BY PROGRAM, IN A SANDBOX (cutbox-rows.mjs): the forced cells as the released guide's own fill.sh prints them over the translation 17e0691dd78ef56f… (all of the seat's roots in one cut). By AI agents, Wed Nov 11 2026. No macro, syntax, notation, axiom, sorry.
-/
import Derived.Test.YtcbeibmoblgaeaaChecked
import GoSem.Claim
import GoSem.ClaimJoined
import GoSem.ClaimMapViews
import Derived.JoinedTies
import Derived.KernelRfl
namespace Go.Proofs.Ytcbeibmoblgaeaa
/- THE CELL 'sum', in the pinned program and in every row, IS THE sha256 OF THE DUMP (.gsa) THAT YtcbeibmoblgaeaaProg.lean LOADS. Nothing in Lean hashes anything: it is a label: what it is worth is what the hold of that sum in a sandbox is worth. -/
noncomputable def Try.pinned : Pinned := { name := "ytcbeibmoblgaeaa", sum := "17e0691dd78ef56f208295382e2de4d0f2695c78eb4fd11f6808c9eeecb760d0", checked := Try.checked }
namespace Rows
def none {H : Type} : Left H := { results := [], args := [] }

/-- 'neumelaw28.SpringTells': WHATEVER THE INPUT: true; the input reads as it did. -/
def springTellsSpec : ChangeSpec := { name := "springTells", fn := fun _ => fun
  | [d1, d2, d3, d4, d5, d6] => { results := [.lit (.bool true)], args := [d1, d2, d3, d4, d5, d6] }
  | _ => none }
def springTellsRow : OpenClaim := { program := "ytcbeibmoblgaeaa", sum := "17e0691dd78ef56f208295382e2de4d0f2695c78eb4fd11f6808c9eeecb760d0", func := "neume/neumelaw28.SpringTells", spec := "springTells", unfollowed := true, recurses := true, apart := false }
def SpringTellsSaid : Prop := springTellsRow.holds Try.pinned (OpenSpec.ofChange springTellsSpec)

/-- ITS FALSE NEIGHBOUR: 'it returns false'. Refute it at one input. -/
def springTellsWrong : ChangeSpec := { name := "springTells", fn := fun _ => fun
  | [d1, d2, d3, d4, d5, d6] => { results := [.lit (.bool false)], args := [d1, d2, d3, d4, d5, d6] }
  | _ => none }
def SpringTellsWrongFalsely : Prop := springTellsRow.holds Try.pinned (OpenSpec.ofChange springTellsWrong)

/-- 'neumelaw28.SpringRises': WHATEVER THE INPUT: true; the input reads as it did. -/
def springRisesSpec : ChangeSpec := { name := "springRises", fn := fun _ => fun
  | [d1, d2] => { results := [.lit (.bool true)], args := [d1, d2] }
  | _ => none }
def springRisesRow : OpenClaim := { program := "ytcbeibmoblgaeaa", sum := "17e0691dd78ef56f208295382e2de4d0f2695c78eb4fd11f6808c9eeecb760d0", func := "neume/neumelaw28.SpringRises", spec := "springRises", unfollowed := true, recurses := true, apart := false }
def SpringRisesSaid : Prop := springRisesRow.holds Try.pinned (OpenSpec.ofChange springRisesSpec)

/-- ITS FALSE NEIGHBOUR: 'it returns false'. Refute it at one input. -/
def springRisesWrong : ChangeSpec := { name := "springRises", fn := fun _ => fun
  | [d1, d2] => { results := [.lit (.bool false)], args := [d1, d2] }
  | _ => none }
def SpringRisesWrongFalsely : Prop := springRisesRow.holds Try.pinned (OpenSpec.ofChange springRisesWrong)

/-- 'neumelaw28.SpringForce': WHATEVER THE INPUT: true; the input reads as it did. -/
def springForceSpec : ChangeSpec := { name := "springForce", fn := fun _ => fun
  | [d1, d2, d3] => { results := [.lit (.bool true)], args := [d1, d2, d3] }
  | _ => none }
def springForceRow : OpenClaim := { program := "ytcbeibmoblgaeaa", sum := "17e0691dd78ef56f208295382e2de4d0f2695c78eb4fd11f6808c9eeecb760d0", func := "neume/neumelaw28.SpringForce", spec := "springForce", unfollowed := true, recurses := true, apart := false }
def SpringForceSaid : Prop := springForceRow.holds Try.pinned (OpenSpec.ofChange springForceSpec)

/-- ITS FALSE NEIGHBOUR: 'it returns false'. Refute it at one input. -/
def springForceWrong : ChangeSpec := { name := "springForce", fn := fun _ => fun
  | [d1, d2, d3] => { results := [.lit (.bool false)], args := [d1, d2, d3] }
  | _ => none }
def SpringForceWrongFalsely : Prop := springForceRow.holds Try.pinned (OpenSpec.ofChange springForceWrong)

/- THE SECOND FORM. 'bulk': how many values and letters a reading holds, each counted each time it is reached (what is shared counts as often as it is met; a slice's spare places count too). A statement '..UptoSaid' is the law's where the arguments, and the package variables that the reading takes, are together of bulk at most 1048576: NARROWER than '..Said'. Prove '..Said' where nothing that the law and all that it calls make is longer than what came in: it says more and counts as full. Else prove '..UptoSaid'. A law counts once. -/
mutual
def uptoBulk {H : Type} : DataW H → Nat
  | .lit (.string bytes) => bytes.length + 1
  | .lit _ => 1
  | .nil => 1
  | .ptr d => uptoBulk d + 1
  | .slice elems spare => uptoBulkAll elems + uptoBulkAll spare + 1
  | .agg parts => uptoBulkAll parts + 1
  | .iface _ d => uptoBulk d + 1
  | .map entries => uptoBulkEntries entries + 1
  | .held _ => 1
def uptoBulkAll {H : Type} : List (DataW H) → Nat
  | [] => 0
  | d :: r => uptoBulk d + uptoBulkAll r
def uptoBulkEntries {H : Type} : List (Lit × DataW H) → Nat
  | [] => 0
  | x :: r => uptoBulkEntry x + uptoBulkEntries r
def uptoBulkEntry {H : Type} : Lit × DataW H → Nat
  | (.string bytes, d) => bytes.length + uptoBulk d + 1
  | (_, d) => uptoBulk d + 1
 end
def uptoSmall : (H : Type) → List (DataW H) → Bool := fun _ ds => decide (uptoBulkAll ds ≤ 1048576)
def OpenSpec.upto (s : _root_.Go.ChangeSpec) : _root_.Go.OpenSpec := { _root_.Go.OpenSpec.ofChange s with cond := some uptoSmall }

/-- 'neumelaw28.SpringTells', WHERE WHAT IT READS IS OF BULK AT MOST 1048576: true; the input reads as it did. -/
def springTellsUptoRow : OpenClaim := { program := "ytcbeibmoblgaeaa", sum := "17e0691dd78ef56f208295382e2de4d0f2695c78eb4fd11f6808c9eeecb760d0", func := "neume/neumelaw28.SpringTells", spec := "springTells", unfollowed := true, recurses := true, apart := false, narrowed := true }
def SpringTellsUptoSaid : Prop := springTellsUptoRow.holds Try.pinned (OpenSpec.upto springTellsSpec)

/-- 'neumelaw28.SpringRises', WHERE WHAT IT READS IS OF BULK AT MOST 1048576: true; the input reads as it did. -/
def springRisesUptoRow : OpenClaim := { program := "ytcbeibmoblgaeaa", sum := "17e0691dd78ef56f208295382e2de4d0f2695c78eb4fd11f6808c9eeecb760d0", func := "neume/neumelaw28.SpringRises", spec := "springRises", unfollowed := true, recurses := true, apart := false, narrowed := true }
def SpringRisesUptoSaid : Prop := springRisesUptoRow.holds Try.pinned (OpenSpec.upto springRisesSpec)

/-- 'neumelaw28.SpringForce', WHERE WHAT IT READS IS OF BULK AT MOST 1048576: true; the input reads as it did. -/
def springForceUptoRow : OpenClaim := { program := "ytcbeibmoblgaeaa", sum := "17e0691dd78ef56f208295382e2de4d0f2695c78eb4fd11f6808c9eeecb760d0", func := "neume/neumelaw28.SpringForce", spec := "springForce", unfollowed := true, recurses := true, apart := false, narrowed := true }
def SpringForceUptoSaid : Prop := springForceUptoRow.holds Try.pinned (OpenSpec.upto springForceSpec)

end Rows
end Go.Proofs.Ytcbeibmoblgaeaa
