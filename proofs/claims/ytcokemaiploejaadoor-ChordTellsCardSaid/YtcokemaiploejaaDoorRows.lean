/-
  NARROWER THAN 'FOR EVERY INPUT', by the rows' own cells (each row's printed sentence says how): ChordTells: laid · ChordApart: laid · ChordMirror: laid · ChordTurns: laid.
  DERIVED. THE GIVEN ROWS OF THIS SEAT. 4 by the template 'for every input the law returns true; each argument reads behind the call as it read before'; 0 by the template 'total and deterministic' (their statements: YtcokemaiploejaaDoorTotals.lean).
  GIVEN WITH THE SEED: the statements are not yours to turn. If you find one false, say at which input.
  Laid BY PROGRAM, IN A SANDBOX (cutbox-rows.mjs): the forced cells as the released guide's own fill.sh prints them over the translation 280c60faff740291… (all of the seat's roots in one cut). By AI agents, Wed Nov 11 2026. No macro, syntax, notation, axiom, sorry.
-/
import Derived.Test.YtcokemaiploejaaDoorChecked
import GoSem.Claim
import GoSem.ClaimJoined
import GoSem.ClaimMapViews
import Derived.JoinedTies
import Derived.KernelRfl
namespace Go.Proofs.YtcokemaiploejaaDoor
/- THE CELL 'sum', in the pinned program and in every row, IS THE sha256 OF THE DUMP (.gsa) THAT YtcokemaiploejaaDoorProg.lean LOADS. Nothing in Lean hashes anything: it is a label: what it is worth is what the hold of that sum in a sandbox is worth. -/
noncomputable def Tryd.pinned : Pinned := { name := "ytcokemaiploejaadoor", sum := "280c60faff740291e89787210659e75be129376dfbbcad5a402f9a87b26bce83", checked := Tryd.checked }
namespace Rows
def none {H : Type} : Left H := { results := [], args := [] }

/- WHAT THE LISTED PACKAGE-LEVEL VARIABLES READ AS WHEN THE CALL BEGINS. Each datum BY PROGRAM (the guide's laid-datum.mjs) off the statement by which the dump's own 'gosem.cut.vars' lays the variable. In a bare row this is a premise. The card (YtcokemaiploejaaDoorCards.lean) ties it to the program's text. -/
def laid_errors_errorType {H : Type} : DataW H := .iface "internal/reflectlite.rtype" (.agg [.ptr (.lit (.string [101, 114, 114, 111, 114]))])

/-- 'neumelaw23.ChordTells': WHATEVER THE INPUT: true; the input reads as it did. -/
def chordTellsSpec : ChangeSpec := { name := "chordTells", fn := fun _ => fun
  | [d1, d2, d3, d4, d5] => { results := [.lit (.bool true)], args := [d1, d2, d3, d4, d5] }
  | _ => none }
def chordTellsRow : OpenClaim := { program := "ytcokemaiploejaadoor", sum := "280c60faff740291e89787210659e75be129376dfbbcad5a402f9a87b26bce83", func := "neume/neumelaw23.ChordTells", spec := "chordTells", inPlace := ["internal/reflectlite.ValueOf", "(internal/reflectlite.Value).Type", "(internal/reflectlite.Value).IsNil", "internal/reflectlite.TypeOf", "(internal/reflectlite.Value).Elem", "(internal/reflectlite.Value).Set"], unfollowed := true, recurses := true, named := ["errors.errorType", "math/bits.divideError", "math/bits.overflowError"], apart := false, laid := [("errors.errorType", laid_errors_errorType)] }
def ChordTellsSaid : Prop := chordTellsRow.holds Tryd.pinned (OpenSpec.ofChange chordTellsSpec)

/-- ITS FALSE NEIGHBOUR: 'it returns false'. Refute it at one input. -/
def chordTellsWrong : ChangeSpec := { name := "chordTells", fn := fun _ => fun
  | [d1, d2, d3, d4, d5] => { results := [.lit (.bool false)], args := [d1, d2, d3, d4, d5] }
  | _ => none }
def ChordTellsWrongFalsely : Prop := chordTellsRow.holds Tryd.pinned (OpenSpec.ofChange chordTellsWrong)

/-- 'neumelaw23.ChordApart': WHATEVER THE INPUT: true; the input reads as it did. -/
def chordApartSpec : ChangeSpec := { name := "chordApart", fn := fun _ => fun
  | [d1, d2, d3, d4] => { results := [.lit (.bool true)], args := [d1, d2, d3, d4] }
  | _ => none }
def chordApartRow : OpenClaim := { program := "ytcokemaiploejaadoor", sum := "280c60faff740291e89787210659e75be129376dfbbcad5a402f9a87b26bce83", func := "neume/neumelaw23.ChordApart", spec := "chordApart", inPlace := ["internal/reflectlite.ValueOf", "(internal/reflectlite.Value).Type", "(internal/reflectlite.Value).IsNil", "internal/reflectlite.TypeOf", "(internal/reflectlite.Value).Elem", "(internal/reflectlite.Value).Set"], unfollowed := true, recurses := true, named := ["errors.errorType", "math/bits.divideError", "math/bits.overflowError"], apart := false, laid := [("errors.errorType", laid_errors_errorType)] }
def ChordApartSaid : Prop := chordApartRow.holds Tryd.pinned (OpenSpec.ofChange chordApartSpec)

/-- ITS FALSE NEIGHBOUR: 'it returns false'. Refute it at one input. -/
def chordApartWrong : ChangeSpec := { name := "chordApart", fn := fun _ => fun
  | [d1, d2, d3, d4] => { results := [.lit (.bool false)], args := [d1, d2, d3, d4] }
  | _ => none }
def ChordApartWrongFalsely : Prop := chordApartRow.holds Tryd.pinned (OpenSpec.ofChange chordApartWrong)

/-- 'neumelaw23.ChordMirror': WHATEVER THE INPUT: true; the input reads as it did. -/
def chordMirrorSpec : ChangeSpec := { name := "chordMirror", fn := fun _ => fun
  | [d1, d2] => { results := [.lit (.bool true)], args := [d1, d2] }
  | _ => none }
def chordMirrorRow : OpenClaim := { program := "ytcokemaiploejaadoor", sum := "280c60faff740291e89787210659e75be129376dfbbcad5a402f9a87b26bce83", func := "neume/neumelaw23.ChordMirror", spec := "chordMirror", inPlace := ["internal/reflectlite.ValueOf", "(internal/reflectlite.Value).Type", "(internal/reflectlite.Value).IsNil", "internal/reflectlite.TypeOf", "(internal/reflectlite.Value).Elem", "(internal/reflectlite.Value).Set"], unfollowed := true, recurses := true, named := ["errors.errorType", "math/bits.divideError", "math/bits.overflowError"], apart := false, laid := [("errors.errorType", laid_errors_errorType)] }
def ChordMirrorSaid : Prop := chordMirrorRow.holds Tryd.pinned (OpenSpec.ofChange chordMirrorSpec)

/-- ITS FALSE NEIGHBOUR: 'it returns false'. Refute it at one input. -/
def chordMirrorWrong : ChangeSpec := { name := "chordMirror", fn := fun _ => fun
  | [d1, d2] => { results := [.lit (.bool false)], args := [d1, d2] }
  | _ => none }
def ChordMirrorWrongFalsely : Prop := chordMirrorRow.holds Tryd.pinned (OpenSpec.ofChange chordMirrorWrong)

/-- 'neumelaw23.ChordTurns': WHATEVER THE INPUT: true; the input reads as it did. -/
def chordTurnsSpec : ChangeSpec := { name := "chordTurns", fn := fun _ => fun
  | [d1, d2] => { results := [.lit (.bool true)], args := [d1, d2] }
  | _ => none }
def chordTurnsRow : OpenClaim := { program := "ytcokemaiploejaadoor", sum := "280c60faff740291e89787210659e75be129376dfbbcad5a402f9a87b26bce83", func := "neume/neumelaw23.ChordTurns", spec := "chordTurns", inPlace := ["internal/reflectlite.ValueOf", "(internal/reflectlite.Value).Type", "(internal/reflectlite.Value).IsNil", "internal/reflectlite.TypeOf", "(internal/reflectlite.Value).Elem", "(internal/reflectlite.Value).Set"], unfollowed := true, recurses := true, named := ["errors.errorType", "math/bits.divideError", "math/bits.overflowError"], apart := false, laid := [("errors.errorType", laid_errors_errorType)] }
def ChordTurnsSaid : Prop := chordTurnsRow.holds Tryd.pinned (OpenSpec.ofChange chordTurnsSpec)

/-- ITS FALSE NEIGHBOUR: 'it returns false'. Refute it at one input. -/
def chordTurnsWrong : ChangeSpec := { name := "chordTurns", fn := fun _ => fun
  | [d1, d2] => { results := [.lit (.bool false)], args := [d1, d2] }
  | _ => none }
def ChordTurnsWrongFalsely : Prop := chordTurnsRow.holds Tryd.pinned (OpenSpec.ofChange chordTurnsWrong)

/- THE SECOND FORM. 'bulk': how many values and letters a reading holds, each counted each time it is reached (what is shared counts as often as it is met; a slice's spare places count too). A statement '..UptoSaid' is the law's where the arguments, and the package variables that the reading takes, are together of bulk at most 1048576: NARROWER than '..Said'. Prove '..Said' where nothing that the law and all that it calls make is longer than what came in: it says more and counts as full. Else prove '..UptoSaid'. A law counts once. -/
mutual
def uptoBulk {H : Type} : DataW H → Nat
  | .lit (.string bytes) => bytes.length + 1
  | .lit _ => 1
  | .nil => 1
  | .ptr d => uptoBulk d + 1
  | .slice elems spare => uptoBulkAll elems + uptoBulkAll spare + 1
  | .agg parts => uptoBulkAll parts + 1
  | .iface _ d => uptoBulk d + 1
  | .map entries => uptoBulkEntries entries + 1
  | .held _ => 1
def uptoBulkAll {H : Type} : List (DataW H) → Nat
  | [] => 0
  | d :: r => uptoBulk d + uptoBulkAll r
def uptoBulkEntries {H : Type} : List (Lit × DataW H) → Nat
  | [] => 0
  | x :: r => uptoBulkEntry x + uptoBulkEntries r
def uptoBulkEntry {H : Type} : Lit × DataW H → Nat
  | (.string bytes, d) => bytes.length + uptoBulk d + 1
  | (_, d) => uptoBulk d + 1
 end
def uptoSmall : (H : Type) → List (DataW H) → Bool := fun _ ds => decide (uptoBulkAll ds ≤ 1048576)
def OpenSpec.upto (s : _root_.Go.ChangeSpec) : _root_.Go.OpenSpec := { _root_.Go.OpenSpec.ofChange s with cond := some uptoSmall }

/-- 'neumelaw23.ChordTells', WHERE WHAT IT READS IS OF BULK AT MOST 1048576: true; the input reads as it did. -/
def chordTellsUptoRow : OpenClaim := { program := "ytcokemaiploejaadoor", sum := "280c60faff740291e89787210659e75be129376dfbbcad5a402f9a87b26bce83", func := "neume/neumelaw23.ChordTells", spec := "chordTells", inPlace := ["internal/reflectlite.ValueOf", "(internal/reflectlite.Value).Type", "(internal/reflectlite.Value).IsNil", "internal/reflectlite.TypeOf", "(internal/reflectlite.Value).Elem", "(internal/reflectlite.Value).Set"], unfollowed := true, recurses := true, named := ["errors.errorType", "math/bits.divideError", "math/bits.overflowError"], apart := false, laid := [("errors.errorType", laid_errors_errorType)], narrowed := true }
def ChordTellsUptoSaid : Prop := chordTellsUptoRow.holds Tryd.pinned (OpenSpec.upto chordTellsSpec)

/-- 'neumelaw23.ChordApart', WHERE WHAT IT READS IS OF BULK AT MOST 1048576: true; the input reads as it did. -/
def chordApartUptoRow : OpenClaim := { program := "ytcokemaiploejaadoor", sum := "280c60faff740291e89787210659e75be129376dfbbcad5a402f9a87b26bce83", func := "neume/neumelaw23.ChordApart", spec := "chordApart", inPlace := ["internal/reflectlite.ValueOf", "(internal/reflectlite.Value).Type", "(internal/reflectlite.Value).IsNil", "internal/reflectlite.TypeOf", "(internal/reflectlite.Value).Elem", "(internal/reflectlite.Value).Set"], unfollowed := true, recurses := true, named := ["errors.errorType", "math/bits.divideError", "math/bits.overflowError"], apart := false, laid := [("errors.errorType", laid_errors_errorType)], narrowed := true }
def ChordApartUptoSaid : Prop := chordApartUptoRow.holds Tryd.pinned (OpenSpec.upto chordApartSpec)

/-- 'neumelaw23.ChordMirror', WHERE WHAT IT READS IS OF BULK AT MOST 1048576: true; the input reads as it did. -/
def chordMirrorUptoRow : OpenClaim := { program := "ytcokemaiploejaadoor", sum := "280c60faff740291e89787210659e75be129376dfbbcad5a402f9a87b26bce83", func := "neume/neumelaw23.ChordMirror", spec := "chordMirror", inPlace := ["internal/reflectlite.ValueOf", "(internal/reflectlite.Value).Type", "(internal/reflectlite.Value).IsNil", "internal/reflectlite.TypeOf", "(internal/reflectlite.Value).Elem", "(internal/reflectlite.Value).Set"], unfollowed := true, recurses := true, named := ["errors.errorType", "math/bits.divideError", "math/bits.overflowError"], apart := false, laid := [("errors.errorType", laid_errors_errorType)], narrowed := true }
def ChordMirrorUptoSaid : Prop := chordMirrorUptoRow.holds Tryd.pinned (OpenSpec.upto chordMirrorSpec)

/-- 'neumelaw23.ChordTurns', WHERE WHAT IT READS IS OF BULK AT MOST 1048576: true; the input reads as it did. -/
def chordTurnsUptoRow : OpenClaim := { program := "ytcokemaiploejaadoor", sum := "280c60faff740291e89787210659e75be129376dfbbcad5a402f9a87b26bce83", func := "neume/neumelaw23.ChordTurns", spec := "chordTurns", inPlace := ["internal/reflectlite.ValueOf", "(internal/reflectlite.Value).Type", "(internal/reflectlite.Value).IsNil", "internal/reflectlite.TypeOf", "(internal/reflectlite.Value).Elem", "(internal/reflectlite.Value).Set"], unfollowed := true, recurses := true, named := ["errors.errorType", "math/bits.divideError", "math/bits.overflowError"], apart := false, laid := [("errors.errorType", laid_errors_errorType)], narrowed := true }
def ChordTurnsUptoSaid : Prop := chordTurnsUptoRow.holds Tryd.pinned (OpenSpec.upto chordTurnsSpec)

end Rows
end Go.Proofs.YtcokemaiploejaaDoor
