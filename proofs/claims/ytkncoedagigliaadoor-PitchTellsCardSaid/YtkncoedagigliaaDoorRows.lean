/-
  NARROWER THAN 'FOR EVERY INPUT', by the rows' own cells (each row's printed sentence says how): PitchTells: laid · PitchBack: laid · PitchNear: laid · PitchSigns: laid.
  DERIVED. THE GIVEN ROWS OF THIS SEAT. 4 by the template 'for every input the law returns true; each argument reads behind the call as it read before'; 0 by the template 'total and deterministic' (their statements: YtkncoedagigliaaDoorTotals.lean).
  GIVEN WITH THE SEED: the statements are not yours to turn. If you find one false, say at which input.
  Laid BY PROGRAM, IN A SANDBOX (cutbox-rows.mjs): the forced cells as the released guide's own fill.sh prints them over the translation b37d819604cb1dc7… (all of the seat's roots in one cut). By AI agents, Wed Nov 11 2026. No macro, syntax, notation, axiom, sorry.
-/
import Derived.Test.YtkncoedagigliaaDoorChecked
import GoSem.PinnedTables
import GoSem.Claim
import GoSem.ClaimJoined
import GoSem.ClaimMapViews
import Derived.JoinedTies
import Derived.KernelRfl
namespace Go.Proofs.YtkncoedagigliaaDoor
/- THE CELL 'sum', in the pinned program and in every row, IS THE sha256 OF THE DUMP (.gsa) THAT YtkncoedagigliaaDoorProg.lean LOADS. Nothing in Lean hashes anything: it is a label: what it is worth is what the hold of that sum in a sandbox is worth. -/
noncomputable def Tryd.pinned : Pinned := { name := "ytkncoedagigliaadoor", sum := "b37d819604cb1dc7c3a0eb51bf085917c1726839a1eeddacf10cba8011bf9868", checked := Tryd.checked }
namespace Rows
def none {H : Type} : Left H := { results := [], args := [] }

/- WHAT THE LISTED PACKAGE-LEVEL VARIABLES READ AS WHEN THE CALL BEGINS. Each datum BY PROGRAM (the guide's laid-datum.mjs) off the statement by which the dump's own 'gosem.cut.vars' lays the variable. In a bare row this is a premise. The card (YtkncoedagigliaaDoorCards.lean) ties it to the program's text. -/
def laid_unicode_utf8_acceptRanges {H : Type} : DataW H := .agg [.agg [.lit (.int .u8 128), .lit (.int .u8 191)], .agg [.lit (.int .u8 160), .lit (.int .u8 191)], .agg [.lit (.int .u8 128), .lit (.int .u8 159)], .agg [.lit (.int .u8 144), .lit (.int .u8 191)], .agg [.lit (.int .u8 128), .lit (.int .u8 143)], .agg [.lit (.int .u8 0), .lit (.int .u8 0)], .agg [.lit (.int .u8 0), .lit (.int .u8 0)], .agg [.lit (.int .u8 0), .lit (.int .u8 0)], .agg [.lit (.int .u8 0), .lit (.int .u8 0)], .agg [.lit (.int .u8 0), .lit (.int .u8 0)], .agg [.lit (.int .u8 0), .lit (.int .u8 0)], .agg [.lit (.int .u8 0), .lit (.int .u8 0)], .agg [.lit (.int .u8 0), .lit (.int .u8 0)], .agg [.lit (.int .u8 0), .lit (.int .u8 0)], .agg [.lit (.int .u8 0), .lit (.int .u8 0)], .agg [.lit (.int .u8 0), .lit (.int .u8 0)]]
/-- One of Go's own tables, pinned by name: the form's constant. -/
def laid_unicode_utf8_first : DataW Unit := Go.Pinned.utf8First

/-- 'neumelaw06.PitchTells': WHATEVER THE INPUT: true; the input reads as it did. -/
def pitchTellsSpec : ChangeSpec := { name := "pitchTells", fn := fun _ => fun
  | [d1, d2, d3, d4] => { results := [.lit (.bool true)], args := [d1, d2, d3, d4] }
  | _ => none }
def pitchTellsRow : OpenClaim := { program := "ytkncoedagigliaadoor", sum := "b37d819604cb1dc7c3a0eb51bf085917c1726839a1eeddacf10cba8011bf9868", func := "neume/neumelaw06.PitchTells", spec := "pitchTells", inPlace := ["internal/bytealg.IndexByteString", "internal/bytealg.IndexString", "internal/bytealg.CountString", "internal/abi.NoEscape", "internal/bytealg.MakeNoZero"], named := ["unicode/utf8.first", "unicode/utf8.acceptRanges", "internal/bytealg.MaxLen"], apart := false, laid := [("unicode/utf8.acceptRanges", laid_unicode_utf8_acceptRanges), ("unicode/utf8.first", laid_unicode_utf8_first)] }
def PitchTellsSaid : Prop := pitchTellsRow.holds Tryd.pinned (OpenSpec.ofChange pitchTellsSpec)

/-- ITS FALSE NEIGHBOUR: 'it returns false'. Refute it at one input. -/
def pitchTellsWrong : ChangeSpec := { name := "pitchTells", fn := fun _ => fun
  | [d1, d2, d3, d4] => { results := [.lit (.bool false)], args := [d1, d2, d3, d4] }
  | _ => none }
def PitchTellsWrongFalsely : Prop := pitchTellsRow.holds Tryd.pinned (OpenSpec.ofChange pitchTellsWrong)

/-- 'neumelaw06.PitchBack': WHATEVER THE INPUT: true; the input reads as it did. -/
def pitchBackSpec : ChangeSpec := { name := "pitchBack", fn := fun _ => fun
  | [d1, d2] => { results := [.lit (.bool true)], args := [d1, d2] }
  | _ => none }
def pitchBackRow : OpenClaim := { program := "ytkncoedagigliaadoor", sum := "b37d819604cb1dc7c3a0eb51bf085917c1726839a1eeddacf10cba8011bf9868", func := "neume/neumelaw06.PitchBack", spec := "pitchBack", inPlace := ["internal/abi.NoEscape", "internal/bytealg.MakeNoZero", "internal/bytealg.IndexByteString", "internal/bytealg.IndexString", "internal/bytealg.CountString"], named := ["unicode/utf8.first", "unicode/utf8.acceptRanges", "internal/bytealg.MaxLen"], apart := false, laid := [("unicode/utf8.acceptRanges", laid_unicode_utf8_acceptRanges), ("unicode/utf8.first", laid_unicode_utf8_first)] }
def PitchBackSaid : Prop := pitchBackRow.holds Tryd.pinned (OpenSpec.ofChange pitchBackSpec)

/-- ITS FALSE NEIGHBOUR: 'it returns false'. Refute it at one input. -/
def pitchBackWrong : ChangeSpec := { name := "pitchBack", fn := fun _ => fun
  | [d1, d2] => { results := [.lit (.bool false)], args := [d1, d2] }
  | _ => none }
def PitchBackWrongFalsely : Prop := pitchBackRow.holds Tryd.pinned (OpenSpec.ofChange pitchBackWrong)

/-- 'neumelaw06.PitchNear': WHATEVER THE INPUT: true; the input reads as it did. -/
def pitchNearSpec : ChangeSpec := { name := "pitchNear", fn := fun _ => fun
  | [d1, d2, d3, d4] => { results := [.lit (.bool true)], args := [d1, d2, d3, d4] }
  | _ => none }
def pitchNearRow : OpenClaim := { program := "ytkncoedagigliaadoor", sum := "b37d819604cb1dc7c3a0eb51bf085917c1726839a1eeddacf10cba8011bf9868", func := "neume/neumelaw06.PitchNear", spec := "pitchNear", inPlace := ["internal/bytealg.IndexByteString", "internal/bytealg.IndexString", "internal/bytealg.CountString", "internal/abi.NoEscape", "internal/bytealg.MakeNoZero"], named := ["unicode/utf8.first", "unicode/utf8.acceptRanges", "internal/bytealg.MaxLen"], apart := false, laid := [("unicode/utf8.acceptRanges", laid_unicode_utf8_acceptRanges), ("unicode/utf8.first", laid_unicode_utf8_first)] }
def PitchNearSaid : Prop := pitchNearRow.holds Tryd.pinned (OpenSpec.ofChange pitchNearSpec)

/-- ITS FALSE NEIGHBOUR: 'it returns false'. Refute it at one input. -/
def pitchNearWrong : ChangeSpec := { name := "pitchNear", fn := fun _ => fun
  | [d1, d2, d3, d4] => { results := [.lit (.bool false)], args := [d1, d2, d3, d4] }
  | _ => none }
def PitchNearWrongFalsely : Prop := pitchNearRow.holds Tryd.pinned (OpenSpec.ofChange pitchNearWrong)

/-- 'neumelaw06.PitchSigns': WHATEVER THE INPUT: true; the input reads as it did. -/
def pitchSignsSpec : ChangeSpec := { name := "pitchSigns", fn := fun _ => fun
  | [d1, d2] => { results := [.lit (.bool true)], args := [d1, d2] }
  | _ => none }
def pitchSignsRow : OpenClaim := { program := "ytkncoedagigliaadoor", sum := "b37d819604cb1dc7c3a0eb51bf085917c1726839a1eeddacf10cba8011bf9868", func := "neume/neumelaw06.PitchSigns", spec := "pitchSigns", inPlace := ["internal/bytealg.IndexByteString", "internal/bytealg.IndexString", "internal/bytealg.CountString", "internal/abi.NoEscape", "internal/bytealg.MakeNoZero"], named := ["unicode/utf8.first", "unicode/utf8.acceptRanges", "internal/bytealg.MaxLen"], apart := false, laid := [("unicode/utf8.acceptRanges", laid_unicode_utf8_acceptRanges), ("unicode/utf8.first", laid_unicode_utf8_first)] }
def PitchSignsSaid : Prop := pitchSignsRow.holds Tryd.pinned (OpenSpec.ofChange pitchSignsSpec)

/-- ITS FALSE NEIGHBOUR: 'it returns false'. Refute it at one input. -/
def pitchSignsWrong : ChangeSpec := { name := "pitchSigns", fn := fun _ => fun
  | [d1, d2] => { results := [.lit (.bool false)], args := [d1, d2] }
  | _ => none }
def PitchSignsWrongFalsely : Prop := pitchSignsRow.holds Tryd.pinned (OpenSpec.ofChange pitchSignsWrong)

/- THE SECOND FORM. 'bulk': how many values and letters a reading holds, each counted each time it is reached (what is shared counts as often as it is met; a slice's spare places count too). A statement '..UptoSaid' is the law's where the arguments, and the package variables that the reading takes, are together of bulk at most 1048576: NARROWER than '..Said'. Prove '..Said' where nothing that the law and all that it calls make is longer than what came in: it says more and counts as full. Else prove '..UptoSaid'. A law counts once. -/
mutual
def uptoBulk {H : Type} : DataW H → Nat
  | .lit (.string bytes) => bytes.length + 1
  | .lit _ => 1
  | .nil => 1
  | .ptr d => uptoBulk d + 1
  | .slice elems spare => uptoBulkAll elems + uptoBulkAll spare + 1
  | .agg parts => uptoBulkAll parts + 1
  | .iface _ d => uptoBulk d + 1
  | .map entries => uptoBulkEntries entries + 1
  | .held _ => 1
def uptoBulkAll {H : Type} : List (DataW H) → Nat
  | [] => 0
  | d :: r => uptoBulk d + uptoBulkAll r
def uptoBulkEntries {H : Type} : List (Lit × DataW H) → Nat
  | [] => 0
  | x :: r => uptoBulkEntry x + uptoBulkEntries r
def uptoBulkEntry {H : Type} : Lit × DataW H → Nat
  | (.string bytes, d) => bytes.length + uptoBulk d + 1
  | (_, d) => uptoBulk d + 1
 end
def uptoSmall : (H : Type) → List (DataW H) → Bool := fun _ ds => decide (uptoBulkAll ds ≤ 1048576)
def OpenSpec.upto (s : _root_.Go.ChangeSpec) : _root_.Go.OpenSpec := { _root_.Go.OpenSpec.ofChange s with cond := some uptoSmall }

/-- 'neumelaw06.PitchTells', WHERE WHAT IT READS IS OF BULK AT MOST 1048576: true; the input reads as it did. -/
def pitchTellsUptoRow : OpenClaim := { program := "ytkncoedagigliaadoor", sum := "b37d819604cb1dc7c3a0eb51bf085917c1726839a1eeddacf10cba8011bf9868", func := "neume/neumelaw06.PitchTells", spec := "pitchTells", inPlace := ["internal/bytealg.IndexByteString", "internal/bytealg.IndexString", "internal/bytealg.CountString", "internal/abi.NoEscape", "internal/bytealg.MakeNoZero"], named := ["unicode/utf8.first", "unicode/utf8.acceptRanges", "internal/bytealg.MaxLen"], apart := false, laid := [("unicode/utf8.acceptRanges", laid_unicode_utf8_acceptRanges), ("unicode/utf8.first", laid_unicode_utf8_first)], narrowed := true }
def PitchTellsUptoSaid : Prop := pitchTellsUptoRow.holds Tryd.pinned (OpenSpec.upto pitchTellsSpec)

/-- 'neumelaw06.PitchBack', WHERE WHAT IT READS IS OF BULK AT MOST 1048576: true; the input reads as it did. -/
def pitchBackUptoRow : OpenClaim := { program := "ytkncoedagigliaadoor", sum := "b37d819604cb1dc7c3a0eb51bf085917c1726839a1eeddacf10cba8011bf9868", func := "neume/neumelaw06.PitchBack", spec := "pitchBack", inPlace := ["internal/abi.NoEscape", "internal/bytealg.MakeNoZero", "internal/bytealg.IndexByteString", "internal/bytealg.IndexString", "internal/bytealg.CountString"], named := ["unicode/utf8.first", "unicode/utf8.acceptRanges", "internal/bytealg.MaxLen"], apart := false, laid := [("unicode/utf8.acceptRanges", laid_unicode_utf8_acceptRanges), ("unicode/utf8.first", laid_unicode_utf8_first)], narrowed := true }
def PitchBackUptoSaid : Prop := pitchBackUptoRow.holds Tryd.pinned (OpenSpec.upto pitchBackSpec)

/-- 'neumelaw06.PitchNear', WHERE WHAT IT READS IS OF BULK AT MOST 1048576: true; the input reads as it did. -/
def pitchNearUptoRow : OpenClaim := { program := "ytkncoedagigliaadoor", sum := "b37d819604cb1dc7c3a0eb51bf085917c1726839a1eeddacf10cba8011bf9868", func := "neume/neumelaw06.PitchNear", spec := "pitchNear", inPlace := ["internal/bytealg.IndexByteString", "internal/bytealg.IndexString", "internal/bytealg.CountString", "internal/abi.NoEscape", "internal/bytealg.MakeNoZero"], named := ["unicode/utf8.first", "unicode/utf8.acceptRanges", "internal/bytealg.MaxLen"], apart := false, laid := [("unicode/utf8.acceptRanges", laid_unicode_utf8_acceptRanges), ("unicode/utf8.first", laid_unicode_utf8_first)], narrowed := true }
def PitchNearUptoSaid : Prop := pitchNearUptoRow.holds Tryd.pinned (OpenSpec.upto pitchNearSpec)

/-- 'neumelaw06.PitchSigns', WHERE WHAT IT READS IS OF BULK AT MOST 1048576: true; the input reads as it did. -/
def pitchSignsUptoRow : OpenClaim := { program := "ytkncoedagigliaadoor", sum := "b37d819604cb1dc7c3a0eb51bf085917c1726839a1eeddacf10cba8011bf9868", func := "neume/neumelaw06.PitchSigns", spec := "pitchSigns", inPlace := ["internal/bytealg.IndexByteString", "internal/bytealg.IndexString", "internal/bytealg.CountString", "internal/abi.NoEscape", "internal/bytealg.MakeNoZero"], named := ["unicode/utf8.first", "unicode/utf8.acceptRanges", "internal/bytealg.MaxLen"], apart := false, laid := [("unicode/utf8.acceptRanges", laid_unicode_utf8_acceptRanges), ("unicode/utf8.first", laid_unicode_utf8_first)], narrowed := true }
def PitchSignsUptoSaid : Prop := pitchSignsUptoRow.holds Tryd.pinned (OpenSpec.upto pitchSignsSpec)

end Rows
end Go.Proofs.YtkncoedagigliaaDoor
