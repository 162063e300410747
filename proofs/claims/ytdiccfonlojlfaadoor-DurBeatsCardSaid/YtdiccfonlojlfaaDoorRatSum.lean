/- Fractions: sums told by their parts put crosswise. -/
import Derived.Test.YtdiccfonlojlfaaDoorRatA
import Derived.Test.YtdiccfonlojlfaaDoorRatB
namespace Go.Proofs.YtdiccfonlojlfaaDoor.Rp
open Go.RowKit
set_option linter.unusedVariables false
set_option linter.unusedSimpArgs false

/-- a/b is n 64ths. -/
def isF (a b n : Int) : Prop := Ok a b ∧ a * 64 = n * b
instance (a b n : Int) : Decidable (isF a b n) := by unfold isF; infer_instance
end Go.Proofs.YtdiccfonlojlfaaDoor.Rp