/- Copying a slice of numbers.
   Conditions: none. -/
import Derived.Test.YtlmlffiajgofeaaMak
import Derived.Test.YtlmlffiajgofeaaRow
namespace Go.Proofs.Ytlmlffiajgofeaa
open Go.RowKit
set_option linter.unusedVariables false
end Go.Proofs.Ytlmlffiajgofeaa
