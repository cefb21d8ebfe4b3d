/- The walks of the laws on opening, sealing and hiding.
   Conditions: none. -/
import Derived.Test.YtglgaicbcackbaaSec
namespace Go.Proofs.Ytglgaicbcackbaa
open Go.RowKit
set_option linter.unusedVariables false
end Go.Proofs.Ytglgaicbcackbaa
