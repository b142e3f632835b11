/- The walks of package poly: Horner, Powers, Slope, Derive; of package center. -/
import Derived.Test.YtknkpjfoaijaoaaPolyb
set_option linter.unusedVariables false
set_option linter.unusedSimpArgs false
namespace Go.Proofs.Ytknkpjfoaijaoaa
open Go.RowKit

end Go.Proofs.Ytknkpjfoaijaoaa
