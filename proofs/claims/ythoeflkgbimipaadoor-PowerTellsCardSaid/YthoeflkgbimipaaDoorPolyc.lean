/- The walks of package poly: Horner, Powers, Slope, Derive; of package center. -/
import Derived.Test.YthoeflkgbimipaaDoorPolyb
set_option linter.unusedVariables false
set_option linter.unusedSimpArgs false
namespace Go.Proofs.YthoeflkgbimipaaDoor
open Go.RowKit

end Go.Proofs.YthoeflkgbimipaaDoor
