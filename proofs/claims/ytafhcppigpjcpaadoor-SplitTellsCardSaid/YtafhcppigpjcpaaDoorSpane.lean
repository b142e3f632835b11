/- The walks of span's two, and of what is made of any two spans. -/
import Derived.Test.YtafhcppigpjcpaaDoorSpand
set_option linter.unusedVariables false
set_option linter.unusedSimpArgs false
namespace Go.Proofs.YtafhcppigpjcpaaDoor
open Go.RowKit

theorem rt_M {lo hi : Int} (h : Rt ⟨lo, hi⟩) : M lo ∧ M hi ∧ lo ≤ hi := h
end Go.Proofs.YtafhcppigpjcpaaDoor
