/- The walk of step.Next. -/
import Derived.Test.YtafhcppigpjcpaaDoorStep

set_option linter.unusedVariables false
set_option linter.unusedSimpArgs false
namespace Go.Proofs.YtafhcppigpjcpaaDoor
open Go.RowKit

theorem cell_two_at (w : World) (x y : Value) (t : TypeId) {n : Nat} (hn : n = w.heap.size) : ∀ j u, [x, y][j]? = some u → (w.alloc (.cells #[x, y] t)).cell? ((⟨n, 0, none⟩ : Addr).add j) = some u := by
  subst hn; exact cell_two_new _ _ _ _
end Go.Proofs.YtafhcppigpjcpaaDoor
