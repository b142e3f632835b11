/- Behind a call: that one cell of an own block may be written. -/
import Derived.Test.YtafhcppigpjcpaaDoorBase
set_option linter.unusedVariables false
set_option linter.unusedSimpArgs false
namespace Go.Proofs.YtafhcppigpjcpaaDoor
open Go.RowKit

theorem fko {W w : World} (hb : Up W w) (b o : Nat) {v : Value} {G : Prop} (hc : W.cell? ⟨b, 0, none⟩ = some v) (hv : W.frozen? ⟨b, o, none⟩ = false) (k : w.frozen? ⟨b, o, none⟩ = false → G) : G :=
  k ((Below.frozen hb (p := ⟨b, o, none⟩) (World.block_lt_of_cell? W (⟨b, 0, none⟩ : Addr) hc)).trans hv)
end Go.Proofs.YtafhcppigpjcpaaDoor
