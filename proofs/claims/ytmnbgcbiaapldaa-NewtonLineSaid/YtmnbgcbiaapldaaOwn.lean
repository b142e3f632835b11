/- Behind a call: what the call's own cells hold in the new world, each said of that world alone. -/
import Derived.Test.YtmnbgcbiaapldaaBase
set_option linter.unusedVariables false
set_option linter.unusedSimpArgs false
namespace Go.Proofs.Ytmnbgcbiaapldaa
open Go.RowKit

theorem cell_keep {W w : World} (hb : Up W w) (b o : Nat) {v : Value} {G : Prop} (hl : b < W.heap.size) (hv : W.cell? ⟨b, o, none⟩ = some v) (k : w.cell? ⟨b, o, none⟩ = some v → G) : G :=
  k ((Below.cell hb (p := ⟨b, o, none⟩) hl).trans hv)
theorem free_keep {W w : World} (hb : Up W w) (b : Nat) {G : Prop} (hl : b < W.heap.size) (hv : ∀ o, W.frozen? ⟨b, o, none⟩ = false) (k : (∀ o, w.frozen? ⟨b, o, none⟩ = false) → G) : G :=
  k (fun o => (Below.frozen hb (p := ⟨b, o, none⟩) hl).trans (hv o))
theorem ck {W w : World} (hb : Up W w) (b o : Nat) {v : Value} {G : Prop} (hv : W.cell? ⟨b, o, none⟩ = some v) (k : w.cell? ⟨b, o, none⟩ = some v → G) : G :=
  k ((Below.cell hb (p := ⟨b, o, none⟩) (World.block_lt_of_cell? W _ hv)).trans hv)
theorem fk {W w : World} (hb : Up W w) (b : Nat) {v : Value} {G : Prop} (hc : W.cell? ⟨b, 0, none⟩ = some v) (hv : ∀ o, W.frozen? ⟨b, o, none⟩ = false) (k : (∀ o, w.frozen? ⟨b, o, none⟩ = false) → G) : G :=
  k (fun o => (Below.frozen hb (p := ⟨b, o, none⟩) (World.block_lt_of_cell? W (⟨b, 0, none⟩ : Addr) hc)).trans (hv o))
theorem old_keep {w0 w : World} {G : Prop} (hu : Up w0 w) (k : Up w0 w → (∀ b o, b < w0.heap.size → w.cell? ⟨b, o, none⟩ = w0.cell? ⟨b, o, none⟩) → G) : G := k hu (bcell hu).1
end Go.Proofs.Ytmnbgcbiaapldaa
