/- The log: how many bytes there are, and how many are safe. -/
import Derived.Test.YtopgjbjpmnlldaaDoorLogb

set_option linter.unusedVariables false
set_option linter.unusedSimpArgs false
namespace Go.Proofs.YtopgjbjpmnlldaaDoor
open Go.RowKit

set_option maxRecDepth 100000 in
set_option maxHeartbeats 4000000 in
theorem bytes_any {Q : Nat → Prop} (g : Nat) (v : Value) (l : Lg) (w : World) (h : LogS Q w g v l) :
    Calls Tryd.prog 15 #[.pointer (some ⟨g, 0, none⟩)] w (RetX intV (l.text.length : Int) w) := by
  obtain ⟨c2, f2⟩ := h.cells.c2
  have lg := World.block_lt_of_cell? _ _ c2
  dsimp only at lg
  have hs := h.ok.size
  clear h
  go_enter Tryd.func15, Tryd.ntmps15
  go_wp2
  go_ret
  exact RetX.same (Up.refl _) rfl
set_option maxRecDepth 100000 in
set_option maxHeartbeats 4000000 in
theorem safe_any {Q : Nat → Prop} (g : Nat) (v : Value) (l : Lg) (w : World) (h : LogS Q w g v l) :
    Calls Tryd.prog 21 #[.pointer (some ⟨g, 0, none⟩)] w (RetX intV (l.safe : Int) w) := by
  obtain ⟨c2, f2⟩ := h.cells.c3
  have lg := World.block_lt_of_cell? _ _ c2
  dsimp only at lg
  clear h
  go_enter Tryd.func21, Tryd.ntmps21
  go_wp2
  go_ret
  exact RetX.same (Up.refl _) rfl
end Go.Proofs.YtopgjbjpmnlldaaDoor
