/- The walk of center.Tight (a loop over a slice of two function values), and of center.Best. -/
import Derived.Test.YtopgjbjpmnlldaaDoorCenterb
import Derived.LoopN
set_option linter.unusedVariables false
set_option linter.unusedSimpArgs false
namespace Go.Proofs.YtopgjbjpmnlldaaDoor
open Go.RowKit

theorem around_M {p : List Int} {x s : Sp} (h : aroundF p x = .ok s) : M s.lo ∧ M s.hi := by
  unfold aroundF at h
  split at h
  · cases h
  · split at h
    · cases h
    · split at h
      · cases h
      · split at h
        · cases h
        · exact sum_M h
end Go.Proofs.YtopgjbjpmnlldaaDoor
