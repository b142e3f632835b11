/- The walk of center.around and of what stands on it. -/
import Derived.Test.YtopgjbjpmnlldaaDoorPolyb
import Derived.Test.YtopgjbjpmnlldaaDoorBase
set_option linter.unusedVariables false
set_option linter.unusedSimpArgs false
namespace Go.Proofs.YtopgjbjpmnlldaaDoor
open Go.RowKit

theorem nested_M {x s : Sp} {p : List Int} (h0 : 0 < p.length) (hp : ∀ n ∈ p, M n) (h : nestedF x p = .ok s) : M s.lo ∧ M s.hi := by
  rw [nested_hfold x p hp h0] at h
  exact hfold_M _ _ ⟨M_getD hp _, M_getD hp _⟩ _ _ h
theorem steep_M {p : List Int} {x s : Sp} (h0 : 0 < p.length) (h5 : p.length ≤ 5) (h : steepF p x = .ok s) : M s.lo ∧ M s.hi := by
  cases hs : slopeF p with
  | error e => rw [steep_bad hs] at h; cases h
  | ok d =>
    rw [steep_good hs] at h
    obtain ⟨d1, _, d3⟩ := slope_bd h5 h0 hs
    exact nested_M d1 d3 h
theorem half_bd {x : Sp} (h : Rt x) : M (halfF x) := by
  obtain ⟨h1, h2, h3⟩ := h
  unfold M at *
  show -1000000000 ≤ (x.lo + x.hi) / 2 ∧ (x.lo + x.hi) / 2 ≤ 1000000000
  omega
end Go.Proofs.YtopgjbjpmnlldaaDoor
