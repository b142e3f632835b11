/- The walks of package unit: fits, Times, By. -/
import Derived.Test.YtafhcppigpjcpaaDoorSpanb
set_option linter.unusedVariables false
set_option linter.unusedSimpArgs false
namespace Go.Proofs.YtafhcppigpjcpaaDoor
open Go.RowKit

def ufitsF (lo hi : Int) : Except Nat (Int × Int) := if M lo ∧ M hi then .ok (lo, hi) else .error 4
def utimesF (a b : Int) : Except Nat (Int × Int) := if M a ∧ M b then ufitsF (pdn a b) (pup a b) else .error 1
def ubyF (a b : Int) : Except Nat (Int × Int) := if M a ∧ M b then (if b = 0 then .error 8 else ufitsF (qdn a b) (qup a b)) else .error 1
theorem umul_bd {x y : Int} (h1 : M x) (h2 : M y) : -1000000000000000000 ≤ x * y ∧ x * y ≤ 1000000000000000000 := by
  obtain ⟨a, b⟩ := h1; obtain ⟨c, d⟩ := h2
  have h : (x * y).natAbs ≤ 1000000000 * 1000000000 := by
    rw [Int.natAbs_mul]; exact Nat.mul_le_mul (by omega) (by omega)
  omega
end Go.Proofs.YtafhcppigpjcpaaDoor
