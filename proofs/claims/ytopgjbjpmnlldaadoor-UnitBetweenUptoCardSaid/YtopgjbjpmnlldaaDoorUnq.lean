/- UnitBetween: what two numbers are times each other, and by each other, lies between both told; a number is read as it was. -/
import Derived.Test.YtopgjbjpmnlldaaDoorUnp
import Derived.Test.YtopgjbjpmnlldaaDoorHasl
import Derived.Test.YtopgjbjpmnlldaaDoorRow

set_option linter.unusedVariables false
set_option linter.unusedSimpArgs false
namespace Go.Proofs.YtopgjbjpmnlldaaDoor
open Go.ChangeShapes Go.WideShapes Go.ChangeAt Go.RowKit Go.Joins Go.Deep

theorem dnup_one (n k : Int) (hk : 0 < k) : dn n k ≤ up n k ∧ up n k - dn n k ≤ 1 ∧ (dn n k = up n k ↔ n % k = 0) := by
  have h1 := Int.emod_add_mul_ediv n k
  have h2 := Int.emod_add_mul_ediv (-n) k
  have h3 := Int.emod_nonneg n (show k ≠ 0 by omega)
  have h4 := Int.emod_lt_of_pos n hk
  have h5 := Int.emod_nonneg (-n) (show k ≠ 0 by omega)
  have h6 := Int.emod_lt_of_pos (-n) hk
  unfold dn up
  generalize hp : n / k = p at *
  generalize hq : -n / k = q at *
  generalize n % k = x at *
  generalize -n % k = y at *
  have e : k * (p + q) = -(x + y) := by rw [Int.mul_add]; omega
  have a1 : p + q ≤ 0 := by
    by_cases h : 0 < p + q
    · have := Int.mul_le_mul_of_nonneg_left (show 1 ≤ p + q by omega) (show (0 : Int) ≤ k by omega)
      omega
    · omega
  have a2 : -1 ≤ p + q := by
    by_cases h : p + q < -1
    · have := Int.mul_le_mul_of_nonneg_left (show p + q ≤ -2 by omega) (show (0 : Int) ≤ k by omega)
      omega
    · omega
  refine ⟨by omega, by omega, fun h => ?_, fun h => ?_⟩
  · have : p + q = 0 := by omega
    rw [this] at e
    simp at e
    omega
  · rcases (show p + q = 0 ∨ p + q = -1 by omega) with h7 | h7
    · omega
    · rw [h7] at e
      omega
theorem times_facts {a b lo hi : Int} (h : utimesF a b = .ok (lo, hi)) : M lo ∧ M hi ∧ (-1000000000000000000 ≤ a * b ∧ a * b ≤ 1000000000000000000) ∧ lo * 1000 ≤ a * b ∧ a * b ≤ hi * 1000 ∧ hi - lo ≤ 1 ∧ (lo = hi ↔ a * b % 1000 = 0) := by
  unfold utimesF at h
  split at h
  · rename_i hm
    unfold ufitsF at h
    split at h
    · rename_i hf
      injection h with h
      injection h with h1 h2
      subst h1 h2
      obtain ⟨d1, d2, d3⟩ := dnup_one (a * b) 1000 (by decide)
      exact ⟨hf.1, hf.2, umul_bd hm.1 hm.2, pdn_le a b, pup_ge a b, d2, d3⟩
    · cases h
  · cases h
theorem by_facts {a b lo hi : Int} (h : ubyF a b = .ok (lo, hi)) : M a ∧ M b ∧ M lo ∧ M hi ∧ b ≠ 0 ∧ (0 < b → lo * b ≤ a * 1000 ∧ a * 1000 ≤ hi * b) ∧ (b < 0 → a * 1000 ≤ lo * b ∧ hi * b ≤ a * 1000) ∧ hi - lo ≤ 1 ∧ lo ≤ hi := by
  unfold ubyF at h
  split at h
  · rename_i hm
    split at h
    · cases h
    · rename_i h0
      unfold ufitsF at h
      split at h
      · rename_i hf
        injection h with h
        injection h with h1 h2
        subst h1 h2
        obtain ⟨q1, q2⟩ := qdn_le (x := a) h0
        refine ⟨hm.1, hm.2, hf.1, hf.2, h0, fun hb => by have := q1 hb; omega, fun hb => by have := q2 hb; omega, ?_, ?_⟩
        · unfold qdn qup
          split
          · exact (dnup_one (-a * 1000) (-b) (by omega)).2.1
          · exact (dnup_one (a * 1000) b (by omega)).2.1
        · unfold qdn qup
          split
          · exact (dnup_one (-a * 1000) (-b) (by omega)).1
          · exact (dnup_one (a * 1000) b (by omega)).1
      · cases h
  · cases h
theorem fact_times : utimesF 1500 (-3) = .ok (-5, -4) := rfl
end Go.Proofs.YtopgjbjpmnlldaaDoor
