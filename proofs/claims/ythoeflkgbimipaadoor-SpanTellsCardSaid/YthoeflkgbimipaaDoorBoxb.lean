/- The walks of package box that only read: In, Within, Has. -/
import Derived.Test.YthoeflkgbimipaaDoorBox
import Derived.Test.YthoeflkgbimipaaDoorArgs
set_option linter.unusedVariables false
set_option linter.unusedSimpArgs false
namespace Go.Proofs.YthoeflkgbimipaaDoor
open Go.RowKit

theorem inF_no {s t : Sp} {a b : List Sp} (h : s.lo < t.lo ∨ t.hi < s.hi) : inF (s :: a) (t :: b) = false := by unfold inF; rw [if_pos h]
theorem inF_yes {s t : Sp} {a b : List Sp} (h : ¬ (s.lo < t.lo ∨ t.hi < s.hi)) : inF (s :: a) (t :: b) = inF a b := by
  conv => lhs; unfold inF
  rw [if_neg h]
theorem btwo_none {a b : List Sp} (h : btwoF a b = none) : bcheckF a = none ∧ bcheckF b = none ∧ a.length = b.length := by
  unfold btwoF at h
  split at h
  · cases h
  · split at h
    · cases h
    · split at h
      · exact ⟨by assumption, by assumption, by assumption⟩
      · cases h
theorem firstBad_all {l : List Sp} : firstBad l = none → ∀ s ∈ l, Rt s := by
  induction l with
  | nil => intro _ s hs; cases hs
  | cons t l ih =>
    intro h s hs
    unfold firstBad at h
    split at h
    · cases h
    · rename_i ht
      rcases List.mem_cons.1 hs with e | e
      · rw [e]; exact checkF_none.1 ht
      · exact ih h s e
theorem bcheck_none {l : List Sp} (h : bcheckF l = none) : 0 < l.length ∧ l.length ≤ 3 ∧ ∀ s ∈ l, Rt s := by
  unfold bcheckF at h
  split at h
  · cases h
  · split at h
    · cases h
    · exact ⟨by omega, by omega, firstBad_all h⟩
theorem hasG_no {s : Sp} {n : Int} {b : List Sp} {x : List Int} (h : n < s.lo ∨ s.hi < n) : hasG (s :: b) (n :: x) = false := by unfold hasG; rw [if_pos h]
theorem hasG_yes {s : Sp} {n : Int} {b : List Sp} {x : List Int} (h : ¬ (n < s.lo ∨ s.hi < n)) : hasG (s :: b) (n :: x) = hasG b x := by
  conv => lhs; unfold hasG
  rw [if_neg h]
theorem idrop (p : List Int) (k : Nat) (h : k < p.length) : p.drop k = (p[k]?.getD 0) :: p.drop (k + 1) := by
  rw [List.drop_eq_getElem_cons h, List.getElem?_eq_getElem h]; rfl
theorem RdI.at {w : World} {A : Option Addr} {l : List Int} (h : RdI w A l) (hl : 0 < l.length) : ∃ b o, A = some ⟨b, o, none⟩ ∧ b < w.heap.size ∧ ∀ k, k < l.length → w.cell? ⟨b, o + k, none⟩ = some (.int .i64 (l[k]?.getD 0)) :=
  h (fun e => by simp [e] at hl)
end Go.Proofs.YthoeflkgbimipaaDoor
