/- The walks of the reference's polynomials: Poly, Over, Horner, Powers, Derive, Slope, Center, Best, Way, Range, Newton. -/
import Derived.Test.YteoomjenekkomaaDoorRfp
import Derived.Test.YteoomjenekkomaaDoorRft
import Derived.Test.YteoomjenekkomaaDoorPolyb
import Derived.Test.YteoomjenekkomaaDoorBase
import Derived.Deep.RegionWith
set_option linter.unusedVariables false
set_option linter.unusedSimpArgs false
namespace Go.Proofs.YteoomjenekkomaaDoor
open Go.RowKit

theorem pcheck_num {p : List Int} {e : Nat} (h : pcheckF p = some e) : e = 5 ∨ e = 4 ∨ e = 1 := by
  unfold pcheckF at h
  split at h
  · injection h with h; omega
  · split at h
    · injection h with h; omega
    · split at h
      · cases h
      · injection h with h; omega
theorem pboth_num {p : List Int} {x : Sp} {e : Nat} (h : pbothF p x = some e) : e ≠ 0 := by
  unfold pbothF at h
  split at h
  · rename_i k hk
    injection h with h
    subst h
    have := pcheck_num hk
    omega
  · have := check_num h
    omega
theorem pcheck_bad {p : List Int} {k : Nat} (h0 : 0 < p.length) (h5 : p.length ≤ 5) (hk : k < p.length) (h : ¬ M (p[k]?.getD 0)) : pcheckF p = some 1 := by
  unfold pcheckF
  rw [if_neg (by omega), if_neg (by omega), if_neg]
  intro ha
  apply h
  rw [List.getElem?_eq_getElem hk]
  exact ha _ (List.getElem_mem hk)
theorem pcheck_good {p : List Int} (h0 : 0 < p.length) (h5 : p.length ≤ 5) (h : ∀ n ∈ p, M n) : pcheckF p = none := by
  unfold pcheckF
  rw [if_neg (by omega), if_neg (by omega), if_pos h]
theorem nested_cons {x : Sp} {n : Int} {q : List Int} (h : q ≠ []) : nestedF x (n :: q) = match nestedF x q with
    | .error e => .error e
    | .ok s => match prodF s x with
      | .error e => .error e
      | .ok t => sumF t ⟨n, n⟩ := by
  cases q with
  | nil => exact absurd rfl h
  | cons m q => rfl
theorem nested_back {x : Sp} {q : List Int} {e : Nat} (hq : q ≠ []) (h : nestedF x q = .error e) : ∀ l : List Int, nestedF x (l ++ q) = .error e
  | [] => h
  | n :: l => by
    have hne : l ++ q ≠ [] := by simp [hq]
    show nestedF x (n :: (l ++ q)) = _
    rw [nested_cons hne, nested_back hq h l]
theorem nested_at_drop {x : Sp} {p : List Int} {m : Nat} (hm : m + 1 < p.length) : nestedF x (p.drop m) = match nestedF x (p.drop (m + 1)) with
    | .error e => .error e
    | .ok s => match prodF s x with
      | .error e => .error e
      | .ok t => sumF t ⟨p[m]?.getD 0, p[m]?.getD 0⟩ := by
  rw [getD_drop p m (by omega)]
  exact nested_cons (by intro h; have := congrArg List.length h; simp at this; omega)
theorem nested_drop_err {x : Sp} {p : List Int} {m e : Nat} (hm : m < p.length) (h : nestedF x (p.drop m) = .error e) : nestedF x p = .error e := by
  have := nested_back (by intro hh; have := congrArg List.length hh; simp at this; omega) h (p.take m)
  rwa [List.take_append_drop] at this
end Go.Proofs.YteoomjenekkomaaDoor
