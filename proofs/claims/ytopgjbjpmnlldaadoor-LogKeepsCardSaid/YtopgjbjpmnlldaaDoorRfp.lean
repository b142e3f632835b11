/- The walks of the reference's powers: Far, Middle, again, Power; and its Times, By. The walk of the reference's Power, odd times; and Power whole. -/
import Derived.Test.YtopgjbjpmnlldaaDoorRfs
import Derived.Test.YtopgjbjpmnlldaaDoorPower
import Derived.Test.YtopgjbjpmnlldaaDoorTight
import Derived.Test.YtopgjbjpmnlldaaDoorSpan
set_option linter.unusedVariables false
set_option linter.unusedSimpArgs false
namespace Go.Proofs.YtopgjbjpmnlldaaDoor
open Go.RowKit

/-- both numbers, and the fault -/
def int2N : Except Nat (Int × Int) → Value
  | .ok s => .tuple #[.int .i64 s.1, .int .i64 s.2, .int .i64 0]
  | .error n => .tuple #[.int .i64 0, .int .i64 0, .int .i64 n]
theorem int2N_ok (s : Int × Int) : int2N (.ok s) = .tuple #[.int .i64 s.1, .int .i64 s.2, .int .i64 0] := rfl
theorem int2N_error (n : Nat) : int2N (.error n) = .tuple #[.int .i64 0, .int .i64 0, .int .i64 n] := rfl
attribute [go_sem] int2N_ok int2N_error
theorem again_four {n : Int} : ∀ (t : Nat) {e : Nat}, againF n t = .error e → e = 4
  | 0, e, h => by cases h
  | t + 1, e, h => by
    unfold againF at h
    split at h
    · rename_i e' hp
      injection h with h
      subst h
      exact again_four t hp
    · split at h
      · cases h
      · injection h with h; exact h.symm
theorem signed_pos {n : Int} {t : Nat} (h : 0 ≤ n) : signedF n t = againF n t := by unfold signedF; rw [if_pos h]
theorem signed_neg {n : Int} {t : Nat} (h : n < 0) : signedF n t = match againF (-n) t with
    | .error e => .error e
    | .ok (lo, hi) => .ok (-hi, -lo) := by
  unfold signedF
  rw [if_neg (by omega)]
  cases againF (-n) t <;> rfl
theorem raised_four {a : Sp} {t e : Nat} (h : raisedF a t = .error e) : e = 4 := by
  have sg : ∀ (n : Int) (e : Nat), signedF n t = .error e → e = 4 := by
    intro n e hn
    unfold signedF at hn
    split at hn
    · exact again_four t hn
    · split at hn
      · rename_i e' hq
        injection hn with hn
        subst hn
        exact again_four t hq
      · cases hn
  unfold raisedF raisedG at h
  split at h
  · rename_i e' h1
    injection h with h
    subst h
    exact sg _ _ h1
  · split at h
    · rename_i e' h1
      injection h with h
      subst h
      exact sg _ _ h1
    · cases h
end Go.Proofs.YtopgjbjpmnlldaaDoor

namespace Go.Proofs.YtopgjbjpmnlldaaDoor
open Go.RowKit

theorem sg_pos_err {n : Int} {t e : Nat} (h : 0 ≤ n) (h1 : againF n t = .error e) : signedF n t = .error e := (signed_pos h).trans h1
theorem sg_neg_err {n : Int} {t e : Nat} (h : n < 0) (h1 : againF (-n) t = .error e) : signedF n t = .error e := by rw [signed_neg h, h1]
theorem sg_pos_ok {n : Int} {t : Nat} {x : Int × Int} (h : 0 ≤ n) (h1 : againF n t = .ok x) : signedF n t = .ok x := (signed_pos h).trans h1
theorem sg_neg_ok {n : Int} {t : Nat} {x : Int × Int} (h : n < 0) (h1 : againF (-n) t = .ok x) : signedF n t = .ok (-x.2, -x.1) := by rw [signed_neg h, h1]
end Go.Proofs.YtopgjbjpmnlldaaDoor
