/- Pieces breadth first are pieces depth first. -/
import Derived.Test.YteoomjenekkomaaDoorMath
set_option linter.unusedVariables false
set_option linter.unusedSimpArgs false
namespace Go.Proofs.YteoomjenekkomaaDoor

/-- The pieces, one halving of all after the other. -/
def bfG : Nat → List (List Sp) → List (List Sp)
  | 0, L => L
  | n + 1, L => bfG n (L.flatMap fun b => [(halvesF b).1, (halvesF b).2])
theorem bfG_eq : ∀ (n : Nat) (L : List (List Sp)), bfG n L = L.flatMap (cpiecesG n)
  | 0, L => by
    unfold bfG
    induction L with
    | nil => rfl
    | cons x l ih => rw [List.flatMap_cons, ← ih]; rfl
  | n + 1, L => by
    unfold bfG
    rw [bfG_eq n]
    induction L with
    | nil => rfl
    | cons x l ih =>
      rw [List.flatMap_cons, List.flatMap_append, ih, List.flatMap_cons]
      congr 1
      simp [cpiecesG]
theorem bfG_one (n : Nat) (b : List Sp) : bfG n [b] = cpiecesG n b := by rw [bfG_eq]; simp
theorem bfG_succ (n : Nat) (L : List (List Sp)) : bfG (n + 1) L = bfG n (L.flatMap fun b => [(halvesF b).1, (halvesF b).2]) := rfl
end Go.Proofs.YteoomjenekkomaaDoor
