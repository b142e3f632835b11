/- Results read open: a span and an error, or a number, without a look at which it is. -/
import Derived.Test.YtafhcppigpjcpaaDoorRfs
set_option linter.unusedVariables false
set_option linter.unusedSimpArgs false
namespace Go.Proofs.YtafhcppigpjcpaaDoor
open Go.RowKit

theorem RetX.val {α : Type} {enc : α → Value} {r : α} {w w' : World} {e : Ending} (h : RetX enc r w e w') : e = .returned (enc r) ∧ Up w w' := by
  obtain ⟨x, rfl, h1, h2⟩ := h
  exact ⟨h1, h2⟩
/-- A program's result, read open. -/
theorem spX {f : FuncId} {ar : Array Value} {w : World} {r : Except Nat Sp} (h : Calls Tryd.prog f ar w (RetX spR r w)) :
    Calls Tryd.prog f ar w fun e w' => e = .returned (.tuple #[.agg #[.int .i64 (got r).lo, .int .i64 (got r).hi], errV (eO r)]) ∧ Up w w' :=
  h.mono fun e w' h => by rw [← spR_open]; exact h.val
/-- A reference's result, read open. -/
theorem rfX {f : FuncId} {ar : Array Value} {w : World} {r : Except Nat Sp} (h : Calls Tryd.prog f ar w (RetX rfR r w)) :
    Calls Tryd.prog f ar w fun e w' => e = .returned (.tuple #[.agg #[.int .i64 (got r).lo, .int .i64 (got r).hi], .int .i64 (numO (eO r))]) ∧ Up w w' :=
  h.mono fun e w' h => by rw [← rfR_open]; exact h.val
theorem nmX {f : FuncId} {ar : Array Value} {w : World} {x : Option Nat} (h : Calls Tryd.prog f ar w (RetX numV x w)) :
    Calls Tryd.prog f ar w fun e w' => e = .returned (.int .i64 (numO x)) ∧ Up w w' := h.mono fun e w' h => h.val
theorem erX {f : FuncId} {ar : Array Value} {w : World} {x : Option Nat} (h : Calls Tryd.prog f ar w (RetX errV x w)) :
    Calls Tryd.prog f ar w fun e w' => e = .returned (errV x) ∧ Up w w' := h.mono fun e w' h => h.val
end Go.Proofs.YtafhcppigpjcpaaDoor
