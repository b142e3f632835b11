/- What the laws of a door seat share, from the row's condition on errors.errorType to the card: the variable's cell, a world that meets the condition, the head's word of the harness, the card. -/
import Derived.Test.YtmjcnpolnknkkaaGreatDoorPTold
import Derived.Test.YtmjcnpolnknkkaaGreatDoorPRow
import Derived.Test.YtmjcnpolnknkkaaGreatDoorPFacts
import Derived.Test.YtmjcnpolnknkkaaGreatDoorTie
import Derived.Test.YtmjcnpolnknkkaaGreatDoorCards
import Derived.ChangeSame
import Derived.ChangeVars
import Derived.LaidLaws
import Derived.LaidHandle
import Derived.Stop.Joined
import Derived.SevenTiedAt
set_option linter.unusedVariables false
set_option linter.unusedSimpArgs false
namespace Go.Proofs.YtmjcnpolnknkkaaGreatDoor
open Go.ChangeShapes Go.WideShapes Go.ChangeAt Go.RowKit Go.Joins Go.Deep


def laidL : List (String × DataW Unit) := [("errors.errorType", Rows.laid_errors_errorType)]
theorem door_et : Tryz.prog.globalNamed "errors.errorType" = some 0 := by kernel_rfl
theorem door_rt : (Tryz.prog.cutTypes.find? (·.1 == "internal/reflectlite.rtype")).map (·.2) = some 172 := by kernel_rfl
theorem door_one : ((List.range 264).filter fun t => Tryz.prog.rowNamed t [101, 114, 114, 111, 114]) = [29] := by kernel_rfl
theorem door_size : Tryz.prog.types.size = 264 := by kernel_rfl
/-- What the condition gives a walk: the variable's one cell. -/
theorem door_of_laid {W : World} (h : laidMetH Tryz.prog laidL W) : Door W := by
  have h' : laidMet Tryz.prog [] W ∧ handlesMet Tryz.prog laidL W := h
  obtain ⟨name, u, ty, e1, e2, e3, e4, e5⟩ := h'.2 _ (List.mem_singleton.2 rfl)
  have en : name = [101, 114, 114, 111, 114] := (Option.some.inj e1).symm
  subst en
  obtain rfl := Option.some.inj (door_rt.symm.trans e2)
  have hm : ty ∈ (List.range 264).filter fun t => Tryz.prog.rowNamed t [101, 114, 114, 111, 114] := List.mem_filter.2 ⟨List.mem_range.2 (by rw [← door_size]; exact e3), e4⟩
  rw [door_one] at hm
  obtain rfl := List.mem_singleton.1 hm
  have hh : typeHandle Tryz.prog 29 = .pointer (some ⟨10, 29, none⟩) := by kernel_rfl
  rw [hh] at e5
  unfold Door
  simpa using World.var?_cell door_et e5 0
theorem mainIs_of (P : Program) (l : List (List Char)) (r : Option (Bool × List Char))
    (hl : (match l with
      | h :: s :: _ => if !isSumSigns s then none else if h == "harness".toList then some (true, s) else if h == "ownmain".toList then some (false, s) else none
      | _ => none) = r) (h : wordsSigns P.initOrder.toList = l) : P.mainIs = r := by
  unfold Program.mainIs
  rw [h]
  exact hl
theorem door_main : Tryz.pinned.checked.prog.mainIs = some (true, "7541a4b10e5a870dcee6297c57c84f3c6ed26500fe45205808b4d9de7145fdb0".toList) := mainIs_of _ ioW _ (by kernel_rfl) ioWs
theorem door_looks : Tryz.prog.looks [] = true := by kernel_rfl
end Go.Proofs.YtmjcnpolnknkkaaGreatDoor
