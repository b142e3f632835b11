/- What the laws of a door seat share, from the row's condition on errors.errorType to the card: the variable's cell, a world that meets the condition, the head's word of the harness, the card. -/
import Derived.Test.YtomfbhohaiffpaaDoorTold
import Derived.Test.YtomfbhohaiffpaaDoorRow
import Derived.Test.YtomfbhohaiffpaaDoorFacts
import Derived.Test.YtomfbhohaiffpaaDoorTie
import Derived.Test.YtomfbhohaiffpaaDoorCards
import Derived.ChangeSame
import Derived.ChangeVars
import Derived.LaidLaws
import Derived.LaidHandle
import Derived.Stop.Joined
import Derived.SevenTiedAt
set_option linter.unusedVariables false
set_option linter.unusedSimpArgs false
namespace Go.Proofs.YtomfbhohaiffpaaDoor
open Go.ChangeShapes Go.WideShapes Go.ChangeAt Go.RowKit Go.Joins Go.Deep


def laidL : List (String × DataW Unit) := [("errors.errorType", Rows.laid_errors_errorType)]
theorem door_et : Tryd.prog.globalNamed "errors.errorType" = some 0 := by kernel_rfl
theorem door_rt : (Tryd.prog.cutTypes.find? (·.1 == "internal/reflectlite.rtype")).map (·.2) = some 72 := by kernel_rfl
theorem door_one : ((List.range 115).filter fun t => Tryd.prog.rowNamed t [101, 114, 114, 111, 114]) = [29] := by kernel_rfl
theorem door_size : Tryd.prog.types.size = 115 := by kernel_rfl
/-- What the condition gives a walk: the variable's one cell. -/
theorem door_of_laid {W : World} (h : laidMetH Tryd.prog laidL W) : Door W := by
  have h' : laidMet Tryd.prog [] W ∧ handlesMet Tryd.prog laidL W := h
  obtain ⟨name, u, ty, e1, e2, e3, e4, e5⟩ := h'.2 _ (List.mem_singleton.2 rfl)
  have en : name = [101, 114, 114, 111, 114] := (Option.some.inj e1).symm
  subst en
  obtain rfl := Option.some.inj (door_rt.symm.trans e2)
  have hm : ty ∈ (List.range 115).filter fun t => Tryd.prog.rowNamed t [101, 114, 114, 111, 114] := List.mem_filter.2 ⟨List.mem_range.2 (by rw [← door_size]; exact e3), e4⟩
  rw [door_one] at hm
  obtain rfl := List.mem_singleton.1 hm
  have hh : typeHandle Tryd.prog 29 = .pointer (some ⟨1, 29, none⟩) := by kernel_rfl
  rw [hh] at e5
  unfold Door
  simpa using World.var?_cell door_et e5 0
/-- A world that meets the condition: the settled one, the variable's cell laid. -/
noncomputable def laidWorld (os : Os) : World :=
  let w0 := World.holding Tryd.prog os ⟨#[], #[], []⟩
  { w0 with heap := w0.heap.modify 0 fun
      | .cells _ t frozen => .cells #[.iface 72 (.agg #[.pointer (some ⟨1, 29, none⟩)])] t frozen
      | o => o }
theorem laidWorld_met (os : Os) (args : Array Value) : laidMetH Tryd.prog laidL ((laidWorld os).forCall (fun _ _ => 0) ⟨#[], args, []⟩).memory :=
  laidMetH_of_parts (laidMet_nil _ _) (by kernel_rfl)
theorem mainIs_of (P : Program) (l : List (List Char)) (r : Option (Bool × List Char))
    (hl : (match l with
      | h :: s :: _ => if !isSumSigns s then none else if h == "harness".toList then some (true, s) else if h == "ownmain".toList then some (false, s) else none
      | _ => none) = r) (h : wordsSigns P.initOrder.toList = l) : P.mainIs = r := by
  unfold Program.mainIs
  rw [h]
  exact hl
theorem door_main : Tryd.pinned.checked.prog.mainIs = some (true, "5ab8b7d782c9c3c1eaca6e7bcdacbde78234f7599c357d4e2dfcd916a275b667".toList) := mainIs_of _ ioW _ (by kernel_rfl) ioWs
theorem door_looks : Tryd.prog.looks [] = true := by kernel_rfl
end Go.Proofs.YtomfbhohaiffpaaDoor
