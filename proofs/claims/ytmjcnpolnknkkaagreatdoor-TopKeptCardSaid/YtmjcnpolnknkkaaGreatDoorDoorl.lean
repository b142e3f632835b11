/- What the laws of the log share beside the door: three tables of Go's library are laid too; strconv's table of powers of ten reads so; a world that meets the condition. -/
import Derived.Test.YtmjcnpolnknkkaaGreatDoorDoor
import Derived.Lib.LaidTab
import Derived.Lib.AppendIntMem
import Derived.Lib.Itoa
import Derived.Stop.LaidErr
import Derived.Test.YtmjcnpolnknkkaaGreatDoorShf
import Derived.Test.YtmjcnpolnknkkaaGreatDoorPow
set_option linter.unusedVariables false
set_option linter.unusedSimpArgs false
namespace Go.Proofs.YtmjcnpolnknkkaaGreatDoor
open Go.ChangeShapes Go.WideShapes Go.ChangeAt Go.RowKit Go.Joins Go.Deep
def laidL4 : List (String × DataW Unit) := [("math/bits.deBruijn32tab", Rows.laid_math_bits_deBruijn32tab), ("math/bits.deBruijn64tab", Rows.laid_math_bits_deBruijn64tab), ("internal/strconv.uint64pow10", Rows.laid_internal_strconv_uint64pow10), ("errors.errorType", Rows.laid_errors_errorType)]
def Door4 (w : World) : Prop := Door w ∧ Pow w
theorem tab_data : (Rows.laid_internal_strconv_uint64pow10 : DataW Unit) = Lib.tabData .u64 Lib.pow10Tab := rfl
theorem pow_g : Tryz.prog.globalNamed "internal/strconv.uint64pow10" = some 5 := by kernel_rfl
theorem pow_ty : (Tryz.prog.globals[5]?).map (·.type) = some 225 := by kernel_rfl
theorem door4_of_laid {W : World} (h : laidMetH Tryz.prog laidL4 W) : Door4 W := by
  have h' : laidMet Tryz.prog [("math/bits.deBruijn32tab", Rows.laid_math_bits_deBruijn32tab), ("math/bits.deBruijn64tab", Rows.laid_math_bits_deBruijn64tab), ("internal/strconv.uint64pow10", Rows.laid_internal_strconv_uint64pow10)] W ∧ handlesMet Tryz.prog laidL W := h
  refine ⟨door_of_laid (show laidMet Tryz.prog [] W ∧ handlesMet Tryz.prog laidL W from ⟨laidMet_nil _ _, h'.2⟩), ?_⟩
  have h1 := h'.1.tail.tail
  rw [tab_data] at h1
  exact Lib.tabIs_of_head pow_g pow_ty Tryz.underlying225 Tryz.underlying186 (by kernel_rfl) (by kernel_rfl) h1
def cellsD : DataW Unit → Array Value
  | .agg l => (l.map fun | .lit (.int k z) => Value.int k z | _ => .nilIface).toArray
  | _ => #[]
noncomputable def layAt (w : World) (g : Nat) (d : DataW Unit) : World :=
  { w with heap := w.heap.modify g fun
      | .cells _ t frozen => .cells (cellsD d) t frozen
      | o => o }
noncomputable def laidWorld4 (os : Os) : World :=
  layAt (layAt (layAt (laidWorld os) 6 Rows.laid_math_bits_deBruijn32tab) 7 Rows.laid_math_bits_deBruijn64tab) 5 Rows.laid_internal_strconv_uint64pow10
set_option maxRecDepth 100000 in
theorem laidWorld4_met (os : Os) (args : Array Value) : laidMetH Tryz.prog laidL4 ((laidWorld4 os).forCall (fun _ _ => 0) ⟨#[], args, []⟩).memory :=
  laidMetH_of_parts (laidMet_of_run' 8 (by kernel_rfl) (by kernel_rfl)) (by kernel_rfl)
end Go.Proofs.YtmjcnpolnknkkaaGreatDoor
