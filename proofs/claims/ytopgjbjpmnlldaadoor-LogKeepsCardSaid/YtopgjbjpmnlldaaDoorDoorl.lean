/- What the laws of the log share beside the door: three tables of Go's library are laid too; strconv's table of powers of ten reads so; a world that meets the condition. -/
import Derived.Test.YtopgjbjpmnlldaaDoorDoor
import Derived.Lib.LaidTab
import Derived.Lib.AppendIntMem
import Derived.Lib.Itoa
import Derived.Stop.LaidErr
import Derived.Test.YtopgjbjpmnlldaaDoorShf
import Derived.Test.YtopgjbjpmnlldaaDoorPow
set_option linter.unusedVariables false
set_option linter.unusedSimpArgs false
namespace Go.Proofs.YtopgjbjpmnlldaaDoor
open Go.ChangeShapes Go.WideShapes Go.ChangeAt Go.RowKit Go.Joins Go.Deep
def laidL4 : List (String × DataW Unit) := [("math/bits.deBruijn32tab", Rows.laid_math_bits_deBruijn32tab), ("math/bits.deBruijn64tab", Rows.laid_math_bits_deBruijn64tab), ("internal/strconv.uint64pow10", Rows.laid_internal_strconv_uint64pow10), ("errors.errorType", Rows.laid_errors_errorType)]
def Door4 (w : World) : Prop := Door w ∧ Pow w
theorem tab_data : (Rows.laid_internal_strconv_uint64pow10 : DataW Unit) = Lib.tabData .u64 Lib.pow10Tab := rfl
theorem pow_g : Tryd.prog.globalNamed "internal/strconv.uint64pow10" = some 4 := by kernel_rfl
theorem pow_ty : (Tryd.prog.globals[4]?).map (·.type) = some 162 := by kernel_rfl
theorem door4_of_laid {W : World} (h : laidMetH Tryd.prog laidL4 W) : Door4 W := by
  have h' : laidMet Tryd.prog [("math/bits.deBruijn32tab", Rows.laid_math_bits_deBruijn32tab), ("math/bits.deBruijn64tab", Rows.laid_math_bits_deBruijn64tab), ("internal/strconv.uint64pow10", Rows.laid_internal_strconv_uint64pow10)] W ∧ handlesMet Tryd.prog laidL W := h
  refine ⟨door_of_laid (show laidMet Tryd.prog [] W ∧ handlesMet Tryd.prog laidL W from ⟨laidMet_nil _ _, h'.2⟩), ?_⟩
  have h1 := h'.1.tail.tail
  rw [tab_data] at h1
  exact Lib.tabIs_of_head pow_g pow_ty Tryd.underlying162 Tryd.underlying140 (by kernel_rfl) (by kernel_rfl) h1
def cellsD : DataW Unit → Array Value
  | .agg l => (l.map fun | .lit (.int k z) => Value.int k z | _ => .nilIface).toArray
  | _ => #[]
noncomputable def layAt (w : World) (g : Nat) (d : DataW Unit) : World :=
  { w with heap := w.heap.modify g fun
      | .cells _ t frozen => .cells (cellsD d) t frozen
      | o => o }
noncomputable def laidWorld4 (os : Os) : World :=
  layAt (layAt (layAt (laidWorld os) 5 Rows.laid_math_bits_deBruijn32tab) 6 Rows.laid_math_bits_deBruijn64tab) 4 Rows.laid_internal_strconv_uint64pow10
set_option maxRecDepth 100000 in
theorem laidWorld4_met (os : Os) (args : Array Value) : laidMetH Tryd.prog laidL4 ((laidWorld4 os).forCall (fun _ _ => 0) ⟨#[], args, []⟩).memory :=
  laidMetH_of_parts (laidMet_of_run' 8 (by kernel_rfl) (by kernel_rfl)) (by kernel_rfl)
end Go.Proofs.YtopgjbjpmnlldaaDoor
