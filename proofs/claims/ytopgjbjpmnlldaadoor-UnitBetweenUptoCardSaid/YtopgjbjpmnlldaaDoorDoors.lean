/- What the laws of package unit share beside the door: strconv's two errors are laid too; a world that meets the condition. -/
import Derived.Test.YtopgjbjpmnlldaaDoorDoorl
import Derived.Test.YtopgjbjpmnlldaaDoorUnp
set_option linter.unusedVariables false
set_option linter.unusedSimpArgs false
namespace Go.Proofs.YtopgjbjpmnlldaaDoor
open Go.ChangeShapes Go.WideShapes Go.ChangeAt Go.RowKit Go.Joins Go.Deep
def laidU5 : List (String × DataW Unit) := [("math/bits.deBruijn32tab", Rows.laid_math_bits_deBruijn32tab), ("math/bits.deBruijn64tab", Rows.laid_math_bits_deBruijn64tab), ("internal/strconv.uint64pow10", Rows.laid_internal_strconv_uint64pow10), ("strconv.ErrRange", Rows.laid_strconv_ErrRange), ("strconv.ErrSyntax", Rows.laid_strconv_ErrSyntax)]
def laidU6 : List (String × DataW Unit) := [("math/bits.deBruijn32tab", Rows.laid_math_bits_deBruijn32tab), ("math/bits.deBruijn64tab", Rows.laid_math_bits_deBruijn64tab), ("internal/strconv.uint64pow10", Rows.laid_internal_strconv_uint64pow10), ("errors.errorType", Rows.laid_errors_errorType), ("strconv.ErrRange", Rows.laid_strconv_ErrRange), ("strconv.ErrSyntax", Rows.laid_strconv_ErrSyntax)]
theorem g_range : Tryd.prog.globalNamed "strconv.ErrRange" = some 3 := by kernel_rfl
theorem g_syntax : Tryd.prog.globalNamed "strconv.ErrSyntax" = some 2 := by kernel_rfl
theorem t_range : (Tryd.prog.globals[3]?).map (·.type) = some 25 := by kernel_rfl
theorem t_syntax : (Tryd.prog.globals[2]?).map (·.type) = some 25 := by kernel_rfl
theorem es_star : "*" ++ "errors.errorString" = "*errors.errorString" := by decide
theorem es_row (u : TypeId) (h : Tryd.prog.typeName? 3 u = some "*errors.errorString") : u = 158 :=
  typeName_ptr_named (nm := "errors.errorString") (by rw [es_star]; kernel_rfl) (by kernel_rfl) (by decide) u (by rw [es_star]; exact h)
theorem es_cells : Tryd.prog.cellsOf 160 = 1 := by kernel_rfl
theorem str_cells : Tryd.prog.cellsOf 9 = 1 := by kernel_rfl
structure DoorS (W : World) : Prop where
  pow : Pow W
  errs : Errs W
structure DoorT (W : World) : Prop where
  door : Door W
  pow : Pow W
  errs : Errs W
theorem doorS_of {W : World} (h : laidMet Tryd.prog laidU5 W) : DoorS W := by
  have h1 : laidMet Tryd.prog (("internal/strconv.uint64pow10", Rows.laid_internal_strconv_uint64pow10) :: _) W := h.tail.tail
  have h2 : laidMet Tryd.prog (("strconv.ErrRange", Rows.laid_strconv_ErrRange) :: _) W := h1.tail
  have h3 : laidMet Tryd.prog (("strconv.ErrSyntax", Rows.laid_strconv_ErrSyntax) :: _) W := h2.tail
  obtain ⟨a1, s1, hv1, -, -, -⟩ := laid_sentinel h2 g_range t_range Tryd.underlying25 es_row Tryd.underlying158 Tryd.underlying160 rfl rfl Tryd.underlying9 es_cells str_cells
  obtain ⟨a2, s2, hv2, -, -, -⟩ := laid_sentinel h3 g_syntax t_syntax Tryd.underlying25 es_row Tryd.underlying158 Tryd.underlying160 rfl rfl Tryd.underlying9 es_cells str_cells
  refine ⟨?_, ⟨_, _, hv2⟩, ⟨_, _, hv1⟩⟩
  rw [tab_data] at h1
  exact Lib.tabIs_of_head pow_g pow_ty Tryd.underlying162 Tryd.underlying140 (by kernel_rfl) (by kernel_rfl) h1
theorem doorS_of_laid {W : World} (h : laidMetH Tryd.prog laidU5 W) : DoorS W := doorS_of h
theorem doorT_of_laid {W : World} (h : laidMetH Tryd.prog laidU6 W) : DoorT W := by
  have h' : laidMet Tryd.prog laidU5 W ∧ handlesMet Tryd.prog laidL W := h
  obtain ⟨h1, h2⟩ := doorS_of h'.1
  exact ⟨door_of_laid (show laidMet Tryd.prog [] W ∧ handlesMet Tryd.prog laidL W from ⟨laidMet_nil _ _, h'.2⟩), h1, h2⟩
noncomputable def lowW : Nat := (World.holding Tryd.prog default ⟨#[], #[], []⟩).heap.size
def textsOf : DataW Unit → ByteArray
  | .iface _ (.ptr (.agg [.lit (.string l)])) => ⟨l.toArray⟩
  | _ => ⟨#[]⟩
noncomputable def layErr (w : World) (g : Nat) (b : Nat) : World :=
  { w with heap := w.heap.modify g fun
      | .cells _ t frozen => .cells #[.iface 158 (.pointer (some ⟨b, 0, none⟩))] t frozen
      | o => o }
noncomputable def laidWorldS (os : Os) : World :=
  layErr (layErr (layAt (layAt (layAt (World.holding Tryd.prog os ⟨#[.cells #[.string (textsOf Rows.laid_strconv_ErrRange)] 160, .cells #[.string (textsOf Rows.laid_strconv_ErrSyntax)] 160], #[], []⟩) 5 Rows.laid_math_bits_deBruijn32tab) 6 Rows.laid_math_bits_deBruijn64tab) 4 Rows.laid_internal_strconv_uint64pow10) 3 lowW) 2 (lowW + 1)
set_option maxRecDepth 100000 in
theorem laidWorldS_met (os : Os) (args : Array Value) : laidMetH Tryd.prog laidU5 ((laidWorldS os).forCall (fun _ _ => 0) ⟨#[], args, []⟩).memory :=
  (laidMet_of_run' 8 (by kernel_rfl) (by kernel_rfl) : laidMet Tryd.prog laidU5 _)
noncomputable def laidWorldT (os : Os) : World :=
  let w0 := laidWorldS os
  { w0 with heap := w0.heap.modify 0 fun
      | .cells _ t frozen => .cells #[.iface 124 (.agg #[.pointer (some ⟨7, 25, none⟩)])] t frozen
      | o => o }
set_option maxRecDepth 100000 in
theorem laidWorldT_met (os : Os) (args : Array Value) : laidMetH Tryd.prog laidU6 ((laidWorldT os).forCall (fun _ _ => 0) ⟨#[], args, []⟩).memory :=
  laidMetH_of_parts (laidMet_of_run' 8 (by kernel_rfl) (by kernel_rfl)) (by kernel_rfl)
end Go.Proofs.YtopgjbjpmnlldaaDoor
