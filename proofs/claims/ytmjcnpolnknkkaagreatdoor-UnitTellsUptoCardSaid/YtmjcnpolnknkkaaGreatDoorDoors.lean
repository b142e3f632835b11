/- What the laws of package unit share beside the door: strconv's two errors are laid too; a world that meets the condition. -/
import Derived.Test.YtmjcnpolnknkkaaGreatDoorDoorl
import Derived.Test.YtmjcnpolnknkkaaGreatDoorUnp
set_option linter.unusedVariables false
set_option linter.unusedSimpArgs false
namespace Go.Proofs.YtmjcnpolnknkkaaGreatDoor
open Go.ChangeShapes Go.WideShapes Go.ChangeAt Go.RowKit Go.Joins Go.Deep
def laidU5 : List (String × DataW Unit) := [("math/bits.deBruijn32tab", Rows.laid_math_bits_deBruijn32tab), ("math/bits.deBruijn64tab", Rows.laid_math_bits_deBruijn64tab), ("internal/strconv.uint64pow10", Rows.laid_internal_strconv_uint64pow10), ("strconv.ErrRange", Rows.laid_strconv_ErrRange), ("strconv.ErrSyntax", Rows.laid_strconv_ErrSyntax)]
def laidU6 : List (String × DataW Unit) := [("math/bits.deBruijn32tab", Rows.laid_math_bits_deBruijn32tab), ("math/bits.deBruijn64tab", Rows.laid_math_bits_deBruijn64tab), ("internal/strconv.uint64pow10", Rows.laid_internal_strconv_uint64pow10), ("errors.errorType", Rows.laid_errors_errorType), ("strconv.ErrRange", Rows.laid_strconv_ErrRange), ("strconv.ErrSyntax", Rows.laid_strconv_ErrSyntax)]
theorem g_range : Tryz.prog.globalNamed "strconv.ErrRange" = some 4 := by kernel_rfl
theorem g_syntax : Tryz.prog.globalNamed "strconv.ErrSyntax" = some 3 := by kernel_rfl
theorem t_range : (Tryz.prog.globals[4]?).map (·.type) = some 29 := by kernel_rfl
theorem t_syntax : (Tryz.prog.globals[3]?).map (·.type) = some 29 := by kernel_rfl
theorem es_star : "*" ++ "errors.errorString" = "*errors.errorString" := by decide
theorem es_row (u : TypeId) (h : Tryz.prog.typeName? 3 u = some "*errors.errorString") : u = 216 :=
  typeName_ptr_named (nm := "errors.errorString") (by rw [es_star]; kernel_rfl) (by kernel_rfl) (by decide) u (by rw [es_star]; exact h)
theorem es_cells : Tryz.prog.cellsOf 218 = 1 := by kernel_rfl
theorem str_cells : Tryz.prog.cellsOf 9 = 1 := by kernel_rfl
structure DoorS (W : World) : Prop where
  pow : Pow W
  errs : Errs W
structure DoorT (W : World) : Prop where
  door : Door W
  pow : Pow W
  errs : Errs W
theorem doorS_of {W : World} (h : laidMet Tryz.prog laidU5 W) : DoorS W := by
  have h1 : laidMet Tryz.prog (("internal/strconv.uint64pow10", Rows.laid_internal_strconv_uint64pow10) :: _) W := h.tail.tail
  have h2 : laidMet Tryz.prog (("strconv.ErrRange", Rows.laid_strconv_ErrRange) :: _) W := h1.tail
  have h3 : laidMet Tryz.prog (("strconv.ErrSyntax", Rows.laid_strconv_ErrSyntax) :: _) W := h2.tail
  obtain ⟨a1, s1, hv1, -, -, -⟩ := laid_sentinel h2 g_range t_range Tryz.underlying29 es_row Tryz.underlying216 Tryz.underlying218 rfl rfl Tryz.underlying9 es_cells str_cells
  obtain ⟨a2, s2, hv2, -, -, -⟩ := laid_sentinel h3 g_syntax t_syntax Tryz.underlying29 es_row Tryz.underlying216 Tryz.underlying218 rfl rfl Tryz.underlying9 es_cells str_cells
  refine ⟨?_, ⟨_, _, hv2⟩, ⟨_, _, hv1⟩⟩
  rw [tab_data] at h1
  exact Lib.tabIs_of_head pow_g pow_ty Tryz.underlying225 Tryz.underlying186 (by kernel_rfl) (by kernel_rfl) h1
theorem doorS_of_laid {W : World} (h : laidMetH Tryz.prog laidU5 W) : DoorS W := doorS_of h
theorem doorT_of_laid {W : World} (h : laidMetH Tryz.prog laidU6 W) : DoorT W := by
  have h' : laidMet Tryz.prog laidU5 W ∧ handlesMet Tryz.prog laidL W := h
  obtain ⟨h1, h2⟩ := doorS_of h'.1
  exact ⟨door_of_laid (show laidMet Tryz.prog [] W ∧ handlesMet Tryz.prog laidL W from ⟨laidMet_nil _ _, h'.2⟩), h1, h2⟩
noncomputable def lowW : Nat := (World.holding Tryz.prog default ⟨#[], #[], []⟩).heap.size
def textsOf : DataW Unit → ByteArray
  | .iface _ (.ptr (.agg [.lit (.string l)])) => ⟨l.toArray⟩
  | _ => ⟨#[]⟩
noncomputable def layErr (w : World) (g : Nat) (b : Nat) : World :=
  { w with heap := w.heap.modify g fun
      | .cells _ t frozen => .cells #[.iface 216 (.pointer (some ⟨b, 0, none⟩))] t frozen
      | o => o }
noncomputable def laidWorldS (os : Os) : World :=
  layErr (layErr (layAt (layAt (layAt (World.holding Tryz.prog os ⟨#[.cells #[.string (textsOf Rows.laid_strconv_ErrRange)] 218, .cells #[.string (textsOf Rows.laid_strconv_ErrSyntax)] 218], #[], []⟩) 6 Rows.laid_math_bits_deBruijn32tab) 7 Rows.laid_math_bits_deBruijn64tab) 5 Rows.laid_internal_strconv_uint64pow10) 4 lowW) 3 (lowW + 1)
set_option maxRecDepth 100000 in
theorem laidWorldS_met (os : Os) (args : Array Value) : laidMetH Tryz.prog laidU5 ((laidWorldS os).forCall (fun _ _ => 0) ⟨#[], args, []⟩).memory :=
  (laidMet_of_run' 8 (by kernel_rfl) (by kernel_rfl) : laidMet Tryz.prog laidU5 _)
noncomputable def laidWorldT (os : Os) : World :=
  let w0 := laidWorldS os
  { w0 with heap := w0.heap.modify 0 fun
      | .cells _ t frozen => .cells #[.iface 172 (.agg #[.pointer (some ⟨10, 29, none⟩)])] t frozen
      | o => o }
set_option maxRecDepth 100000 in
theorem laidWorldT_met (os : Os) (args : Array Value) : laidMetH Tryz.prog laidU6 ((laidWorldT os).forCall (fun _ _ => 0) ⟨#[], args, []⟩).memory :=
  laidMetH_of_parts (laidMet_of_run' 8 (by kernel_rfl) (by kernel_rfl)) (by kernel_rfl)
end Go.Proofs.YtmjcnpolnknkkaaGreatDoor
