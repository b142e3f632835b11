/- What the laws of the log share beside the door: three tables of Go's library are laid too; strconv's table of powers of ten reads so; a world that meets the condition. What the laws of package unit share beside the door: strconv's two errors are laid too; a world that meets the condition. What the laws of sessions share beside the door: three tables more, and what cannot be read, are laid too; a world that meets the condition. -/
import Derived.Test.YtmjcnpolnknkkaaGreatDoorPDoor
import Derived.Lib.LaidTab
import Derived.Lib.AppendIntMem
import Derived.Lib.Itoa
import Derived.Stop.LaidErr
import Derived.Test.YtmjcnpolnknkkaaGreatDoorPShf
import Derived.Test.YtmjcnpolnknkkaaGreatDoorPPow
import Derived.Test.YtmjcnpolnknkkaaGreatDoorZ1
import Derived.Test.YtmjcnpolnknkkaaGreatDoorZ2
set_option linter.unusedVariables false
set_option linter.unusedSimpArgs false
namespace Go.Proofs.YtmjcnpolnknkkaaGreatDoor
open Go.ChangeShapes Go.WideShapes Go.ChangeAt Go.RowKit Go.Joins Go.Deep
theorem tab_data : (Rows.laid_internal_strconv_uint64pow10 : DataW Unit) = Lib.tabData .u64 Lib.pow10Tab := rfl
theorem pow_g : Tryz.prog.globalNamed "internal/strconv.uint64pow10" = some 5 := by kernel_rfl
theorem pow_ty : (Tryz.prog.globals[5]?).map (·.type) = some 225 := by kernel_rfl
def cellsD : DataW Unit → Array Value
  | .agg l => (l.map fun | .lit (.int k z) => Value.int k z | _ => .nilIface).toArray
  | _ => #[]
noncomputable def layAt (w : World) (g : Nat) (d : DataW Unit) : World :=
  { w with heap := w.heap.modify g fun
      | .cells _ t frozen => .cells (cellsD d) t frozen
      | o => o }
end Go.Proofs.YtmjcnpolnknkkaaGreatDoor

set_option linter.unusedVariables false
set_option linter.unusedSimpArgs false
namespace Go.Proofs.YtmjcnpolnknkkaaGreatDoor
open Go.ChangeShapes Go.WideShapes Go.ChangeAt Go.RowKit Go.Joins Go.Deep
theorem g_range : Tryz.prog.globalNamed "strconv.ErrRange" = some 4 := by kernel_rfl
theorem g_syntax : Tryz.prog.globalNamed "strconv.ErrSyntax" = some 3 := by kernel_rfl
theorem t_range : (Tryz.prog.globals[4]?).map (·.type) = some 29 := by kernel_rfl
theorem t_syntax : (Tryz.prog.globals[3]?).map (·.type) = some 29 := by kernel_rfl
theorem es_star : "*" ++ "errors.errorString" = "*errors.errorString" := by decide
theorem es_row (u : TypeId) (h : Tryz.prog.typeName? 3 u = some "*errors.errorString") : u = 216 :=
  typeName_ptr_named (nm := "errors.errorString") (by rw [es_star]; kernel_rfl) (by kernel_rfl) (by decide) u (by rw [es_star]; exact h)
theorem es_cells : Tryz.prog.cellsOf 218 = 1 := by kernel_rfl
theorem str_cells : Tryz.prog.cellsOf 9 = 1 := by kernel_rfl
noncomputable def lowW : Nat := (World.holding Tryz.prog default ⟨#[], #[], []⟩).heap.size
def textsOf : DataW Unit → ByteArray
  | .iface _ (.ptr (.agg [.lit (.string l)])) => ⟨l.toArray⟩
  | _ => ⟨#[]⟩
noncomputable def layErr (w : World) (g : Nat) (b : Nat) : World :=
  { w with heap := w.heap.modify g fun
      | .cells _ t frozen => .cells #[.iface 216 (.pointer (some ⟨b, 0, none⟩))] t frozen
      | o => o }
noncomputable def laidWorldS (os : Os) : World :=
  layErr (layErr (layAt (layAt (layAt (World.holding Tryz.prog os ⟨#[.cells #[.string (textsOf Rows.laid_strconv_ErrRange)] 218, .cells #[.string (textsOf Rows.laid_strconv_ErrSyntax)] 218], #[], []⟩) 6 Rows.laid_math_bits_deBruijn32tab) 7 Rows.laid_math_bits_deBruijn64tab) 5 Rows.laid_internal_strconv_uint64pow10) 4 lowW) 3 (lowW + 1)
noncomputable def laidWorldT (os : Os) : World :=
  let w0 := laidWorldS os
  { w0 with heap := w0.heap.modify 0 fun
      | .cells _ t frozen => .cells #[.iface 172 (.agg #[.pointer (some ⟨10, 29, none⟩)])] t frozen
      | o => o }
end Go.Proofs.YtmjcnpolnknkkaaGreatDoor

set_option linter.unusedVariables false
set_option linter.unusedSimpArgs false
namespace Go.Proofs.YtmjcnpolnknkkaaGreatDoor
open Go.ChangeShapes Go.WideShapes Go.ChangeAt Go.RowKit Go.Joins Go.Deep
def laidR9 : List (String × DataW Unit) := [("math/bits.deBruijn32tab", Rows.laid_math_bits_deBruijn32tab), ("math/bits.deBruijn64tab", Rows.laid_math_bits_deBruijn64tab), ("internal/strconv.uint64pow10", Rows.laid_internal_strconv_uint64pow10), ("unicode/utf8.acceptRanges", Rows.laid_unicode_utf8_acceptRanges), ("errors.errorType", Rows.laid_errors_errorType), ("strconv.ErrRange", Rows.laid_strconv_ErrRange), ("strconv.ErrSyntax", Rows.laid_strconv_ErrSyntax), ("spanmeadow/run.unread", Rows.laid_spanmeadow_run_unread), ("unicode/utf8.first", Rows.laid_unicode_utf8_first)]
def laidR8 : List (String × DataW Unit) := [("math/bits.deBruijn32tab", Rows.laid_math_bits_deBruijn32tab), ("math/bits.deBruijn64tab", Rows.laid_math_bits_deBruijn64tab), ("internal/strconv.uint64pow10", Rows.laid_internal_strconv_uint64pow10), ("unicode/utf8.acceptRanges", Rows.laid_unicode_utf8_acceptRanges), ("strconv.ErrRange", Rows.laid_strconv_ErrRange), ("strconv.ErrSyntax", Rows.laid_strconv_ErrSyntax), ("spanmeadow/run.unread", Rows.laid_spanmeadow_run_unread), ("unicode/utf8.first", Rows.laid_unicode_utf8_first)]
theorem g_unread : Tryz.prog.globalNamed "spanmeadow/run.unread" = some 1 := by kernel_rfl
theorem t_unread : (Tryz.prog.globals[1]?).map (·.type) = some 117 := by kernel_rfl
theorem typeName_own {P : Program} {nm : String} {tp : TypeId} (hrows : ((List.range P.types.size).all fun u => P.typeName? 3 u != some nm || u == tp) = true) (hstar : ∀ s, "*" ++ s ≠ nm) (u : TypeId) (hu : P.typeName? 3 u = some nm) : u = tp := by
  by_cases hlt : u < P.types.size
  · have := List.all_eq_true.1 hrows u (List.mem_range.2 hlt)
    simpa [hu] using this
  · exfalso
    unfold Program.typeName? at hu
    cases hi : P.info? u with
    | none => simp [hi] at hu
    | some i =>
      have hb := Tables.info?_beyond hlt hi
      simp only [hi] at hu
      cases hd : i.desc <;> simp only [hd, TypeDesc.tableOnly] at hu hb <;> try cases hb
      all_goals try cases hu
      rename_i e
      simp only [Option.map_eq_some_iff] at hu
      obtain ⟨n', _, hs⟩ := hu
      exact hstar _ hs
theorem star_no (s : String) : "*" ++ s ≠ "spanmeadow/api.Errno" := fun e => by
  have h := congrArg String.toList e
  rw [String.toList_append] at h
  have h2 := congrArg List.head? h
  have h3 : ("*".toList ++ s.toList).head? = "*".toList.head? := rfl
  rw [h3] at h2
  revert h2
  decide
theorem errno_row (u : TypeId) (h : Tryz.prog.typeName? 3 u = some "spanmeadow/api.Errno") : u = 74 := typeName_own (by kernel_rfl) star_no u h
theorem one_int {H : Type} {enc : TypeId × Value → H} {P : Program} {w : World} {base : Nat} {sp : Nat → Bool} {held : Bool} {fuel : Nat} {t : TypeId} {k : IntKind} {l : List Value} {d : DataW H} {p : List MemPlace}
    (ht : P.underlying t = some (.int k)) (h : DataW.trod enc P w base sp held fuel t l = some (d, p)) : ∃ n, l = [.int k n] ∧ d = .lit (.int k n) := by
  cases fuel with
  | zero => simp [DataW.trod] at h
  | succ fuel =>
    match l with
    | [] => simp [DataW.trod, ht] at h
    | _ :: _ :: _ => simp [DataW.trod, ht] at h
    | [c] =>
      cases c <;> simp [DataW.trod, ht] at h
      rename_i k' n
      obtain ⟨⟨rfl, _⟩, h, _⟩ := h
      exact ⟨n, rfl, h.symm⟩
set_option maxRecDepth 100000 in
theorem unread_of {r : List (String × DataW Unit)} {W : World} (h : laidMet Tryz.prog (("spanmeadow/run.unread", Rows.laid_spanmeadow_run_unread) :: r) W) : W.cell? ⟨1, 0, none⟩ = some (.iface 74 (.int .i64 2)) := by
  obtain ⟨ps, ⟨g0, t0, cs0, f0, p0, q0, hg0, ht0, hv0, hd0, _, e0⟩, _, hrows⟩ := h
  obtain rfl := Option.some.inj (g_unread.symm.trans hg0)
  obtain rfl := Option.some.inj (t_unread.symm.trans ht0)
  subst e0
  obtain ⟨l0⟩ := cs0
  obtain ⟨y0, n, hx, hl, hy⟩ := trod_struct1 Tryz.underlying117 hd0
  obtain ⟨y, py⟩ := y0
  unfold Rows.laid_spanmeadow_run_unread at hx
  simp only [Prod.mk.injEq, DataW.agg.injEq, List.cons.injEq, and_true] at hx
  obtain ⟨rfl, rfl⟩ := hx
  have hlen : l0.length = 1 := hl
  obtain ⟨c, rfl⟩ : ∃ c, l0 = [c] := by
    match l0, hlen with
    | [c], _ => exact ⟨c, rfl⟩
  obtain ⟨f1, u, v, hcs, hn, h1⟩ := iface_of_trod Tryz.underlying29 hy
  have hc : [c] = [.iface u v] := hcs
  obtain rfl : c = .iface u v := by injection hc
  obtain rfl := errno_row u hn
  have hcell : W.cell? ⟨1, 0, none⟩ = some (.iface 74 v) := by simpa using World.var?_cell hg0 hv0 0
  have ok := (hrows 1 0 (by simp [MemPlace.row])).2 _ _ hcell
  obtain ⟨z, hz, hd⟩ := one_int Tryz.underlying74 h1
  injection hd with hd
  injection hd with _ hd
  subst hd
  rw [hcell]
  have hv : v = .int .i64 2 := by
    unfold Value.okWide at ok
    simp only [Tryz.underlying74] at ok
    unfold Cell.okWide at ok
    cases v <;> simp [Value.cells, Cell.ok, Tryz.underlying74] at ok hz
    all_goals (rcases hz with ⟨e1, e2⟩; subst e1; subst e2; rfl)
  rw [hv]
theorem doorR_of_laid {W : World} (h : laidMetH Tryz.prog laidR9 W) : DoorR W := by
  have h' : laidMet Tryz.prog laidR8 W ∧ handlesMet Tryz.prog laidL W := h
  have h1 : laidMet Tryz.prog (("internal/strconv.uint64pow10", Rows.laid_internal_strconv_uint64pow10) :: _) W := h'.1.tail.tail
  have h2 : laidMet Tryz.prog (("strconv.ErrRange", Rows.laid_strconv_ErrRange) :: _) W := h1.tail.tail
  have h3 : laidMet Tryz.prog (("strconv.ErrSyntax", Rows.laid_strconv_ErrSyntax) :: _) W := h2.tail
  have h4 : laidMet Tryz.prog (("spanmeadow/run.unread", Rows.laid_spanmeadow_run_unread) :: _) W := h3.tail
  obtain ⟨a1, s1, hv1, -, -, -⟩ := laid_sentinel h2 g_range t_range Tryz.underlying29 es_row Tryz.underlying216 Tryz.underlying218 rfl rfl Tryz.underlying9 es_cells str_cells
  obtain ⟨a2, s2, hv2, -, -, -⟩ := laid_sentinel h3 g_syntax t_syntax Tryz.underlying29 es_row Tryz.underlying216 Tryz.underlying218 rfl rfl Tryz.underlying9 es_cells str_cells
  refine ⟨door_of_laid (show laidMet Tryz.prog [] W ∧ handlesMet Tryz.prog laidL W from ⟨laidMet_nil _ _, h'.2⟩), ?_, ⟨⟨_, _, hv2⟩, ⟨_, _, hv1⟩⟩, unread_of h4⟩
  rw [tab_data] at h1
  exact Lib.tabIs_of_head pow_g pow_ty Tryz.underlying225 Tryz.underlying186 (by kernel_rfl) (by kernel_rfl) h1
def cellsR : DataW Unit → List Value
  | .lit (.int k z) => [.int k z]
  | .agg l => l.flatMap fun
    | .lit (.int k z) => [Value.int k z]
    | .agg m => m.map fun | .lit (.int k z) => Value.int k z | _ => .nilIface
    | _ => []
  | _ => []
noncomputable def layCells (w : World) (g : Nat) (cs : List Value) : World :=
  { w with heap := w.heap.modify g fun
      | .cells _ t frozen => .cells cs.toArray t frozen
      | o => o }
noncomputable def laidWorldR (os : Os) : World :=
  layCells (layCells (layCells (laidWorldT os) 9 (cellsR Rows.laid_unicode_utf8_acceptRanges)) 8 (cellsR Rows.laid_unicode_utf8_first)) 1 [.iface 74 (.int .i64 2)]
set_option maxRecDepth 100000 in
theorem laidWorldR_met (os : Os) (args : Array Value) : laidMetH Tryz.prog laidR9 ((laidWorldR os).forCall (fun _ _ => 0) ⟨#[], args, []⟩).memory :=
  laidMetH_of_parts (laidMet_of_run' 8 (by kernel_rfl) (by kernel_rfl)) (by kernel_rfl)
end Go.Proofs.YtmjcnpolnknkkaaGreatDoor
