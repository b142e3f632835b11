/- Arguments that are lists of boxes: how they read. -/
import Derived.Test.YtopgjbjpmnlldaaDoorRow
set_option linter.unusedVariables false
set_option linter.unusedSimpArgs false
namespace Go.Proofs.YtopgjbjpmnlldaaDoor
open Go.ChangeShapes Go.WideShapes Go.ChangeAt Go.RowKit Go.Joins Go.Deep

/-- A slice of boxes, as it lies. -/
structure LBB (w : World) (A : Option Addr) (l : List (List Sp)) (c : Nat) : Prop where
  rd : RdR RdS w A l
  cap : l.length ≤ c
  max : c ≤ 9223372036854775807
  wf : ∀ x ∈ l, x.length ≤ 9223372036854775807 ∧ ∀ s ∈ x, I64 s.lo ∧ I64 s.hi
theorem Tryd.cellsSpans : Tryd.prog.cellsOf 35 = 1 := by kernel_rfl
section
variable {H : Type} {enc : TypeId × Value → H} {W : World} {held : Bool}
set_option maxRecDepth 100000 in
theorem open_boxes {b0 : Nat} {v : Value} {d : DataW H} {p : List MemPlace} (hv : Value.okWide Tryd.prog W .any b0 39 v) (h : DataW.Trod enc Tryd.prog W 0 (fun _ => true) held 39 v d p) :
    ∃ A l c, v = .slice A l.length c ∧ LBB W A l c := by
  obtain ⟨A, n, c, rfl⟩ := okWide_slice Tryd.underlying39 hv
  obtain ⟨f, hf⟩ := h
  obtain ⟨A', l, c', e, q1, q2, q3, q4⟩ := rows_of (α := Sp) (e := 35) RdS (fun x => x.length ≤ 9223372036854775807 ∧ ∀ s ∈ x, I64 s.lo ∧ I64 s.hi) Tryd.underlying39 Tryd.cellsSpans (fun n cs' y hh => by
    obtain ⟨A, l, c, e, k⟩ := spans_of (e := 23) (ti := 3) Tryd.underlying35 Tryd.underlying23 Tryd.cellsSpan rfl rfl rfl rfl Tryd.underlying3 Tryd.cellsInt hh
    exact ⟨A, l, c, e, k.cap, k.rd, Nat.le_trans k.cap k.max, k.wf⟩) hf
  simp [Value.cells] at e
  obtain ⟨rfl, rfl, rfl⟩ := e
  exact ⟨A, l, c, rfl, ⟨q3, q1, q2, q4⟩⟩
end
end Go.Proofs.YtopgjbjpmnlldaaDoor
