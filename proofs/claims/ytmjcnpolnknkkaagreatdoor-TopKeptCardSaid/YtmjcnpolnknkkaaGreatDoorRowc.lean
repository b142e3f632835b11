/- Arguments that are lists of boxes: how they read. -/
import Derived.Test.YtmjcnpolnknkkaaGreatDoorRow
set_option linter.unusedVariables false
set_option linter.unusedSimpArgs false
namespace Go.Proofs.YtmjcnpolnknkkaaGreatDoor
open Go.ChangeShapes Go.WideShapes Go.ChangeAt Go.RowKit Go.Joins Go.Deep

/-- A slice of boxes, as it lies. -/
structure LBB (w : World) (A : Option Addr) (l : List (List Sp)) (c : Nat) : Prop where
  rd : RdR RdS w A l
  cap : l.length ≤ c
  max : c ≤ 9223372036854775807
  wf : ∀ x ∈ l, x.length ≤ 9223372036854775807 ∧ ∀ s ∈ x, I64 s.lo ∧ I64 s.hi
theorem Tryz.cellsSpans : Tryz.prog.cellsOf 49 = 1 := by kernel_rfl
section
variable {H : Type} {enc : TypeId × Value → H} {W : World} {held : Bool}
set_option maxRecDepth 100000 in
theorem open_boxes {b0 : Nat} {v : Value} {d : DataW H} {p : List MemPlace} (hv : Value.okWide Tryz.prog W .any b0 53 v) (h : DataW.Trod enc Tryz.prog W 0 (fun _ => true) held 53 v d p) :
    ∃ A l c, v = .slice A l.length c ∧ LBB W A l c := by
  obtain ⟨A, n, c, rfl⟩ := okWide_slice Tryz.underlying53 hv
  obtain ⟨f, hf⟩ := h
  obtain ⟨A', l, c', e, q1, q2, q3, q4⟩ := rows_of (α := Sp) (e := 49) RdS (fun x => x.length ≤ 9223372036854775807 ∧ ∀ s ∈ x, I64 s.lo ∧ I64 s.hi) Tryz.underlying53 Tryz.cellsSpans (fun n cs' y hh => by
    obtain ⟨A, l, c, e, k⟩ := spans_of (e := 24) (ti := 3) Tryz.underlying49 Tryz.underlying24 Tryz.cellsSpan rfl rfl rfl rfl Tryz.underlying3 Tryz.cellsInt hh
    exact ⟨A, l, c, e, k.cap, k.rd, Nat.le_trans k.cap k.max, k.wf⟩) hf
  simp [Value.cells] at e
  obtain ⟨rfl, rfl, rfl⟩ := e
  exact ⟨A, l, c, rfl, ⟨q3, q1, q2, q4⟩⟩
end
end Go.Proofs.YtmjcnpolnknkkaaGreatDoor
