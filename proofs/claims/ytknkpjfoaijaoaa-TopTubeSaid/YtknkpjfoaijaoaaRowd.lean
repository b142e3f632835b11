/- The arguments of this seat's types: lists of terms, systems, lists of lists of ints. -/
import Derived.Test.YtknkpjfoaijaoaaRowc
set_option linter.unusedVariables false
set_option linter.unusedSimpArgs false
namespace Go.Proofs.Ytknkpjfoaijaoaa
open Go.ChangeShapes Go.WideShapes Go.ChangeAt Go.RowKit Go.Joins Go.Deep

section
variable {H : Type} {enc : TypeId × Value → H} {P : Program} {w : World} {base : Nat} {spare : Nat → Bool} {held : Bool}
theorem trodAll_5 {t0 t1 t2 t3 t4 : TypeId} {args : Array Value} {ds : List (DataW H)} {ps : List MemPlace} (h : DataW.TrodAll enc P w base spare held [t0, t1, t2, t3, t4] args.toList ds ps) :
    ∃ v0 v1 v2 v3 v4 d0 d1 d2 d3 d4 p0 p1 p2 p3 p4, args = #[v0, v1, v2, v3, v4] ∧ ds = [d0, d1, d2, d3, d4] ∧ ps = p0 ++ (p1 ++ (p2 ++ (p3 ++ (p4 ++ [])))) ∧ DataW.Trod enc P w base spare held t0 v0 d0 p0 ∧ DataW.Trod enc P w base spare held t1 v1 d1 p1 ∧
      DataW.Trod enc P w base spare held t2 v2 d2 p2 ∧ DataW.Trod enc P w base spare held t3 v3 d3 p3 ∧ DataW.Trod enc P w base spare held t4 v4 d4 p4 := by
  obtain ⟨v0, r0, d0, e0, p0, q0, hargs, rfl, rfl, k0, h⟩ := trodAll_cons h
  obtain ⟨v1, r1, d1, e1, p1, q1, rfl, rfl, rfl, k1, h⟩ := trodAll_cons h
  obtain ⟨v2, r2, d2, e2, p2, q2, rfl, rfl, rfl, k2, h⟩ := trodAll_cons h
  obtain ⟨v3, r3, d3, e3, p3, q3, rfl, rfl, rfl, k3, h⟩ := trodAll_cons h
  obtain ⟨v4, r4, d4, e4, p4, q4, rfl, rfl, rfl, k4, h⟩ := trodAll_cons h
  obtain ⟨rfl, rfl, rfl⟩ := trodAll_nil h
  exact ⟨v0, v1, v2, v3, v4, d0, d1, d2, d3, d4, p0, p1, p2, p3, p4, by cases args; simp_all, rfl, rfl, k0, k1, k2, k3, k4⟩
theorem trodAll_6 {t0 t1 t2 t3 t4 t5 : TypeId} {args : Array Value} {ds : List (DataW H)} {ps : List MemPlace} (h : DataW.TrodAll enc P w base spare held [t0, t1, t2, t3, t4, t5] args.toList ds ps) :
    ∃ v0 v1 v2 v3 v4 v5 d0 d1 d2 d3 d4 d5 p0 p1 p2 p3 p4 p5, args = #[v0, v1, v2, v3, v4, v5] ∧ ds = [d0, d1, d2, d3, d4, d5] ∧ ps = p0 ++ (p1 ++ (p2 ++ (p3 ++ (p4 ++ (p5 ++ []))))) ∧ DataW.Trod enc P w base spare held t0 v0 d0 p0 ∧ DataW.Trod enc P w base spare held t1 v1 d1 p1 ∧
      DataW.Trod enc P w base spare held t2 v2 d2 p2 ∧ DataW.Trod enc P w base spare held t3 v3 d3 p3 ∧ DataW.Trod enc P w base spare held t4 v4 d4 p4 ∧ DataW.Trod enc P w base spare held t5 v5 d5 p5 := by
  obtain ⟨v0, r0, d0, e0, p0, q0, hargs, rfl, rfl, k0, h⟩ := trodAll_cons h
  obtain ⟨v1, v2, v3, v4, v5, d1, d2, d3, d4, d5, p1, p2, p3, p4, p5, hr, rfl, rfl, k⟩ := trodAll_5 (args := r0.toArray) (by simpa using h)
  exact ⟨v0, v1, v2, v3, v4, v5, d0, d1, d2, d3, d4, d5, p0, p1, p2, p3, p4, p5, by cases args; simp_all, rfl, rfl, k0, k⟩
end
theorem Try.cellsTerm : Try.prog.cellsOf 87 = 4 := by kernel_rfl
theorem Try.cellsArr : Try.prog.cellsOf 85 = 3 := by kernel_rfl
section
variable {H : Type} {enc : TypeId × Value → H} {W : World} {held : Bool}
theorem terms_here {n : Nat} {cs : List Value} {x : DataW H × List MemPlace} (h : DataW.trod enc Try.prog W 0 (fun _ => true) held n 66 cs = some x) : ∃ A l c, cs = [.slice A l.length c] ∧ LT W A l c :=
  terms_of (ti := 3) (ta := 85) Try.underlying66 Try.underlying87 Try.cellsTerm rfl rfl rfl rfl Try.underlying3 Try.underlying85 Try.cellsInt Try.cellsArr h
set_option maxRecDepth 100000 in
theorem open_tlist {b0 : Nat} {v : Value} {d : DataW H} {p : List MemPlace} (hv : Value.okWide Try.prog W .any b0 66 v) (h : DataW.Trod enc Try.prog W 0 (fun _ => true) held 66 v d p) :
    ∃ A l c, v = .slice A l.length c ∧ LT W A l c := by
  obtain ⟨A, n, c, rfl⟩ := okWide_slice Try.underlying66 hv
  obtain ⟨f, hf⟩ := h
  obtain ⟨A', l, c', e, k⟩ := terms_here hf
  simp [Value.cells] at e
  obtain ⟨rfl, rfl, rfl⟩ := e
  exact ⟨A, l, c, rfl, k⟩
theorem Try.cellsTerms : Try.prog.cellsOf 66 = 1 := by kernel_rfl
set_option maxRecDepth 100000 in
theorem open_sys {b0 : Nat} {v : Value} {d : DataW H} {p : List MemPlace} (hv : Value.okWide Try.prog W .any b0 25 v) (h : DataW.Trod enc Try.prog W 0 (fun _ => true) held 25 v d p) :
    ∃ A B s c d, v = .agg #[.slice A s.next.length c, .slice B s.push.length d] ∧ LY W A B s c d := by
  obtain ⟨c0, c1, y0, y1, m, rfl, _, _, k0, k1⟩ := open_agg2 Try.underlying25 (by kernel_rfl) (by kernel_rfl) hv h
  obtain ⟨A, l, c, e0, q1, q2, q3, q4⟩ := rows_of (α := Tm) (e := 66) RdT (fun f => f.length ≤ 9223372036854775807 ∧ ∀ t ∈ f, I64 t.by_ ∧ I64 t.t0 ∧ I64 t.t1 ∧ I64 t.t2) Try.underlying22 Try.cellsTerms (fun n cs' y hh => by
    obtain ⟨A, l, c, e, k⟩ := terms_here hh
    exact ⟨A, l, c, e, k.cap, k.rd, Nat.le_trans k.cap k.max, k.wf⟩) k0
  obtain ⟨B, b, c', e1, k⟩ := spans_of (e := 49) (ti := 3) Try.underlying23 Try.underlying49 Try.cellsSpan rfl rfl rfl rfl Try.underlying3 Try.cellsInt k1
  simp at e0 e1
  exact ⟨A, B, ⟨l, b⟩, c, c', by rw [e0, e1], ⟨q3, k.rd, q1, k.cap, q2, k.max, q4, k.wf⟩⟩
theorem Try.cellsInts : Try.prog.cellsOf 26 = 1 := by kernel_rfl
set_option maxRecDepth 100000 in
theorem open_ilists {b0 : Nat} {v : Value} {d : DataW H} {p : List MemPlace} (hv : Value.okWide Try.prog W .any b0 27 v) (h : DataW.Trod enc Try.prog W 0 (fun _ => true) held 27 v d p) :
    ∃ A l c, v = .slice A l.length c ∧ LII W A l c := by
  obtain ⟨A, n, c, rfl⟩ := okWide_slice Try.underlying27 hv
  obtain ⟨f, hf⟩ := h
  obtain ⟨A', l, c', e, q1, q2, q3, q4⟩ := rows_of (α := Int) (e := 26) RdI (fun x => x.length ≤ 9223372036854775807 ∧ ∀ n ∈ x, I64 n) Try.underlying27 Try.cellsInts (fun n cs' y hh => by
    obtain ⟨A, l, c, e, k⟩ := ints_of Try.underlying26 Try.underlying3 Try.cellsInt hh
    exact ⟨A, l, c, e, k.cap, k.rd, Nat.le_trans k.cap k.max, k.wf⟩) hf
  simp [Value.cells] at e
  obtain ⟨rfl, rfl, rfl⟩ := e
  exact ⟨A, l, c, rfl, ⟨q3, q1, q2, q4⟩⟩
end
end Go.Proofs.Ytknkpjfoaijaoaa
