/- Arguments that are lists of terms, lists of lists, systems: how they read. -/
import Derived.Test.YthoeflkgbimipaaDoorRowb
import Derived.Test.YthoeflkgbimipaaDoorSys
import Derived.Laws.IdiomArrays
set_option linter.unusedVariables false
set_option linter.unusedSimpArgs false
namespace Go.Proofs.YthoeflkgbimipaaDoor
open Go.ChangeShapes Go.WideShapes Go.ChangeAt Go.RowKit Go.Joins Go.Deep

section
variable {H : Type} {enc : TypeId × Value → H} {P : Program} {W : World} {held : Bool}
/-- A slice, read element by element: R: what an element's cells say. -/
theorem open_each {α : Type} [Inhabited α] {t e : TypeId} {sz : Nat} {fuel : Nat} {cs : List Value} {x : DataW H × List MemPlace} (ht : P.underlying t = some (.slice e)) (ce : P.cellsOf e = sz) (hsz : 0 < sz)
    (R : α → List Value → Prop) (each : ∀ n cs' y, cs'.length = sz → DataW.trod enc P W 0 (fun _ => true) held n e cs' = some y → ∃ a, R a cs')
    (h : DataW.trod enc P W 0 (fun _ => true) held fuel t cs = some x) :
    ∃ (A : Option Addr) (l : List α) (c : Nat), cs = [.slice A l.length c] ∧ l.length ≤ c ∧ c ≤ 9223372036854775807 ∧ (∀ a ∈ l, ∃ cs', R a cs') ∧
      (l ≠ [] → ∃ b o, A = some ⟨b, o, none⟩ ∧ b < W.heap.size ∧ ∀ k, k < l.length → ∃ cs', cs'.length = sz ∧ (∀ j, j < sz → W.cell? ⟨b, o + k * sz + j, none⟩ = cs'[j]?) ∧ R (l[k]?.getD default) cs') := by
  rcases open_slice ht h with ⟨e0, -⟩ | ⟨a, len, cap, m, n, D, Pl, e0, hb, hl, hm, hmm, hx, hcell⟩
  · exact ⟨none, [], 0, by simpa using e0, Nat.le_refl _, by omega, by simp, fun h => absurd rfl h⟩
  · simp only [if_true] at hmm
    have hmm' := hmm.symm
    subst hmm'
    unfold maxLen at hm
    have one : ∀ i, i < len → ∃ s : α, ∃ cs', cs'.length = sz ∧ (∀ j, j < sz → W.cell? ((a.add (i * sz)).add j) = cs'[j]?) ∧ R s cs' := fun i hi => by
      obtain ⟨cs', h1, h2⟩ := hcell i (by omega)
      rw [ce] at h1
      obtain ⟨_, k1, k2⟩ := World.cells?_some h1
      obtain ⟨s, hs⟩ := each _ _ _ k1 h2
      exact ⟨s, cs', k1, k2, hs⟩
    obtain ⟨S, hS⟩ := choose_lt one
    refine ⟨some a, (List.range len).map S, cap, by simpa using e0, by simpa using hl, by omega, ?_, fun hne => ?_⟩
    · intro s hs
      obtain ⟨i, hi, rfl⟩ := List.mem_map.1 hs
      obtain ⟨cs', -, -, k3⟩ := hS i (by simpa using hi)
      exact ⟨cs', k3⟩
    · have hn0 : 0 < len := by
        rcases Nat.eq_zero_or_pos len with h0 | h0
        · subst h0; simp at hne
        · exact h0
      obtain ⟨cs0, q1, q2, -⟩ := hS 0 hn0
      have c0 := q2 0 hsz
      rw [List.getElem?_eq_getElem (by omega)] at c0
      have c0' : W.cell? a = some cs0[0] := by simpa [Addr.add] using c0
      have ea : a = ⟨a.block, a.off, none⟩ := spot_none c0'
      refine ⟨a.block, a.off, by rw [← ea], ?_, fun k hk => ?_⟩
      · have := World.block_lt_of_cell? W _ c0'
        simpa using this
      · have hk' : k < len := by simpa using hk
        obtain ⟨cs', r1, r2, r3⟩ := hS k hk'
        refine ⟨cs', r1, fun j hj => ?_, ?_⟩
        · have := r2 j hj
          rw [ea, add_addr, add_addr] at this
          exact this
        · have e : ((List.range len).map S)[k]?.getD default = S k := by simp [hk']
          rw [e]
          exact r3
/-- a term's cells -/
def TmC (t : Tm) (cs : List Value) : Prop := cs = [.int .i64 t.by_, .int .i64 t.t0, .int .i64 t.t1, .int .i64 t.t2] ∧ I64 t.by_ ∧ I64 t.t0 ∧ I64 t.t1 ∧ I64 t.t2
theorem each_term {e ti ta : TypeId} {f0 f1 : Field} (he : P.underlying e = some (.struct #[f0, f1])) (ce : P.cellsOf e = 4) (o0 : f0.offset = 0) (o1 : f1.offset = 1) (h0 : f0.type = ti) (h1 : f1.type = ta)
    (hti : P.underlying ti = some (.int .i64)) (hta : P.underlying ta = some (.array 3 ti)) (ci : P.cellsOf ti = 1) (ca : P.cellsOf ta = 3) (n : Nat) (cs : List Value) (y : DataW H × List MemPlace)
    (hl : cs.length = 4) (h : DataW.trod enc P W 0 (fun _ => true) held n e cs = some y) : ∃ t, TmC t cs := by
  match cs, hl with
  | [a, b, c, d], _ =>
    obtain ⟨y0, y1, m, -, -, k0, k1⟩ := trod_struct2 he h
    rw [h0, o0, ci] at k0
    rw [h1, o1, ca] at k1
    simp only [List.drop_zero, List.take_succ_cons, List.take_zero, List.drop_succ_cons] at k0 k1
    obtain ⟨z0, z1, z2, m', -, j0, j1, j2⟩ := trod_array3 hta ci k1
    obtain ⟨n0, e0, -, w0⟩ := DataW.trod_int hti k0
    obtain ⟨n1, e1, -, w1⟩ := DataW.trod_int hti j0
    obtain ⟨n2, e2, -, w2⟩ := DataW.trod_int hti j1
    obtain ⟨n3, e3, -, w3⟩ := DataW.trod_int hti j2
    simp at e0 e1 e2 e3
    exact ⟨⟨n0, n1, n2, n3⟩, by rw [e0, e1, e2, e3], wf_I64 w0, wf_I64 w1, wf_I64 w2, wf_I64 w3⟩
theorem terms_of {t e ti ta : TypeId} {f0 f1 : Field} {n : Nat} {cs : List Value} {x : DataW H × List MemPlace} (ht : P.underlying t = some (.slice e)) (he : P.underlying e = some (.struct #[f0, f1])) (ce : P.cellsOf e = 4) (o0 : f0.offset = 0) (o1 : f1.offset = 1) (h0 : f0.type = ti) (h1 : f1.type = ta)
    (hti : P.underlying ti = some (.int .i64)) (hta : P.underlying ta = some (.array 3 ti)) (ci : P.cellsOf ti = 1) (ca : P.cellsOf ta = 3) (h : DataW.trod enc P W 0 (fun _ => true) held n t cs = some x) :
    ∃ A l c, cs = [.slice A l.length c] ∧ LT W A l c := by
  obtain ⟨A, l, c, e1, e2, e3, e4, e5⟩ := open_each ht ce (by decide) TmC (fun n cs' y k => each_term he ce o0 o1 h0 h1 hti hta ci ca n cs' y k) h
  refine ⟨A, l, c, e1, ⟨fun hne => ?_, e2, e3, fun t ht => (e4 t ht).elim fun _ k => k.2⟩⟩
  obtain ⟨b, o, rfl, hb, hc⟩ := e5 hne
  refine ⟨b, o, rfl, hb, fun k hk => ?_⟩
  obtain ⟨cs', -, r2, r3⟩ := hc k hk
  obtain ⟨q, -⟩ := r3
  rw [q] at r2
  exact ⟨r2 0 (by decide), r2 1 (by decide), r2 2 (by decide), r2 3 (by decide)⟩
theorem spans_of {t e ti : TypeId} {f0 f1 : Field} {n : Nat} {cs : List Value} {x : DataW H × List MemPlace} (ht : P.underlying t = some (.slice e)) (he : P.underlying e = some (.struct #[f0, f1])) (ce : P.cellsOf e = 2) (o0 : f0.offset = 0) (o1 : f1.offset = 1) (h0 : f0.type = ti) (h1 : f1.type = ti)
    (hti : P.underlying ti = some (.int .i64)) (ci : P.cellsOf ti = 1) (h : DataW.trod enc P W 0 (fun _ => true) held n t cs = some x) :
    ∃ A l c, cs = [.slice A l.length c] ∧ LS W A l c := by
  obtain ⟨A, l, c, e1, e2, e3, e4, e5⟩ := open_each (α := Sp) ht ce (by decide) (fun s cs => cs = [.int .i64 s.lo, .int .i64 s.hi] ∧ I64 s.lo ∧ I64 s.hi) (fun n cs' y k hh => by
    match cs', k with
    | [a, b], _ =>
      obtain ⟨y0, y1, m, -, -, k0, k1⟩ := trod_struct2 he hh
      rw [h0, o0, ci] at k0
      rw [h1, o1, ci] at k1
      simp only [List.drop_zero, List.take_succ_cons, List.take_zero, List.drop_succ_cons] at k0 k1
      obtain ⟨n0, e0, -, w0⟩ := DataW.trod_int hti k0
      obtain ⟨n1, e1, -, w1⟩ := DataW.trod_int hti k1
      simp at e0 e1
      exact ⟨⟨n0, n1⟩, by rw [e0, e1], wf_I64 w0, wf_I64 w1⟩) h
  refine ⟨A, l, c, e1, ⟨fun hne => ?_, e2, e3, fun t ht => (e4 t ht).elim fun _ k => k.2⟩⟩
  obtain ⟨b, o, rfl, hb, hc⟩ := e5 hne
  refine ⟨b, o, rfl, hb, fun k hk => ?_⟩
  obtain ⟨cs', -, r2, r3⟩ := hc k hk
  obtain ⟨q, -⟩ := r3
  rw [q] at r2
  exact ⟨r2 0 (by decide), r2 1 (by decide)⟩
theorem ints_of {t e : TypeId} {n : Nat} {cs : List Value} {x : DataW H × List MemPlace} (ht : P.underlying t = some (.slice e)) (he : P.underlying e = some (.int .i64)) (ce : P.cellsOf e = 1)
    (h : DataW.trod enc P W 0 (fun _ => true) held n t cs = some x) : ∃ A l c, cs = [.slice A l.length c] ∧ LI W A l c := by
  obtain ⟨A, l, c, e1, e2, e3, e4, e5⟩ := open_each (α := Int) ht ce (by decide) (fun s cs => cs = [.int .i64 s] ∧ I64 s) (fun n cs' y k hh => by
    match cs', k with
    | [a], _ =>
      obtain ⟨n0, e0, -, w0⟩ := DataW.trod_int he hh
      simp at e0
      exact ⟨n0, by rw [e0], wf_I64 w0⟩) h
  refine ⟨A, l, c, e1, ⟨fun hne => ?_, e2, e3, fun t ht => (e4 t ht).elim fun _ k => k.2⟩⟩
  obtain ⟨b, o, rfl, hb, hc⟩ := e5 hne
  refine ⟨b, o, rfl, hb, fun k hk => ?_⟩
  obtain ⟨cs', -, r2, r3⟩ := hc k hk
  obtain ⟨q, -⟩ := r3
  rw [q] at r2
  have := r2 0 (by decide)
  simpa using this
/-- A slice of slices. -/
theorem rows_of {α : Type} {t e : TypeId} {n : Nat} {cs : List Value} {x : DataW H × List MemPlace} (R : World → Option Addr → List α → Prop) (Wf : List α → Prop) (ht : P.underlying t = some (.slice e)) (ce : P.cellsOf e = 1)
    (each : ∀ n cs' y, DataW.trod enc P W 0 (fun _ => true) held n e cs' = some y → ∃ A l c, cs' = [.slice A l.length c] ∧ l.length ≤ c ∧ R W A l ∧ Wf l)
    (h : DataW.trod enc P W 0 (fun _ => true) held n t cs = some x) : ∃ A l c, cs = [.slice A l.length c] ∧ l.length ≤ c ∧ c ≤ 9223372036854775807 ∧ RdR R W A l ∧ ∀ y ∈ l, Wf y := by
  obtain ⟨A, l, c, e1, e2, e3, e4, e5⟩ := open_each (α := List α) ht ce (by decide) (fun l cs => ∃ A c, cs = [.slice A l.length c] ∧ l.length ≤ c ∧ R W A l ∧ Wf l) (fun n cs' y _ hh => by
    obtain ⟨A, l, c, k⟩ := each n cs' y hh
    exact ⟨l, A, c, k⟩) h
  refine ⟨A, l, c, e1, e2, e3, fun hne => ?_, fun y hy => (e4 y hy).elim fun _ ⟨_, _, _, _, _, k⟩ => k⟩
  obtain ⟨b, o, rfl, hb, hc⟩ := e5 hne
  refine ⟨b, o, rfl, hb, fun k hk => ?_⟩
  obtain ⟨cs', -, r2, A', c', q, q2, q3, -⟩ := hc k hk
  rw [q] at r2
  have h0 := r2 0 (by decide)
  rw [Nat.mul_one, Nat.add_zero] at h0
  exact ⟨A', c', h0, q2, q3⟩
end
end Go.Proofs.YthoeflkgbimipaaDoor
