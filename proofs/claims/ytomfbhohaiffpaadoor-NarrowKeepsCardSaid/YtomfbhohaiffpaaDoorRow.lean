/- From the walk of a law to the given statement: what all laws of this seat share. Arguments that are ints, slices of ints, slices of spans: how they read. Arguments that are lists of terms, lists of lists, systems: how they read. The arguments of this seat's types: lists of terms, systems, lists of lists of ints. -/
import Derived.Test.YtomfbhohaiffpaaDoorBase
import Derived.ProofKit
import Derived.OpenShut
import Derived.Lib.SmallJoins
import Derived.Deep.Slices
import Derived.Deep.SlicePairs
import Derived.Laws.IdiomArrays
set_option linter.unusedVariables false
set_option linter.unusedSimpArgs false
namespace Go.Proofs.YtomfbhohaiffpaaDoor
open Go.ChangeShapes Go.WideShapes Go.ChangeAt Go.RowKit Go.Joins Go.Deep

theorem Tryd.own : ownKnob Tryd.prog.godebug = none := by kernel_rfl
theorem Tryd.laidOut : laidOutB Tryd.prog = true := by kernel_rfl
theorem Tryd.cellsSpan : Tryd.prog.cellsOf 23 = 2 := by kernel_rfl
theorem Tryd.cellsInt : Tryd.prog.cellsOf 3 = 1 := by kernel_rfl

section
variable {H : Type} {enc : TypeId × Value → H} {P : Program}
theorem trodAll_below (hl : laidOutB P = true) {W W' : World} (hb : Up W W') : ∀ (ts : List TypeId) (vs : List Value) (ds : List (DataW H)) (ps : List MemPlace),
    (∀ t ∈ ts, P.readableRec t = true ∧ t < P.types.size) → (∀ x ∈ ps, x.block < W.heap.size) → DataW.TrodAll enc P W 0 (fun _ => true) true ts vs ds ps → DataW.TrodAll enc P W' 0 (fun b => decide (b < W.heap.size)) true ts vs ds ps
  | [], [], [], ps, _, _, h => h
  | t :: ts, v :: vs, d :: ds, ps, hts, hlt, h => by
    obtain ⟨p, q, h1, h2, rfl⟩ := h
    refine ⟨p, q, Below.trod hl (hts t (by simp)).1 (hts t (by simp)).2 h1 hb (fun x hx => hlt x (by simp [hx])), trodAll_below hl hb ts vs ds q (fun t ht => hts t (by simp [ht])) (fun x hx => hlt x (by simp [hx])) h2, rfl⟩
  | [], _ :: _, _, _, _, _, h => h.elim
  | [], [], _ :: _, _, _, _, h => h.elim
  | _ :: _, [], _, _, _, _, h => h.elim
  | _ :: _, _ :: _, [], _, _, _, h => h.elim

/-- A law that returns true, and leaves as it was what was there. -/
theorem law_post {f : Func} {s : ChangeSpec} {W W' : World} {args : Array Value} {ds : List (DataW H)} {before : List MemPlace} {tb : TypeId}
    (hl : laidOutB P = true) (hvars : s.vars = []) (hrt : f.resultTypes = #[tb]) (hbool : P.underlying tb = some .bool)
    (hts : ∀ t ∈ f.params.toList, P.readableRec t = true ∧ t < P.types.size)
    (hW : DataW.Whole enc P f.params.toList s.vars false W args.toList ds [] before)
    (hres : (s.fn H (ds ++ [])).results = [.lit (.bool true)]) (hargs : (s.fn H (ds ++ [])).args = ds) (hv : (s.fn H (ds ++ [])).vars = [])
    (hb : Up W W') : s.post enc P f false true false false W args (.bool true) W' := by
  obtain ⟨p, q, hA, hV, hpq, hz, hn⟩ := hW
  have hlt : ∀ x ∈ before, x.block < W.heap.size := fun x hx => (show DataW.Whole enc P f.params.toList s.vars false W args.toList ds [] before from ⟨p, q, hA, hV, hpq, hz, hn⟩).lt x hx
  rw [hvars] at hV
  have hq : q = [] := hV
  subst hq
  simp only [List.append_nil] at hpq
  subst hpq
  refine ⟨ds, [], before, [], before, [], ⟨before, [], hA, by rw [hvars]; exact hV, by simp, hz, hn⟩, ?_, ?_, ?_, Below.frame hb _, fun h => by cases h⟩
  · rw [hres, hrt]
    exact ⟨[], [], shut_bool hbool true, rfl, rfl⟩
  · rw [hargs]
    exact trodAll_below hl hb _ _ _ _ hts hlt hA
  · rw [hvars, hv]
    exact rfl

/-- An argument that is a span. -/
theorem open_span {t ti : TypeId} {r : Reach} {W : World} {base b0 : Nat} {spare : Nat → Bool} {held : Bool} {v : Value} {d : DataW H} {p : List MemPlace} {f0 f1 : Field}
    (hs : P.underlying t = some (.struct #[f0, f1])) (h0 : f0.type = ti) (h1 : f1.type = ti) (hti : P.underlying ti = some (.int .i64)) (hone : oneCellFields P #[f0, f1] = true) (hC : P.cellsOf t = 2)
    (hv : Value.okWide P W r b0 t v) (h : DataW.Trod enc P W base spare held t v d p) :
    ∃ lo hi : Int, v = .agg #[.int .i64 lo, .int .i64 hi] ∧ (Lit.int .i64 lo).wf = true ∧ (Lit.int .i64 hi).wf = true := by
  obtain ⟨c0, c1, y0, y1, m, rfl, _, _, hy0, hy1⟩ := open_agg2 hs hone hC hv h
  rw [h0] at hy0; rw [h1] at hy1
  obtain ⟨a, e0, _, wa⟩ := DataW.trod_int hti hy0
  obtain ⟨b, e1, _, wb⟩ := DataW.trod_int hti hy1
  simp at e0 e1
  subst e0 e1
  exact ⟨a, b, rfl, wa, wb⟩
end
end Go.Proofs.YtomfbhohaiffpaaDoor

namespace Go.Proofs.YtomfbhohaiffpaaDoor
open Go.ChangeShapes Go.WideShapes Go.ChangeAt Go.RowKit Go.Joins Go.Deep

theorem wf_I64 {n : Int} (h : (Lit.int .i64 n).wf = true) : I64 n := by
  unfold I64
  simp only [Lit.wf, Bool.and_eq_true, decide_eq_true_eq] at h
  exact h
section
variable {H : Type} {enc : TypeId × Value → H} {P : Program}
theorem open_i64 {t : TypeId} {r : Reach} {W : World} {base b0 : Nat} {spare : Nat → Bool} {held : Bool} {v : Value} {d : DataW H} {p : List MemPlace}
    (ht : P.underlying t = some (.int .i64)) (hv : Value.okWide P W r b0 t v) (h : DataW.Trod enc P W base spare held t v d p) : ∃ n : Int, v = .int .i64 n ∧ I64 n := by
  obtain ⟨n, rfl⟩ := okWide_int ht hv
  obtain ⟨f, hf⟩ := h
  obtain ⟨m, e, _, hw⟩ := DataW.trod_int ht hf
  simp [Value.cells] at e
  subst e
  exact ⟨n, rfl, wf_I64 hw⟩
theorem spot_none {w : World} {a : Addr} {v : Value} (h : w.cell? a = some v) : a = ⟨a.block, a.off, none⟩ := by
  obtain ⟨b, o, s⟩ := a
  cases s with
  | none => rfl
  | some k =>
    unfold World.cell? at h
    split at h
    · simp at h
    · cases h
theorem add_addr {b o k : Nat} : (⟨b, o, none⟩ : Addr).add k = ⟨b, o + k, none⟩ := by unfold Addr.add; split <;> simp_all
theorem open_ilist {t e : TypeId} {r : Reach} {W : World} {b0 : Nat} {held : Bool} {v : Value} {d : DataW H} {p : List MemPlace}
    (ht : P.underlying t = some (.slice e)) (he : P.underlying e = some (.int .i64)) (hc : P.cellsOf e = 1)
    (hv : Value.okWide P W r b0 t v) (h : DataW.Trod enc P W 0 (fun _ => true) held t v d p) : ∃ A l c, v = .slice A l.length c ∧ LI W A l c := by
  obtain ⟨A, n, c, rfl⟩ := okWide_slice ht hv
  obtain ⟨f, hf⟩ := h
  rcases open_ints ht he hc hf with ⟨e0, -⟩ | ⟨a, len, cap, zs, e0, hb, hl, hm, hz, hx, hcell, hw⟩
  · simp [Value.cells] at e0
    obtain ⟨rfl, rfl, rfl⟩ := e0
    exact ⟨none, [], 0, rfl, RdI.nil _ _, Nat.le_refl _, by omega, by simp⟩
  · simp [Value.cells] at e0
    obtain ⟨rfl, rfl, rfl⟩ := e0
    simp only [if_true] at hz
    unfold maxLen at hm
    have hlen : (zs.take n).length = n := by rw [List.length_take]; omega
    refine ⟨some a, zs.take n, c, by rw [hlen], ⟨fun hne => ?_, by omega, by omega, fun m hmem => wf_I64 (hw m (List.mem_of_mem_take hmem))⟩⟩
    have h0 : 0 < n := by
      rcases Nat.eq_zero_or_pos n with h0 | h0
      · subst h0; simp at hne
      · exact h0
    have c0 := hcell 0 (by omega)
    have ea : a = ⟨a.block, a.off, none⟩ := by simpa [Addr.add] using spot_none c0
    refine ⟨a.block, a.off, by rw [← ea], ?_, fun k hk => ?_⟩
    · have := World.block_lt_of_cell? W _ c0
      simpa [Addr.add] using this
    · have := hcell k (by omega)
      rw [ea, add_addr] at this
      rw [this]
      congr 2
      rw [List.getElem?_take_of_lt (by omega)]
      rfl
theorem open_slist {t e ti : TypeId} {f0 f1 : Field} {r : Reach} {W : World} {b0 : Nat} {held : Bool} {v : Value} {d : DataW H} {p : List MemPlace}
    (ht : P.underlying t = some (.slice e)) (he : P.underlying e = some (.struct #[f0, f1])) (ce : P.cellsOf e = 2) (o0 : f0.offset = 0) (o1 : f1.offset = 1) (h0 : f0.type = ti) (h1 : f1.type = ti)
    (hti : P.underlying ti = some (.int .i64)) (ci : P.cellsOf ti = 1)
    (hv : Value.okWide P W r b0 t v) (h : DataW.Trod enc P W 0 (fun _ => true) held t v d p) : ∃ A l c, v = .slice A l.length c ∧ LS W A l c := by
  obtain ⟨A, n, c, rfl⟩ := okWide_slice ht hv
  obtain ⟨f, hf⟩ := h
  rcases open_slice_pairs ht he ce o0 o1 (by rw [h0]; exact ci) (by rw [h1]; exact ci) hf with ⟨e0, -⟩ | ⟨a, len, cap, m, n', V0, V1, D0, D1, P0, P1, e0, hb, hl, hm, hmm, hx, hcell⟩
  · simp [Value.cells] at e0
    obtain ⟨rfl, rfl, rfl⟩ := e0
    exact ⟨none, [], 0, rfl, RdS.nil _ _, Nat.le_refl _, by omega, by simp⟩
  · simp [Value.cells] at e0
    obtain ⟨rfl, rfl, rfl⟩ := e0
    simp only [if_true] at hmm
    have hmm' := hmm.symm
    subst hmm'
    unfold maxLen at hm
    have each : ∀ i, i < n → ∃ s : Sp, W.cell? (a.add (i * 2)) = some (.int .i64 s.lo) ∧ W.cell? (a.add (i * 2 + 1)) = some (.int .i64 s.hi) ∧ I64 s.lo ∧ I64 s.hi := by
      intro i hi
      obtain ⟨q0, q1, t0, t1⟩ := hcell i (by omega)
      rw [h0] at t0; rw [h1] at t1
      obtain ⟨m0, e0, _, w0⟩ := DataW.trod_int hti t0
      obtain ⟨m1, e1, _, w1⟩ := DataW.trod_int hti t1
      simp at e0 e1
      rw [e0] at q0; rw [e1] at q1
      exact ⟨⟨m0, m1⟩, q0, q1, wf_I64 w0, wf_I64 w1⟩
    have ⟨S, hS⟩ : ∃ S : Nat → Sp, ∀ i, i < n → W.cell? (a.add (i * 2)) = some (.int .i64 (S i).lo) ∧ W.cell? (a.add (i * 2 + 1)) = some (.int .i64 (S i).hi) ∧ I64 (S i).lo ∧ I64 (S i).hi :=
      ⟨fun i => if h : i < n then Classical.choose (each i h) else ⟨0, 0⟩, fun i hi => by
        simp only [hi, dif_pos]
        exact Classical.choose_spec (each i hi)⟩
    refine ⟨some a, (List.range n).map S, c, by simp, ⟨fun hne => ?_, by simpa using hl, by omega, fun s hs => ?_⟩⟩
    · have hn0 : 0 < n := by
        rcases Nat.eq_zero_or_pos n with h0 | h0
        · subst h0; simp at hne
        · exact h0
      have c0 := (hS 0 hn0).1
      have ea : a = ⟨a.block, a.off, none⟩ := by simpa [Addr.add] using spot_none c0
      refine ⟨a.block, a.off, by rw [← ea], ?_, fun k hk => ?_⟩
      · have := World.block_lt_of_cell? W _ c0
        simpa [Addr.add] using this
      · have hk' : k < n := by simpa using hk
        obtain ⟨g1, g2, -, -⟩ := hS k hk'
        rw [ea, add_addr] at g1 g2
        have e : ((List.range n).map S)[k]?.getD ⟨0, 0⟩ = S k := by simp [hk']
        rw [e]
        exact ⟨g1, by rw [Nat.add_assoc]; exact g2⟩
    · obtain ⟨i, hi, rfl⟩ := List.mem_map.1 hs
      exact ⟨(hS i (by simpa using hi)).2.2.1, (hS i (by simpa using hi)).2.2.2⟩
end
end Go.Proofs.YtomfbhohaiffpaaDoor

namespace Go.Proofs.YtomfbhohaiffpaaDoor
open Go.ChangeShapes Go.WideShapes Go.ChangeAt Go.RowKit Go.Joins Go.Deep

section
variable {H : Type} {enc : TypeId × Value → H} {P : Program} {W : World} {held : Bool}
/-- A slice, read element by element: R: what an element's cells say. -/
theorem open_each {α : Type} [Inhabited α] {t e : TypeId} {sz : Nat} {fuel : Nat} {cs : List Value} {x : DataW H × List MemPlace} (ht : P.underlying t = some (.slice e)) (ce : P.cellsOf e = sz) (hsz : 0 < sz)
    (R : α → List Value → Prop) (each : ∀ n cs' y, cs'.length = sz → DataW.trod enc P W 0 (fun _ => true) held n e cs' = some y → ∃ a, R a cs')
    (h : DataW.trod enc P W 0 (fun _ => true) held fuel t cs = some x) :
    ∃ (A : Option Addr) (l : List α) (c : Nat), cs = [.slice A l.length c] ∧ l.length ≤ c ∧ c ≤ 9223372036854775807 ∧ (∀ a ∈ l, ∃ cs', R a cs') ∧
      (l ≠ [] → ∃ b o, A = some ⟨b, o, none⟩ ∧ b < W.heap.size ∧ ∀ k, k < l.length → ∃ cs', cs'.length = sz ∧ (∀ j, j < sz → W.cell? ⟨b, o + k * sz + j, none⟩ = cs'[j]?) ∧ R (l[k]?.getD default) cs') := by
  rcases open_slice ht h with ⟨e0, -⟩ | ⟨a, len, cap, m, n, D, Pl, e0, hb, hl, hm, hmm, hx, hcell⟩
  · exact ⟨none, [], 0, by simpa using e0, Nat.le_refl _, by omega, by simp, fun h => absurd rfl h⟩
  · simp only [if_true] at hmm
    have hmm' := hmm.symm
    subst hmm'
    unfold maxLen at hm
    have one : ∀ i, i < len → ∃ s : α, ∃ cs', cs'.length = sz ∧ (∀ j, j < sz → W.cell? ((a.add (i * sz)).add j) = cs'[j]?) ∧ R s cs' := fun i hi => by
      obtain ⟨cs', h1, h2⟩ := hcell i (by omega)
      rw [ce] at h1
      obtain ⟨_, k1, k2⟩ := World.cells?_some h1
      obtain ⟨s, hs⟩ := each _ _ _ k1 h2
      exact ⟨s, cs', k1, k2, hs⟩
    obtain ⟨S, hS⟩ := choose_lt one
    refine ⟨some a, (List.range len).map S, cap, by simpa using e0, by simpa using hl, by omega, ?_, fun hne => ?_⟩
    · intro s hs
      obtain ⟨i, hi, rfl⟩ := List.mem_map.1 hs
      obtain ⟨cs', -, -, k3⟩ := hS i (by simpa using hi)
      exact ⟨cs', k3⟩
    · have hn0 : 0 < len := by
        rcases Nat.eq_zero_or_pos len with h0 | h0
        · subst h0; simp at hne
        · exact h0
      obtain ⟨cs0, q1, q2, -⟩ := hS 0 hn0
      have c0 := q2 0 hsz
      rw [List.getElem?_eq_getElem (by omega)] at c0
      have c0' : W.cell? a = some cs0[0] := by simpa [Addr.add] using c0
      have ea : a = ⟨a.block, a.off, none⟩ := spot_none c0'
      refine ⟨a.block, a.off, by rw [← ea], ?_, fun k hk => ?_⟩
      · have := World.block_lt_of_cell? W _ c0'
        simpa using this
      · have hk' : k < len := by simpa using hk
        obtain ⟨cs', r1, r2, r3⟩ := hS k hk'
        refine ⟨cs', r1, fun j hj => ?_, ?_⟩
        · have := r2 j hj
          rw [ea, add_addr, add_addr] at this
          exact this
        · have e : ((List.range len).map S)[k]?.getD default = S k := by simp [hk']
          rw [e]
          exact r3
/-- a term's cells -/
def TmC (t : Tm) (cs : List Value) : Prop := cs = [.int .i64 t.by_, .int .i64 t.t0, .int .i64 t.t1, .int .i64 t.t2] ∧ I64 t.by_ ∧ I64 t.t0 ∧ I64 t.t1 ∧ I64 t.t2
theorem each_term {e ti ta : TypeId} {f0 f1 : Field} (he : P.underlying e = some (.struct #[f0, f1])) (ce : P.cellsOf e = 4) (o0 : f0.offset = 0) (o1 : f1.offset = 1) (h0 : f0.type = ti) (h1 : f1.type = ta)
    (hti : P.underlying ti = some (.int .i64)) (hta : P.underlying ta = some (.array 3 ti)) (ci : P.cellsOf ti = 1) (ca : P.cellsOf ta = 3) (n : Nat) (cs : List Value) (y : DataW H × List MemPlace)
    (hl : cs.length = 4) (h : DataW.trod enc P W 0 (fun _ => true) held n e cs = some y) : ∃ t, TmC t cs := by
  match cs, hl with
  | [a, b, c, d], _ =>
    obtain ⟨y0, y1, m, -, -, k0, k1⟩ := trod_struct2 he h
    rw [h0, o0, ci] at k0
    rw [h1, o1, ca] at k1
    simp only [List.drop_zero, List.take_succ_cons, List.take_zero, List.drop_succ_cons] at k0 k1
    obtain ⟨z0, z1, z2, m', -, j0, j1, j2⟩ := trod_array3 hta ci k1
    obtain ⟨n0, e0, -, w0⟩ := DataW.trod_int hti k0
    obtain ⟨n1, e1, -, w1⟩ := DataW.trod_int hti j0
    obtain ⟨n2, e2, -, w2⟩ := DataW.trod_int hti j1
    obtain ⟨n3, e3, -, w3⟩ := DataW.trod_int hti j2
    simp at e0 e1 e2 e3
    exact ⟨⟨n0, n1, n2, n3⟩, by rw [e0, e1, e2, e3], wf_I64 w0, wf_I64 w1, wf_I64 w2, wf_I64 w3⟩
theorem terms_of {t e ti ta : TypeId} {f0 f1 : Field} {n : Nat} {cs : List Value} {x : DataW H × List MemPlace} (ht : P.underlying t = some (.slice e)) (he : P.underlying e = some (.struct #[f0, f1])) (ce : P.cellsOf e = 4) (o0 : f0.offset = 0) (o1 : f1.offset = 1) (h0 : f0.type = ti) (h1 : f1.type = ta)
    (hti : P.underlying ti = some (.int .i64)) (hta : P.underlying ta = some (.array 3 ti)) (ci : P.cellsOf ti = 1) (ca : P.cellsOf ta = 3) (h : DataW.trod enc P W 0 (fun _ => true) held n t cs = some x) :
    ∃ A l c, cs = [.slice A l.length c] ∧ LT W A l c := by
  obtain ⟨A, l, c, e1, e2, e3, e4, e5⟩ := open_each ht ce (by decide) TmC (fun n cs' y k => each_term he ce o0 o1 h0 h1 hti hta ci ca n cs' y k) h
  refine ⟨A, l, c, e1, ⟨fun hne => ?_, e2, e3, fun t ht => (e4 t ht).elim fun _ k => k.2⟩⟩
  obtain ⟨b, o, rfl, hb, hc⟩ := e5 hne
  refine ⟨b, o, rfl, hb, fun k hk => ?_⟩
  obtain ⟨cs', -, r2, r3⟩ := hc k hk
  obtain ⟨q, -⟩ := r3
  rw [q] at r2
  exact ⟨r2 0 (by decide), r2 1 (by decide), r2 2 (by decide), r2 3 (by decide)⟩
theorem spans_of {t e ti : TypeId} {f0 f1 : Field} {n : Nat} {cs : List Value} {x : DataW H × List MemPlace} (ht : P.underlying t = some (.slice e)) (he : P.underlying e = some (.struct #[f0, f1])) (ce : P.cellsOf e = 2) (o0 : f0.offset = 0) (o1 : f1.offset = 1) (h0 : f0.type = ti) (h1 : f1.type = ti)
    (hti : P.underlying ti = some (.int .i64)) (ci : P.cellsOf ti = 1) (h : DataW.trod enc P W 0 (fun _ => true) held n t cs = some x) :
    ∃ A l c, cs = [.slice A l.length c] ∧ LS W A l c := by
  obtain ⟨A, l, c, e1, e2, e3, e4, e5⟩ := open_each (α := Sp) ht ce (by decide) (fun s cs => cs = [.int .i64 s.lo, .int .i64 s.hi] ∧ I64 s.lo ∧ I64 s.hi) (fun n cs' y k hh => by
    match cs', k with
    | [a, b], _ =>
      obtain ⟨y0, y1, m, -, -, k0, k1⟩ := trod_struct2 he hh
      rw [h0, o0, ci] at k0
      rw [h1, o1, ci] at k1
      simp only [List.drop_zero, List.take_succ_cons, List.take_zero, List.drop_succ_cons] at k0 k1
      obtain ⟨n0, e0, -, w0⟩ := DataW.trod_int hti k0
      obtain ⟨n1, e1, -, w1⟩ := DataW.trod_int hti k1
      simp at e0 e1
      exact ⟨⟨n0, n1⟩, by rw [e0, e1], wf_I64 w0, wf_I64 w1⟩) h
  refine ⟨A, l, c, e1, ⟨fun hne => ?_, e2, e3, fun t ht => (e4 t ht).elim fun _ k => k.2⟩⟩
  obtain ⟨b, o, rfl, hb, hc⟩ := e5 hne
  refine ⟨b, o, rfl, hb, fun k hk => ?_⟩
  obtain ⟨cs', -, r2, r3⟩ := hc k hk
  obtain ⟨q, -⟩ := r3
  rw [q] at r2
  exact ⟨r2 0 (by decide), r2 1 (by decide)⟩
theorem ints_of {t e : TypeId} {n : Nat} {cs : List Value} {x : DataW H × List MemPlace} (ht : P.underlying t = some (.slice e)) (he : P.underlying e = some (.int .i64)) (ce : P.cellsOf e = 1)
    (h : DataW.trod enc P W 0 (fun _ => true) held n t cs = some x) : ∃ A l c, cs = [.slice A l.length c] ∧ LI W A l c := by
  obtain ⟨A, l, c, e1, e2, e3, e4, e5⟩ := open_each (α := Int) ht ce (by decide) (fun s cs => cs = [.int .i64 s] ∧ I64 s) (fun n cs' y k hh => by
    match cs', k with
    | [a], _ =>
      obtain ⟨n0, e0, -, w0⟩ := DataW.trod_int he hh
      simp at e0
      exact ⟨n0, by rw [e0], wf_I64 w0⟩) h
  refine ⟨A, l, c, e1, ⟨fun hne => ?_, e2, e3, fun t ht => (e4 t ht).elim fun _ k => k.2⟩⟩
  obtain ⟨b, o, rfl, hb, hc⟩ := e5 hne
  refine ⟨b, o, rfl, hb, fun k hk => ?_⟩
  obtain ⟨cs', -, r2, r3⟩ := hc k hk
  obtain ⟨q, -⟩ := r3
  rw [q] at r2
  have := r2 0 (by decide)
  simpa using this
/-- A slice of slices. -/
theorem rows_of {α : Type} {t e : TypeId} {n : Nat} {cs : List Value} {x : DataW H × List MemPlace} (R : World → Option Addr → List α → Prop) (Wf : List α → Prop) (ht : P.underlying t = some (.slice e)) (ce : P.cellsOf e = 1)
    (each : ∀ n cs' y, DataW.trod enc P W 0 (fun _ => true) held n e cs' = some y → ∃ A l c, cs' = [.slice A l.length c] ∧ l.length ≤ c ∧ R W A l ∧ Wf l)
    (h : DataW.trod enc P W 0 (fun _ => true) held n t cs = some x) : ∃ A l c, cs = [.slice A l.length c] ∧ l.length ≤ c ∧ c ≤ 9223372036854775807 ∧ RdR R W A l ∧ ∀ y ∈ l, Wf y := by
  obtain ⟨A, l, c, e1, e2, e3, e4, e5⟩ := open_each (α := List α) ht ce (by decide) (fun l cs => ∃ A c, cs = [.slice A l.length c] ∧ l.length ≤ c ∧ R W A l ∧ Wf l) (fun n cs' y _ hh => by
    obtain ⟨A, l, c, k⟩ := each n cs' y hh
    exact ⟨l, A, c, k⟩) h
  refine ⟨A, l, c, e1, e2, e3, fun hne => ?_, fun y hy => (e4 y hy).elim fun _ ⟨_, _, _, _, _, k⟩ => k⟩
  obtain ⟨b, o, rfl, hb, hc⟩ := e5 hne
  refine ⟨b, o, rfl, hb, fun k hk => ?_⟩
  obtain ⟨cs', -, r2, A', c', q, q2, q3, -⟩ := hc k hk
  rw [q] at r2
  have h0 := r2 0 (by decide)
  rw [Nat.mul_one, Nat.add_zero] at h0
  exact ⟨A', c', h0, q2, q3⟩
end
end Go.Proofs.YtomfbhohaiffpaaDoor

namespace Go.Proofs.YtomfbhohaiffpaaDoor
open Go.ChangeShapes Go.WideShapes Go.ChangeAt Go.RowKit Go.Joins Go.Deep

section
variable {H : Type} {enc : TypeId × Value → H} {P : Program} {w : World} {base : Nat} {spare : Nat → Bool} {held : Bool}
theorem trodAll_5 {t0 t1 t2 t3 t4 : TypeId} {args : Array Value} {ds : List (DataW H)} {ps : List MemPlace} (h : DataW.TrodAll enc P w base spare held [t0, t1, t2, t3, t4] args.toList ds ps) :
    ∃ v0 v1 v2 v3 v4 d0 d1 d2 d3 d4 p0 p1 p2 p3 p4, args = #[v0, v1, v2, v3, v4] ∧ ds = [d0, d1, d2, d3, d4] ∧ ps = p0 ++ (p1 ++ (p2 ++ (p3 ++ (p4 ++ [])))) ∧ DataW.Trod enc P w base spare held t0 v0 d0 p0 ∧ DataW.Trod enc P w base spare held t1 v1 d1 p1 ∧
      DataW.Trod enc P w base spare held t2 v2 d2 p2 ∧ DataW.Trod enc P w base spare held t3 v3 d3 p3 ∧ DataW.Trod enc P w base spare held t4 v4 d4 p4 := by
  obtain ⟨v0, r0, d0, e0, p0, q0, hargs, rfl, rfl, k0, h⟩ := trodAll_cons h
  obtain ⟨v1, r1, d1, e1, p1, q1, rfl, rfl, rfl, k1, h⟩ := trodAll_cons h
  obtain ⟨v2, r2, d2, e2, p2, q2, rfl, rfl, rfl, k2, h⟩ := trodAll_cons h
  obtain ⟨v3, r3, d3, e3, p3, q3, rfl, rfl, rfl, k3, h⟩ := trodAll_cons h
  obtain ⟨v4, r4, d4, e4, p4, q4, rfl, rfl, rfl, k4, h⟩ := trodAll_cons h
  obtain ⟨rfl, rfl, rfl⟩ := trodAll_nil h
  exact ⟨v0, v1, v2, v3, v4, d0, d1, d2, d3, d4, p0, p1, p2, p3, p4, by cases args; simp_all, rfl, rfl, k0, k1, k2, k3, k4⟩
theorem trodAll_6 {t0 t1 t2 t3 t4 t5 : TypeId} {args : Array Value} {ds : List (DataW H)} {ps : List MemPlace} (h : DataW.TrodAll enc P w base spare held [t0, t1, t2, t3, t4, t5] args.toList ds ps) :
    ∃ v0 v1 v2 v3 v4 v5 d0 d1 d2 d3 d4 d5 p0 p1 p2 p3 p4 p5, args = #[v0, v1, v2, v3, v4, v5] ∧ ds = [d0, d1, d2, d3, d4, d5] ∧ ps = p0 ++ (p1 ++ (p2 ++ (p3 ++ (p4 ++ (p5 ++ []))))) ∧ DataW.Trod enc P w base spare held t0 v0 d0 p0 ∧ DataW.Trod enc P w base spare held t1 v1 d1 p1 ∧
      DataW.Trod enc P w base spare held t2 v2 d2 p2 ∧ DataW.Trod enc P w base spare held t3 v3 d3 p3 ∧ DataW.Trod enc P w base spare held t4 v4 d4 p4 ∧ DataW.Trod enc P w base spare held t5 v5 d5 p5 := by
  obtain ⟨v0, r0, d0, e0, p0, q0, hargs, rfl, rfl, k0, h⟩ := trodAll_cons h
  obtain ⟨v1, v2, v3, v4, v5, d1, d2, d3, d4, d5, p1, p2, p3, p4, p5, hr, rfl, rfl, k⟩ := trodAll_5 (args := r0.toArray) (by simpa using h)
  exact ⟨v0, v1, v2, v3, v4, v5, d0, d1, d2, d3, d4, d5, p0, p1, p2, p3, p4, p5, by cases args; simp_all, rfl, rfl, k0, k⟩
end
section
variable {H : Type} {enc : TypeId × Value → H} {W : World} {held : Bool}
end
end Go.Proofs.YtomfbhohaiffpaaDoor
