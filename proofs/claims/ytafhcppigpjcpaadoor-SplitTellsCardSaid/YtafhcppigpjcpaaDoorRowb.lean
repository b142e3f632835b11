/- Arguments that are ints, slices of ints, slices of spans: how they read. -/
import Derived.Test.YtafhcppigpjcpaaDoorRow
import Derived.Test.YtafhcppigpjcpaaDoorArgs
import Derived.Deep.SlicePairs
set_option linter.unusedVariables false
set_option linter.unusedSimpArgs false
namespace Go.Proofs.YtafhcppigpjcpaaDoor
open Go.ChangeShapes Go.WideShapes Go.ChangeAt Go.RowKit Go.Joins Go.Deep

theorem wf_I64 {n : Int} (h : (Lit.int .i64 n).wf = true) : I64 n := by
  unfold I64
  simp only [Lit.wf, Bool.and_eq_true, decide_eq_true_eq] at h
  exact h
section
variable {H : Type} {enc : TypeId × Value → H} {P : Program}
theorem open_i64 {t : TypeId} {r : Reach} {W : World} {base b0 : Nat} {spare : Nat → Bool} {held : Bool} {v : Value} {d : DataW H} {p : List MemPlace}
    (ht : P.underlying t = some (.int .i64)) (hv : Value.okWide P W r b0 t v) (h : DataW.Trod enc P W base spare held t v d p) : ∃ n : Int, v = .int .i64 n ∧ I64 n := by
  obtain ⟨n, rfl⟩ := okWide_int ht hv
  obtain ⟨f, hf⟩ := h
  obtain ⟨m, e, _, hw⟩ := DataW.trod_int ht hf
  simp [Value.cells] at e
  subst e
  exact ⟨n, rfl, wf_I64 hw⟩
theorem spot_none {w : World} {a : Addr} {v : Value} (h : w.cell? a = some v) : a = ⟨a.block, a.off, none⟩ := by
  obtain ⟨b, o, s⟩ := a
  cases s with
  | none => rfl
  | some k =>
    unfold World.cell? at h
    split at h
    · simp at h
    · cases h
theorem add_addr {b o k : Nat} : (⟨b, o, none⟩ : Addr).add k = ⟨b, o + k, none⟩ := by unfold Addr.add; split <;> simp_all
theorem open_ilist {t e : TypeId} {r : Reach} {W : World} {b0 : Nat} {held : Bool} {v : Value} {d : DataW H} {p : List MemPlace}
    (ht : P.underlying t = some (.slice e)) (he : P.underlying e = some (.int .i64)) (hc : P.cellsOf e = 1)
    (hv : Value.okWide P W r b0 t v) (h : DataW.Trod enc P W 0 (fun _ => true) held t v d p) : ∃ A l c, v = .slice A l.length c ∧ LI W A l c := by
  obtain ⟨A, n, c, rfl⟩ := okWide_slice ht hv
  obtain ⟨f, hf⟩ := h
  rcases open_ints ht he hc hf with ⟨e0, -⟩ | ⟨a, len, cap, zs, e0, hb, hl, hm, hz, hx, hcell, hw⟩
  · simp [Value.cells] at e0
    obtain ⟨rfl, rfl, rfl⟩ := e0
    exact ⟨none, [], 0, rfl, RdI.nil _ _, Nat.le_refl _, by omega, by simp⟩
  · simp [Value.cells] at e0
    obtain ⟨rfl, rfl, rfl⟩ := e0
    simp only [if_true] at hz
    unfold maxLen at hm
    have hlen : (zs.take n).length = n := by rw [List.length_take]; omega
    refine ⟨some a, zs.take n, c, by rw [hlen], ⟨fun hne => ?_, by omega, by omega, fun m hmem => wf_I64 (hw m (List.mem_of_mem_take hmem))⟩⟩
    have h0 : 0 < n := by
      rcases Nat.eq_zero_or_pos n with h0 | h0
      · subst h0; simp at hne
      · exact h0
    have c0 := hcell 0 (by omega)
    have ea : a = ⟨a.block, a.off, none⟩ := by simpa [Addr.add] using spot_none c0
    refine ⟨a.block, a.off, by rw [← ea], ?_, fun k hk => ?_⟩
    · have := World.block_lt_of_cell? W _ c0
      simpa [Addr.add] using this
    · have := hcell k (by omega)
      rw [ea, add_addr] at this
      rw [this]
      congr 2
      rw [List.getElem?_take_of_lt (by omega)]
      rfl
theorem open_slist {t e ti : TypeId} {f0 f1 : Field} {r : Reach} {W : World} {b0 : Nat} {held : Bool} {v : Value} {d : DataW H} {p : List MemPlace}
    (ht : P.underlying t = some (.slice e)) (he : P.underlying e = some (.struct #[f0, f1])) (ce : P.cellsOf e = 2) (o0 : f0.offset = 0) (o1 : f1.offset = 1) (h0 : f0.type = ti) (h1 : f1.type = ti)
    (hti : P.underlying ti = some (.int .i64)) (ci : P.cellsOf ti = 1)
    (hv : Value.okWide P W r b0 t v) (h : DataW.Trod enc P W 0 (fun _ => true) held t v d p) : ∃ A l c, v = .slice A l.length c ∧ LS W A l c := by
  obtain ⟨A, n, c, rfl⟩ := okWide_slice ht hv
  obtain ⟨f, hf⟩ := h
  rcases open_slice_pairs ht he ce o0 o1 (by rw [h0]; exact ci) (by rw [h1]; exact ci) hf with ⟨e0, -⟩ | ⟨a, len, cap, m, n', V0, V1, D0, D1, P0, P1, e0, hb, hl, hm, hmm, hx, hcell⟩
  · simp [Value.cells] at e0
    obtain ⟨rfl, rfl, rfl⟩ := e0
    exact ⟨none, [], 0, rfl, RdS.nil _ _, Nat.le_refl _, by omega, by simp⟩
  · simp [Value.cells] at e0
    obtain ⟨rfl, rfl, rfl⟩ := e0
    simp only [if_true] at hmm
    have hmm' := hmm.symm
    subst hmm'
    unfold maxLen at hm
    have each : ∀ i, i < n → ∃ s : Sp, W.cell? (a.add (i * 2)) = some (.int .i64 s.lo) ∧ W.cell? (a.add (i * 2 + 1)) = some (.int .i64 s.hi) ∧ I64 s.lo ∧ I64 s.hi := by
      intro i hi
      obtain ⟨q0, q1, t0, t1⟩ := hcell i (by omega)
      rw [h0] at t0; rw [h1] at t1
      obtain ⟨m0, e0, _, w0⟩ := DataW.trod_int hti t0
      obtain ⟨m1, e1, _, w1⟩ := DataW.trod_int hti t1
      simp at e0 e1
      rw [e0] at q0; rw [e1] at q1
      exact ⟨⟨m0, m1⟩, q0, q1, wf_I64 w0, wf_I64 w1⟩
    have ⟨S, hS⟩ : ∃ S : Nat → Sp, ∀ i, i < n → W.cell? (a.add (i * 2)) = some (.int .i64 (S i).lo) ∧ W.cell? (a.add (i * 2 + 1)) = some (.int .i64 (S i).hi) ∧ I64 (S i).lo ∧ I64 (S i).hi :=
      ⟨fun i => if h : i < n then Classical.choose (each i h) else ⟨0, 0⟩, fun i hi => by
        simp only [hi, dif_pos]
        exact Classical.choose_spec (each i hi)⟩
    refine ⟨some a, (List.range n).map S, c, by simp, ⟨fun hne => ?_, by simpa using hl, by omega, fun s hs => ?_⟩⟩
    · have hn0 : 0 < n := by
        rcases Nat.eq_zero_or_pos n with h0 | h0
        · subst h0; simp at hne
        · exact h0
      have c0 := (hS 0 hn0).1
      have ea : a = ⟨a.block, a.off, none⟩ := by simpa [Addr.add] using spot_none c0
      refine ⟨a.block, a.off, by rw [← ea], ?_, fun k hk => ?_⟩
      · have := World.block_lt_of_cell? W _ c0
        simpa [Addr.add] using this
      · have hk' : k < n := by simpa using hk
        obtain ⟨g1, g2, -, -⟩ := hS k hk'
        rw [ea, add_addr] at g1 g2
        have e : ((List.range n).map S)[k]?.getD ⟨0, 0⟩ = S k := by simp [hk']
        rw [e]
        exact ⟨g1, by rw [Nat.add_assoc]; exact g2⟩
    · obtain ⟨i, hi, rfl⟩ := List.mem_map.1 hs
      exact ⟨(hS i (by simpa using hi)).2.2.1, (hS i (by simpa using hi)).2.2.2⟩
end
end Go.Proofs.YtafhcppigpjcpaaDoor
