/- Rows of slices that a call itself makes by appending. -/
import Derived.Test.YtafhcppigpjcpaaDoorSys
import Derived.Test.YtafhcppigpjcpaaDoorOwnS
set_option linter.unusedVariables false
set_option linter.unusedSimpArgs false
namespace Go.Proofs.YtafhcppigpjcpaaDoor
open Go.RowKit

/-- A reading of a slice that stays where the block stays. -/
structure Keeps {α : Type} (R : World → Option Addr → List α → Prop) : Prop where
  up : ∀ {w w' : World} {A : Option Addr} {l : List α}, R w A l → Up w w' → R w' A l
  grown : ∀ {w w' : World} {A : Option Addr} {l : List α} {row : Option Nat}, R w A l → w.grownBy w' row → (∀ b o, A = some ⟨b, o, none⟩ → row ≠ some b) → R w' A l
theorem keepsS : Keeps RdS := ⟨fun h hu => h.up hu, fun {w w' A l row} h hg hr hl => by
  obtain ⟨b, o, rfl, hb, hc⟩ := h hl
  have hblk : w'.heap[b]? = w.heap[b]? := hg.block b hb (fun e => hr b o rfl e.symm)
  refine ⟨b, o, rfl, Nat.lt_of_lt_of_le hb hg.size, fun k hk => ?_⟩
  obtain ⟨h0, h1⟩ := hc k hk
  exact ⟨(World.cell?_of_block (a := ⟨b, o + k * 2, none⟩) hblk).trans h0, (World.cell?_of_block (a := ⟨b, o + k * 2 + 1, none⟩) hblk).trans h1⟩⟩
theorem keepsI : Keeps RdI := ⟨fun h hu => h.up hu, fun {w w' A l row} h hg hr hl => by
  obtain ⟨b, o, rfl, hb, hc⟩ := h hl
  have hblk : w'.heap[b]? = w.heap[b]? := hg.block b hb (fun e => hr b o rfl e.symm)
  exact ⟨b, o, rfl, Nat.lt_of_lt_of_le hb hg.size, fun k hk => (World.cell?_of_block (a := ⟨b, o + k, none⟩) hblk).trans (hc k hk)⟩⟩
/-- The call's own row of slices (whose elements' type is T). -/
def OwnR {α : Type} (T : TypeId) (R : World → Option Addr → List α → Prop) (w : World) (base : Nat) (v : Value) (l : List (List α)) : Prop :=
  ∃ vs, w.ownsRow base T 1 v l.length vs ∧ ∀ k, k < l.length → ∃ A c, vs[k]? = some (.slice A (l[k]?.getD []).length c) ∧ (l[k]?.getD []).length ≤ c ∧ R w A (l[k]?.getD []) ∧ ∀ b o, A = some ⟨b, o, none⟩ → b < w.heap.size ∧ v.ownBlock ≠ some b
theorem OwnR.nil {α : Type} (T : TypeId) (R : World → Option Addr → List α → Prop) (w : World) (base : Nat) : OwnR T R w base (.slice none 0 0) [] :=
  ⟨[], World.ownsRow_nil _ _ _ _, fun k hk => by simp at hk⟩
theorem OwnR.up {α : Type} {T : TypeId} {R : World → Option Addr → List α → Prop} (hR : Keeps R) {w w' : World} {base : Nat} {v : Value} {l : List (List α)} (h : OwnR T R w base v l) (hu : Up w w') : OwnR T R w' base v l := by
  obtain ⟨vs, h1, h2⟩ := h
  refine ⟨vs, World.ownsRow.kept h1 (row := none) (grown_up hu) (by cases v.ownBlock <;> simp), fun k hk => ?_⟩
  obtain ⟨A, c, q1, q2, q3, q4⟩ := h2 k hk
  exact ⟨A, c, q1, q2, hR.up q3 hu, fun b o e => ⟨Nat.lt_of_lt_of_le (q4 b o e).1 hu.le, (q4 b o e).2⟩⟩
theorem OwnR.lt {α : Type} {T : TypeId} {R : World → Option Addr → List α → Prop} {w : World} {base : Nat} {v : Value} {l : List (List α)} (h : OwnR T R w base v l) : ∀ k, v.ownBlock = some k → base ≤ k ∧ k < w.heap.size := by
  obtain ⟨vs, h1, -⟩ := h
  exact World.ownsRow.lt h1
theorem OwnR.rd {α : Type} {T : TypeId} {R : World → Option Addr → List α → Prop} {w : World} {base : Nat} {v : Value} {l : List (List α)} (h : OwnR T R w base v l) : ∃ A c, v = .slice A l.length c ∧ RdR R w A l ∧ l.length ≤ c := by
  obtain ⟨vs, h0, hel⟩ := h
  rcases h0.2 with ⟨hv, hn⟩ | ⟨g, cap, cur, hv, hb, hg, hle, hx⟩
  · have : l = [] := List.length_eq_zero_iff.1 hn
    subst this
    exact ⟨none, 0, hv, RdR.nil _ _ _, Nat.le_refl _⟩
  · refine ⟨_, cap, hv, fun hne => ⟨g, 0, rfl, (Array.getElem?_eq_some_iff.1 hg).1, fun k hk => ?_⟩, by omega⟩
    obtain ⟨A, c, q1, q2, q3, -⟩ := hel k hk
    have c1 := World.ownsRow.cells h0 (g := g) (by rw [hv]; rfl) k _ q1
    have ea : ∀ j, (⟨g, 0, none⟩ : Addr).add j = ⟨g, 0 + j, none⟩ := fun j => by unfold Addr.add; split <;> simp_all
    rw [ea] at c1
    exact ⟨A, c, c1, q2, q3⟩
/-- One more. -/
theorem OwnR.snoc {α : Type} {T : TypeId} {R : World → Option Addr → List α → Prop} (hR : Keeps R) {w w' : World} {base : Nat} {v v' : Value} {l : List (List α)} {x : List α} {A : Option Addr} {c : Nat} {vs : List Value}
    (h : ∀ k, k < l.length → ∃ A c, vs[k]? = some (.slice A (l[k]?.getD []).length c) ∧ (l[k]?.getD []).length ≤ c ∧ R w A (l[k]?.getD []) ∧ ∀ b o, A = some ⟨b, o, none⟩ → b < w.heap.size ∧ v.ownBlock ≠ some b)
    (hx : R w A x) (hc : x.length ≤ c) (hb : ∀ b o, A = some ⟨b, o, none⟩ → b < w.heap.size ∧ v.ownBlock ≠ some b)
    (hlen : vs.length = l.length) (hown : w'.ownsRow base T 1 v' (l.length + 1) (vs ++ [.slice A x.length c])) (hg : w.grownBy w' v.ownBlock) (hat : v'.ownBlock = v.ownBlock ∨ v'.ownBlock = some w.heap.size) : OwnR T R w' base v' (l ++ [x]) := by
  have hnew : ∀ b : Nat, b < w.heap.size ∧ v.ownBlock ≠ some b → b < w'.heap.size ∧ v'.ownBlock ≠ some b := by
    intro b hb
    refine ⟨Nat.lt_of_lt_of_le hb.1 hg.size, ?_⟩
    rcases hat with e | e
    · rw [e]; exact hb.2
    · rw [e]; intro e2; injection e2 with e2; omega
  refine ⟨_, by simpa using hown, fun k hk => ?_⟩
  by_cases hkl : k < l.length
  · obtain ⟨A2, c2, q1, q2, q3, q4⟩ := h k hkl
    rw [List.getElem?_append_left hkl, List.getElem?_append_left (by omega)]
    exact ⟨A2, c2, q1, q2, hR.grown q3 hg (fun b o e => (q4 b o e).2), fun b o e => hnew b (q4 b o e)⟩
  · obtain rfl : k = l.length := by simp at hk; omega
    rw [List.getElem?_append_right (by omega), List.getElem?_append_right (by omega), hlen]
    simp only [Nat.sub_self, List.getElem?_cons_zero, Option.getD_some]
    exact ⟨A, c, rfl, hc, hR.grown hx hg (fun b o e => (hb b o e).2), fun b o e => hnew b (hb b o e)⟩
/-- Its values. -/
theorem OwnR.parts {α : Type} {T : TypeId} {R : World → Option Addr → List α → Prop} {w : World} {base : Nat} {v : Value} {l : List (List α)} (h : OwnR T R w base v l) : ∃ vs, w.ownsRow base T 1 v l.length vs ∧ vs.length = l.length ∧
    ∀ k, k < l.length → ∃ A c, vs[k]? = some (.slice A (l[k]?.getD []).length c) ∧ (l[k]?.getD []).length ≤ c ∧ R w A (l[k]?.getD []) ∧ ∀ b o, A = some ⟨b, o, none⟩ → b < w.heap.size ∧ v.ownBlock ≠ some b := by
  obtain ⟨vs, h1, h2⟩ := h
  exact ⟨vs, h1, by have := h1.1; omega, h2⟩
theorem OwnR.grown {α : Type} {T : TypeId} {R : World → Option Addr → List α → Prop} {w W w' : World} {v : Value} {l : List (List α)} (hU : Up w W) (h : OwnR T R W w.heap.size v l) (hg : W.grownBy w' v.ownBlock) : Up w w' :=
  Below.grown hU hg hU.le (fun j hj => (h.lt j hj).1)
/-- A slice of spans in new memory, with an error. -/
def slNE (base : Nat) (w : World) : Except Nat (List Sp) → Value → Prop
  | .ok l, v => ∃ A c, v = .tuple #[.slice A l.length c, .nilIface] ∧ RdS w A l ∧ l.length ≤ c ∧ ∀ b o, A = some ⟨b, o, none⟩ → base ≤ b ∧ b < w.heap.size
  | .error n, v => v = .tuple #[.slice none 0 0, .iface 99 (.int .i64 n)]
theorem slNE_ok {base : Nat} {w : World} {l : List Sp} {v : Value} (h : slNE base w (.ok l) v) : ∃ A c, v = .tuple #[.slice A l.length c, .nilIface] ∧ RdS w A l ∧ l.length ≤ c ∧ ∀ b o, A = some ⟨b, o, none⟩ → base ≤ b ∧ b < w.heap.size := h
theorem slNE_error {base : Nat} {w : World} {n : Nat} {v : Value} (h : slNE base w (.error n) v) : v = .tuple #[.slice none 0 0, .iface 99 (.int .i64 n)] := h
theorem OwnS.rdE {w : World} {base : Nat} {A : Option Addr} {n c : Nat} {l : List Sp} (h : OwnS w base (.slice A n c) l) : slNE base w (.ok l) (.tuple #[.slice A n c, .nilIface]) := by
  obtain ⟨A', c', hv, h1, h2⟩ := h.rd
  injection hv with e1 e2 e3
  subst e1; subst e2; subst e3
  exact ⟨_, _, rfl, h1, h2, fun b o e => h.lt b (by rw [e]; rfl)⟩
theorem OwnS.shape {w : World} {base : Nat} {v : Value} {l : List Sp} (h : OwnS w base v l) : ∃ A c, v = .slice A l.length c := by
  obtain ⟨A, c, hv, -⟩ := h.rd
  exact ⟨A, c, hv⟩
end Go.Proofs.YtafhcppigpjcpaaDoor
