/- Slices of ints that a call itself makes by appending. -/
import Derived.Test.YtknkpjfoaijaoaaOwnR
import Derived.Test.YtknkpjfoaijaoaaCorn
import Derived.Laws.OwnMore
set_option linter.unusedVariables false
set_option linter.unusedSimpArgs false
namespace Go.Proofs.Ytknkpjfoaijaoaa
open Go.RowKit

/-- The call's own row of ints. -/
def OwnI (w : World) (base : Nat) (v : Value) (l : List Int) : Prop := w.ownsRow base 3 1 v l.length (ints l)
theorem OwnI.nil (w : World) (base : Nat) : OwnI w base (.slice none 0 0) [] := World.ownsRow_nil _ _ _ _
theorem OwnI.up {w w' : World} {base : Nat} {v : Value} {l : List Int} (h : OwnI w base v l) (hu : Up w w') : OwnI w' base v l :=
  World.ownsRow.kept h (row := none) (grown_up hu) (by cases v.ownBlock <;> simp)
theorem OwnI.lt {w : World} {base : Nat} {v : Value} {l : List Int} (h : OwnI w base v l) : ∀ k, v.ownBlock = some k → base ≤ k ∧ k < w.heap.size := World.ownsRow.lt h
theorem OwnI.set {w : World} {base : Nat} {v : Value} {l : List Int} (h : OwnI w base v l) {a : Addr} (hne : v.ownBlock ≠ some a.block) (u : Value) : OwnI (w.setCell a u) base v l :=
  World.ownsRow.kept h (row := some a.block) ⟨rfl, rfl, rfl, by simp, fun k _ hk => Below.heap_setCell w a u k (fun e => hk (by rw [e]))⟩ (.inr hne)
theorem OwnI.snoc {w' : World} {base : Nat} {v' : Value} {l : List Int} {n : Int} (h : w'.ownsRow base 3 1 v' (l.length + 1) (ints l ++ [.int .i64 n])) : OwnI w' base v' (l ++ [n]) := by
  unfold OwnI
  rw [← ints_snoc]
  simpa using h
theorem OwnI.grown {w W w' : World} {v : Value} {l : List Int} (hU : Up w W) (h : OwnI W w.heap.size v l) (hg : W.grownBy w' v.ownBlock) : Up w w' :=
  Below.grown hU hg hU.le (fun j hj => (World.ownsRow.lt h j hj).1)
theorem OwnI.rd {w : World} {base : Nat} {v : Value} {l : List Int} (h : OwnI w base v l) : ∃ A c, v = .slice A l.length c ∧ RdI w A l ∧ l.length ≤ c := by
  have h0 := h
  rcases h.2 with ⟨hv, hn⟩ | ⟨g, cap, cur, hv, hb, hg, hle, hx⟩
  · have : l = [] := List.length_eq_zero_iff.1 hn
    subst this
    exact ⟨none, 0, hv, fun h => absurd rfl h, Nat.le_refl _⟩
  · exact ⟨_, cap, hv, rdi_own h0 hv (Array.getElem?_eq_some_iff.1 hg).1, by omega⟩
/-- A slice of ints in new memory, with an error. -/
def ilNE (base : Nat) (w : World) : Except Nat (List Int) → Value → Prop
  | .ok l, v => ∃ A c, v = .tuple #[.slice A l.length c, .nilIface] ∧ RdI w A l ∧ l.length ≤ c ∧ ∀ b o, A = some ⟨b, o, none⟩ → base ≤ b ∧ b < w.heap.size
  | .error n, v => v = .tuple #[.slice none 0 0, .iface 52 (.int .i64 n)]
theorem ilNE_ok {base : Nat} {w : World} {l : List Int} {v : Value} (h : ilNE base w (.ok l) v) : ∃ A c, v = .tuple #[.slice A l.length c, .nilIface] ∧ RdI w A l ∧ l.length ≤ c ∧ ∀ b o, A = some ⟨b, o, none⟩ → base ≤ b ∧ b < w.heap.size := h
theorem ilNE_error {base : Nat} {w : World} {n : Nat} {v : Value} (h : ilNE base w (.error n) v) : v = .tuple #[.slice none 0 0, .iface 52 (.int .i64 n)] := h
theorem OwnI.rdE {w : World} {base : Nat} {A : Option Addr} {n c : Nat} {l : List Int} (h : OwnI w base (.slice A n c) l) : ilNE base w (.ok l) (.tuple #[.slice A n c, .nilIface]) := by
  obtain ⟨A', c', hv, h1, h2⟩ := h.rd
  injection hv with e1 e2 e3
  subst e1; subst e2; subst e3
  exact ⟨_, _, rfl, h1, h2, fun b o e => h.lt b (by rw [e]; rfl)⟩
theorem OwnI.shape {w : World} {base : Nat} {v : Value} {l : List Int} (h : OwnI w base v l) : ∃ A c, v = .slice A l.length c := by
  obtain ⟨A, c, hv, -⟩ := h.rd
  exact ⟨A, c, hv⟩
/-- A row of slices that begins as a literal of one. -/
theorem OwnR.start {α : Type} {T : TypeId} {R : World → Option Addr → List α → Prop} (hR : Keeps R) {w w2 : World} {base g : Nat} {z : Value} {x : List α} {A : Option Addr} {c : Nat} (hg : g = w.heap.size) (hbase : base ≤ g) (hU : Up (w.alloc (.cells #[z] T)) w2)
    (hx : R w2 A x) (hc : x.length ≤ c) (hb : ∀ b o, A = some ⟨b, o, none⟩ → g < b ∧ b < w2.heap.size) : OwnR T R (w2.setCell ⟨g, 0, none⟩ (.slice A x.length c)) base (.slice (some ⟨g, 0, none⟩) 1 1) [x] := by
  subst hg
  have h1 : (w.alloc (.cells #[z] T)).ownsRow base T 1 (.slice (some ⟨w.heap.size, 0, none⟩) 1 1) 1 [z] := World.ownsRow_lit w #[z] 1 hbase (by decide) rfl
  have h2 : w2.ownsRow base T 1 (.slice (some ⟨w.heap.size, 0, none⟩) 1 1) 1 [z] := World.ownsRow.kept h1 (row := none) (grown_up hU) (.inr (by simp [Value.ownBlock]))
  obtain ⟨h3, h4⟩ := World.ownsRow.stored h2 0 (.slice A x.length c)
  refine ⟨[.slice A x.length c], h3, fun k hk => ?_⟩
  obtain rfl : k = 0 := by simpa using hk
  refine ⟨A, c, rfl, hc, hR.grown hx h4 (fun b o e => by have := (hb b o e).1; intro e2; injection e2 with e2; omega), fun b o e => ⟨?_, ?_⟩⟩
  · have := (hb b o e).2
    simp
    exact this
  · have := (hb b o e).1
    intro e2
    injection e2 with e2
    dsimp only at e2
    omega
/-- A slice of slices in new memory, each in new memory as well, with an error. -/
def rlNE {α : Type} (R : World → Option Addr → List α → Prop) (w : World) : Except Nat (List (List α)) → Value → Prop
  | .ok l, v => ∃ A c, v = .tuple #[.slice A l.length c, .nilIface] ∧ RdR R w A l ∧ l.length ≤ c
  | .error n, v => v = .tuple #[.slice none 0 0, .iface 52 (.int .i64 n)]
theorem rlNE_ok {α : Type} {R : World → Option Addr → List α → Prop} {w : World} {l : List (List α)} {v : Value} (h : rlNE R w (.ok l) v) : ∃ A c, v = .tuple #[.slice A l.length c, .nilIface] ∧ RdR R w A l ∧ l.length ≤ c := h
theorem rlNE_error {α : Type} {R : World → Option Addr → List α → Prop} {w : World} {n : Nat} {v : Value} (h : rlNE R w (.error n) v) : v = .tuple #[.slice none 0 0, .iface 52 (.int .i64 n)] := h
end Go.Proofs.Ytknkpjfoaijaoaa
