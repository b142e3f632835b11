/- Slices of spans that a call itself makes by appending. Rows of slices that a call itself makes by appending. Slices of ints that a call itself makes by appending. -/
import Derived.Test.YtmjcnpolnknkkaaGreatDoorPBox
import Derived.Maps.AppendAt
import Derived.Deep.AppendLies
import Derived.Deep.RegionLaw
import Derived.Test.YtmjcnpolnknkkaaGreatDoorPBase
import Derived.Test.YtmjcnpolnknkkaaGreatDoorPSpan
import Derived.Laws.OwnMore
set_option linter.unusedVariables false
set_option linter.unusedSimpArgs false
namespace Go.Proofs.YtmjcnpolnknkkaaGreatDoor
open Go.RowKit

theorem Tryz.infoSpan : (Tryz.prog.info? 24).map (fun i => (i.zero, i.size, i.bytes)) = some (some (.agg #[.int .i64 0, .int .i64 0]), 2, 16) := by kernel_rfl
def spans (l : List Sp) : List Value := l.flatMap fun s => [.int .i64 s.lo, .int .i64 s.hi]
theorem spans_snoc (l : List Sp) (lo hi : Int) : spans l ++ [.int .i64 lo, .int .i64 hi] = spans (l ++ [⟨lo, hi⟩]) := by simp [spans]
theorem spans_at (l : List Sp) : ∀ k, k < l.length → (spans l)[k * 2]? = some (.int .i64 (l[k]?.getD ⟨0, 0⟩).lo) ∧ (spans l)[k * 2 + 1]? = some (.int .i64 (l[k]?.getD ⟨0, 0⟩).hi) := by
  induction l with
  | nil => intro k hk; simp at hk
  | cons s l ih =>
    intro k hk
    match k with
    | 0 => exact ⟨rfl, rfl⟩
    | k + 1 =>
      have := ih k (by simpa using hk)
      have e1 : (k + 1) * 2 = k * 2 + 1 + 1 := by omega
      rw [e1]
      simp only [spans, List.flatMap_cons, List.cons_append, List.nil_append, List.getElem?_cons_succ] at *
      exact this
/-- The call's own row of spans. -/
def OwnS (w : World) (base : Nat) (v : Value) (l : List Sp) : Prop := w.ownsRow base 24 2 v l.length (spans l)
theorem OwnS.nil (w : World) (base : Nat) : OwnS w base (.slice none 0 0) [] := World.ownsRow_nil _ _ _ _
theorem grown_up {w w' : World} (h : Up w w') : w.grownBy w' none := ⟨h.os, h.tape, h.output, h.size, fun k hk _ => h.block k hk⟩
theorem OwnS.up {w w' : World} {base : Nat} {v : Value} {l : List Sp} (h : OwnS w base v l) (hu : Up w w') : OwnS w' base v l :=
  World.ownsRow.kept h (row := none) (grown_up hu) (by cases v.ownBlock <;> simp)
theorem OwnS.lt {w : World} {base : Nat} {v : Value} {l : List Sp} (h : OwnS w base v l) : ∀ k, v.ownBlock = some k → base ≤ k ∧ k < w.heap.size := World.ownsRow.lt h
theorem OwnS.set {w : World} {base : Nat} {v : Value} {l : List Sp} (h : OwnS w base v l) {a : Addr} (hne : v.ownBlock ≠ some a.block) (u : Value) : OwnS (w.setCell a u) base v l :=
  World.ownsRow.kept h (row := some a.block) ⟨rfl, rfl, rfl, by simp, fun k _ hk => Below.heap_setCell w a u k (fun e => hk (by rw [e]))⟩ (.inr hne)
theorem OwnS.snoc {w' : World} {base : Nat} {v' : Value} {l : List Sp} {lo hi : Int} (h : w'.ownsRow base 24 2 v' (l.length + 1) (spans l ++ [.int .i64 lo, .int .i64 hi])) : OwnS w' base v' (l ++ [⟨lo, hi⟩]) := by
  unfold OwnS
  rw [← spans_snoc]
  simpa using h
theorem OwnS.grown {w W w' : World} {v : Value} {l : List Sp} (hU : Up w W) (h : OwnS W w.heap.size v l) (hg : W.grownBy w' v.ownBlock) : Up w w' :=
  Below.grown hU hg hU.le (fun j hj => (World.ownsRow.lt h j hj).1)
/-- A slice of spans that a call hands back. -/
def slR (w : World) (l : List Sp) (v : Value) : Prop := ∃ A c, v = .slice A l.length c ∧ RdS w A l ∧ l.length ≤ c
theorem OwnS.rd {w : World} {base : Nat} {v : Value} {l : List Sp} (h : OwnS w base v l) : slR w l v := by
  have h0 := h
  rcases h.2 with ⟨hv, hn⟩ | ⟨g, cap, cur, hv, hb, hg, hle, hx⟩
  · have : l = [] := List.length_eq_zero_iff.1 hn
    subst this
    exact ⟨none, 0, hv, RdS.nil _ _, Nat.le_refl _⟩
  · refine ⟨_, cap, hv, fun hne => ⟨g, 0, rfl, (Array.getElem?_eq_some_iff.1 hg).1, fun k hk => ?_⟩, by omega⟩
    obtain ⟨e1, e2⟩ := spans_at l k hk
    have c1 := World.ownsRow.cells h0 (g := g) (by rw [hv]; rfl) (k * 2) _ e1
    have c2 := World.ownsRow.cells h0 (g := g) (by rw [hv]; rfl) (k * 2 + 1) _ e2
    have ea : ∀ j, (⟨g, 0, none⟩ : Addr).add j = ⟨g, 0 + j, none⟩ := fun j => by unfold Addr.add; split <;> simp_all
    rw [ea] at c1 c2
    exact ⟨c1, c2⟩
theorem slR.up {w w' : World} {l : List Sp} {v : Value} (h : slR w l v) (hu : Up w w') : slR w' l v := by
  obtain ⟨A, c, rfl, hr, hc⟩ := h
  exact ⟨A, c, rfl, hr.up hu, hc⟩
/-- .. with an error. -/
def slE (w : World) : Except Nat (List Sp) → Value → Prop
  | .ok l, v => ∃ A c, v = .tuple #[.slice A l.length c, .nilIface] ∧ RdS w A l ∧ l.length ≤ c
  | .error n, v => v = .tuple #[.slice none 0 0, .iface 74 (.int .i64 n)]
theorem slE_ok {w : World} {l : List Sp} {v : Value} (h : slE w (.ok l) v) : ∃ A c, v = .tuple #[.slice A l.length c, .nilIface] ∧ RdS w A l ∧ l.length ≤ c := h
theorem slE_error {w : World} {n : Nat} {v : Value} (h : slE w (.error n) v) : v = .tuple #[.slice none 0 0, .iface 74 (.int .i64 n)] := h
end Go.Proofs.YtmjcnpolnknkkaaGreatDoor

namespace Go.Proofs.YtmjcnpolnknkkaaGreatDoor
open Go.RowKit

/-- A reading of a slice that stays where the block stays. -/
structure Keeps {α : Type} (R : World → Option Addr → List α → Prop) : Prop where
  up : ∀ {w w' : World} {A : Option Addr} {l : List α}, R w A l → Up w w' → R w' A l
  grown : ∀ {w w' : World} {A : Option Addr} {l : List α} {row : Option Nat}, R w A l → w.grownBy w' row → (∀ b o, A = some ⟨b, o, none⟩ → row ≠ some b) → R w' A l
theorem keepsI : Keeps RdI := ⟨fun h hu => h.up hu, fun {w w' A l row} h hg hr hl => by
  obtain ⟨b, o, rfl, hb, hc⟩ := h hl
  have hblk : w'.heap[b]? = w.heap[b]? := hg.block b hb (fun e => hr b o rfl e.symm)
  exact ⟨b, o, rfl, Nat.lt_of_lt_of_le hb hg.size, fun k hk => (World.cell?_of_block (a := ⟨b, o + k, none⟩) hblk).trans (hc k hk)⟩⟩
/-- The call's own row of slices (whose elements' type is T). -/
def OwnR {α : Type} (T : TypeId) (R : World → Option Addr → List α → Prop) (w : World) (base : Nat) (v : Value) (l : List (List α)) : Prop :=
  ∃ vs, w.ownsRow base T 1 v l.length vs ∧ ∀ k, k < l.length → ∃ A c, vs[k]? = some (.slice A (l[k]?.getD []).length c) ∧ (l[k]?.getD []).length ≤ c ∧ R w A (l[k]?.getD []) ∧ ∀ b o, A = some ⟨b, o, none⟩ → b < w.heap.size ∧ v.ownBlock ≠ some b
theorem OwnR.nil {α : Type} (T : TypeId) (R : World → Option Addr → List α → Prop) (w : World) (base : Nat) : OwnR T R w base (.slice none 0 0) [] :=
  ⟨[], World.ownsRow_nil _ _ _ _, fun k hk => by simp at hk⟩
theorem OwnR.up {α : Type} {T : TypeId} {R : World → Option Addr → List α → Prop} (hR : Keeps R) {w w' : World} {base : Nat} {v : Value} {l : List (List α)} (h : OwnR T R w base v l) (hu : Up w w') : OwnR T R w' base v l := by
  obtain ⟨vs, h1, h2⟩ := h
  refine ⟨vs, World.ownsRow.kept h1 (row := none) (grown_up hu) (by cases v.ownBlock <;> simp), fun k hk => ?_⟩
  obtain ⟨A, c, q1, q2, q3, q4⟩ := h2 k hk
  exact ⟨A, c, q1, q2, hR.up q3 hu, fun b o e => ⟨Nat.lt_of_lt_of_le (q4 b o e).1 hu.le, (q4 b o e).2⟩⟩
theorem OwnR.lt {α : Type} {T : TypeId} {R : World → Option Addr → List α → Prop} {w : World} {base : Nat} {v : Value} {l : List (List α)} (h : OwnR T R w base v l) : ∀ k, v.ownBlock = some k → base ≤ k ∧ k < w.heap.size := by
  obtain ⟨vs, h1, -⟩ := h
  exact World.ownsRow.lt h1
theorem OwnR.rd {α : Type} {T : TypeId} {R : World → Option Addr → List α → Prop} {w : World} {base : Nat} {v : Value} {l : List (List α)} (h : OwnR T R w base v l) : ∃ A c, v = .slice A l.length c ∧ RdR R w A l ∧ l.length ≤ c := by
  obtain ⟨vs, h0, hel⟩ := h
  rcases h0.2 with ⟨hv, hn⟩ | ⟨g, cap, cur, hv, hb, hg, hle, hx⟩
  · have : l = [] := List.length_eq_zero_iff.1 hn
    subst this
    exact ⟨none, 0, hv, RdR.nil _ _ _, Nat.le_refl _⟩
  · refine ⟨_, cap, hv, fun hne => ⟨g, 0, rfl, (Array.getElem?_eq_some_iff.1 hg).1, fun k hk => ?_⟩, by omega⟩
    obtain ⟨A, c, q1, q2, q3, -⟩ := hel k hk
    have c1 := World.ownsRow.cells h0 (g := g) (by rw [hv]; rfl) k _ q1
    have ea : ∀ j, (⟨g, 0, none⟩ : Addr).add j = ⟨g, 0 + j, none⟩ := fun j => by unfold Addr.add; split <;> simp_all
    rw [ea] at c1
    exact ⟨A, c, c1, q2, q3⟩
/-- One more. -/
theorem OwnR.snoc {α : Type} {T : TypeId} {R : World → Option Addr → List α → Prop} (hR : Keeps R) {w w' : World} {base : Nat} {v v' : Value} {l : List (List α)} {x : List α} {A : Option Addr} {c : Nat} {vs : List Value}
    (h : ∀ k, k < l.length → ∃ A c, vs[k]? = some (.slice A (l[k]?.getD []).length c) ∧ (l[k]?.getD []).length ≤ c ∧ R w A (l[k]?.getD []) ∧ ∀ b o, A = some ⟨b, o, none⟩ → b < w.heap.size ∧ v.ownBlock ≠ some b)
    (hx : R w A x) (hc : x.length ≤ c) (hb : ∀ b o, A = some ⟨b, o, none⟩ → b < w.heap.size ∧ v.ownBlock ≠ some b)
    (hlen : vs.length = l.length) (hown : w'.ownsRow base T 1 v' (l.length + 1) (vs ++ [.slice A x.length c])) (hg : w.grownBy w' v.ownBlock) (hat : v'.ownBlock = v.ownBlock ∨ v'.ownBlock = some w.heap.size) : OwnR T R w' base v' (l ++ [x]) := by
  have hnew : ∀ b : Nat, b < w.heap.size ∧ v.ownBlock ≠ some b → b < w'.heap.size ∧ v'.ownBlock ≠ some b := by
    intro b hb
    refine ⟨Nat.lt_of_lt_of_le hb.1 hg.size, ?_⟩
    rcases hat with e | e
    · rw [e]; exact hb.2
    · rw [e]; intro e2; injection e2 with e2; omega
  refine ⟨_, by simpa using hown, fun k hk => ?_⟩
  by_cases hkl : k < l.length
  · obtain ⟨A2, c2, q1, q2, q3, q4⟩ := h k hkl
    rw [List.getElem?_append_left hkl, List.getElem?_append_left (by omega)]
    exact ⟨A2, c2, q1, q2, hR.grown q3 hg (fun b o e => (q4 b o e).2), fun b o e => hnew b (q4 b o e)⟩
  · obtain rfl : k = l.length := by simp at hk; omega
    rw [List.getElem?_append_right (by omega), List.getElem?_append_right (by omega), hlen]
    simp only [Nat.sub_self, List.getElem?_cons_zero, Option.getD_some]
    exact ⟨A, c, rfl, hc, hR.grown hx hg (fun b o e => (hb b o e).2), fun b o e => hnew b (hb b o e)⟩
/-- Its values. -/
theorem OwnR.parts {α : Type} {T : TypeId} {R : World → Option Addr → List α → Prop} {w : World} {base : Nat} {v : Value} {l : List (List α)} (h : OwnR T R w base v l) : ∃ vs, w.ownsRow base T 1 v l.length vs ∧ vs.length = l.length ∧
    ∀ k, k < l.length → ∃ A c, vs[k]? = some (.slice A (l[k]?.getD []).length c) ∧ (l[k]?.getD []).length ≤ c ∧ R w A (l[k]?.getD []) ∧ ∀ b o, A = some ⟨b, o, none⟩ → b < w.heap.size ∧ v.ownBlock ≠ some b := by
  obtain ⟨vs, h1, h2⟩ := h
  exact ⟨vs, h1, by have := h1.1; omega, h2⟩
theorem OwnR.grown {α : Type} {T : TypeId} {R : World → Option Addr → List α → Prop} {w W w' : World} {v : Value} {l : List (List α)} (hU : Up w W) (h : OwnR T R W w.heap.size v l) (hg : W.grownBy w' v.ownBlock) : Up w w' :=
  Below.grown hU hg hU.le (fun j hj => (h.lt j hj).1)
theorem OwnS.shape {w : World} {base : Nat} {v : Value} {l : List Sp} (h : OwnS w base v l) : ∃ A c, v = .slice A l.length c := by
  obtain ⟨A, c, hv, -⟩ := h.rd
  exact ⟨A, c, hv⟩
end Go.Proofs.YtmjcnpolnknkkaaGreatDoor

namespace Go.Proofs.YtmjcnpolnknkkaaGreatDoor
open Go.RowKit

/-- The call's own row of ints. -/
def OwnI (w : World) (base : Nat) (v : Value) (l : List Int) : Prop := w.ownsRow base 3 1 v l.length (ints l)
theorem OwnI.nil (w : World) (base : Nat) : OwnI w base (.slice none 0 0) [] := World.ownsRow_nil _ _ _ _
theorem OwnI.up {w w' : World} {base : Nat} {v : Value} {l : List Int} (h : OwnI w base v l) (hu : Up w w') : OwnI w' base v l :=
  World.ownsRow.kept h (row := none) (grown_up hu) (by cases v.ownBlock <;> simp)
theorem OwnI.lt {w : World} {base : Nat} {v : Value} {l : List Int} (h : OwnI w base v l) : ∀ k, v.ownBlock = some k → base ≤ k ∧ k < w.heap.size := World.ownsRow.lt h
theorem OwnI.set {w : World} {base : Nat} {v : Value} {l : List Int} (h : OwnI w base v l) {a : Addr} (hne : v.ownBlock ≠ some a.block) (u : Value) : OwnI (w.setCell a u) base v l :=
  World.ownsRow.kept h (row := some a.block) ⟨rfl, rfl, rfl, by simp, fun k _ hk => Below.heap_setCell w a u k (fun e => hk (by rw [e]))⟩ (.inr hne)
theorem OwnI.snoc {w' : World} {base : Nat} {v' : Value} {l : List Int} {n : Int} (h : w'.ownsRow base 3 1 v' (l.length + 1) (ints l ++ [.int .i64 n])) : OwnI w' base v' (l ++ [n]) := by
  unfold OwnI
  rw [← ints_snoc]
  simpa using h
theorem OwnI.grown {w W w' : World} {v : Value} {l : List Int} (hU : Up w W) (h : OwnI W w.heap.size v l) (hg : W.grownBy w' v.ownBlock) : Up w w' :=
  Below.grown hU hg hU.le (fun j hj => (World.ownsRow.lt h j hj).1)
theorem OwnI.rd {w : World} {base : Nat} {v : Value} {l : List Int} (h : OwnI w base v l) : ∃ A c, v = .slice A l.length c ∧ RdI w A l ∧ l.length ≤ c := by
  have h0 := h
  rcases h.2 with ⟨hv, hn⟩ | ⟨g, cap, cur, hv, hb, hg, hle, hx⟩
  · have : l = [] := List.length_eq_zero_iff.1 hn
    subst this
    exact ⟨none, 0, hv, fun h => absurd rfl h, Nat.le_refl _⟩
  · exact ⟨_, cap, hv, rdi_own h0 hv (Array.getElem?_eq_some_iff.1 hg).1, by omega⟩
theorem OwnI.shape {w : World} {base : Nat} {v : Value} {l : List Int} (h : OwnI w base v l) : ∃ A c, v = .slice A l.length c := by
  obtain ⟨A, c, hv, -⟩ := h.rd
  exact ⟨A, c, hv⟩
/-- A row of slices that begins as a literal of one. -/
theorem OwnR.start {α : Type} {T : TypeId} {R : World → Option Addr → List α → Prop} (hR : Keeps R) {w w2 : World} {base g : Nat} {z : Value} {x : List α} {A : Option Addr} {c : Nat} (hg : g = w.heap.size) (hbase : base ≤ g) (hU : Up (w.alloc (.cells #[z] T)) w2)
    (hx : R w2 A x) (hc : x.length ≤ c) (hb : ∀ b o, A = some ⟨b, o, none⟩ → g < b ∧ b < w2.heap.size) : OwnR T R (w2.setCell ⟨g, 0, none⟩ (.slice A x.length c)) base (.slice (some ⟨g, 0, none⟩) 1 1) [x] := by
  subst hg
  have h1 : (w.alloc (.cells #[z] T)).ownsRow base T 1 (.slice (some ⟨w.heap.size, 0, none⟩) 1 1) 1 [z] := World.ownsRow_lit w #[z] 1 hbase (by decide) rfl
  have h2 : w2.ownsRow base T 1 (.slice (some ⟨w.heap.size, 0, none⟩) 1 1) 1 [z] := World.ownsRow.kept h1 (row := none) (grown_up hU) (.inr (by simp [Value.ownBlock]))
  obtain ⟨h3, h4⟩ := World.ownsRow.stored h2 0 (.slice A x.length c)
  refine ⟨[.slice A x.length c], h3, fun k hk => ?_⟩
  obtain rfl : k = 0 := by simpa using hk
  refine ⟨A, c, rfl, hc, hR.grown hx h4 (fun b o e => by have := (hb b o e).1; intro e2; injection e2 with e2; omega), fun b o e => ⟨?_, ?_⟩⟩
  · have := (hb b o e).2
    simp
    exact this
  · have := (hb b o e).1
    intro e2
    injection e2 with e2
    dsimp only at e2
    omega
end Go.Proofs.YtmjcnpolnknkkaaGreatDoor
