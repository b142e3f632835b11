/- Small general lemmas for the walks: what a call leaves as it was, how results are read, how values are written. What a law's arguments are, said of the world in which it is called. Behind a call: what the call's own cells hold in the new world, each said of that world alone. Behind a call: that one cell of an own block may be written. Lists of terms, lists of such lists, lists of lists, as they lie in memory. -/
import Derived.Test.YtmjcnpolnknkkaaGreatDoorRows
import Derived.Test.YtmjcnpolnknkkaaGreatDoorPMath
import Derived.WalkKit
import Derived.WalkSpells
import Derived.WalkLawsBesides
import Derived.Deep.QuietTactic
import Derived.BigQuiet
set_option linter.unusedVariables false
set_option linter.unusedSimpArgs false
namespace Go.Proofs.YtmjcnpolnknkkaaGreatDoor
open Go.RowKit

/-- Of what was there in a nothing has turned in w. -/
def Up (a w : World) : Prop := Below a.heap.size a w
theorem Up.refl (w : World) : Up w w := Below.refl _ _
theorem Up.alloc {a w : World} (h : Up a w) (o : Obj) : Up a (w.alloc o) := Below.alloc h h.size o
theorem Up.set {a w : World} (h : Up a w) {p : Addr} (hp : a.heap.size ≤ p.block) (u : Value) : Up a (w.setCell p u) := Below.setCell h hp u
theorem Up.call {a w w' : World} (h : Up a w) (hb : Up w w') : Up a w' := Below.trans h (Below.mono hb h.size)
theorem Up.drew {a w : World} (h : Up a w) : Up a w.drew := Below.drew h
theorem Up.drewN {a w : World} (h : Up a w) (n : Nat) : Up a (w.drewN n) := ⟨h.os, h.tape, h.output, h.size, h.block⟩
theorem Up.le {a w : World} (h : Up a w) : a.heap.size ≤ w.heap.size := h.size

/-- What a call of a function of plain values comes to. -/
def RetX {α : Type} (enc : α → Value) (r : α) (w : World) (e : Ending) (w' : World) : Prop := ∃ x, r = x ∧ e = .returned (enc x) ∧ Up w w'
theorem RetX.mk {α : Type} {enc : α → Value} {r : α} {w w' : World} (x : α) (h : Up w w') (hr : r = x) {v : Value} (hv : v = enc x) : RetX enc r w (.returned v) w' := ⟨x, hr, by rw [hv], h⟩
theorem RetX.same {α : Type} {enc : α → Value} {r : α} {w w' : World} {v : Value} (h : Up w w') (hv : v = enc r) : RetX enc r w (.returned v) w' := ⟨r, rfl, by rw [hv], h⟩

/-- What a call comes to whose result lies in memory. -/
def RetR {α : Type} (rel : World → α → Value → Prop) (r : α) (w : World) (e : Ending) (w' : World) : Prop := ∃ x v, r = x ∧ e = .returned v ∧ rel w' x v ∧ Up w w'
theorem RetR.mk {α : Type} {rel : World → α → Value → Prop} {r : α} {w w' : World} (x : α) (h : Up w w') (hr : r = x) {v : Value} (hv : rel w' x v) : RetR rel r w (.returned v) w' := ⟨x, v, hr, rfl, hv, h⟩

def errV : Option Nat → Value
  | none => .nilIface
  | some n => .iface 74 (.int .i64 n)
theorem errV_none : errV none = .nilIface := rfl
theorem errV_some (n : Nat) : errV (some n) = .iface 74 (.int .i64 n) := rfl
def spV (s : Sp) : Value := .agg #[.int .i64 s.lo, .int .i64 s.hi]
theorem spV_eq (s : Sp) : spV s = .agg #[.int .i64 s.lo, .int .i64 s.hi] := rfl
def boolV (b : Bool) : Value := .bool b
theorem boolV_eq (b : Bool) : boolV b = .bool b := rfl
def intV (n : Int) : Value := .int .i64 n
theorem intV_eq (n : Int) : intV n = .int .i64 n := rfl
def int2V (p : Int × Int) : Value := .tuple #[.int .i64 p.1, .int .i64 p.2]
theorem int2V_eq (p : Int × Int) : int2V p = .tuple #[.int .i64 p.1, .int .i64 p.2] := rfl
def spR : Except Nat Sp → Value
  | .ok s => .tuple #[.agg #[.int .i64 s.lo, .int .i64 s.hi], .nilIface]
  | .error n => .tuple #[.agg #[.int .i64 0, .int .i64 0], .iface 74 (.int .i64 n)]
theorem spR_ok (s : Sp) : spR (.ok s) = .tuple #[.agg #[.int .i64 s.lo, .int .i64 s.hi], .nilIface] := rfl
theorem spR_error (n : Nat) : spR (.error n) = .tuple #[.agg #[.int .i64 0, .int .i64 0], .iface 74 (.int .i64 n)] := rfl
def intR : Except Nat Int → Value
  | .ok s => .tuple #[.int .i64 s, .nilIface]
  | .error n => .tuple #[.int .i64 0, .iface 74 (.int .i64 n)]
theorem intR_ok (s : Int) : intR (.ok s) = .tuple #[.int .i64 s, .nilIface] := rfl
theorem intR_error (n : Nat) : intR (.error n) = .tuple #[.int .i64 0, .iface 74 (.int .i64 n)] := rfl
def int2R : Except Nat (Int × Int) → Value
  | .ok s => .tuple #[.int .i64 s.1, .int .i64 s.2, .nilIface]
  | .error n => .tuple #[.int .i64 0, .int .i64 0, .iface 74 (.int .i64 n)]
theorem int2R_ok (s : Int × Int) : int2R (.ok s) = .tuple #[.int .i64 s.1, .int .i64 s.2, .nilIface] := rfl
theorem int2R_error (n : Nat) : int2R (.error n) = .tuple #[.int .i64 0, .int .i64 0, .iface 74 (.int .i64 n)] := rfl
def boolR : Except Nat Bool → Value
  | .ok s => .tuple #[.bool s, .nilIface]
  | .error n => .tuple #[.bool false, .iface 74 (.int .i64 n)]
theorem boolR_ok (s : Bool) : boolR (.ok s) = .tuple #[.bool s, .nilIface] := rfl
theorem boolR_error (n : Nat) : boolR (.error n) = .tuple #[.bool false, .iface 74 (.int .i64 n)] := rfl
attribute [go_sem] spR_ok spR_error intR_ok intR_error int2R_ok int2R_error boolR_ok boolR_error spV_eq boolV_eq intV_eq int2V_eq errV_none errV_some

def ilR (w : World) : Except Nat (List Int) → Value → Prop
  | .ok l, v => ∃ A c, v = .tuple #[.slice A l.length c, .nilIface] ∧ (l ≠ [] → ∃ b o, A = some ⟨b, o, none⟩ ∧ b < w.heap.size ∧ ∀ k, k < l.length → w.cell? ⟨b, o + k, none⟩ = some (.int .i64 (l[k]?.getD 0))) ∧ l.length ≤ c
  | .error n, v => v = .tuple #[.slice none 0 0, .iface 74 (.int .i64 n)]
/-- The results are read off, and the walk's world is as it is. -/
def resPost (R : Ending → World → Prop) (w : World) : Result Value → Prop
  | .ok v w' => w' = w ∧ R (.returned v) w
  | _ => False
theorem resPost_ok {R : Ending → World → Prop} {w : World} {v : Value} (h : R (.returned v) w) : resPost R w (.ok v w) := ⟨rfl, h⟩
theorem bodyPost_res {P : Program} {fn : Func} {R : Ending → World → Prop} {a : Act} {w : World} (hd : a.defers = []) (h : resPost R w ((results fn a.tmps).run P w)) : bodyPost P fn R .ret a w := by
  generalize hr : (results fn a.tmps).run P w = r at h
  match r, h with
  | .ok v w', h =>
    obtain ⟨h1, h2⟩ := h
    subst h1
    exact ⟨hd, v, hr, h2⟩

theorem bcell {W w1 : World} (hb : Up W w1) : (∀ b o, b < W.heap.size → w1.cell? ⟨b, o, none⟩ = W.cell? ⟨b, o, none⟩) ∧ (∀ b o, b < W.heap.size → w1.frozen? ⟨b, o, none⟩ = W.frozen? ⟨b, o, none⟩) :=
  ⟨fun b o h => Below.cell hb (p := ⟨b, o, none⟩) h, fun b o h => Below.frozen hb (p := ⟨b, o, none⟩) h⟩
theorem lt3 {W w1 : World} {n : Nat} (hb : Up W w1) (h : W.heap.size = n + 1 + 1 + 1) : n < w1.heap.size ∧ n + 1 < w1.heap.size ∧ n + 1 + 1 < w1.heap.size := by have := hb.le; omega
/-- A fact is kept from the walk. -/
theorem hid {p : Prop} (h : p) : Hid p := h
/-- A slice value at address A reads as these integers. -/
def RdI (w : World) (A : Option Addr) (l : List Int) : Prop :=
  l ≠ [] → ∃ b o, A = some ⟨b, o, none⟩ ∧ b < w.heap.size ∧ ∀ k, k < l.length → w.cell? ⟨b, o + k, none⟩ = some (.int .i64 (l[k]?.getD 0))
theorem RdI.nil (w : World) (A : Option Addr) : RdI w A [] := fun h => absurd rfl h
theorem RdI.up {w w' : World} {A : Option Addr} {l : List Int} (h : RdI w A l) (hu : Up w w') : RdI w' A l := fun hl => by
  obtain ⟨b, o, rfl, hb, hc⟩ := h hl
  exact ⟨b, o, rfl, Nat.lt_of_lt_of_le hb hu.le, fun k hk => (Below.cell hu (p := ⟨b, o + k, none⟩) hb).trans (hc k hk)⟩
/-- A slice value at address A reads as these spans. -/
def RdS (w : World) (A : Option Addr) (l : List Sp) : Prop :=
  l ≠ [] → ∃ b o, A = some ⟨b, o, none⟩ ∧ b < w.heap.size ∧ ∀ k, k < l.length → w.cell? ⟨b, o + k * 2, none⟩ = some (.int .i64 (l[k]?.getD ⟨0, 0⟩).lo) ∧ w.cell? ⟨b, o + k * 2 + 1, none⟩ = some (.int .i64 (l[k]?.getD ⟨0, 0⟩).hi)
theorem RdS.nil (w : World) (A : Option Addr) : RdS w A [] := fun h => absurd rfl h
theorem RdS.up {w w' : World} {A : Option Addr} {l : List Sp} (h : RdS w A l) (hu : Up w w') : RdS w' A l := fun hl => by
  obtain ⟨b, o, rfl, hb, hc⟩ := h hl
  exact ⟨b, o, rfl, Nat.lt_of_lt_of_le hb hu.le, fun k hk => ⟨(Below.cell hu (p := ⟨b, o + k * 2, none⟩) hb).trans (hc k hk).1, (Below.cell hu (p := ⟨b, o + k * 2 + 1, none⟩) hb).trans (hc k hk).2⟩⟩
end Go.Proofs.YtmjcnpolnknkkaaGreatDoor

namespace Go.Proofs.YtmjcnpolnknkkaaGreatDoor
open Go.RowKit

/-- A number that an int holds. -/
def I64 (n : Int) : Prop := -9223372036854775808 ≤ n ∧ n ≤ 9223372036854775807
/-- A slice of ints, as a list. -/
structure LI (w : World) (A : Option Addr) (l : List Int) (c : Nat) : Prop where
  rd : RdI w A l
  cap : l.length ≤ c
  max : c ≤ 9223372036854775807
  wf : ∀ n ∈ l, I64 n
/-- A slice of spans, as a list. -/
structure LS (w : World) (A : Option Addr) (l : List Sp) (c : Nat) : Prop where
  rd : RdS w A l
  cap : l.length ≤ c
  max : c ≤ 9223372036854775807
  wf : ∀ s ∈ l, I64 s.lo ∧ I64 s.hi
theorem LI.up {w w' : World} {A : Option Addr} {l : List Int} {c : Nat} (h : LI w A l c) (hu : Up w w') : LI w' A l c := ⟨h.rd.up hu, h.cap, h.max, h.wf⟩
theorem LS.up {w w' : World} {A : Option Addr} {l : List Sp} {c : Nat} (h : LS w A l c) (hu : Up w w') : LS w' A l c := ⟨h.rd.up hu, h.cap, h.max, h.wf⟩
/-- What a law comes to. -/
def LawEnd (w : World) (e : Ending) (w' : World) : Prop := e = .returned (.bool true) ∧ Up w w'
theorem LawEnd.mk {w w' : World} {v : Value} (hv : v = .bool true) (hu : Up w w') : LawEnd w (.returned v) w' := ⟨by rw [hv], hu⟩
end Go.Proofs.YtmjcnpolnknkkaaGreatDoor

namespace Go.Proofs.YtmjcnpolnknkkaaGreatDoor
open Go.RowKit

theorem ck {W w : World} (hb : Up W w) (b o : Nat) {v : Value} {G : Prop} (hv : W.cell? ⟨b, o, none⟩ = some v) (k : w.cell? ⟨b, o, none⟩ = some v → G) : G :=
  k ((Below.cell hb (p := ⟨b, o, none⟩) (World.block_lt_of_cell? W _ hv)).trans hv)
theorem fk {W w : World} (hb : Up W w) (b : Nat) {v : Value} {G : Prop} (hc : W.cell? ⟨b, 0, none⟩ = some v) (hv : ∀ o, W.frozen? ⟨b, o, none⟩ = false) (k : (∀ o, w.frozen? ⟨b, o, none⟩ = false) → G) : G :=
  k (fun o => (Below.frozen hb (p := ⟨b, o, none⟩) (World.block_lt_of_cell? W (⟨b, 0, none⟩ : Addr) hc)).trans (hv o))
theorem old_keep {w0 w : World} {G : Prop} (hu : Up w0 w) (k : Up w0 w → (∀ b o, b < w0.heap.size → w.cell? ⟨b, o, none⟩ = w0.cell? ⟨b, o, none⟩) → G) : G := k hu (bcell hu).1
/-- Nothing of what was there in a has turned in w, but for the block D. -/
structure Ux (D : Nat) (a w : World) : Prop where
  os : w.os = a.os
  tape : w.tape = a.tape
  output : w.output = a.output
  size : a.heap.size ≤ w.heap.size
  block : ∀ k, k < a.heap.size → k ≠ D → w.heap[k]? = a.heap[k]?
theorem Ux.refl (D : Nat) (w : World) : Ux D w w := ⟨rfl, rfl, rfl, Nat.le_refl _, fun _ _ _ => rfl⟩
theorem Ux.of {D : Nat} {a w w' : World} (h : Ux D a w) (hs : w.heap.size ≤ w'.heap.size) (h1 : w'.os = w.os) (h2 : w'.tape = w.tape) (h3 : w'.output = w.output) (hb : ∀ k, k < a.heap.size → k ≠ D → w'.heap[k]? = w.heap[k]?) : Ux D a w' :=
  ⟨h1.trans h.os, h2.trans h.tape, h3.trans h.output, Nat.le_trans h.size hs, fun k hk hd => (hb k hk hd).trans (h.block k hk hd)⟩
theorem Ux.call {D : Nat} {a w w' : World} (h : Ux D a w) (hu : Up w w') : Ux D a w' :=
  Ux.of h hu.size hu.os hu.tape hu.output (fun k hk _ => hu.block k (Nat.lt_of_lt_of_le hk h.size))
theorem Ux.alloc {D : Nat} {a w : World} (h : Ux D a w) (o : Obj) : Ux D a (w.alloc o) := h.call ((Up.refl w).alloc o)
theorem Ux.drew {D : Nat} {a w : World} (h : Ux D a w) : Ux D a w.drew := h.call (Up.refl w).drew
theorem Ux.drewN {D : Nat} {a w : World} (h : Ux D a w) (n : Nat) : Ux D a (w.drewN n) := h.call ((Up.refl w).drewN n)
theorem Ux.set {D : Nat} {a w : World} (h : Ux D a w) {p : Addr} (hp : a.heap.size ≤ p.block) (u : Value) : Ux D a (w.setCell p u) :=
  Ux.of h (by simp) rfl rfl rfl (fun k hk _ => Below.heap_setCell w p u k (by omega))
theorem Ux.up {D : Nat} {a0 a w : World} (h0 : Up a0 a) (hD : a0.heap.size ≤ D) (h : Ux D a w) : Up a0 w :=
  ⟨h.os.trans h0.os, h.tape.trans h0.tape, h.output.trans h0.output, Nat.le_trans h0.size h.size, fun k hk => (h.block k (Nat.lt_of_lt_of_le hk h0.size) (by omega)).trans (h0.block k hk)⟩
theorem Ux.below {D b : Nat} {a w : World} (h : Ux D a w) (hb : b < a.heap.size) (hd : b ≠ D) : (∀ o, w.cell? ⟨b, o, none⟩ = a.cell? ⟨b, o, none⟩) ∧ (∀ o, w.frozen? ⟨b, o, none⟩ = a.frozen? ⟨b, o, none⟩) := by
  have e := h.block b hb hd
  constructor
  · intro o
    unfold World.cell?
    simp only [e]
  · intro o
    unfold World.frozen?
    simp only [e]
end Go.Proofs.YtmjcnpolnknkkaaGreatDoor

namespace Go.Proofs.YtmjcnpolnknkkaaGreatDoor
open Go.RowKit

theorem fko {W w : World} (hb : Up W w) (b o : Nat) {v : Value} {G : Prop} (hc : W.cell? ⟨b, 0, none⟩ = some v) (hv : W.frozen? ⟨b, o, none⟩ = false) (k : w.frozen? ⟨b, o, none⟩ = false → G) : G :=
  k ((Below.frozen hb (p := ⟨b, o, none⟩) (World.block_lt_of_cell? W (⟨b, 0, none⟩ : Addr) hc)).trans hv)
end Go.Proofs.YtmjcnpolnknkkaaGreatDoor

namespace Go.Proofs.YtmjcnpolnknkkaaGreatDoor
open Go.RowKit

/-- A slice of terms. -/
def RdT (w : World) (A : Option Addr) (l : List Tm) : Prop :=
  l ≠ [] → ∃ b o, A = some ⟨b, o, none⟩ ∧ b < w.heap.size ∧ ∀ k, k < l.length → w.cell? ⟨b, o + k * 4, none⟩ = some (.int .i64 (l[k]?.getD default).by_) ∧ w.cell? ⟨b, o + k * 4 + 1, none⟩ = some (.int .i64 (l[k]?.getD default).t0) ∧
    w.cell? ⟨b, o + k * 4 + 2, none⟩ = some (.int .i64 (l[k]?.getD default).t1) ∧ w.cell? ⟨b, o + k * 4 + 3, none⟩ = some (.int .i64 (l[k]?.getD default).t2)
theorem RdT.nil (w : World) (A : Option Addr) : RdT w A [] := fun h => absurd rfl h
theorem RdT.up {w w' : World} {A : Option Addr} {l : List Tm} (h : RdT w A l) (hu : Up w w') : RdT w' A l := fun hl => by
  obtain ⟨b, o, rfl, hb, hc⟩ := h hl
  refine ⟨b, o, rfl, Nat.lt_of_lt_of_le hb hu.le, fun k hk => ?_⟩
  obtain ⟨h0, h1, h2, h3⟩ := hc k hk
  exact ⟨(Below.cell hu (p := ⟨b, o + k * 4, none⟩) hb).trans h0, (Below.cell hu (p := ⟨b, o + k * 4 + 1, none⟩) hb).trans h1, (Below.cell hu (p := ⟨b, o + k * 4 + 2, none⟩) hb).trans h2, (Below.cell hu (p := ⟨b, o + k * 4 + 3, none⟩) hb).trans h3⟩
/-- A slice of slices, each of which reads by R. -/
def RdR {α : Type} (R : World → Option Addr → List α → Prop) (w : World) (A : Option Addr) (l : List (List α)) : Prop :=
  l ≠ [] → ∃ b o, A = some ⟨b, o, none⟩ ∧ b < w.heap.size ∧ ∀ k, k < l.length → ∃ A' c, w.cell? ⟨b, o + k, none⟩ = some (.slice A' (l[k]?.getD []).length c) ∧ (l[k]?.getD []).length ≤ c ∧ R w A' (l[k]?.getD [])
theorem RdR.nil {α : Type} (R : World → Option Addr → List α → Prop) (w : World) (A : Option Addr) : RdR R w A [] := fun h => absurd rfl h
theorem RdR.up {α : Type} {R : World → Option Addr → List α → Prop} (hR : ∀ {w w' A l}, R w A l → Up w w' → R w' A l) {w w' : World} {A : Option Addr} {l : List (List α)} (h : RdR R w A l) (hu : Up w w') : RdR R w' A l := fun hl => by
  obtain ⟨b, o, rfl, hb, hc⟩ := h hl
  refine ⟨b, o, rfl, Nat.lt_of_lt_of_le hb hu.le, fun k hk => ?_⟩
  obtain ⟨A', c, h0, h1, h2⟩ := hc k hk
  exact ⟨A', c, (Below.cell hu (p := ⟨b, o + k, none⟩) hb).trans h0, h1, hR h2 hu⟩
theorem RdR.at {α : Type} {R : World → Option Addr → List α → Prop} {w : World} {A : Option Addr} {l : List (List α)} (h : RdR R w A l) (hl : 0 < l.length) : ∃ b o, A = some ⟨b, o, none⟩ ∧ b < w.heap.size ∧ ∀ k, k < l.length → ∃ A' c, w.cell? ⟨b, o + k, none⟩ = some (.slice A' (l[k]?.getD []).length c) ∧ (l[k]?.getD []).length ≤ c ∧ R w A' (l[k]?.getD []) :=
  h (fun e => by simp [e] at hl)
theorem RdT.at {w : World} {A : Option Addr} {l : List Tm} (h : RdT w A l) (hl : 0 < l.length) : ∃ b o, A = some ⟨b, o, none⟩ ∧ b < w.heap.size ∧ ∀ k, k < l.length → w.cell? ⟨b, o + k * 4, none⟩ = some (.int .i64 (l[k]?.getD default).by_) ∧ w.cell? ⟨b, o + k * 4 + 1, none⟩ = some (.int .i64 (l[k]?.getD default).t0) ∧
    w.cell? ⟨b, o + k * 4 + 2, none⟩ = some (.int .i64 (l[k]?.getD default).t1) ∧ w.cell? ⟨b, o + k * 4 + 3, none⟩ = some (.int .i64 (l[k]?.getD default).t2) :=
  h (fun e => by simp [e] at hl)
/-- Systems' polynomials; lists of lists of ints; lists of boxes. -/
abbrev RdN := RdR RdT
abbrev RdII := RdR RdI
abbrev RdB := RdR RdS
theorem RdN.up {w w' : World} {A : Option Addr} {l : List (List Tm)} (h : RdN w A l) (hu : Up w w') : RdN w' A l := RdR.up (R := RdT) RdT.up h hu
theorem RdII.up {w w' : World} {A : Option Addr} {l : List (List Int)} (h : RdII w A l) (hu : Up w w') : RdII w' A l := RdR.up (R := RdI) RdI.up h hu
theorem RdB.up {w w' : World} {A : Option Addr} {l : List (List Sp)} (h : RdB w A l) (hu : Up w w') : RdB w' A l := RdR.up (R := RdS) RdS.up h hu
/-- A system. -/
structure LY (w : World) (A B : Option Addr) (s : Sy) (c d : Nat) : Prop where
  next : RdN w A s.next
  push : RdS w B s.push
  cap : s.next.length ≤ c
  cap2 : s.push.length ≤ d
  max : c ≤ 9223372036854775807
  max2 : d ≤ 9223372036854775807
  wf : ∀ f ∈ s.next, f.length ≤ 9223372036854775807 ∧ ∀ t ∈ f, I64 t.by_ ∧ I64 t.t0 ∧ I64 t.t1 ∧ I64 t.t2
  wf2 : ∀ p ∈ s.push, I64 p.lo ∧ I64 p.hi
theorem LY.up {w w' : World} {A B : Option Addr} {s : Sy} {c d : Nat} (h : LY w A B s c d) (hu : Up w w') : LY w' A B s c d := ⟨RdN.up h.next hu, h.push.up hu, h.cap, h.cap2, h.max, h.max2, h.wf, h.wf2⟩
/-- Behind a call: an own block of two cells, as it was. -/
theorem bk {W w : World} (hb : Up W w) (b : Nat) {u v : Value} {G : Prop} (h0 : W.cell? ⟨b, 0, none⟩ = some u) (h1 : W.cell? ⟨b, 1, none⟩ = some v) (hf : ∀ o, W.frozen? ⟨b, o, none⟩ = false)
    (k : w.cell? ⟨b, 0, none⟩ = some u → w.cell? ⟨b, 1, none⟩ = some v → (∀ o, w.frozen? ⟨b, o, none⟩ = false) → b < w.heap.size → G) : G :=
  have hl : b < W.heap.size := World.block_lt_of_cell? W (⟨b, 0, none⟩ : Addr) h0
  k ((Below.cell hb (p := ⟨b, 0, none⟩) hl).trans h0) ((Below.cell hb (p := ⟨b, 1, none⟩) hl).trans h1) (fun o => (Below.frozen hb (p := ⟨b, o, none⟩) hl).trans (hf o)) (Nat.lt_of_lt_of_le hl hb.le)
end Go.Proofs.YtmjcnpolnknkkaaGreatDoor
