/- Small general lemmas for the walks: what a call leaves as it was, how results are read, how values are written. -/
import Derived.Test.YtafhcppigpjcpaaDoorRows
import Derived.Test.YtafhcppigpjcpaaDoorMath
import Derived.Test.YtafhcppigpjcpaaDoorMathb
import Derived.WalkKit
import Derived.WalkSpells
import Derived.WalkLawsBesides
import Derived.Deep.QuietTactic
import Derived.BigQuiet
set_option linter.unusedVariables false
set_option linter.unusedSimpArgs false
namespace Go.Proofs.YtafhcppigpjcpaaDoor
open Go.RowKit

/-- Of what was there in a nothing has turned in w. -/
def Up (a w : World) : Prop := Below a.heap.size a w
theorem Up.refl (w : World) : Up w w := Below.refl _ _
theorem Up.alloc {a w : World} (h : Up a w) (o : Obj) : Up a (w.alloc o) := Below.alloc h h.size o
theorem Up.set {a w : World} (h : Up a w) {p : Addr} (hp : a.heap.size ≤ p.block) (u : Value) : Up a (w.setCell p u) := Below.setCell h hp u
theorem Up.call {a w w' : World} (h : Up a w) (hb : Up w w') : Up a w' := Below.trans h (Below.mono hb h.size)
theorem Up.drew {a w : World} (h : Up a w) : Up a w.drew := Below.drew h
theorem Up.drewN {a w : World} (h : Up a w) (n : Nat) : Up a (w.drewN n) := ⟨h.os, h.tape, h.output, h.size, h.block⟩
theorem Up.le {a w : World} (h : Up a w) : a.heap.size ≤ w.heap.size := h.size

/-- What a call of a function of plain values comes to. -/
def RetX {α : Type} (enc : α → Value) (r : α) (w : World) (e : Ending) (w' : World) : Prop := ∃ x, r = x ∧ e = .returned (enc x) ∧ Up w w'
theorem RetX.mk {α : Type} {enc : α → Value} {r : α} {w w' : World} (x : α) (h : Up w w') (hr : r = x) {v : Value} (hv : v = enc x) : RetX enc r w (.returned v) w' := ⟨x, hr, by rw [hv], h⟩
theorem RetX.same {α : Type} {enc : α → Value} {r : α} {w w' : World} {v : Value} (h : Up w w') (hv : v = enc r) : RetX enc r w (.returned v) w' := ⟨r, rfl, by rw [hv], h⟩

/-- What a call comes to whose result lies in memory. -/
def RetR {α : Type} (rel : World → α → Value → Prop) (r : α) (w : World) (e : Ending) (w' : World) : Prop := ∃ x v, r = x ∧ e = .returned v ∧ rel w' x v ∧ Up w w'
theorem RetR.mk {α : Type} {rel : World → α → Value → Prop} {r : α} {w w' : World} (x : α) (h : Up w w') (hr : r = x) {v : Value} (hv : rel w' x v) : RetR rel r w (.returned v) w' := ⟨x, v, hr, rfl, hv, h⟩

def errV : Option Nat → Value
  | none => .nilIface
  | some n => .iface 99 (.int .i64 n)
theorem errV_none : errV none = .nilIface := rfl
theorem errV_some (n : Nat) : errV (some n) = .iface 99 (.int .i64 n) := rfl
def spV (s : Sp) : Value := .agg #[.int .i64 s.lo, .int .i64 s.hi]
theorem spV_eq (s : Sp) : spV s = .agg #[.int .i64 s.lo, .int .i64 s.hi] := rfl
def boolV (b : Bool) : Value := .bool b
theorem boolV_eq (b : Bool) : boolV b = .bool b := rfl
def intV (n : Int) : Value := .int .i64 n
theorem intV_eq (n : Int) : intV n = .int .i64 n := rfl
def int2V (p : Int × Int) : Value := .tuple #[.int .i64 p.1, .int .i64 p.2]
theorem int2V_eq (p : Int × Int) : int2V p = .tuple #[.int .i64 p.1, .int .i64 p.2] := rfl
def spR : Except Nat Sp → Value
  | .ok s => .tuple #[.agg #[.int .i64 s.lo, .int .i64 s.hi], .nilIface]
  | .error n => .tuple #[.agg #[.int .i64 0, .int .i64 0], .iface 99 (.int .i64 n)]
theorem spR_ok (s : Sp) : spR (.ok s) = .tuple #[.agg #[.int .i64 s.lo, .int .i64 s.hi], .nilIface] := rfl
theorem spR_error (n : Nat) : spR (.error n) = .tuple #[.agg #[.int .i64 0, .int .i64 0], .iface 99 (.int .i64 n)] := rfl
def intR : Except Nat Int → Value
  | .ok s => .tuple #[.int .i64 s, .nilIface]
  | .error n => .tuple #[.int .i64 0, .iface 99 (.int .i64 n)]
theorem intR_ok (s : Int) : intR (.ok s) = .tuple #[.int .i64 s, .nilIface] := rfl
theorem intR_error (n : Nat) : intR (.error n) = .tuple #[.int .i64 0, .iface 99 (.int .i64 n)] := rfl
def int2R : Except Nat (Int × Int) → Value
  | .ok s => .tuple #[.int .i64 s.1, .int .i64 s.2, .nilIface]
  | .error n => .tuple #[.int .i64 0, .int .i64 0, .iface 99 (.int .i64 n)]
theorem int2R_ok (s : Int × Int) : int2R (.ok s) = .tuple #[.int .i64 s.1, .int .i64 s.2, .nilIface] := rfl
theorem int2R_error (n : Nat) : int2R (.error n) = .tuple #[.int .i64 0, .int .i64 0, .iface 99 (.int .i64 n)] := rfl
def boolR : Except Nat Bool → Value
  | .ok s => .tuple #[.bool s, .nilIface]
  | .error n => .tuple #[.bool false, .iface 99 (.int .i64 n)]
theorem boolR_ok (s : Bool) : boolR (.ok s) = .tuple #[.bool s, .nilIface] := rfl
theorem boolR_error (n : Nat) : boolR (.error n) = .tuple #[.bool false, .iface 99 (.int .i64 n)] := rfl
attribute [go_sem] spR_ok spR_error intR_ok intR_error int2R_ok int2R_error boolR_ok boolR_error spV_eq boolV_eq intV_eq int2V_eq errV_none errV_some

def ilR (w : World) : Except Nat (List Int) → Value → Prop
  | .ok l, v => ∃ A c, v = .tuple #[.slice A l.length c, .nilIface] ∧ (l ≠ [] → ∃ b o, A = some ⟨b, o, none⟩ ∧ b < w.heap.size ∧ ∀ k, k < l.length → w.cell? ⟨b, o + k, none⟩ = some (.int .i64 (l[k]?.getD 0))) ∧ l.length ≤ c
  | .error n, v => v = .tuple #[.slice none 0 0, .iface 99 (.int .i64 n)]
/-- The results are read off, and the walk's world is as it is. -/
def resPost (R : Ending → World → Prop) (w : World) : Result Value → Prop
  | .ok v w' => w' = w ∧ R (.returned v) w
  | _ => False
theorem resPost_ok {R : Ending → World → Prop} {w : World} {v : Value} (h : R (.returned v) w) : resPost R w (.ok v w) := ⟨rfl, h⟩
theorem bodyPost_res {P : Program} {fn : Func} {R : Ending → World → Prop} {a : Act} {w : World} (hd : a.defers = []) (h : resPost R w ((results fn a.tmps).run P w)) : bodyPost P fn R .ret a w := by
  generalize hr : (results fn a.tmps).run P w = r at h
  match r, h with
  | .ok v w', h =>
    obtain ⟨h1, h2⟩ := h
    subst h1
    exact ⟨hd, v, hr, h2⟩

theorem bcell {W w1 : World} (hb : Up W w1) : (∀ b o, b < W.heap.size → w1.cell? ⟨b, o, none⟩ = W.cell? ⟨b, o, none⟩) ∧ (∀ b o, b < W.heap.size → w1.frozen? ⟨b, o, none⟩ = W.frozen? ⟨b, o, none⟩) :=
  ⟨fun b o h => Below.cell hb (p := ⟨b, o, none⟩) h, fun b o h => Below.frozen hb (p := ⟨b, o, none⟩) h⟩
/-- The own blocks lie below what a callee's world has. -/
theorem lt1 {W w1 : World} {n : Nat} (hb : Up W w1) (h : W.heap.size = n + 1) : n < w1.heap.size := by have := hb.le; omega
theorem lt2 {W w1 : World} {n : Nat} (hb : Up W w1) (h : W.heap.size = n + 1 + 1) : n < w1.heap.size ∧ n + 1 < w1.heap.size := by have := hb.le; omega
theorem lt3 {W w1 : World} {n : Nat} (hb : Up W w1) (h : W.heap.size = n + 1 + 1 + 1) : n < w1.heap.size ∧ n + 1 < w1.heap.size ∧ n + 1 + 1 < w1.heap.size := by have := hb.le; omega
theorem lt4 {W w1 : World} {n : Nat} (hb : Up W w1) (h : W.heap.size = n + 1 + 1 + 1 + 1) : n < w1.heap.size ∧ n + 1 < w1.heap.size ∧ n + 1 + 1 < w1.heap.size ∧ n + 1 + 1 + 1 < w1.heap.size := by have := hb.le; omega
theorem lt5 {W w1 : World} {n : Nat} (hb : Up W w1) (h : W.heap.size = n + 1 + 1 + 1 + 1 + 1) : n < w1.heap.size ∧ n + 1 < w1.heap.size ∧ n + 1 + 1 < w1.heap.size ∧ n + 1 + 1 + 1 < w1.heap.size ∧ n + 1 + 1 + 1 + 1 < w1.heap.size := by have := hb.le; omega
/-- A fact is kept from the walk. -/
theorem hid {p : Prop} (h : p) : Hid p := h
/-- A slice value at address A reads as these integers. -/
def RdI (w : World) (A : Option Addr) (l : List Int) : Prop :=
  l ≠ [] → ∃ b o, A = some ⟨b, o, none⟩ ∧ b < w.heap.size ∧ ∀ k, k < l.length → w.cell? ⟨b, o + k, none⟩ = some (.int .i64 (l[k]?.getD 0))
theorem RdI.nil (w : World) (A : Option Addr) : RdI w A [] := fun h => absurd rfl h
theorem RdI.up {w w' : World} {A : Option Addr} {l : List Int} (h : RdI w A l) (hu : Up w w') : RdI w' A l := fun hl => by
  obtain ⟨b, o, rfl, hb, hc⟩ := h hl
  exact ⟨b, o, rfl, Nat.lt_of_lt_of_le hb hu.le, fun k hk => (Below.cell hu (p := ⟨b, o + k, none⟩) hb).trans (hc k hk)⟩
/-- A slice value at address A reads as these spans. -/
def RdS (w : World) (A : Option Addr) (l : List Sp) : Prop :=
  l ≠ [] → ∃ b o, A = some ⟨b, o, none⟩ ∧ b < w.heap.size ∧ ∀ k, k < l.length → w.cell? ⟨b, o + k * 2, none⟩ = some (.int .i64 (l[k]?.getD ⟨0, 0⟩).lo) ∧ w.cell? ⟨b, o + k * 2 + 1, none⟩ = some (.int .i64 (l[k]?.getD ⟨0, 0⟩).hi)
theorem RdS.nil (w : World) (A : Option Addr) : RdS w A [] := fun h => absurd rfl h
theorem RdS.up {w w' : World} {A : Option Addr} {l : List Sp} (h : RdS w A l) (hu : Up w w') : RdS w' A l := fun hl => by
  obtain ⟨b, o, rfl, hb, hc⟩ := h hl
  exact ⟨b, o, rfl, Nat.lt_of_lt_of_le hb hu.le, fun k hk => ⟨(Below.cell hu (p := ⟨b, o + k * 2, none⟩) hb).trans (hc k hk).1, (Below.cell hu (p := ⟨b, o + k * 2 + 1, none⟩) hb).trans (hc k hk).2⟩⟩
end Go.Proofs.YtafhcppigpjcpaaDoor
