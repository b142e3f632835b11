/- Behind a call: what the call's own cells hold in the new world, each said of that world alone. -/
import Derived.Test.YtafhcppigpjcpaaDoorBase
set_option linter.unusedVariables false
set_option linter.unusedSimpArgs false
namespace Go.Proofs.YtafhcppigpjcpaaDoor
open Go.RowKit

theorem cell_keep {W w : World} (hb : Up W w) (b o : Nat) {v : Value} {G : Prop} (hl : b < W.heap.size) (hv : W.cell? ⟨b, o, none⟩ = some v) (k : w.cell? ⟨b, o, none⟩ = some v → G) : G :=
  k ((Below.cell hb (p := ⟨b, o, none⟩) hl).trans hv)
theorem free_keep {W w : World} (hb : Up W w) (b : Nat) {G : Prop} (hl : b < W.heap.size) (hv : ∀ o, W.frozen? ⟨b, o, none⟩ = false) (k : (∀ o, w.frozen? ⟨b, o, none⟩ = false) → G) : G :=
  k (fun o => (Below.frozen hb (p := ⟨b, o, none⟩) hl).trans (hv o))
theorem ck {W w : World} (hb : Up W w) (b o : Nat) {v : Value} {G : Prop} (hv : W.cell? ⟨b, o, none⟩ = some v) (k : w.cell? ⟨b, o, none⟩ = some v → G) : G :=
  k ((Below.cell hb (p := ⟨b, o, none⟩) (World.block_lt_of_cell? W _ hv)).trans hv)
theorem fk {W w : World} (hb : Up W w) (b : Nat) {v : Value} {G : Prop} (hc : W.cell? ⟨b, 0, none⟩ = some v) (hv : ∀ o, W.frozen? ⟨b, o, none⟩ = false) (k : (∀ o, w.frozen? ⟨b, o, none⟩ = false) → G) : G :=
  k (fun o => (Below.frozen hb (p := ⟨b, o, none⟩) (World.block_lt_of_cell? W (⟨b, 0, none⟩ : Addr) hc)).trans (hv o))
theorem old_keep {w0 w : World} {G : Prop} (hu : Up w0 w) (k : Up w0 w → (∀ b o, b < w0.heap.size → w.cell? ⟨b, o, none⟩ = w0.cell? ⟨b, o, none⟩) → G) : G := k hu (bcell hu).1
/-- Nothing of what was there in a has turned in w, but for the block D. -/
structure Ux (D : Nat) (a w : World) : Prop where
  os : w.os = a.os
  tape : w.tape = a.tape
  output : w.output = a.output
  size : a.heap.size ≤ w.heap.size
  block : ∀ k, k < a.heap.size → k ≠ D → w.heap[k]? = a.heap[k]?
theorem Ux.refl (D : Nat) (w : World) : Ux D w w := ⟨rfl, rfl, rfl, Nat.le_refl _, fun _ _ _ => rfl⟩
theorem Ux.of {D : Nat} {a w w' : World} (h : Ux D a w) (hs : w.heap.size ≤ w'.heap.size) (h1 : w'.os = w.os) (h2 : w'.tape = w.tape) (h3 : w'.output = w.output) (hb : ∀ k, k < a.heap.size → k ≠ D → w'.heap[k]? = w.heap[k]?) : Ux D a w' :=
  ⟨h1.trans h.os, h2.trans h.tape, h3.trans h.output, Nat.le_trans h.size hs, fun k hk hd => (hb k hk hd).trans (h.block k hk hd)⟩
theorem Ux.call {D : Nat} {a w w' : World} (h : Ux D a w) (hu : Up w w') : Ux D a w' :=
  Ux.of h hu.size hu.os hu.tape hu.output (fun k hk _ => hu.block k (Nat.lt_of_lt_of_le hk h.size))
theorem Ux.alloc {D : Nat} {a w : World} (h : Ux D a w) (o : Obj) : Ux D a (w.alloc o) := h.call ((Up.refl w).alloc o)
theorem Ux.drew {D : Nat} {a w : World} (h : Ux D a w) : Ux D a w.drew := h.call (Up.refl w).drew
theorem Ux.drewN {D : Nat} {a w : World} (h : Ux D a w) (n : Nat) : Ux D a (w.drewN n) := h.call ((Up.refl w).drewN n)
theorem Ux.setD {D : Nat} {a w : World} (h : Ux D a w) (o : Nat) (u : Value) : Ux D a (w.setCell ⟨D, o, none⟩ u) :=
  Ux.of h (by simp) rfl rfl rfl (fun k _ hd => Below.heap_setCell w ⟨D, o, none⟩ u k hd)
theorem Ux.set {D : Nat} {a w : World} (h : Ux D a w) {p : Addr} (hp : a.heap.size ≤ p.block) (u : Value) : Ux D a (w.setCell p u) :=
  Ux.of h (by simp) rfl rfl rfl (fun k hk _ => Below.heap_setCell w p u k (by omega))
theorem Ux.up {D : Nat} {a0 a w : World} (h0 : Up a0 a) (hD : a0.heap.size ≤ D) (h : Ux D a w) : Up a0 w :=
  ⟨h.os.trans h0.os, h.tape.trans h0.tape, h.output.trans h0.output, Nat.le_trans h0.size h.size, fun k hk => (h.block k (Nat.lt_of_lt_of_le hk h0.size) (by omega)).trans (h0.block k hk)⟩
theorem Ux.below {D b : Nat} {a w : World} (h : Ux D a w) (hb : b < a.heap.size) (hd : b ≠ D) : (∀ o, w.cell? ⟨b, o, none⟩ = a.cell? ⟨b, o, none⟩) ∧ (∀ o, w.frozen? ⟨b, o, none⟩ = a.frozen? ⟨b, o, none⟩) := by
  have e := h.block b hb hd
  constructor
  · intro o
    unfold World.cell?
    simp only [e]
  · intro o
    unfold World.frozen?
    simp only [e]
end Go.Proofs.YtafhcppigpjcpaaDoor
