/- Rows of slices, more of them: one that begins as a literal, the last one; cells that stay. -/
import Derived.Test.YtmjcnpolnknkkaaGreatDoorPOwnS
import Derived.Test.YtmjcnpolnknkkaaGreatDoorPNest
set_option linter.unusedVariables false
set_option linter.unusedSimpArgs false
namespace Go.Proofs.YtmjcnpolnknkkaaGreatDoor
open Go.RowKit

/-- A row of slices that begins as a literal of one. -/
theorem OwnR.one {α : Type} {T : TypeId} {R : World → Option Addr → List α → Prop} (hR : ∀ {w w' : World} {A : Option Addr} {l : List α}, R w A l → Up w w' → R w' A l) {w : World} {base : Nat} {x : List α} {A : Option Addr} {c : Nat} (hbase : base ≤ w.heap.size)
    (hx : R w A x) (hc : x.length ≤ c) (hb : ∀ b o, A = some ⟨b, o, none⟩ → b < w.heap.size) : OwnR T R (w.alloc (.cells #[.slice A x.length c] T)) base (.slice (some ⟨w.heap.size, 0, none⟩) 1 1) [x] := by
  refine ⟨[.slice A x.length c], World.ownsRow_lit w #[.slice A x.length c] 1 hbase (by decide) rfl, fun k hk => ?_⟩
  obtain rfl : k = 0 := by simpa using hk
  refine ⟨A, c, rfl, hc, hR hx ((Up.refl w).alloc _), fun b o e => ⟨?_, ?_⟩⟩
  · have := hb b o e
    simp; omega
  · have := hb b o e
    intro e2
    injection e2 with e2
    dsimp only at e2
    omega
theorem last_at {α : Type} {L : List (List α)} {x : List α} {k : Nat} (h : L.length = k) : (L ++ [x])[k]?.getD [] = x := by
  subst h; simp
/-- What the row's last one is, to be read at the row's end. -/
theorem OwnR.last {α : Type} {T : TypeId} {R : World → Option Addr → List α → Prop} {w : World} {base k : Nat} {v : Value} {L : List (List α)} {x : List α} (h : OwnR T R w base v (L ++ [x])) (hk : L.length = k) :
    ∃ g o N cap A c, v = .slice (some ⟨g, o, none⟩) N cap ∧ N = k + 1 ∧ base ≤ g ∧ g < w.heap.size ∧ w.cell? ⟨g, o + k, none⟩ = some (.slice A x.length c) ∧ x.length ≤ c ∧ R w A x := by
  obtain ⟨A', c', hv, hrd, hc⟩ := h.rd
  obtain ⟨g, o, rfl, lg, cc⟩ := hrd.at (by simp)
  obtain ⟨A, c, q1, q2, q3⟩ := cc k (by simp; omega)
  rw [last_at hk] at q1 q2 q3
  exact ⟨g, o, _, c', A, c, hv, by simp; omega, (h.lt g (by rw [hv]; rfl)).1, lg, q1, q2, q3⟩
theorem cell_two_at (w : World) (x y : Value) (t : TypeId) {n : Nat} (hn : n = w.heap.size) : ∀ j u, [x, y][j]? = some u → (w.alloc (.cells #[x, y] t)).cell? ((⟨n, 0, none⟩ : Addr).add j) = some u := by
  subst hn; exact cell_two_new _ _ _ _
theorem Cf.keep {W W' : World} {b o : Nat} {v : Value} (h : Cf W b o v) {row : Option Nat} (hg : W.grownBy W' row) (hr : row ≠ some b) : Cf W' b o v := by
  have hb : b < W.heap.size := World.block_lt_of_cell? W _ h.1
  have hblk : W'.heap[b]? = W.heap[b]? := hg.block b hb (fun e => hr e.symm)
  exact ⟨(World.cell?_of_block (a := ⟨b, o, none⟩) hblk).trans h.1, (World.frozen?_of_block (a := ⟨b, o, none⟩) hblk).trans h.2⟩
end Go.Proofs.YtmjcnpolnknkkaaGreatDoor
