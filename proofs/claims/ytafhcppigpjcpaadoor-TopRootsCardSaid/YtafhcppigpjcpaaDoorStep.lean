/- The walks of package step. -/
import Derived.Test.YtafhcppigpjcpaaDoorForme
import Derived.Test.YtafhcppigpjcpaaDoorBoxd
import Derived.Test.YtafhcppigpjcpaaDoorOwnS

set_option linter.unusedVariables false
set_option linter.unusedSimpArgs false
namespace Go.Proofs.YtafhcppigpjcpaaDoor
open Go.RowKit

/-- A system, as it lies in memory. -/
structure RY (w : World) (A B : Option Addr) (s : Sy) : Prop where
  next : RdN w A s.next
  push : RdS w B s.push
theorem RY.up {w w' : World} {A B : Option Addr} {s : Sy} (h : RY w A B s) (hu : Up w w') : RY w' A B s := ⟨RdN.up h.next hu, h.push.up hu⟩
theorem LY.ry {w : World} {A B : Option Addr} {s : Sy} {c d : Nat} (h : LY w A B s c d) : RY w A B s := ⟨h.next, h.push⟩
theorem fdrop (l : List (List Tm)) (k : Nat) (h : k < l.length) : l.drop k = (l[k]?.getD []) :: l.drop (k + 1) := by
  rw [List.drop_eq_getElem_cons h, List.getElem?_eq_getElem h]; rfl
theorem fbF_none {k : Int} {f : List Tm} {l : List (List Tm)} (h : fcheckF f k = none) : firstBadF k (f :: l) = firstBadF k l := by
  conv => lhs; unfold firstBadF
  rw [h]
theorem fbF_some {k : Int} {f : List Tm} {l : List (List Tm)} {e : Nat} (h : fcheckF f k = some e) : firstBadF k (f :: l) = some e := by
  unfold firstBadF; rw [h]
theorem fbS_none {p : Sp} {l : List Sp} (h : checkF p = none) : firstBad (p :: l) = firstBad l := by
  conv => lhs; unfold firstBad
  rw [h]
theorem fbS_some {p : Sp} {l : List Sp} {e : Nat} (h : checkF p = some e) : firstBad (p :: l) = some e := by
  unfold firstBad; rw [h]
theorem nextG_bad1 {b L : List Sp} {f : List Tm} {fs : List (List Tm)} {q : Sp} {qs : List Sp} {e : Nat} (h : foverF f b = .error e) : preS L (nextG b (f :: fs) (q :: qs)) = .error e := by
  unfold nextG; rw [h]; rfl
theorem nextG_bad2 {b L : List Sp} {f : List Tm} {fs : List (List Tm)} {q x : Sp} {qs : List Sp} {e : Nat} (h : foverF f b = .ok x) (h2 : sumF x q = .error e) : preS L (nextG b (f :: fs) (q :: qs)) = .error e := by
  unfold nextG; rw [h]; dsimp only; rw [h2]; rfl
theorem nextG_good {b L : List Sp} {f : List Tm} {fs : List (List Tm)} {q x y : Sp} {qs : List Sp} (h : foverF f b = .ok x) (h2 : sumF x q = .ok y) : preS L (nextG b (f :: fs) (q :: qs)) = preS (L ++ [y]) (nextG b fs qs) := by
  conv => lhs; unfold nextG
  rw [h]; dsimp only; rw [h2]; dsimp only
  cases nextG b fs qs <;> simp [preS]
theorem firstBadF_at {k : Int} : ∀ {l : List (List Tm)}, firstBadF k l = none → ∀ f ∈ l, fcheckF f k = none
  | [], _, f, h => by cases h
  | g :: l, h, f, hf => by
    unfold firstBadF at h
    split at h
    · cases h
    · rcases List.mem_cons.1 hf with e | e
      · rw [e]; assumption
      · exact firstBadF_at h f e
theorem foverG_M {b : List Sp} : ∀ (f : List Tm) (s r : Sp), M s.lo ∧ M s.hi → foverG b s f = .ok r → M r.lo ∧ M r.hi
  | [], s, r, hs, h => by
    unfold foverG at h
    injection h with h
    rw [← h]; exact hs
  | t :: f, s, r, hs, h => by
    unfold foverG at h
    cases e1 : oneF t b with
    | error e => rw [e1] at h; cases h
    | ok q =>
      rw [e1] at h
      dsimp only at h
      cases e2 : sumF s q with
      | error e => rw [e2] at h; cases h
      | ok u =>
        rw [e2] at h
        dsimp only at h
        exact foverG_M f u r (sum_M e2) h
theorem fover_M {f : List Tm} {b : List Sp} {x : Sp} (h : foverF f b = .ok x) : M x.lo ∧ M x.hi := foverG_M f _ x ⟨by decide, by decide⟩ h
theorem Cf.keep {W W' : World} {b o : Nat} {v : Value} (h : Cf W b o v) {row : Option Nat} (hg : W.grownBy W' row) (hr : row ≠ some b) : Cf W' b o v := by
  have hb : b < W.heap.size := World.block_lt_of_cell? W _ h.1
  have hblk : W'.heap[b]? = W.heap[b]? := hg.block b hb (fun e => hr e.symm)
  exact ⟨(World.cell?_of_block (a := ⟨b, o, none⟩) hblk).trans h.1, (World.frozen?_of_block (a := ⟨b, o, none⟩) hblk).trans h.2⟩
end Go.Proofs.YtafhcppigpjcpaaDoor
