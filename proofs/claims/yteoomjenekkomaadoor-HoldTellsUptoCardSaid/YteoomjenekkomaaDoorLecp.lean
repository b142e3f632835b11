/- Plain laws of HoldTells: a box widened, and what the law's loop keeps. -/
import Derived.Test.YteoomjenekkomaaDoorLen
import Derived.Test.YteoomjenekkomaaDoorHoldb
import Derived.Test.YteoomjenekkomaaDoorRfb
import Derived.Test.YteoomjenekkomaaDoorRfbb

set_option linter.unusedVariables false
set_option linter.unusedSimpArgs false
namespace Go.Proofs.YteoomjenekkomaaDoor
open Go.ChangeShapes Go.WideShapes Go.ChangeAt Go.RowKit Go.Joins Go.Deep

def wdS (y : Int) (s : Sp) : Sp := ⟨s.lo - y, s.hi + y⟩
/-- The first j widened. -/
def wdL (y : Int) (L : List Sp) (j : Nat) : List Sp := (L.take j).map (wdS y) ++ L.drop j
def okS (y : Int) (s : Sp) : Bool := mayB (s.lo - y) && mayB (s.hi + y)
def okL (y : Int) (L : List Sp) (j : Nat) : Bool := (L.take j).all (okS y)
theorem wdL_len (y : Int) (L : List Sp) (j : Nat) : (wdL y L j).length = L.length := by unfold wdL; simp; omega
theorem wdL_at {y : Int} {L : List Sp} {j : Nat} (hj : j < L.length) : (wdL y L j)[j]?.getD ⟨0, 0⟩ = L[j]?.getD ⟨0, 0⟩ := by
  unfold wdL
  rw [List.getElem?_append_right (by simp; omega)]
  simp
  congr 2
  omega
theorem wdL_set {y : Int} {L : List Sp} {j : Nat} (hj : j < L.length) : (wdL y L j).set j (wdS y (L[j]?.getD ⟨0, 0⟩)) = wdL y L (j + 1) := by
  unfold wdL
  rw [List.set_append_right _ _ (by simp; omega)]
  rw [List.take_succ_eq_append_getElem hj, List.map_append, List.append_assoc]
  congr 1
  rw [List.getElem?_eq_getElem hj]
  have : j - (List.map (wdS y) (L.take j)).length = 0 := by simp; omega
  rw [this]
  simp only [Option.getD_some]
  rw [List.drop_eq_getElem_cons hj]
  rfl
theorem wdL_all (y : Int) (L : List Sp) : wdL y L L.length = L.map (wdS y) := by unfold wdL; simp
theorem okL_succ {y : Int} {L : List Sp} {j : Nat} (hj : j < L.length) : okL y L (j + 1) = (okL y L j && okS y (L[j]?.getD ⟨0, 0⟩)) := by
  unfold okL
  rw [List.take_succ_eq_append_getElem hj, List.all_append, List.getElem?_eq_getElem hj]
  simp
theorem okS_iff {y : Int} {s : Sp} (h0 : 0 ≤ y) (h : Rt s) : okS y s = true ↔ ¬ (s.lo - y < -1000000000 ∨ 1000000000 < s.hi + y) := by
  obtain ⟨⟨a1, a2⟩, ⟨a3, a4⟩, a5⟩ := h
  unfold okS
  rw [Bool.and_eq_true, mayB_true, mayB_true]
  unfold M
  omega
theorem wider_of {y : Int} (h0 : 0 ≤ y) : ∀ (L : List Sp), (∀ s ∈ L, Rt s) → (L.all (okS y) = true → widerF y L = .ok (L.map (wdS y))) ∧ (L.all (okS y) = false → widerF y L = .error 4)
  | [], _ => ⟨fun _ => rfl, fun h => by cases h⟩
  | s :: L, hL => by
    obtain ⟨i1, i2⟩ := wider_of h0 L (fun t ht => hL t (by simp [ht]))
    have hs := okS_iff h0 (hL s (by simp))
    unfold widerF
    cases ho : okS y s with
    | true =>
      rw [if_neg (hs.1 ho)]
      refine ⟨fun h => ?_, fun h => ?_⟩
      · simp [ho] at h
        rw [i1 (by simpa using h)]
        rfl
      · rw [i2 (by simpa [ho] using h)]
    | false =>
      have hn : s.lo - y < -1000000000 ∨ 1000000000 < s.hi + y := Classical.byContradiction fun hc => by rw [hs.2 hc] at ho; cases ho
      rw [if_pos hn]
      exact ⟨fun h => by simp [ho] at h, fun _ => rfl⟩
theorem growG_ready {s : Sy} {y : Int} {b : List Sp} {e : Nat} (h : ofF s b = .error e) : ∀ m, growG s y m b = .error e
  | 0 => by unfold growG isF; rw [h]
  | m + 1 => growG_bad1 h
theorem growG_stays {s : Sy} {y : Int} {b x : List Sp} (h : ofF s b = .ok x) (h2 : inF x b = true) : ∀ m, growG s y m b = .ok b
  | 0 => by unfold growG isF; rw [h]; dsimp only; rw [h2]
  | m + 1 => growG_in h h2
theorem growG_out {s : Sy} {y : Int} {b x : List Sp} (h : ofF s b = .ok x) (h2 : inF x b = false) : growG s y 0 b = .error 5 := by
  unfold growG isF; rw [h]; dsimp only; rw [h2]
theorem wider_bx {y : Int} {L : List Sp} (h0 : 0 ≤ y) (h : L.all (okS y) = true) (hL : ∀ s ∈ L, Rt s) (h1 : 0 < L.length) (h3 : L.length ≤ 3) : Bx (L.map (wdS y)) := by
  refine ⟨by rw [List.length_map]; exact h1, by rw [List.length_map]; exact h3, fun s hs => ?_⟩
  obtain ⟨t, ht, rfl⟩ := List.mem_map.1 hs
  have ho := List.all_eq_true.1 h t ht
  unfold okS at ho
  rw [Bool.and_eq_true, mayB_true, mayB_true] at ho
  obtain ⟨-, -, a5⟩ := hL t ht
  exact ⟨ho.1, ho.2, by show t.lo - y ≤ t.hi + y; omega⟩
theorem ready_ycheck {s : Sy} {b : List Sp} (h : readyF s b = none) : ycheckF s = none := by
  unfold readyF at h
  cases hy : ycheckF s with
  | some k => rw [hy] at h; cases h
  | none => rfl
theorem ownS_of {w : World} {base n : Nat} {v : Value} {l : List Sp} (hl : l.length = n) (h : w.ownsRow base 56 2 v n (spans l)) : OwnS w base v l := by subst hl; exact h
theorem ownS_to {w : World} {base n : Nat} {v : Value} {l : List Sp} (hl : l.length = n) (h : OwnS w base v l) : w.ownsRow base 56 2 v n (spans l) := by subst hl; exact h
/-- What the law's loop keeps: a fault, or the box that grows. -/
def HdSt (s : Sy) (y : Int) (b : List Sp) (m : Nat) (wr : World) (k : Nat) (ev cv : Value) : Prop :=
  (ev = .int .i64 4 ∧ growG s y m b = .error 4) ∨
  (∃ (c : List Sp) (Ac : Option Addr) (cc : Nat), ev = .int .i64 0 ∧ k ≤ m ∧ cv = .slice Ac c.length cc ∧ RdS wr Ac c ∧ Bx c ∧ c.length = s.next.length ∧ growG s y m b = growG s y (m - k) c)
end Go.Proofs.YteoomjenekkomaaDoor
