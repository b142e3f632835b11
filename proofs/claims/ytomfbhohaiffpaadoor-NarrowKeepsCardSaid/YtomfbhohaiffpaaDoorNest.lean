/- The contract of slices.Backward at ints: what it hands to the loop's body, the last one first. The walk of poly.Nested: a range over slices.Backward. -/
import Derived.Test.YtomfbhohaiffpaaDoorPower
import Derived.RangeFuncNested
import Derived.RangeFuncBound
import Derived.RangeFuncCalls
import Derived.RangeFuncLeaves
import Derived.Shelf.Abstract
import Derived.Shelf.RegionOpen
import Derived.OwnWalkIn
import Derived.TacticsInMore
import Derived.LoopNIn
import Derived.LoopIn
set_option linter.unusedVariables false
set_option linter.unusedSimpArgs false
namespace Go.Proofs.YtomfbhohaiffpaaDoor
open Go.RowKit Go.Shelf
attribute [local go_sem] Oper.semAt_some

/-- An index, and a number that may be. -/
abbrev Item := { x : Int × Int // M x.2 }
def encI (x : Item) : Array Value := #[.int .i64 x.1.1, .int .i64 x.1.2]
/-- What has come when those from r on are done: the last one first. -/
def down (it : Nat → Item) (m r : Nat) : List Item := (((List.range m).drop r).reverse).map it
theorem down_top (it : Nat → Item) (m : Nat) : down it m m = [] := by simp [down]
theorem down_step (it : Nat → Item) (m r : Nat) (h : r < m) : down it m r = down it m (r + 1) ++ [it r] := by
  unfold down
  rw [List.drop_eq_getElem_cons (by simpa using h)]
  simp
theorem down_len (it : Nat → Item) (m r : Nat) : (down it m r).length = m - r := by simp [down]

/-- What a round that goes on keeps: what lay below n0, and the box of the slice. -/
def KpB (n0 Bs : Nat) (W W' : World) : Prop := Below n0 W W' ∧ W'.heap[Bs]? = W.heap[Bs]?
theorem KpB.t {n0 Bs : Nat} {A B C : World} (h : KpB n0 Bs A B) (k : KpB n0 Bs B C) : KpB n0 Bs A C := ⟨h.1.trans k.1, k.2.trans h.2⟩
theorem putObj_other (W : World) (l k : Nat) (o' : Obj) (h : k ≠ l) : (W.putObj l o').heap[k]? = W.heap[k]? := by
  simp only [World.putObj]
  rw [Array.getElem?_setIfInBounds_ne (by omega)]
theorem KpB.b {n0 Bs : Nat} {w : World} (hn : n0 ≤ w.heap.size) (hBs : Bs < w.heap.size) (W : World) (l : Nat) (o o' : Obj) (hl : w.heap.size ≤ l) (h : W.heap[l]? = some o) (h1 : o.isCells = false) (h2 : o.isWalk = false) : KpB n0 Bs W (W.putObj l o') :=
  ⟨belowK_b (w := w) hn W l o o' hl h h1 h2, putObj_other W l Bs o' (by omega)⟩

end Go.Proofs.YtomfbhohaiffpaaDoor

namespace Go.Proofs.YtomfbhohaiffpaaDoor
open Go.RowKit Go.Shelf
attribute [local go_sem] Oper.semAt_some

/-- One round of Horner's way, and some. -/
def hstep (x : Sp) (r : Except Nat Sp) (n : Int) : Except Nat Sp := match r with
  | .error e => .error e
  | .ok s => match prodF s x with
    | .error e => .error e
    | .ok t => sumF t ⟨n, n⟩
def hfold (x : Sp) (s : Sp) (l : List Item) : Except Nat Sp := l.foldl (fun r a => hstep x r a.1.2) (.ok s)
theorem hfold_snoc (x s : Sp) (l : List Item) (a : Item) : hfold x s (l ++ [a]) = hstep x (hfold x s l) a.1.2 := by simp [hfold, List.foldl_append]
theorem hstep_err (x : Sp) (e : Nat) (n : Int) : hstep x (.error e) n = .error e := rfl
theorem fits_M {s t : Sp} (h : fitsF s = .ok t) : M t.lo ∧ M t.hi := by
  unfold fitsF at h
  split at h
  · injection h with h; subst h; assumption
  · cases h
theorem sum_M {a b t : Sp} (h : sumF a b = .ok t) : M t.lo ∧ M t.hi := fits_M h
theorem rest_M {a b t : Sp} (h : restF a b = .ok t) : M t.lo ∧ M t.hi := fits_M h
theorem prod_M {a b t : Sp} (h : prodF a b = .ok t) : M t.lo ∧ M t.hi := fits_M h
theorem quo_M {a b t : Sp} (h : quoF a b = .ok t) : M t.lo ∧ M t.hi := by
  unfold quoF at h
  split at h
  · cases h
  · exact fits_M h
theorem hstep_M {x : Sp} {r : Except Nat Sp} {n : Int} {t : Sp} (h : hstep x r n = .ok t) : M t.lo ∧ M t.hi := by
  cases r with
  | error e => cases h
  | ok s =>
    simp only [hstep] at h
    split at h
    · cases h
    · exact sum_M h
/-- Horner's way from the last factor on. -/
theorem nested_snoc (x : Sp) (n : Int) : ∀ q : List Int, nestedF x (q ++ [n]) = q.reverse.foldl (hstep x) (.ok ⟨n, n⟩)
  | [] => rfl
  | a :: q => by
    have ih := nested_snoc x n q
    have hne : ∃ b l, q ++ [n] = b :: l := by cases q with
      | nil => exact ⟨n, [], rfl⟩
      | cons b q => exact ⟨b, q ++ [n], rfl⟩
    obtain ⟨b, l, hbl⟩ := hne
    show nestedF x (a :: (q ++ [n])) = _
    rw [List.reverse_cons, List.foldl_append, ← ih, hbl]
    show (match nestedF x (b :: l) with
      | .error e => .error e
      | .ok s => match prodF s x with
        | .error e => .error e
        | .ok t => sumF t ⟨a, a⟩) = hstep x (nestedF x (b :: l)) a
    rfl
theorem M_getD {p : List Int} (hp : ∀ n ∈ p, M n) (j : Nat) : M (p[j]?.getD 0) := by
  rcases Nat.lt_or_ge j p.length with h | h
  · rw [List.getElem?_eq_getElem h]
    exact hp _ (List.getElem_mem h)
  · rw [List.getElem?_eq_none h]
    exact ⟨by decide, by decide⟩
def itemOf (p : List Int) (hp : ∀ n ∈ p, M n) (j : Nat) : Item := ⟨((j : Int), p[j]?.getD 0), M_getD hp j⟩
theorem map_range_getD (p : List Int) : ∀ m, m ≤ p.length → (List.range m).map (fun j => p[j]?.getD 0) = p.take m
  | 0, _ => by simp
  | m + 1, h => by
    rw [List.range_succ, List.map_append, map_range_getD p m (by omega), take_snoc' p m (by omega)]
    rfl
theorem hfold_down (x s : Sp) (p : List Int) (hp : ∀ n ∈ p, M n) (m : Nat) (hm : m ≤ p.length) : hfold x s (down (itemOf p hp) m 0) = (p.take m).reverse.foldl (hstep x) (.ok s) := by
  unfold hfold down
  rw [List.drop_zero, List.foldl_map, ← map_range_getD p m hm, ← List.map_reverse, List.foldl_map]
  rfl
theorem nested_hfold (x : Sp) (p : List Int) (hp : ∀ n ∈ p, M n) (h0 : 0 < p.length) : nestedF x p = hfold x ⟨p[p.length - 1]?.getD 0, p[p.length - 1]?.getD 0⟩ (down (itemOf p hp) (p.length - 1) 0) := by
  rw [hfold_down x _ p hp _ (by omega), ← nested_snoc, ← take_snoc' p (p.length - 1) (by omega)]
  rw [show p.length - 1 + 1 = p.length by omega, List.take_length]

theorem hfold_M (x s : Sp) (hs : M s.lo ∧ M s.hi) (l : List Item) (t : Sp) (h : hfold x s l = .ok t) : M t.lo ∧ M t.hi := by
  have key : ∀ (l : List Item) (r : Except Nat Sp), (∀ t, r = .ok t → M t.lo ∧ M t.hi) → ∀ t, l.foldl (fun r a => hstep x r a.1.2) r = .ok t → M t.lo ∧ M t.hi := by
    intro l
    induction l with
    | nil => intro r hr t h; exact hr t h
    | cons a l ih => intro r hr t h; exact ih _ (fun t ht => hstep_M ht) t h
  exact key l (.ok s) (fun t ht => by injection ht with ht; subst ht; exact hs) t h
theorem hfold_err (x s : Sp) (l l' : List Item) (e : Nat) (h : hfold x s l = .error e) : hfold x s (l ++ l') = .error e := by
  have key : ∀ l' : List Item, l'.foldl (fun r a => hstep x r a.1.2) (.error e) = .error e := by
    intro l'
    induction l' with
    | nil => rfl
    | cons a l' ih => exact ih
  unfold hfold at *
  rw [List.foldl_append, h]
  exact key l'
theorem down_more (it : Nat → Item) (m : Nat) : ∀ r, r ≤ m → ∃ l', down it m 0 = down it m r ++ l'
  | 0, _ => ⟨[], by simp⟩
  | r + 1, h => by
    obtain ⟨l', hl⟩ := down_more it m r (by omega)
    exact ⟨it r :: l', by rw [hl, down_step it m r (by omega)]; simp⟩

/-- A cell of the call's own. -/
def Cf (W : World) (b o : Nat) (v : Value) : Prop := W.cell? ⟨b, o, none⟩ = some v ∧ W.frozen? ⟨b, o, none⟩ = false
theorem Cf.own {W W' : World} {b o : Nat} {v : Value} (h : Cf W b o v) {row : Option Nat} (hg : W.grownBy W' row) (hr : ∀ r, row = some r → ∃ o : Obj, W.heap[r]? = some o ∧ o.isCells = false) : Cf W' b o v :=
  ⟨cell_kept h.1 hg hr, (frozen_kept h.1 hg hr).trans h.2⟩
theorem Cf.up {W W' : World} {b o : Nat} {v : Value} (h : Cf W b o v) (hu : Up W W') : Cf W' b o v :=
  have hb : b < W.heap.size := World.block_lt_of_cell? W _ h.1
  ⟨(Below.cell hu (p := ⟨b, o, none⟩) hb).trans h.1, (Below.frozen hu (p := ⟨b, o, none⟩) hb).trans h.2⟩
theorem Cf.far {W : World} {b o b' o' : Nat} {v u : Value} (h : Cf W b o v) (hne : b ≠ b' ∨ o ≠ o') : Cf (W.setCell ⟨b', o', none⟩ u) b o v := by
  refine ⟨?_, by rw [World.frozen?_setCell]; exact h.2⟩
  rw [World.cell?_setCell_other]
  · exact h.1
  · intro e
    injection e with e1 e2
    rcases hne with h1 | h1
    · exact h1 e1.symm
    · exact h1 e2.symm
theorem Cf.put {W : World} {b o : Nat} {v : Value} (u : Value) (h : Cf W b o v) : Cf (W.setCell ⟨b, o, none⟩ u) b o u :=
  ⟨World.cell?_setCell_same W _ _ h.1, by rw [World.frozen?_setCell]; exact h.2⟩
theorem Cf.alloc {W : World} {b o : Nat} {v : Value} (h : Cf W b o v) (ob : Obj) : Cf (W.alloc ob) b o v := h.up ((Up.refl W).alloc ob)
theorem Cf.drew {W : World} {b o : Nat} {v : Value} (h : Cf W b o v) : Cf W.drew b o v := h
theorem Cf.putD {W : World} {b o : Nat} {v : Value} (h : Cf W b o v) {D : Nat} (hK : W.heap[D]? = some (.deferred (some []))) : Cf (W.putObj D (.deferred none)) b o v :=
  h.own (grownBy_putObj' W D (.deferred none)) (fun r e => by cases e; exact ⟨_, hK, rfl⟩)
theorem Up.putD {w W : World} (h : Up w W) {D : Nat} (hD : w.heap.size ≤ D) (hK : W.heap[D]? = some (.deferred (some []))) : Up w (W.putObj D (.deferred none)) :=
  Below.trans h (belowK_b (w := w) (Nat.le_refl _) W D _ _ hD hK rfl rfl)
theorem KeepsOthers.al {A B : World} (h : KeepsOthers A B) (o : Obj) : KeepsOthers A (B.alloc o) := h.trans (KeepsOthers.alloc B o)
theorem KeepsOthers.st {A B : World} (h : KeepsOthers A B) (a : Addr) (u : Value) : KeepsOthers A (B.setCell a u) := h.trans (KeepsOthers.setCell B a u)
theorem KeepsOthers.dr {A B : World} (h : KeepsOthers A B) : KeepsOthers A B.drew := h.trans (KeepsOthers.drew B)
theorem KeepsOthers.call {A B C : World} (h : KeepsOthers A B) (hu : Up B C) : KeepsOthers A C :=
  h.trans ⟨hu.le, fun k o hk _ => (hu.block k (Array.getElem?_eq_some_iff.1 hk).1).trans hk⟩
/-- Block Bs holds what it held. -/
structure Kb (Bs : Nat) (A B : World) : Prop where
  lt : Bs < A.heap.size
  size : A.heap.size ≤ B.heap.size
  same : B.heap[Bs]? = A.heap[Bs]?
theorem Kb.al {Bs : Nat} {A B : World} (h : Kb Bs A B) (o : Obj) : Kb Bs A (B.alloc o) := ⟨h.lt, by have := h.size; simp; omega, (Below.heap_alloc B o Bs (Nat.lt_of_lt_of_le h.lt h.size)).trans h.same⟩
theorem Kb.st {Bs : Nat} {A B : World} (h : Kb Bs A B) {a : Addr} (hne : Bs ≠ a.block) (u : Value) : Kb Bs A (B.setCell a u) := ⟨h.lt, by have := h.size; simpa using this, (Below.heap_setCell B a u Bs hne).trans h.same⟩
theorem Kb.call {Bs : Nat} {A B C : World} (h : Kb Bs A B) (hu : Up B C) : Kb Bs A C := ⟨h.lt, Nat.le_trans h.size hu.le, (hu.block Bs (Nat.lt_of_lt_of_le h.lt h.size)).trans h.same⟩
theorem Kb.dr {Bs : Nat} {A B : World} (h : Kb Bs A B) : Kb Bs A B.drew := ⟨h.lt, h.size, h.same⟩
theorem kpB_of {n0 Bs : Nat} {w W W' : World} (h : Below n0 w W) (h' : Below n0 w W') (k : Kb Bs W W') : KpB n0 Bs W W' :=
  ⟨⟨h'.os.trans h.os.symm, h'.tape.trans h.tape.symm, h'.output.trans h.output.symm, k.size, fun j hj => (h'.block j hj).trans (h.block j hj).symm⟩, k.same⟩
/-- What the loop's own cells hold between two rounds: the span, the result's place, the error's place, and what has been reckoned. -/
structure Inner (x s : Sp) (bx br be bo : Nat) (pre : List Item) (W : World) (t : Sp) : Prop where
  ok : hfold x s pre = .ok t
  x0 : Cf W bx 0 (.int .i64 x.lo)
  x1 : Cf W bx 1 (.int .i64 x.hi)
  r0 : Cf W br 0 (.int .i64 0)
  r1 : Cf W br 1 (.int .i64 0)
  e0 : Cf W be 0 .nilIface
  o0 : Cf W bo 0 (.int .i64 t.lo)
  o1 : Cf W bo 1 (.int .i64 t.hi)
  bs : bo + 1 < W.heap.size
structure Left (x s : Sp) (br be : Nat) (pre : List Item) (W : World) (e : Nat) : Prop where
  err : hfold x s pre = .error e
  r0 : Cf W br 0 (.int .i64 0)
  r1 : Cf W br 1 (.int .i64 0)
  e0 : Cf W be 0 (.iface 41 (.int .i64 e))

end Go.Proofs.YtomfbhohaiffpaaDoor
