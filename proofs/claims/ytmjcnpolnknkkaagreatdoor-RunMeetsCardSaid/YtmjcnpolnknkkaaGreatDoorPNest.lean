/- The contract of slices.Backward at ints: what it hands to the loop's body, the last one first. The walk of poly.Nested: a range over slices.Backward. -/
import Derived.Test.YtmjcnpolnknkkaaGreatDoorPPower
import Derived.RangeFuncNested
import Derived.RangeFuncBound
import Derived.RangeFuncCalls
import Derived.RangeFuncLeaves
import Derived.Shelf.Abstract
import Derived.Shelf.RegionOpen
import Derived.OwnWalkIn
import Derived.TacticsInMore
import Derived.LoopNIn
import Derived.LoopIn
set_option linter.unusedVariables false
set_option linter.unusedSimpArgs false
namespace Go.Proofs.YtmjcnpolnknkkaaGreatDoor
open Go.RowKit Go.Shelf
attribute [local go_sem] Oper.semAt_some

/-- An index, and a number that may be. -/
abbrev Item := { x : Int × Int // M x.2 }
def encI (x : Item) : Array Value := #[.int .i64 x.1.1, .int .i64 x.1.2]
/-- What has come when those from r on are done: the last one first. -/
def down (it : Nat → Item) (m r : Nat) : List Item := (((List.range m).drop r).reverse).map it
theorem down_top (it : Nat → Item) (m : Nat) : down it m m = [] := by simp [down]
theorem down_step (it : Nat → Item) (m r : Nat) (h : r < m) : down it m r = down it m (r + 1) ++ [it r] := by
  unfold down
  rw [List.drop_eq_getElem_cons (by simpa using h)]
  simp
theorem down_len (it : Nat → Item) (m r : Nat) : (down it m r).length = m - r := by simp [down]

/-- What a round that goes on keeps: what lay below n0, and the box of the slice. -/
def KpB (n0 Bs : Nat) (W W' : World) : Prop := Below n0 W W' ∧ W'.heap[Bs]? = W.heap[Bs]?
theorem KpB.t {n0 Bs : Nat} {A B C : World} (h : KpB n0 Bs A B) (k : KpB n0 Bs B C) : KpB n0 Bs A C := ⟨h.1.trans k.1, k.2.trans h.2⟩
theorem putObj_other (W : World) (l k : Nat) (o' : Obj) (h : k ≠ l) : (W.putObj l o').heap[k]? = W.heap[k]? := by
  simp only [World.putObj]
  rw [Array.getElem?_setIfInBounds_ne (by omega)]
theorem KpB.b {n0 Bs : Nat} {w : World} (hn : n0 ≤ w.heap.size) (hBs : Bs < w.heap.size) (W : World) (l : Nat) (o o' : Obj) (hl : w.heap.size ≤ l) (h : W.heap[l]? = some o) (h1 : o.isCells = false) (h2 : o.isWalk = false) : KpB n0 Bs W (W.putObj l o') :=
  ⟨belowK_b (w := w) hn W l o o' hl h h1 h2, putObj_other W l Bs o' (by omega)⟩

set_option maxRecDepth 100000 in
set_option maxHeartbeats 2000000 in
theorem back1_in (F : Fence) (n : Nat) (hf : F.fn 206) (hro : F.round = none) (hn : 1 ≤ n) (l Bs n0 b o m c : Nat) (p : List Int) (it : Nat → Item) (hit : ∀ j, (it j).1.1 = (j : Int) ∧ (it j).1.2 = p[j]?.getD 0) (hm : m ≤ 5) (hmc : m ≤ c) (hb : b < n0)
    (J Jx : List Item → World → Prop)
    (hY : ∀ pre x W, J pre W → pre.length < m → YieldAt F (n - 1) Tryz.prog l (encI x) W fun e W' =>
      (e = .returned (.bool true) ∧ J (pre ++ [x]) W' ∧ KpB n0 Bs W W') ∨ (e = .returned (.bool false) ∧ Jx (pre ++ [x]) W'))
    (W : World) (hBs : W.cell? ⟨Bs, 0, none⟩ = some (.slice (some ⟨b, o, none⟩) m c)) (hc : ∀ j, j < m → W.cell? ⟨b, o + j, none⟩ = some (.int .i64 (p[j]?.getD 0))) (h0 : J [] W) :
    CallsIn F n Tryz.prog 206 #[.func (.yield l) #[] #[], .pointer (some ⟨Bs, 0, none⟩)] W fun e W' => (∃ v, e = .returned v) ∧
      ((∃ ys, ys = down it m 0 ∧ J ys W') ∨ (∃ pre, (∃ r, r < m ∧ pre = down it m r) ∧ Jx pre W')) := by
  have Hc := hid hc; clear hc
  refine callsIn_of_wp Tryz.func206 rfl hf ?_ hro
  simp only [Tryz.ntmps206, List.size_toArray, List.length_cons, List.length_nil, Nat.reduceAdd, Nat.reduceSub, Array.replicate_succ, Array.replicate_zero, List.push_toArray, List.append_toArray, List.nil_append, List.cons_append]
  gi_wp2
  gi_loopw [3] (fun i wr => ∃ r : Nat, r ≤ m ∧ i = .int .i64 ((r : Int) - 1) ∧ J (down it m r) wr ∧ KpB n0 Bs W wr) (fun i _ => (intOf i + 1).toNat)
  case atStart => exact ⟨m, Nat.le_refl _, rfl, by rw [down_top]; exact h0, Below.refl _ _, rfl⟩
  case round =>
    obtain ⟨r, hr, rfl, hJs, hk⟩ := hrel
    have hBs' : wr.cell? ⟨Bs, 0, none⟩ = some (.slice (some ⟨b, o, none⟩) m c) := (World.cell?_of_block (w := W) (a := ⟨Bs, 0, none⟩) hk.2).trans hBs
    cases r with
    | zero =>
      gi_wp2
      go_end0
      exact ⟨⟨_, rfl⟩, .inl ⟨_, rfl, hJs⟩⟩
    | succ r =>
      have hcr : wr.cell? ⟨b, o + r, none⟩ = some (.int .i64 (p[r]?.getD 0)) := (hk.1.cell (p := ⟨b, o + r, none⟩) hb).trans (Hc.out r (by omega))
      obtain ⟨fn, tmps, assign, body, hy, hR⟩ := hY _ (it r) wr hJs (by rw [down_len]; omega)
      have hi1 := hit r
      simp only [encI, hi1.1, hi1.2] at hy
      have e1 : (((r + 1 : Nat) : Int) - 1) = (r : Int) := by omega
      rw [e1]
      have hdr : decide (0 ≤ (r : Int)) = true := by simp
      have hrm : (r : Int) < (m : Int) := by omega
      have hrm' : r < m := by omega
      have Hit := hid hit; have Hi1 := hid hi1
      clear hit hi1 e1
      gi_wp2
      refine hR.mono ?_
      rintro e W3 (⟨rfl, hJ3, hk3⟩ | ⟨rfl, hJx3⟩)
      · gi_wp2
        go_roundw
        case rel => exact ⟨r, by omega, rfl, by rw [down_step it m r (by omega)]; exact hJ3, hk.t hk3⟩
        case measure => simp [intOf]
      · gi_wp2
        refine bodyPost_ret (results_none rfl _ _ _) rfl ?_
        exact ⟨⟨_, rfl⟩, .inr ⟨_, ⟨r, by omega, (down_step it m r (by omega)).symm⟩, hJx3⟩⟩
theorem back_any (A : Option Addr) (m c : Nat) (w : World) :
    Calls Tryz.prog 185 #[.slice A m c] w fun e w' => e = .returned (.func (.func 206) #[] #[.pointer (some ⟨w.heap.size, 0, none⟩)]) ∧ w.alloc (.cells #[.slice A m c] 71) = w' := by
  go_enter Tryz.func185, Tryz.ntmps185
  go_wp2
  go_ret
  exact ⟨rfl, rfl⟩
theorem back_stops (F : Fence) (n : Nat) (hf : F.fn 206) (hro : F.round = none) (hn : 1 ≤ n) (Bs n0 b o m c : Nat) (p : List Int) (it : Nat → Item) (hit : ∀ j, (it j).1.1 = (j : Int) ∧ (it j).1.2 = p[j]?.getD 0) (hm : m ≤ 5) (hmc : m ≤ c) (hb : b < n0)
    (w : World) (hB : Bs < w.heap.size) (hn0 : n0 ≤ w.heap.size) (hBs : w.cell? ⟨Bs, 0, none⟩ = some (.slice (some ⟨b, o, none⟩) m c)) (hc : ∀ j, j < m → w.cell? ⟨b, o + j, none⟩ = some (.int .i64 (p[j]?.getD 0))) :
    SeqStopsK F n Tryz.prog 206 #[.pointer (some ⟨Bs, 0, none⟩)] encI (KpB n0 Bs) (fun ys => ys = down it m 0) (fun pre => ∃ r, r < m ∧ pre = down it m r) m w := fun l J Jx W hW _ _ hY h0 =>
  back1_in F n hf hro hn l Bs n0 b o m c p it hit hm hmc hb J Jx hY W ((hW.cell (p := ⟨Bs, 0, none⟩) hB).trans hBs) (fun j hj => (hW.cell (p := ⟨b, o + j, none⟩) (show b < w.heap.size by omega)).trans (hc j hj)) h0
end Go.Proofs.YtmjcnpolnknkkaaGreatDoor

namespace Go.Proofs.YtmjcnpolnknkkaaGreatDoor
open Go.RowKit Go.Shelf
attribute [local go_sem] Oper.semAt_some

/-- One round of Horner's way, and some. -/
def hstep (x : Sp) (r : Except Nat Sp) (n : Int) : Except Nat Sp := match r with
  | .error e => .error e
  | .ok s => match prodF s x with
    | .error e => .error e
    | .ok t => sumF t ⟨n, n⟩
def hfold (x : Sp) (s : Sp) (l : List Item) : Except Nat Sp := l.foldl (fun r a => hstep x r a.1.2) (.ok s)
theorem hfold_snoc (x s : Sp) (l : List Item) (a : Item) : hfold x s (l ++ [a]) = hstep x (hfold x s l) a.1.2 := by simp [hfold, List.foldl_append]
theorem fits_M {s t : Sp} (h : fitsF s = .ok t) : M t.lo ∧ M t.hi := by
  unfold fitsF at h
  split at h
  · injection h with h; subst h; assumption
  · cases h
theorem sum_M {a b t : Sp} (h : sumF a b = .ok t) : M t.lo ∧ M t.hi := fits_M h
theorem rest_M {a b t : Sp} (h : restF a b = .ok t) : M t.lo ∧ M t.hi := fits_M h
theorem prod_M {a b t : Sp} (h : prodF a b = .ok t) : M t.lo ∧ M t.hi := fits_M h
theorem quo_M {a b t : Sp} (h : quoF a b = .ok t) : M t.lo ∧ M t.hi := by
  unfold quoF at h
  split at h
  · cases h
  · exact fits_M h
theorem hstep_M {x : Sp} {r : Except Nat Sp} {n : Int} {t : Sp} (h : hstep x r n = .ok t) : M t.lo ∧ M t.hi := by
  cases r with
  | error e => cases h
  | ok s =>
    simp only [hstep] at h
    split at h
    · cases h
    · exact sum_M h
/-- Horner's way from the last factor on. -/
theorem nested_snoc (x : Sp) (n : Int) : ∀ q : List Int, nestedF x (q ++ [n]) = q.reverse.foldl (hstep x) (.ok ⟨n, n⟩)
  | [] => rfl
  | a :: q => by
    have ih := nested_snoc x n q
    have hne : ∃ b l, q ++ [n] = b :: l := by cases q with
      | nil => exact ⟨n, [], rfl⟩
      | cons b q => exact ⟨b, q ++ [n], rfl⟩
    obtain ⟨b, l, hbl⟩ := hne
    show nestedF x (a :: (q ++ [n])) = _
    rw [List.reverse_cons, List.foldl_append, ← ih, hbl]
    show (match nestedF x (b :: l) with
      | .error e => .error e
      | .ok s => match prodF s x with
        | .error e => .error e
        | .ok t => sumF t ⟨a, a⟩) = hstep x (nestedF x (b :: l)) a
    rfl
theorem M_getD {p : List Int} (hp : ∀ n ∈ p, M n) (j : Nat) : M (p[j]?.getD 0) := by
  rcases Nat.lt_or_ge j p.length with h | h
  · rw [List.getElem?_eq_getElem h]
    exact hp _ (List.getElem_mem h)
  · rw [List.getElem?_eq_none h]
    exact ⟨by decide, by decide⟩
def itemOf (p : List Int) (hp : ∀ n ∈ p, M n) (j : Nat) : Item := ⟨((j : Int), p[j]?.getD 0), M_getD hp j⟩
theorem map_range_getD (p : List Int) : ∀ m, m ≤ p.length → (List.range m).map (fun j => p[j]?.getD 0) = p.take m
  | 0, _ => by simp
  | m + 1, h => by
    rw [List.range_succ, List.map_append, map_range_getD p m (by omega), take_snoc' p m (by omega)]
    rfl
theorem hfold_down (x s : Sp) (p : List Int) (hp : ∀ n ∈ p, M n) (m : Nat) (hm : m ≤ p.length) : hfold x s (down (itemOf p hp) m 0) = (p.take m).reverse.foldl (hstep x) (.ok s) := by
  unfold hfold down
  rw [List.drop_zero, List.foldl_map, ← map_range_getD p m hm, ← List.map_reverse, List.foldl_map]
  rfl
theorem nested_hfold (x : Sp) (p : List Int) (hp : ∀ n ∈ p, M n) (h0 : 0 < p.length) : nestedF x p = hfold x ⟨p[p.length - 1]?.getD 0, p[p.length - 1]?.getD 0⟩ (down (itemOf p hp) (p.length - 1) 0) := by
  rw [hfold_down x _ p hp _ (by omega), ← nested_snoc, ← take_snoc' p (p.length - 1) (by omega)]
  rw [show p.length - 1 + 1 = p.length by omega, List.take_length]

theorem hfold_M (x s : Sp) (hs : M s.lo ∧ M s.hi) (l : List Item) (t : Sp) (h : hfold x s l = .ok t) : M t.lo ∧ M t.hi := by
  have key : ∀ (l : List Item) (r : Except Nat Sp), (∀ t, r = .ok t → M t.lo ∧ M t.hi) → ∀ t, l.foldl (fun r a => hstep x r a.1.2) r = .ok t → M t.lo ∧ M t.hi := by
    intro l
    induction l with
    | nil => intro r hr t h; exact hr t h
    | cons a l ih => intro r hr t h; exact ih _ (fun t ht => hstep_M ht) t h
  exact key l (.ok s) (fun t ht => by injection ht with ht; subst ht; exact hs) t h
theorem hfold_err (x s : Sp) (l l' : List Item) (e : Nat) (h : hfold x s l = .error e) : hfold x s (l ++ l') = .error e := by
  have key : ∀ l' : List Item, l'.foldl (fun r a => hstep x r a.1.2) (.error e) = .error e := by
    intro l'
    induction l' with
    | nil => rfl
    | cons a l' ih => exact ih
  unfold hfold at *
  rw [List.foldl_append, h]
  exact key l'
theorem down_more (it : Nat → Item) (m : Nat) : ∀ r, r ≤ m → ∃ l', down it m 0 = down it m r ++ l'
  | 0, _ => ⟨[], by simp⟩
  | r + 1, h => by
    obtain ⟨l', hl⟩ := down_more it m r (by omega)
    exact ⟨it r :: l', by rw [hl, down_step it m r (by omega)]; simp⟩

/-- A cell of the call's own. -/
def Cf (W : World) (b o : Nat) (v : Value) : Prop := W.cell? ⟨b, o, none⟩ = some v ∧ W.frozen? ⟨b, o, none⟩ = false
theorem Cf.own {W W' : World} {b o : Nat} {v : Value} (h : Cf W b o v) {row : Option Nat} (hg : W.grownBy W' row) (hr : ∀ r, row = some r → ∃ o : Obj, W.heap[r]? = some o ∧ o.isCells = false) : Cf W' b o v :=
  ⟨cell_kept h.1 hg hr, (frozen_kept h.1 hg hr).trans h.2⟩
theorem Cf.up {W W' : World} {b o : Nat} {v : Value} (h : Cf W b o v) (hu : Up W W') : Cf W' b o v :=
  have hb : b < W.heap.size := World.block_lt_of_cell? W _ h.1
  ⟨(Below.cell hu (p := ⟨b, o, none⟩) hb).trans h.1, (Below.frozen hu (p := ⟨b, o, none⟩) hb).trans h.2⟩
theorem Cf.far {W : World} {b o b' o' : Nat} {v u : Value} (h : Cf W b o v) (hne : b ≠ b' ∨ o ≠ o') : Cf (W.setCell ⟨b', o', none⟩ u) b o v := by
  refine ⟨?_, by rw [World.frozen?_setCell]; exact h.2⟩
  rw [World.cell?_setCell_other]
  · exact h.1
  · intro e
    injection e with e1 e2
    rcases hne with h1 | h1
    · exact h1 e1.symm
    · exact h1 e2.symm
theorem Cf.alloc {W : World} {b o : Nat} {v : Value} (h : Cf W b o v) (ob : Obj) : Cf (W.alloc ob) b o v := h.up ((Up.refl W).alloc ob)
theorem Cf.drew {W : World} {b o : Nat} {v : Value} (h : Cf W b o v) : Cf W.drew b o v := h
theorem Cf.putD {W : World} {b o : Nat} {v : Value} (h : Cf W b o v) {D : Nat} (hK : W.heap[D]? = some (.deferred (some []))) : Cf (W.putObj D (.deferred none)) b o v :=
  h.own (grownBy_putObj' W D (.deferred none)) (fun r e => by cases e; exact ⟨_, hK, rfl⟩)
theorem Up.putD {w W : World} (h : Up w W) {D : Nat} (hD : w.heap.size ≤ D) (hK : W.heap[D]? = some (.deferred (some []))) : Up w (W.putObj D (.deferred none)) :=
  Below.trans h (belowK_b (w := w) (Nat.le_refl _) W D _ _ hD hK rfl rfl)
theorem KeepsOthers.al {A B : World} (h : KeepsOthers A B) (o : Obj) : KeepsOthers A (B.alloc o) := h.trans (KeepsOthers.alloc B o)
theorem KeepsOthers.st {A B : World} (h : KeepsOthers A B) (a : Addr) (u : Value) : KeepsOthers A (B.setCell a u) := h.trans (KeepsOthers.setCell B a u)
theorem KeepsOthers.dr {A B : World} (h : KeepsOthers A B) : KeepsOthers A B.drew := h.trans (KeepsOthers.drew B)
theorem KeepsOthers.call {A B C : World} (h : KeepsOthers A B) (hu : Up B C) : KeepsOthers A C :=
  h.trans ⟨hu.le, fun k o hk _ => (hu.block k (Array.getElem?_eq_some_iff.1 hk).1).trans hk⟩
/-- Block Bs holds what it held. -/
structure Kb (Bs : Nat) (A B : World) : Prop where
  lt : Bs < A.heap.size
  size : A.heap.size ≤ B.heap.size
  same : B.heap[Bs]? = A.heap[Bs]?
theorem Kb.al {Bs : Nat} {A B : World} (h : Kb Bs A B) (o : Obj) : Kb Bs A (B.alloc o) := ⟨h.lt, by have := h.size; simp; omega, (Below.heap_alloc B o Bs (Nat.lt_of_lt_of_le h.lt h.size)).trans h.same⟩
theorem Kb.st {Bs : Nat} {A B : World} (h : Kb Bs A B) {a : Addr} (hne : Bs ≠ a.block) (u : Value) : Kb Bs A (B.setCell a u) := ⟨h.lt, by have := h.size; simpa using this, (Below.heap_setCell B a u Bs hne).trans h.same⟩
theorem Kb.call {Bs : Nat} {A B C : World} (h : Kb Bs A B) (hu : Up B C) : Kb Bs A C := ⟨h.lt, Nat.le_trans h.size hu.le, (hu.block Bs (Nat.lt_of_lt_of_le h.lt h.size)).trans h.same⟩
theorem Kb.dr {Bs : Nat} {A B : World} (h : Kb Bs A B) : Kb Bs A B.drew := ⟨h.lt, h.size, h.same⟩
theorem kpB_of {n0 Bs : Nat} {w W W' : World} (h : Below n0 w W) (h' : Below n0 w W') (k : Kb Bs W W') : KpB n0 Bs W W' :=
  ⟨⟨h'.os.trans h.os.symm, h'.tape.trans h.tape.symm, h'.output.trans h.output.symm, k.size, fun j hj => (h'.block j hj).trans (h.block j hj).symm⟩, k.same⟩
/-- What the loop's own cells hold between two rounds: the span, the result's place, the error's place, and what has been reckoned. -/
structure Inner (x s : Sp) (bx br be bo : Nat) (pre : List Item) (W : World) (t : Sp) : Prop where
  ok : hfold x s pre = .ok t
  x0 : Cf W bx 0 (.int .i64 x.lo)
  x1 : Cf W bx 1 (.int .i64 x.hi)
  r0 : Cf W br 0 (.int .i64 0)
  r1 : Cf W br 1 (.int .i64 0)
  e0 : Cf W be 0 .nilIface
  o0 : Cf W bo 0 (.int .i64 t.lo)
  o1 : Cf W bo 1 (.int .i64 t.hi)
  bs : bo + 1 < W.heap.size
structure Left (x s : Sp) (br be : Nat) (pre : List Item) (W : World) (e : Nat) : Prop where
  err : hfold x s pre = .error e
  r0 : Cf W br 0 (.int .i64 0)
  r1 : Cf W br 1 (.int .i64 0)
  e0 : Cf W be 0 (.iface 74 (.int .i64 e))

set_option maxRecDepth 100000 in
set_option maxHeartbeats 2000000 in
theorem nested_any (A : Option Addr) (p : List Int) (c : Nat) (lo hi : Int) (w : World) (h0 : 0 < p.length) (h5 : p.length ≤ 5) (hcap : p.length ≤ c) (hr : RdI w A p) (hp : ∀ n ∈ p, M n) (hx : Rt ⟨lo, hi⟩) :
    Calls Tryz.prog 144 #[.slice A p.length c, .agg #[.int .i64 lo, .int .i64 hi]] w (RetX spR (nestedF ⟨lo, hi⟩ p) w) := by
  rw [nested_hfold ⟨lo, hi⟩ p hp h0]
  refine (callsIn_wide (n := 6)).1 ?_
  obtain ⟨b, o, rfl, hb, hc⟩ := hr (by intro h; simp [h] at h0)
  have hlast := hc (p.length - 1) (by omega)
  have hlM : M (p[p.length - 1]?.getD 0) := M_getD hp _
  have e1 : ((p.length : Int) - 1).toNat = p.length - 1 := by omega
  have e2 : (p.length : Int) - 1 = ((p.length - 1 : Nat) : Int) := by omega
  have Hc := hid hc; have HlM := hid hlM; clear hc hlM
  have hb1 : b < w.heap.size + 1 := by omega
  have hb2 : b < w.heap.size + 1 + 1 := by omega
  generalize p[p.length - 1]?.getD 0 = last at *
  refine callsIn_of_wp_marks Tryz.func144 rfl trivial ?_ rfl
  simp only [Tryz.ntmps144, List.size_toArray, List.length_cons, List.length_nil, Nat.reduceAdd, Nat.reduceSub, Array.replicate_succ, Array.replicate_zero, List.push_toArray, List.append_toArray, List.nil_append, List.cons_append]
  gi_wp2_with (first
                        | (refine ⟨trivial, ?_⟩; gi_at_call 142; refine (callsIn_wide.2 (alone_any _ _)).mono ?_; rintro e w1 ⟨x, hx1, rfl, hu1⟩; subst hx1; obtain ⟨hc1, hf1⟩ := bcell hu1; obtain ⟨_, _, _⟩ : w.heap.size < w1.heap.size ∧ w.heap.size + 1 < w1.heap.size ∧ w.heap.size + 1 + 1 < w1.heap.size := (by have hle := Up.le hu1; first | omega | (simp at hle; omega) | (simp at hle; done)))
                        | (refine ⟨trivial, ?_⟩; gi_at_call 185; refine (callsIn_wide.2 (back_any _ _ _ _)).mono ?_; rintro e w2 ⟨rfl, rfl⟩))
  have hbM := Hid.out HlM
  have hu0 : Up w ((w1.alloc (Obj.cells #[Value.int IntKind.i64 last, Value.int IntKind.i64 last] 24)).alloc (Obj.cells #[Value.slice (some { block := b, off := o }) (p.length - 1) c] 71)) := by (repeat (first | (with_reducible exact Up.refl _) | (with_reducible assumption) | (with_reducible refine Up.alloc ?_ _) | (with_reducible refine Up.drew ?_) | ((with_reducible refine Up.set ?_ ?_ _); rotate_left; focus (first | omega | (simp; done) | (simp; omega))) | (with_reducible refine Up.drewN ?_ _) | (with_reducible refine Up.call ?_ (by with_reducible assumption))))
  refine wpIn_rangeFunc_ownF (F := Fence.wide) (α := Item) rfl (by omega) (gf := 206) (lb := #[.pointer (some ⟨w1.heap.size + 1, 0, none⟩)]) rfl trivial (enters_of Tryz.func206 (by kernel_rfl) rfl)
    (back_stops Fence.wide 5 trivial rfl (by omega) (w1.heap.size + 1) w.heap.size b o (p.length - 1) c p (itemOf p hp) (fun j => ⟨rfl, rfl⟩) (by omega) (by omega) hb _ (by simp) (by simp; omega) (by go_simp) (fun j hj => (Below.cell hu0 (p := ⟨b, o + j, none⟩) hb).trans (Hc.out j (by omega))))
    KpB.t (KpB.b (by simp; omega) (by simp)) (Below.refl _ _) (fun _ => rfl)
    (fun pre W => (∃ t, Inner ⟨lo, hi⟩ ⟨last, last⟩ w.heap.size (w.heap.size + 1) (w.heap.size + 1 + 1) w1.heap.size pre W t) ∧ Below w.heap.size w W)
    (fun cd pre W => (cd = .ret ∧ ∃ e, Left ⟨lo, hi⟩ ⟨last, last⟩ (w.heap.size + 1) (w.heap.size + 1 + 1) pre W e) ∧ Below w.heap.size w W)
    ?hI ?hIx ?h0
    (fun x => { tmps := #[Value.slice (some { block := b, off := o }) p.length c, Value.agg #[Value.int IntKind.i64 lo, Value.int IntKind.i64 hi], undef, Value.pointer (some { block := w.heap.size, off := 0 }), Value.pointer (some { block := w.heap.size + 1, off := 0 }), Value.pointer (some { block := w.heap.size + 1 + 1, off := 0 }), Value.pointer (some { block := w1.heap.size, off := 0 }), undef, .int .i64 x.1.2, undef, undef, Value.slice (some { block := b, off := o }) p.length c, Value.slice (some { block := b, off := o }) p.length c, Value.int IntKind.i64 ↑p.length, Value.int IntKind.i64 ↑(p.length - 1), Value.pointer (some { block := b, off := o + (p.length - 1) }), Value.int IntKind.i64 last, Value.agg #[Value.int IntKind.i64 last, Value.int IntKind.i64 last], Value.slice (some { block := b, off := o }) p.length c, Value.slice (some { block := b, off := o }) p.length c, Value.int IntKind.i64 ↑p.length, Value.int IntKind.i64 ↑(p.length - 1), Value.slice (some { block := b, off := o }) (p.length - 1) c, Value.func (Fn.func 206) #[] #[Value.pointer (some { block := w1.heap.size + 1, off := 0 })], .int .i64 x.1.1, .int .i64 x.1.2, undef, undef, undef, undef, undef, undef, undef, undef, undef, undef, undef, undef, undef, undef, undef, undef, undef, undef, undef, undef, undef, undef], defers := [] }) ?assign ?body ?done ?stop
  case hI =>
    exact OwnFrom.and (Own.from (fun pre A B row hs hg hr => by
      obtain ⟨t, h⟩ := hs
      exact ⟨t, h.ok, h.x0.own hg hr, h.x1.own hg hr, h.r0.own hg hr, h.r1.own hg hr, h.e0.own hg hr, h.o0.own hg hr, h.o1.own hg hr, Nat.lt_of_lt_of_le h.bs hg.size⟩) _) (ownFrom_below (Nat.le_refl _) hu0.le)
  case hIx =>
    exact fun cd => OwnFrom.and (Own.from (fun pre A B row hs hg hr => by
      obtain ⟨hcd, e, h⟩ := hs
      exact ⟨hcd, e, h.err, h.r0.own hg hr, h.r1.own hg hr, h.e0.own hg hr⟩) _) (ownFrom_below (Nat.le_refl _) hu0.le)
  case h0 =>
    refine ⟨⟨⟨last, last⟩, rfl, ⟨by go_simp, by go_simp⟩, ⟨by go_simp, by go_simp⟩, ⟨by go_simp, by go_simp⟩, ⟨by go_simp, by go_simp⟩, ⟨by go_simp, by go_simp⟩, ⟨by go_simp, by go_simp⟩, ⟨by go_simp, by go_simp⟩, by simp⟩, hu0⟩
  case assign =>
    intro l x W K hK
    simp only [encI]
    gi_wp2
    exact hK
  case body =>
    rintro l pre x W ⟨⟨t, hI⟩, hB⟩ _
    have hB' : Up w W := hB
    obtain ⟨hM1, hM2⟩ := hfold_M _ _ ⟨hbM, hbM⟩ pre t hI.ok
    have Hpr := hid (fun W => product_any t.lo t.hi lo hi W hM1 hM2 hx.1 hx.2.1)
    have Hok := hid hI.ok
    obtain ⟨c0, g0⟩ := hI.x0; obtain ⟨c1, g1⟩ := hI.x1; obtain ⟨c2, g2⟩ := hI.r0; obtain ⟨c3, g3⟩ := hI.r1; obtain ⟨c4, g4⟩ := hI.e0; obtain ⟨c5, g5⟩ := hI.o0; obtain ⟨c6, g6⟩ := hI.o1
    have l0 := World.block_lt_of_cell? W _ c0; have l1 := World.block_lt_of_cell? W _ c2; have l2 := World.block_lt_of_cell? W _ c4; have l3 := World.block_lt_of_cell? W _ c5
    dsimp only at l0 l1 l2 l3
    have hBs : w1.heap.size + 1 < W.heap.size := hI.bs
    have hn : 1 ≤ 4 := by omega
    clear hI hB
    gi_wp2_with (first
                        | ((refine ⟨trivial, ?_⟩; gi_at_call 186; refine (CallsIn.inRound l (callsIn_wide.2 (Hpr.out _))).mono ?_; rintro e w3 ⟨(n3|t3), hx3, rfl, hu3⟩) <;> (obtain ⟨hc3, hf3⟩ := bcell hu3; obtain ⟨_, _, _⟩ : w.heap.size < w3.heap.size ∧ w.heap.size + 1 < w3.heap.size ∧ w.heap.size + 1 + 1 < w3.heap.size := (by have hle := Up.le hu3; first | omega | (simp at hle; omega) | (simp at hle; done)); have _ : w1.heap.size < w3.heap.size := (by have hle := Up.le hu3; first | omega | (simp at hle; omega) | (simp at hle; done)))))
    · refine ⟨?_, ⟨rfl, n3, ⟨?_, ?_, ?_, ?_⟩⟩, ?_⟩
      · (repeat (first | (with_reducible exact KeepsOthers.refl _) | (with_reducible refine KeepsOthers.al ?_ _) | (with_reducible refine KeepsOthers.st ?_ _ _) | (with_reducible refine KeepsOthers.dr ?_) | (with_reducible refine KeepsOthers.call ?_ (by with_reducible assumption))))
      · rw [hfold_snoc, Hok.out]; simp only [hstep]; rw [hx3]
      · exact ⟨by go_simp, by go_simp⟩
      · exact ⟨by go_simp, by go_simp⟩
      · exact ⟨by go_simp, by go_simp⟩
      · show Up w _
        (repeat (first | (with_reducible exact Up.refl _) | (with_reducible assumption) | (with_reducible refine Up.alloc ?_ _) | (with_reducible refine Up.drew ?_) | ((with_reducible refine Up.set ?_ ?_ _); rotate_left; focus (first | omega | (simp; done) | (simp; omega))) | (with_reducible refine Up.drewN ?_ _) | (with_reducible refine Up.call ?_ (by with_reducible assumption))))
    · obtain ⟨hM3, hM4⟩ := prod_M hx3
      have Hsum := hid (fun W => sum_any t3.lo t3.hi x.1.2 x.1.2 W hM3 hM4 x.2 x.2)
      have Hx3 := hid hx3; clear hx3
      cases hs : sumF t3 ⟨x.1.2, x.1.2⟩ with
      | error n5 =>
        have Hs := hid hs; clear hs
        gi_region_with (first
                        | (refine ⟨trivial, ?_⟩; gi_at_call 142; refine (CallsIn.inRound l (callsIn_wide.2 (alone_any _ _))).mono ?_; rintro e w4 ⟨x4, hx4, rfl, hu4⟩; subst hx4; obtain ⟨hc4, hf4⟩ := bcell hu4; obtain ⟨_, _, _⟩ : w.heap.size < w4.heap.size ∧ w.heap.size + 1 < w4.heap.size ∧ w.heap.size + 1 + 1 < w4.heap.size := (by have hle := Up.le hu4; first | omega | (simp at hle; omega) | (simp at hle; done)); have _ : w1.heap.size < w4.heap.size := (by have hle := Up.le hu4; first | omega | (simp at hle; omega) | (simp at hle; done)); have _ : w3.heap.size < w4.heap.size := (by have hle := Up.le hu4; first | omega | (simp at hle; omega) | (simp at hle; done)))
                        | (refine ⟨trivial, ?_⟩; gi_at_call 105; refine (CallsIn.inRound l (callsIn_wide.2 (Hsum.out _))).mono ?_; rintro e w5 ⟨x5, hx5, rfl, hu5⟩; rw [Hs.out] at hx5; subst hx5; obtain ⟨hc5, hf5⟩ := bcell hu5; obtain ⟨_, _, _⟩ : w.heap.size < w5.heap.size ∧ w.heap.size + 1 < w5.heap.size ∧ w.heap.size + 1 + 1 < w5.heap.size := (by have hle := Up.le hu5; first | omega | (simp at hle; omega) | (simp at hle; done)); have _ : w1.heap.size < w5.heap.size := (by have hle := Up.le hu5; first | omega | (simp at hle; omega) | (simp at hle; done)); have _ : w3.heap.size < w5.heap.size := (by have hle := Up.le hu5; first | omega | (simp at hle; omega) | (simp at hle; done))))
        all_goals gi_wp2
        all_goals
          refine ⟨?_, ⟨rfl, n5, ⟨?_, ?_, ?_, ?_⟩⟩, ?_⟩
          · (repeat (first | (with_reducible exact KeepsOthers.refl _) | (with_reducible refine KeepsOthers.al ?_ _) | (with_reducible refine KeepsOthers.st ?_ _ _) | (with_reducible refine KeepsOthers.dr ?_) | (with_reducible refine KeepsOthers.call ?_ (by with_reducible assumption))))
          · rw [hfold_snoc, Hok.out]; simp only [hstep]; rw [Hx3.out]; exact Hs.out
          · exact ⟨by go_simp, by go_simp⟩
          · exact ⟨by go_simp, by go_simp⟩
          · exact ⟨by go_simp, by go_simp⟩
          · show Up w _
            (repeat (first | (with_reducible exact Up.refl _) | (with_reducible assumption) | (with_reducible refine Up.alloc ?_ _) | (with_reducible refine Up.drew ?_) | ((with_reducible refine Up.set ?_ ?_ _); rotate_left; focus (first | omega | (simp; done) | (simp; omega))) | (with_reducible refine Up.drewN ?_ _) | (with_reducible refine Up.call ?_ (by with_reducible assumption))))
      | ok t5 =>
        have Hs := hid hs; clear hs
        gi_region_with (first
                        | (refine ⟨trivial, ?_⟩; gi_at_call 142; refine (CallsIn.inRound l (callsIn_wide.2 (alone_any _ _))).mono ?_; rintro e w4 ⟨x4, hx4, rfl, hu4⟩; subst hx4; obtain ⟨hc4, hf4⟩ := bcell hu4; obtain ⟨_, _, _⟩ : w.heap.size < w4.heap.size ∧ w.heap.size + 1 < w4.heap.size ∧ w.heap.size + 1 + 1 < w4.heap.size := (by have hle := Up.le hu4; first | omega | (simp at hle; omega) | (simp at hle; done)); have _ : w1.heap.size < w4.heap.size := (by have hle := Up.le hu4; first | omega | (simp at hle; omega) | (simp at hle; done)); have _ : w3.heap.size < w4.heap.size := (by have hle := Up.le hu4; first | omega | (simp at hle; omega) | (simp at hle; done)))
                        | (refine ⟨trivial, ?_⟩; gi_at_call 105; refine (CallsIn.inRound l (callsIn_wide.2 (Hsum.out _))).mono ?_; rintro e w5 ⟨x5, hx5, rfl, hu5⟩; rw [Hs.out] at hx5; subst hx5; obtain ⟨hc5, hf5⟩ := bcell hu5; obtain ⟨_, _, _⟩ : w.heap.size < w5.heap.size ∧ w.heap.size + 1 < w5.heap.size ∧ w.heap.size + 1 + 1 < w5.heap.size := (by have hle := Up.le hu5; first | omega | (simp at hle; omega) | (simp at hle; done)); have _ : w1.heap.size < w5.heap.size := (by have hle := Up.le hu5; first | omega | (simp at hle; omega) | (simp at hle; done)); have _ : w3.heap.size < w5.heap.size := (by have hle := Up.le hu5; first | omega | (simp at hle; omega) | (simp at hle; done))))
        all_goals gi_wp2
        all_goals
          refine ⟨?_, ?_, ⟨t5, ⟨?_, ?_, ?_, ?_, ?_, ?_, ?_, ?_, ?_⟩⟩, ?_⟩
          · (repeat (first | (with_reducible exact KeepsOthers.refl _) | (with_reducible refine KeepsOthers.al ?_ _) | (with_reducible refine KeepsOthers.st ?_ _ _) | (with_reducible refine KeepsOthers.dr ?_) | (with_reducible refine KeepsOthers.call ?_ (by with_reducible assumption))))
          · refine kpB_of hB' ?_ ?_
            · show Up w _
              (repeat (first | (with_reducible exact Up.refl _) | (with_reducible assumption) | (with_reducible refine Up.alloc ?_ _) | (with_reducible refine Up.drew ?_) | ((with_reducible refine Up.set ?_ ?_ _); rotate_left; focus (first | omega | (simp; done) | (simp; omega))) | (with_reducible refine Up.drewN ?_ _) | (with_reducible refine Up.call ?_ (by with_reducible assumption))))
            · (repeat (first | (with_reducible exact ⟨hBs, Nat.le_refl _, rfl⟩) | (with_reducible refine Kb.al ?_ _) | ((with_reducible refine Kb.st ?_ ?_ _); rotate_left; focus (first | omega | (simp; done) | (simp; omega))) | (with_reducible refine Kb.dr ?_) | (with_reducible refine Kb.call ?_ (by with_reducible assumption))))
          · rw [hfold_snoc, Hok.out]; simp only [hstep]; rw [Hx3.out]; exact Hs.out
          · exact ⟨by go_simp, by go_simp⟩
          · exact ⟨by go_simp, by go_simp⟩
          · exact ⟨by go_simp, by go_simp⟩
          · exact ⟨by go_simp, by go_simp⟩
          · exact ⟨by go_simp, by go_simp⟩
          · exact ⟨by go_simp; exact World.cell?_setCell_same' _ _ _ (by go_simp), by go_simp⟩
          · exact ⟨by go_simp; exact World.cell?_setCell_same' _ _ _ (by go_simp), by go_simp⟩
          · simp; omega
          · show Up w _
            (repeat (first | (with_reducible exact Up.refl _) | (with_reducible assumption) | (with_reducible refine Up.alloc ?_ _) | (with_reducible refine Up.drew ?_) | ((with_reducible refine Up.set ?_ ?_ _); rotate_left; focus (first | omega | (simp; done) | (simp; omega))) | (with_reducible refine Up.drewN ?_ _) | (with_reducible refine Up.call ?_ (by with_reducible assumption))))
  case done =>
    rintro D ys W hD rfl ⟨⟨t, hI⟩, hB⟩ hK
    have hB' : Up w W := hB
    have Hok := hid hI.ok
    obtain ⟨c2, g2⟩ := hI.r0; obtain ⟨c3, g3⟩ := hI.r1; obtain ⟨c4, g4⟩ := hI.e0; obtain ⟨c5, g5⟩ := hI.o0; obtain ⟨c6, g6⟩ := hI.o1
    clear hI hB
    gi_wp2
    have hK' : (((W.setCell { block := w.heap.size + 1, off := 0 } (Value.int IntKind.i64 t.lo)).setCell { block := w.heap.size + 1, off := 1 } (Value.int IntKind.i64 t.hi)).setCell { block := w.heap.size + 1 + 1, off := 0 } Value.nilIface).heap[D]? = some (.deferred (some [])) := by
      refine KeepsOthers.same (W := W) ?_ D _ hK rfl
      (repeat (first | (with_reducible exact KeepsOthers.refl _) | (with_reducible refine KeepsOthers.al ?_ _) | (with_reducible refine KeepsOthers.st ?_ _ _) | (with_reducible refine KeepsOthers.dr ?_) | (with_reducible refine KeepsOthers.call ?_ (by with_reducible assumption))))
    have f1 : Cf (((W.setCell { block := w.heap.size + 1, off := 0 } (Value.int IntKind.i64 t.lo)).setCell { block := w.heap.size + 1, off := 1 } (Value.int IntKind.i64 t.hi)).setCell { block := w.heap.size + 1 + 1, off := 0 } Value.nilIface) (w.heap.size + 1) 0 (.int .i64 t.lo) := ⟨by go_simp, by go_simp⟩
    have f2 : Cf (((W.setCell { block := w.heap.size + 1, off := 0 } (Value.int IntKind.i64 t.lo)).setCell { block := w.heap.size + 1, off := 1 } (Value.int IntKind.i64 t.hi)).setCell { block := w.heap.size + 1 + 1, off := 0 } Value.nilIface) (w.heap.size + 1) 1 (.int .i64 t.hi) := ⟨by go_simp, by go_simp⟩
    have f3 : Cf (((W.setCell { block := w.heap.size + 1, off := 0 } (Value.int IntKind.i64 t.lo)).setCell { block := w.heap.size + 1, off := 1 } (Value.int IntKind.i64 t.hi)).setCell { block := w.heap.size + 1 + 1, off := 0 } Value.nilIface) (w.heap.size + 1 + 1) 0 .nilIface := ⟨by exact World.cell?_setCell_same' _ _ _ (by go_simp), by go_simp⟩
    have hU : Up w (((W.setCell { block := w.heap.size + 1, off := 0 } (Value.int IntKind.i64 t.lo)).setCell { block := w.heap.size + 1, off := 1 } (Value.int IntKind.i64 t.hi)).setCell { block := w.heap.size + 1 + 1, off := 0 } Value.nilIface) := by (repeat (first | (with_reducible exact Up.refl _) | (with_reducible assumption) | (with_reducible refine Up.alloc ?_ _) | (with_reducible refine Up.drew ?_) | ((with_reducible refine Up.set ?_ ?_ _); rotate_left; focus (first | omega | (simp; done) | (simp; omega))) | (with_reducible refine Up.drewN ?_ _) | (with_reducible refine Up.call ?_ (by with_reducible assumption))))
    have hD' : w.heap.size ≤ D := by have := hu0.le; omega
    refine ⟨by simp, .inl ⟨_, _, rfl, run_takeDeferred hK', ?_⟩⟩
    refine ⟨.tuple #[.agg #[.int .i64 t.lo, .int .i64 t.hi], .nilIface], ?_, RetX.mk (.ok t) (hU.putD hD' hK') Hok.out rfl⟩
    have p1 := (f1.putD hK').1; have p2 := (f2.putD hK').1; have p3 := (f3.putD hK').1
    simp [results, Tryz.f144, go_sem, p1, p2, p3]
  case stop =>
    rintro D cd pre W hD ⟨r, hr1, rfl⟩ ⟨⟨rfl, e, hL⟩, hB⟩ hK
    have hB' : Up w W := hB
    obtain ⟨c2, g2⟩ := hL.r0; obtain ⟨c3, g3⟩ := hL.r1; obtain ⟨c4, g4⟩ := hL.e0
    obtain ⟨l', hl'⟩ := down_more (itemOf p hp) (p.length - 1) r (by omega)
    have Herr := hid (show hfold ⟨lo, hi⟩ ⟨last, last⟩ (down (itemOf p hp) (p.length - 1) 0) = .error e by rw [hl']; exact hfold_err _ _ _ _ _ hL.err)
    clear hL hB hl'
    gi_wp2
    have hD' : w.heap.size ≤ D := by have := hu0.le; omega
    have f1 : Cf W (w.heap.size + 1) 0 (.int .i64 0) := ⟨c2, g2⟩
    have f2 : Cf W (w.heap.size + 1) 1 (.int .i64 0) := ⟨c3, g3⟩
    have f3 : Cf W (w.heap.size + 1 + 1) 0 (.iface 74 (.int .i64 e)) := ⟨c4, g4⟩
    refine ⟨by simp, .inl ⟨_, _, rfl, run_takeDeferred hK, ?_⟩⟩
    refine ⟨.tuple #[.agg #[.int .i64 0, .int .i64 0], .iface 74 (.int .i64 e)], ?_, RetX.mk (.error e) (hB'.putD hD' hK) Herr.out rfl⟩
    have p1 := (f1.putD hK).1; have p2 := (f2.putD hK).1; have p3 := (f3.putD hK).1
    simp [results, Tryz.f144, go_sem, p1, p2, p3]
end Go.Proofs.YtmjcnpolnknkkaaGreatDoor
