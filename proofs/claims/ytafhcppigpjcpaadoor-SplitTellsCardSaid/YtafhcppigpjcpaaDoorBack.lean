/- The contract of slices.Backward at ints: what it hands to the loop's body, the last one first. -/
import Derived.Test.YtafhcppigpjcpaaDoorPoly
import Derived.RangeFuncNested
import Derived.RangeFuncBound
import Derived.RangeFuncCalls
import Derived.RangeFuncLeaves
import Derived.Shelf.Abstract
import Derived.Shelf.RegionOpen
import Derived.OwnWalkIn
import Derived.TacticsInMore
import Derived.LoopNIn
import Derived.LoopIn
set_option linter.unusedVariables false
set_option linter.unusedSimpArgs false
namespace Go.Proofs.YtafhcppigpjcpaaDoor
open Go.RowKit Go.Shelf
attribute [local go_sem] Oper.semAt_some

/-- An index, and a number that may be. -/
abbrev Item := { x : Int × Int // M x.2 }
def encI (x : Item) : Array Value := #[.int .i64 x.1.1, .int .i64 x.1.2]
/-- What has come when those from r on are done: the last one first. -/
def down (it : Nat → Item) (m r : Nat) : List Item := (((List.range m).drop r).reverse).map it
theorem down_top (it : Nat → Item) (m : Nat) : down it m m = [] := by simp [down]
theorem down_step (it : Nat → Item) (m r : Nat) (h : r < m) : down it m r = down it m (r + 1) ++ [it r] := by
  unfold down
  rw [List.drop_eq_getElem_cons (by simpa using h)]
  simp
theorem down_len (it : Nat → Item) (m r : Nat) : (down it m r).length = m - r := by simp [down]

/-- What a round that goes on keeps: what lay below n0, and the box of the slice. -/
def KpB (n0 Bs : Nat) (W W' : World) : Prop := Below n0 W W' ∧ W'.heap[Bs]? = W.heap[Bs]?
theorem KpB.t {n0 Bs : Nat} {A B C : World} (h : KpB n0 Bs A B) (k : KpB n0 Bs B C) : KpB n0 Bs A C := ⟨h.1.trans k.1, k.2.trans h.2⟩
theorem putObj_other (W : World) (l k : Nat) (o' : Obj) (h : k ≠ l) : (W.putObj l o').heap[k]? = W.heap[k]? := by
  simp only [World.putObj]
  rw [Array.getElem?_setIfInBounds_ne (by omega)]
theorem KpB.b {n0 Bs : Nat} {w : World} (hn : n0 ≤ w.heap.size) (hBs : Bs < w.heap.size) (W : World) (l : Nat) (o o' : Obj) (hl : w.heap.size ≤ l) (h : W.heap[l]? = some o) (h1 : o.isCells = false) (h2 : o.isWalk = false) : KpB n0 Bs W (W.putObj l o') :=
  ⟨belowK_b (w := w) hn W l o o' hl h h1 h2, putObj_other W l Bs o' (by omega)⟩

set_option maxRecDepth 100000 in
set_option maxHeartbeats 2000000 in
theorem back1_in (F : Fence) (n : Nat) (hf : F.fn 161) (hro : F.round = none) (hn : 1 ≤ n) (l Bs n0 b o m c : Nat) (p : List Int) (it : Nat → Item) (hit : ∀ j, (it j).1.1 = (j : Int) ∧ (it j).1.2 = p[j]?.getD 0) (hm : m ≤ 5) (hmc : m ≤ c) (hb : b < n0)
    (J Jx : List Item → World → Prop)
    (hY : ∀ pre x W, J pre W → pre.length < m → YieldAt F (n - 1) Tryd.prog l (encI x) W fun e W' =>
      (e = .returned (.bool true) ∧ J (pre ++ [x]) W' ∧ KpB n0 Bs W W') ∨ (e = .returned (.bool false) ∧ Jx (pre ++ [x]) W'))
    (W : World) (hBs : W.cell? ⟨Bs, 0, none⟩ = some (.slice (some ⟨b, o, none⟩) m c)) (hc : ∀ j, j < m → W.cell? ⟨b, o + j, none⟩ = some (.int .i64 (p[j]?.getD 0))) (h0 : J [] W) :
    CallsIn F n Tryd.prog 161 #[.func (.yield l) #[] #[], .pointer (some ⟨Bs, 0, none⟩)] W fun e W' => (∃ v, e = .returned v) ∧
      ((∃ ys, ys = down it m 0 ∧ J ys W') ∨ (∃ pre, (∃ r, r < m ∧ pre = down it m r) ∧ Jx pre W')) := by
  have Hc := hid hc; clear hc
  refine callsIn_of_wp Tryd.func161 rfl hf ?_ hro
  simp only [Tryd.ntmps161, List.size_toArray, List.length_cons, List.length_nil, Nat.reduceAdd, Nat.reduceSub, Array.replicate_succ, Array.replicate_zero, List.push_toArray, List.append_toArray, List.nil_append, List.cons_append]
  gi_wp2
  gi_loopw [3] (fun i wr => ∃ r : Nat, r ≤ m ∧ i = .int .i64 ((r : Int) - 1) ∧ J (down it m r) wr ∧ KpB n0 Bs W wr) (fun i _ => (intOf i + 1).toNat)
  case atStart => exact ⟨m, Nat.le_refl _, rfl, by rw [down_top]; exact h0, Below.refl _ _, rfl⟩
  case round =>
    obtain ⟨r, hr, rfl, hJs, hk⟩ := hrel
    have hBs' : wr.cell? ⟨Bs, 0, none⟩ = some (.slice (some ⟨b, o, none⟩) m c) := (World.cell?_of_block (w := W) (a := ⟨Bs, 0, none⟩) hk.2).trans hBs
    cases r with
    | zero =>
      gi_wp2
      go_end0
      exact ⟨⟨_, rfl⟩, .inl ⟨_, rfl, hJs⟩⟩
    | succ r =>
      have hcr : wr.cell? ⟨b, o + r, none⟩ = some (.int .i64 (p[r]?.getD 0)) := (hk.1.cell (p := ⟨b, o + r, none⟩) hb).trans (Hc.out r (by omega))
      obtain ⟨fn, tmps, assign, body, hy, hR⟩ := hY _ (it r) wr hJs (by rw [down_len]; omega)
      have hi1 := hit r
      simp only [encI, hi1.1, hi1.2] at hy
      have e1 : (((r + 1 : Nat) : Int) - 1) = (r : Int) := by omega
      rw [e1]
      have hdr : decide (0 ≤ (r : Int)) = true := by simp
      have hrm : (r : Int) < (m : Int) := by omega
      have hrm' : r < m := by omega
      have Hit := hid hit; have Hi1 := hid hi1
      clear hit hi1 e1
      gi_wp2
      refine hR.mono ?_
      rintro e W3 (⟨rfl, hJ3, hk3⟩ | ⟨rfl, hJx3⟩)
      · gi_wp2
        go_roundw
        case rel => exact ⟨r, by omega, rfl, by rw [down_step it m r (by omega)]; exact hJ3, hk.t hk3⟩
        case measure => simp [intOf]
      · gi_wp2
        refine bodyPost_ret (results_none rfl _ _ _) rfl ?_
        exact ⟨⟨_, rfl⟩, .inr ⟨_, ⟨r, by omega, (down_step it m r (by omega)).symm⟩, hJx3⟩⟩
theorem back_any (A : Option Addr) (m c : Nat) (w : World) :
    Calls Tryd.prog 144 #[.slice A m c] w fun e w' => e = .returned (.func (.func 161) #[] #[.pointer (some ⟨w.heap.size, 0, none⟩)]) ∧ w.alloc (.cells #[.slice A m c] 38) = w' := by
  go_enter Tryd.func144, Tryd.ntmps144
  go_wp2
  go_ret
  exact ⟨rfl, rfl⟩
theorem back_stops (F : Fence) (n : Nat) (hf : F.fn 161) (hro : F.round = none) (hn : 1 ≤ n) (Bs n0 b o m c : Nat) (p : List Int) (it : Nat → Item) (hit : ∀ j, (it j).1.1 = (j : Int) ∧ (it j).1.2 = p[j]?.getD 0) (hm : m ≤ 5) (hmc : m ≤ c) (hb : b < n0)
    (w : World) (hB : Bs < w.heap.size) (hn0 : n0 ≤ w.heap.size) (hBs : w.cell? ⟨Bs, 0, none⟩ = some (.slice (some ⟨b, o, none⟩) m c)) (hc : ∀ j, j < m → w.cell? ⟨b, o + j, none⟩ = some (.int .i64 (p[j]?.getD 0))) :
    SeqStopsK F n Tryd.prog 161 #[.pointer (some ⟨Bs, 0, none⟩)] encI (KpB n0 Bs) (fun ys => ys = down it m 0) (fun pre => ∃ r, r < m ∧ pre = down it m r) m w := fun l J Jx W hW _ _ hY h0 =>
  back1_in F n hf hro hn l Bs n0 b o m c p it hit hm hmc hb J Jx hY W ((hW.cell (p := ⟨Bs, 0, none⟩) hB).trans hBs) (fun j hj => (hW.cell (p := ⟨b, o + j, none⟩) (show b < w.heap.size by omega)).trans (hc j hj)) h0
end Go.Proofs.YtafhcppigpjcpaaDoor
