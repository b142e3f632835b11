/- slices.Clone of a row of spans; box.Widest, Halves, Halve. -/
import Derived.Test.YtopgjbjpmnlldaaDoorOwnS
import Derived.Test.YtopgjbjpmnlldaaDoorBoxd
import Derived.Test.YtopgjbjpmnlldaaDoorPower
import Derived.Test.YtopgjbjpmnlldaaDoorCenterb
import Derived.Test.YtopgjbjpmnlldaaDoorHas
import Derived.ArgAppend
import Derived.Laws.OwnMore
import Derived.Deep.Onto
import Derived.Lib.BufferMore
set_option linter.unusedVariables false
set_option linter.unusedSimpArgs false
namespace Go.Proofs.YtopgjbjpmnlldaaDoor
open Go.RowKit

theorem spans_cells {w : World} {b o : Nat} {l : List Sp} (h : ∀ k, k < l.length → w.cell? ⟨b, o + k * 2, none⟩ = some (.int .i64 (l[k]?.getD ⟨0, 0⟩).lo) ∧ w.cell? ⟨b, o + k * 2 + 1, none⟩ = some (.int .i64 (l[k]?.getD ⟨0, 0⟩).hi)) :
    ∀ j u, (spans l)[j]? = some u → w.cell? ((⟨b, o, none⟩ : Addr).add j) = some u := by
  intro j u hj
  have hlt : j < (spans l).length := (List.getElem?_eq_some_iff.1 hj).1
  rw [spans_len] at hlt
  have ea : (⟨b, o, none⟩ : Addr).add j = ⟨b, o + j, none⟩ := by unfold Addr.add; split <;> simp_all
  rw [ea]
  obtain ⟨k, hk, hjk⟩ : ∃ k, k < l.length ∧ (j = k * 2 ∨ j = k * 2 + 1) := ⟨j / 2, by omega, by omega⟩
  obtain ⟨h1, h2⟩ := h k hk
  obtain ⟨e1, e2⟩ := spans_at l k hk
  rcases hjk with rfl | rfl
  · rw [e1] at hj; injection hj with hj; rw [← hj]; exact h1
  · rw [e2] at hj; injection hj with hj; rw [← hj]; exact h2
theorem spans_one (l : List Sp) : ∀ u ∈ spans l, u.oneCell' = true := by
  intro u hu
  unfold spans at hu
  obtain ⟨s, -, hs⟩ := List.mem_flatMap.1 hu
  simp at hs
  rcases hs with rfl | rfl <;> rfl
/-- A row of the call's own, handed back. -/
def ownR (base : Nat) (w : World) (l : List Sp) (v : Value) : Prop := OwnS w base v l
set_option maxRecDepth 100000 in
set_option maxHeartbeats 1000000 in
theorem sclone_any (A : Option Addr) (l : List Sp) (c : Nat) (w : World) (hr : RdS w A l) (h0 : 0 < l.length) (hm : l.length ≤ 1000) :
    Calls Tryd.prog 42 #[.slice A l.length c] w (RetR (ownR w.heap.size) l w) := by
  obtain ⟨i0, hi0, hz0, hz1, hz2⟩ := info_parts Tryd.infoSpan
  obtain ⟨b, o, rfl, hb, hc⟩ := hr.at h0
  have Hc := hid hc; have Hm := hid hm; have H0 := hid h0; clear hc hr hm h0
  go_enter Tryd.func42, Tryd.ntmps42
  have hnil : ∀ w', (binOp .eql 35 (.slice (some ⟨b, o, none⟩) l.length c) (.slice none 0 0)).run Tryd.prog w' = .ok (.bool false) w' := fun w' => Go.Lib.run_eql_slice_some_nil w' _ _ _ Tryd.underlying35
  have hH := H0.out
  go_wp2_with (at_builtin; refine wpList_append_grows _ rfl (.tmp 5) (.tmp 6) _ rfl 23 i0 (.agg #[.int .i64 0, .int .i64 0]) 2 16 Tryd.underlying35 hi0 hz0 hz1 hz2 rfl (by decide) (some ⟨w.heap.size, 0, none⟩) 0 0 [] rfl (fun h => by cases h) rfl (fun _ _ j u h => by simp at h) ⟨b, o, none⟩ l.length c (spans l) rfl (spans_len l) (fun j u hj => ?_) (spans_one l) (by have := H0.out; omega) (by have := Hm.out; unfold maxLen; omega) (by have := Hm.out; omega) ?_; rotate_left; intro v8 w2 own8 g8)
  · have hown : OwnS w2 (w.heap.size + 1) v8 l := by unfold OwnS; simpa using own8
    have Hown := hid hown
    have hU : Up w w2 := Below.grown ((Up.refl w).alloc (Obj.cells #[] 23)) g8 (by simp) (fun j hj => by cases hj)
    clear own8 hown
    go_ret
    exact RetR.mk l hU rfl (rel := ownR w.heap.size) (World.ownsRow.mono Hown.out (Nat.le_succ _))
  · refine spans_cells (w := w.alloc _) (fun k hk => ?_) j u hj
    obtain ⟨h1, h2⟩ := Hc.out k hk
    have hl := ((Up.refl w).alloc (Obj.cells #[] 23))
    exact ⟨(Below.cell hl (p := ⟨b, o + k * 2, none⟩) hb).trans h1, (Below.cell hl (p := ⟨b, o + k * 2 + 1, none⟩) hb).trans h2⟩
theorem widestG_no {s : Sp} {l : List Sp} {i a : Nat} {v : Int} (h : ¬ v < widthF s) : widestG (s :: l) i a v = widestG l (i + 1) a v := by
  conv => lhs; unfold widestG
  rw [if_neg h]
theorem widestG_yes {s : Sp} {l : List Sp} {i a : Nat} {v : Int} (h : v < widthF s) : widestG (s :: l) i a v = widestG l (i + 1) i (widthF s) := by
  conv => lhs; unfold widestG
  rw [if_pos h]
theorem spans_set (l : List Sp) (i : Nat) (hi : i < l.length) (n : Int) :
    (spans l).set (i * 2) (.int .i64 n) = spans (l.set i ⟨n, (l[i]?.getD ⟨0, 0⟩).hi⟩) ∧ (spans l).set (i * 2 + 1) (.int .i64 n) = spans (l.set i ⟨(l[i]?.getD ⟨0, 0⟩).lo, n⟩) := by
  induction l generalizing i with
  | nil => simp at hi
  | cons s l ih =>
    match i with
    | 0 => exact ⟨rfl, rfl⟩
    | i + 1 =>
      have h := ih i (by simpa using hi)
      have e1 : (i + 1) * 2 = i * 2 + 1 + 1 := by omega
      rw [e1]
      simp only [spans, List.flatMap_cons, List.cons_append, List.nil_append, List.set_cons_succ, List.getElem?_cons_succ] at *
      exact ⟨by rw [h.1], by rw [h.2]⟩
theorem halvesF_eq (l : List Sp) : halvesF l = (l.set (widestF l) ⟨(l[widestF l]?.getD ⟨0, 0⟩).lo, halfF (l[widestF l]?.getD ⟨0, 0⟩)⟩, l.set (widestF l) ⟨halfF (l[widestF l]?.getD ⟨0, 0⟩), (l[widestF l]?.getD ⟨0, 0⟩).hi⟩) := rfl
/-- Two rows of the call's own. -/
def own2 (base : Nat) (w : World) (p : List Sp × List Sp) (v : Value) : Prop := ∃ v1 v2, v = .tuple #[v1, v2] ∧ OwnS w base v1 p.1 ∧ OwnS w base v2 p.2
end Go.Proofs.YtopgjbjpmnlldaaDoor
