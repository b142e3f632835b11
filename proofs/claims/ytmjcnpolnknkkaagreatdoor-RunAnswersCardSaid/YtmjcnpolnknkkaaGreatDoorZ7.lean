/- A range over a function whose iterator keeps what is left in a cell of its own: the law for a body that is never left early. Sessions: strings.Lines: what its iterator hands to the loop's body, line by line; a Builder is written to. Sessions: a text is answered, line by line. Sessions: Run. -/
import Derived.Test.YtmjcnpolnknkkaaGreatDoorPBase
import Derived.RangeFuncNested
import Derived.RangeFuncBound
import Derived.RangeFuncCalls
import Derived.RangeFuncLeaves
import Derived.Shelf.Abstract
import Derived.Shelf.RegionOpen
import Derived.OwnWalkIn
import Derived.TacticsInMore
import Derived.LoopNIn
import Derived.LoopIn
import Derived.Test.YtmjcnpolnknkkaaGreatDoorZ2
import Derived.Test.YtmjcnpolnknkkaaGreatDoorPNest
import Derived.Shelf.Strings.BuilderK
import Derived.BigRegion
import Derived.RegionTactic
import Derived.Test.YtmjcnpolnknkkaaGreatDoorZ6
set_option linter.unusedVariables false
set_option linter.unusedSimpArgs false
namespace Go.Proofs.YtmjcnpolnknkkaaGreatDoor
open Go.RowKit Go.Shelf

/-- I s: between two rounds, s being left; Md s x: x has been taken off, s being left. -/
theorem range_cell {σ α : Type} {F : Fence} {n : Nat} {P : Program} {g : Operand} {ps : Array Tmp} {assign body : Code} {Q : Exit → Act → World → Prop} {a : Act} {w : World}
    (hro : F.round = none) (h1 : 1 ≤ n) {gf : Nat} {lb : Array Value} (hg : a.eval g = .func (.func gf) #[] lb) (hFg : F.fn gf) (eg : ∀ args w, (callFunc gf args).run P w = .ok (.enter gf args) w)
    {encs : α → Array Value} (hps : ∀ x, (encs x).size = ps.size) (I : σ → World → Prop) (Md : α → σ → World → Prop) (s0 sE : σ)
    (hI : OwnFrom w.heap.size I) (hM : ∀ x, OwnFrom w.heap.size (Md x)) (h0 : I s0 w)
    (hseq : ∀ (l : Nat) (X : World → Prop) (W : World), (∀ A B, KeepsOthers A B → X A → X B) →
      (∀ s x W1, Md x s W1 → X W1 → YieldAt F (n - 1 - 1) P l (encs x) W1 fun e W' => e = .returned (.bool true) ∧ I s W' ∧ X W') →
      I s0 W → X W → CallsIn F (n - 1) P gf (#[.func (.yield l) #[] #[]] ++ lb) W fun e W' => (∃ v, e = .returned v) ∧ I sE W' ∧ X W')
    (a₁ : α → Act)
    (hassign : ∀ (l : Nat) (x : α) (W : World) (K : Act → World → Prop), K (a₁ x) W →
      assign.wpIn (F.inRound l) (n - 1 - 1) P (Exit.then K (fun _ _ _ => False)) { tmps := (ps.zip (encs x)).foldl (fun t (p, v) => t.setIfInBounds p v) a.tmps, defers := [] } W)
    (hbody : ∀ (l : Nat) (s : σ) (x : α) (W : World), Md x s W → body.wpIn (F.inRound l) (n - 1 - 1) P (fun e _ W' => e = .normal ∧ KeepsOthers W W' ∧ I s W') (a₁ x) W)
    (hdone : ∀ (D : Nat) (W : World), w.heap.size ≤ D → I sE W → W.heap[D]? = some (.deferred (some [])) → Q .normal { a with defers := { target := .collected D, args := #[] } :: a.defers } W) :
    (Code.rangeFunc g ps assign body).wpIn F n P Q a w := by
  refine wpIn_rangeFunc ?_
  intro fn hfn
  rw [hro]
  obtain ⟨rec, hrec⟩ : ∃ rec : LoopState → Option Code → Loop, rec = fun st pe => { state := st, pending := pe, fn, tmps := a.tmps, params := ps, assign, body, defers := w.heap.size } := ⟨_, rfl⟩
  obtain ⟨W1, hW1⟩ : ∃ W1, (w.alloc (.deferred (some []))).alloc (.loop (rec .ready none)) = W1 := ⟨_, rfl⟩
  have hL1 : W1.heap[w.heap.size + 1]? = some (.loop (rec .ready none)) := by
    have h := World.alloc_heap_new (w.alloc (.deferred (some []))) (.loop (rec .ready none))
    rw [World.size_alloc, hW1] at h
    exact h
  have hK1 : W1.heap[w.heap.size]? = some (.deferred (some [])) := by
    rw [← hW1]
    exact (Below.heap_alloc _ _ _ (by simp)).trans (World.alloc_heap_new w _)
  have hI1 : I s0 W1 := by rw [← hW1]; exact hI.alloc _ (hI.alloc _ h0)
  refine ⟨w.heap.size + 1, [{ target := .collected w.heap.size, args := #[] }], W1, { target := .fn (.func gf) lb, args := #[.func (.yield (w.heap.size + 1)) #[] #[]] }, W1, gf,
    #[.func (.yield (w.heap.size + 1)) #[] #[]] ++ lb, W1, ?_, ?_, ?_, ?_, fun _ => h1, ?_⟩
  · rw [← hW1, hrec]; exact run_enterLoop_outer _ _ _ _ _
  · simp only [resolve, hg]
    simp [go_sem]
  · intro f' hf'
    simp [Target.leads] at hf'
    subst hf'
    exact hFg
  · simp [invoke, go_sem, eg]
  · refine (hseq (w.heap.size + 1) (fun W => W.heap[w.heap.size + 1]? = some (.loop (rec .ready none)) ∧ W.heap[w.heap.size]? = some (.deferred (some []))) W1
      (fun A B hk h => ⟨hk.same _ _ h.1 rfl, hk.same _ _ h.2 rfl⟩) ?_ hI1 ⟨hL1, hK1⟩).mono ?_
    · rintro s x W hm ⟨hl, hk⟩
      have hlt : w.heap.size + 1 < W.heap.size := (Array.getElem?_eq_some_iff.1 hl).1
      have hy := run_yield (P := P) (args := encs x) hl (by rw [hrec]; exact hps x)
      rw [hrec] at hy
      refine ⟨fn, _, assign, body, hy, roundIn_of_wpIn hfn (hassign _ x W _ ⟨_, run_beginRound hl (by rw [hrec]), ?_⟩)⟩
      have hl2 : (W.putObj (w.heap.size + 1) (.loop { rec .ready none with state := .busy })).heap[w.heap.size + 1]? = some (.loop { rec .ready none with state := .busy }) := World.putObj_heap_same hlt
      have hk2 : (W.putObj (w.heap.size + 1) (.loop { rec .ready none with state := .busy })).heap[w.heap.size]? = some (.deferred (some [])) := (World.putObj_heap_other (by omega)).trans hk
      refine wpIn_mono (hbody _ s x _ ((hM x).putObj _ hm (by omega) hl rfl)) ?_
      rintro e a3 W3 ⟨rfl, hk3, hi3⟩
      have hl3 := hk3.same _ _ hl2 rfl
      have hend := run_endRound (P := P) none hl3
      rw [hrec] at hend
      refine ⟨_, _, hend, rfl, hI.putObj _ hi3 (by omega) hl3 rfl, ?_, ?_⟩
      · have h := World.putObj_heap_same (w := W3) (o := .loop (rec .ready none)) (Array.getElem?_eq_some_iff.1 hl3).1
        rw [hrec] at h ⊢
        exact h
      · exact (World.putObj_heap_other (by omega)).trans (hk3.same _ _ hk2 rfl)
    · rintro e W2 ⟨⟨v, rfl⟩, hi, hl, hk⟩
      have h := run_endLoop (P := P) hl (by rw [hrec]; simp)
      rw [hrec] at h
      exact ⟨none, _, h, hdone _ _ (Nat.le_refl _) (hI.putObj _ hi (by omega) hl rfl) ((World.putObj_heap_other (by omega)).trans hk)⟩
end Go.Proofs.YtmjcnpolnknkkaaGreatDoor

set_option linter.unusedVariables false
set_option linter.unusedSimpArgs false
namespace Go.Proofs.YtmjcnpolnknkkaaGreatDoor
open Go.RowKit Go.Shelf
attribute [local go_sem] Oper.semAt_some

set_option maxRecDepth 100000 in
set_option maxHeartbeats 1000000 in
theorem sib_any (x : ByteArray) (w : World) : Calls Tryz.prog 89 #[.string x, .int .u8 10] w fun e w' => e = .returned (.int .i64 (Lib.indexByte x.data.toList 10)) ∧ w' = w := by
  go_enter Tryz.func89, Tryz.ntmps89
  go_wp2_with (go_at_call 130; refine (Tryz.stringslite_IndexByte x 10 _).mono ?_; rintro e w' ⟨rfl, rfl⟩)
  go_ret
  exact ⟨rfl, rfl⟩
theorem lines_any (x : ByteArray) (w : World) : Calls Tryz.prog 49 #[.string x] w fun e w' => e = .returned (.func (.func 88) #[] #[.pointer (some ⟨w.heap.size, 0, none⟩)]) ∧ w.alloc (.cells #[.string x] 9) = w' := by
  go_enter Tryz.func49, Tryz.ntmps49
  go_wp2
  go_ret
  exact ⟨rfl, rfl⟩
theorem wstr_any (B b : Nat) (bs : List Value) (s : ByteArray) (w : World) (h : Lib.IsBuilderF 83 5 B b bs w) (hlen : bs.length + s.size ≤ 140737488355328) (hBw : B ≤ w.heap.size) :
    Calls Tryz.prog 50 #[.pointer (some ⟨b, 0, none⟩), .string s] w fun e w' => e = .returned (.tuple #[.int .i64 s.size, .nilIface]) ∧ (Lib.BuilderAtF 83 5 B b (.pointer (some ⟨b, 0, none⟩)) (bs ++ Lib.strCells s) w' ∧ Below B w w' ∧ Lib.OthersKept 5 (some b) w w') :=
  Any.Builder_WriteString_k { Tryz.lays156 with } Tryz.Builder_Extra_156 B b bs s w h hlen hBw
/-- x is the first line of x ++ s. -/
def LineOf (x s : List UInt8) : Prop := (∃ a, x = a ++ [10] ∧ ∀ y ∈ a, y ≠ 10) ∨ (s = [] ∧ x ≠ [] ∧ ∀ y ∈ x, y ≠ 10)
def bytesAt (W : World) (b : Nat) : Nat := match W.cell? ⟨b, 0, none⟩ with
  | some (.string s) => s.size
  | _ => 0
theorem bytesAt_eq {W : World} {b : Nat} {s : List UInt8} (h : W.cell? ⟨b, 0, none⟩ = some (.string ⟨s.toArray⟩)) : bytesAt W b = s.length := by
  unfold bytesAt; rw [h]; simp [ByteArray.size]
set_option maxRecDepth 100000 in
set_option maxHeartbeats 4000000 in
theorem lines1_in (l Bs : Nat) (I : List UInt8 → World → Prop) (Md : List UInt8 → List UInt8 → World → Prop) (X : World → Prop) (s0 : List UInt8) (hs0 : s0.length ≤ 1000000)
    (hIc : ∀ s W, I s W → Cf W Bs 0 (.string ⟨s.toArray⟩))
    (hM : ∀ x s W, I (x ++ s) W → LineOf x s → Md x s (W.setCell ⟨Bs, 0, none⟩ (.string ⟨s.toArray⟩)))
    (hD : ∀ x s W, Md x s W → Md x s W.drew)
    (hX : ∀ A B, KeepsOthers A B → X A → X B)
    (hY : ∀ s x W1, Md x s W1 → X W1 → YieldAt Fence.wide 4 Tryz.prog l #[.string ⟨x.toArray⟩] W1 fun e W' => e = .returned (.bool true) ∧ I s W' ∧ X W')
    (W : World) (h0 : I s0 W) (hX0 : X W) :
    CallsIn Fence.wide 5 Tryz.prog 88 #[.func (.yield l) #[] #[], .pointer (some ⟨Bs, 0, none⟩)] W fun e W' => (∃ v, e = .returned v) ∧ I [] W' ∧ X W' := by
  refine callsIn_of_wp Tryz.func88 rfl trivial ?_ rfl
  simp only [Tryz.ntmps88, List.size_toArray, List.length_cons, List.length_nil, Nat.reduceAdd, Nat.reduceSub, Array.replicate_succ, Array.replicate_zero, List.push_toArray, List.append_toArray, List.nil_append, List.cons_append]
  have HIc := hid hIc; have HM := hid hM
  clear hIc hM
  gi_wp2
  gi_loopw [3, 4] (fun _ _ wr => ∃ s : List UInt8, s.length ≤ 1000000 ∧ I s wr ∧ X wr) (fun _ _ wr => bytesAt wr Bs)
  case atStart => exact ⟨s0, hs0, h0, hX0⟩
  case round =>
    obtain ⟨s, hsl, hI, hXr⟩ := hrel
    obtain ⟨c0, f0⟩ := HIc.out s _ hI
    have hmea := bytesAt_eq c0
    by_cases hz : s.length = 0
    · obtain rfl : s = [] := List.length_eq_zero_iff.1 hz
      gi_wp2
      go_end0
      exact ⟨⟨_, rfl⟩, hI, hXr⟩
    · have hpos : decide ((0 : Int) < (s.length : Int)) = true := decide_eq_true (by omega)
      have hpos2 : (0 : Int) < (s.length : Int) := by omega
      rcases cut_cases 10 s with h | ⟨a, b, rfl, h⟩
      · have hix := hid (ixb_no h)
        have hL := hid (show LineOf s [] from .inr ⟨rfl, fun e => hz (by rw [e]; rfl), h⟩)
        have hMd := hid (HM.out s [] wr (by rw [List.append_nil]; exact hI) hL.out)
        have hXd : X (wr.setCell ⟨Bs, 0, none⟩ (.string ⟨([] : List UInt8).toArray⟩)) := hX _ _ (KeepsOthers.st (KeepsOthers.refl _) _ _) hXr
        obtain ⟨fn, tmps, assign, body, hy, hR⟩ := hY _ _ _ hMd.out hXd
        have hlt : bytesAt wr Bs = s.length := hmea
        clear h hz
        gi_wp2_with (first
                        | (refine ⟨trivial, ?_⟩; gi_at_call 89; refine (callsIn_wide.2 (sib_any _ _)).mono ?_; rintro e w1 ⟨rfl, rfl⟩; rw [hix.out]))
        refine hR.mono ?_
        rintro e W3 ⟨rfl, hI3, hX3⟩
        gi_wp2
        go_roundw
        case rel => exact ⟨[], by simp, hI3, hX3⟩
        case measure =>
          rw [hlt, bytesAt_eq (HIc.out _ _ hI3).1]
          simp
          omega
      · have hix := hid (ixb_yes b h)
        have hL := hid (show LineOf (a ++ [10]) b from .inl ⟨a, rfl, h⟩)
        have hMd := hid (HM.out (a ++ [10]) b wr (by rw [List.append_assoc]; exact hI) hL.out)
        have hXd : X (wr.setCell ⟨Bs, 0, none⟩ (.string ⟨b.toArray⟩)) := hX _ _ (KeepsOthers.st (KeepsOthers.refl _) _ _) hXr
        have hXe : X (wr.setCell ⟨Bs, 0, none⟩ (.string ⟨b.toArray⟩)).drew := hX _ _ (KeepsOthers.dr (KeepsOthers.refl _)) hXd
        obtain ⟨fn, tmps, assign, body, hy, hR⟩ := hY _ _ _ (hD _ _ _ hMd.out) hXe
        have hx1 := ba_ext (a ++ 10 :: b) (a.length + 1)
        have e0 : a ++ 10 :: b = (a ++ [10]) ++ b := by simp
        have e1 : (a ++ 10 :: b).take (a.length + 1) = a ++ [10] := by rw [e0, List.take_left' (by simp)]
        have e2 : (a ++ 10 :: b).drop (a.length + 1) = b := by rw [e0, List.drop_left' (by simp)]
        rw [e1] at hx1
        have hx2 : (⟨(a ++ 10 :: b).toArray⟩ : ByteArray).extract (a.length + 1) (a ++ 10 :: b).length = ⟨b.toArray⟩ := by
          rw [ba_ext2, e2, List.take_of_length_le (by simp; omega)]
        have hl : (a ++ 10 :: b).length = a.length + b.length + 1 := by simp; omega
        have HX1 := hid hx1; have HX2 := hid hx2
        have hlt : bytesAt wr Bs = a.length + b.length + 1 := hmea.trans hl
        have hn0 : decide ((0 : Int) ≤ (a.length : Int)) = true := decide_eq_true (by omega)
        have hb1 : (a.length : Int) + 1 ≤ ((a ++ 10 :: b).length : Int) := by omega
        have hb2 : a.length + 1 ≤ (a ++ 10 :: b).length := by omega
        have hb3 : (a.length : Int) ≤ 9223372036854775806 := by omega
        have hbl : b.length ≤ 1000000 := by omega
        rw [← hx1, ← hx2] at hy
        rw [← hx2] at hR
        clear h hz hx1 hx2 e0 e1 e2 hl hmea
        generalize hT : a ++ 10 :: b = T at *
        clear hT
        gi_wp2_with (first
                        | (refine ⟨trivial, ?_⟩; gi_at_call 89; refine (callsIn_wide.2 (sib_any _ _)).mono ?_; rintro e w1 ⟨rfl, rfl⟩; rw [hix.out]))
        gi_region
        all_goals gi_wp2
        all_goals
          refine hR.mono ?_
          rintro e W3 ⟨rfl, hI3, hX3⟩
          gi_wp2
          go_roundw
          case rel => exact ⟨b, hbl, hI3, hX3⟩
          case measure =>
            rw [hlt, bytesAt_eq (HIc.out _ _ hI3).1]
            omega
end Go.Proofs.YtmjcnpolnknkkaaGreatDoor

set_option linter.unusedVariables false
set_option linter.unusedSimpArgs false
namespace Go.Proofs.YtmjcnpolnknkkaaGreatDoor
open Go.RowKit Go.Shelf
attribute [local go_sem] Oper.semAt_some

theorem trim_a (a : List UInt8) : Lib.trimSuffix (a ++ [10]) [10] = a := by
  unfold Lib.trimSuffix Lib.hasSuffix
  simp
theorem trim_no {x : List UInt8} (h : ∀ y ∈ x, y ≠ 10) : Lib.trimSuffix x [10] = x := by
  unfold Lib.trimSuffix
  rw [if_neg]
  intro hs
  unfold Lib.hasSuffix at hs
  have h1 := List.isSuffixOf_iff_suffix.1 hs
  obtain ⟨z, hz⟩ := h1
  exact h 10 (by rw [← hz]; simp) rfl
theorem trim_len (x : List UInt8) : (Lib.trimSuffix x [10]).length ≤ x.length := by
  unfold Lib.trimSuffix
  split
  · rw [List.length_take]; omega
  · exact Nat.le_refl _
theorem line_step {x s : List UInt8} (h : LineOf x s) : sessF (x ++ s) = (answerF (Lib.trimSuffix x [10]) ++ [10]) ++ sessF s := by
  rcases h with ⟨a, rfl, h⟩ | ⟨rfl, h0, h⟩
  · rw [trim_a]
    have e : a ++ [10] ++ s = a ++ 10 :: s := by simp
    rw [e, sess_yes s h]
  · rw [trim_no h, List.append_nil, sess_no h h0, sess_nil, List.append_nil]
theorem cells_app (a b : List UInt8) : Lib.byteCells a ++ Lib.byteCells b = Lib.byteCells (a ++ b) := by simp [Lib.byteCells]
theorem str_cells2 (a b : List UInt8) : Lib.strCells ((⟨a.toArray⟩ : ByteArray) ++ ⟨b.toArray⟩) = Lib.byteCells (a ++ b) := by rw [ba_app]; rfl
abbrev IsB (b : Nat) (l : List UInt8) (W : World) : Prop := Lib.IsBuilderF 83 5 b b (Lib.byteCells l) W
theorem cells_kept {W W' : World} {row : Option Nat} (hg : W.grownBy W' row) (hr : ∀ r, row = some r → ∃ o : Obj, W.heap[r]? = some o ∧ o.isCells = false) {k : Nat} {c : Array Value} {T : TypeId} {fz : Nat × Nat} (h : W.heap[k]? = some (.cells c T fz)) : W'.heap[k]? = some (.cells c T fz) := by
  refine (hg.block k (Array.getElem?_eq_some_iff.1 h).1 fun e => ?_).trans h
  obtain ⟨o, ho, hc⟩ := hr k e.symm
  rw [h] at ho
  injection ho with ho
  subst ho
  cases hc
theorem bat_kept {T e : TypeId} {B b : Nat} {p : Value} {bs : List Value} {W W' : World} (h : Lib.BuilderAtF T e B b p bs W) (hk : ∀ k c t fz, W.heap[k]? = some (.cells c t fz) → (k = b ∨ t = e) → W'.heap[k]? = some (.cells c t fz)) : Lib.BuilderAtF T e B b p bs W' := by
  obtain ⟨hB, v, hb, ⟨hl, hv⟩, hne⟩ := h
  refine ⟨hB, v, hk _ _ _ _ hb (.inl rfl), ⟨hl, ?_⟩, hne⟩
  rcases hv with h | ⟨g, cap, cur, fz, h1, h2, h3, h4⟩
  · exact .inl h
  · exact .inr ⟨g, cap, cur, fz, h1, h2, hk _ _ _ _ h3 (.inr rfl), h4⟩
theorem isb_kept {b : Nat} {l : List UInt8} {W W' : World} (h : IsB b l W) (hk : ∀ k c t fz, W.heap[k]? = some (.cells c t fz) → (k = b ∨ t = 5) → W'.heap[k]? = some (.cells c t fz)) : IsB b l W' :=
  h.elim (fun x => .inl (bat_kept x hk)) (fun x => .inr (bat_kept x hk))
theorem isb_cells {b : Nat} {l : List UInt8} {W : World} (h : IsB b l W) : ∃ c, W.heap[b]? = some (.cells c 83 (0, 0)) := by
  rcases h with ⟨_, v, hb, _⟩ | ⟨_, v, hb, _⟩
  · exact ⟨_, hb⟩
  · exact ⟨_, hb⟩
/-- The cell that holds what is left of the text. -/
def HB (W : World) (b : Nat) (s : List UInt8) : Prop := W.heap[b]? = some (.cells #[.string ⟨s.toArray⟩] 9 (0, 0))
theorem HB.cf {W : World} {b : Nat} {s : List UInt8} (h : HB W b s) : Cf W b 0 (.string ⟨s.toArray⟩) := ⟨by rw [Lib.cell_of_heap h]; rfl, Lib.frozen_of_heap h 0⟩
theorem HB.set {W : World} {b : Nat} {s : List UInt8} (h : HB W b s) (s' : List UInt8) : HB (W.setCell ⟨b, 0, none⟩ (.string ⟨s'.toArray⟩)) b s' := by
  unfold HB
  rw [heap_setCell_same W b 0 _ _ _ h]
  rfl
theorem isb_set {b c : Nat} {l s : List UInt8} {W : World} (h : IsB b l W) (hc : HB W c s) (hne : c ≠ b) (u : Value) : IsB b l (W.setCell ⟨c, 0, none⟩ u) :=
  isb_kept h fun k cs t fz hk ht => by
    by_cases e : k = c
    · subst e
      unfold HB at hc
      rw [hc] at hk
      injection hk with hk
      injection hk with h1 h2 h3
      rcases ht with ht | ht
      · exact absurd ht hne
      · rw [← h2] at ht; exact absurd ht (by decide)
    · exact (Below.heap_setCell W ⟨c, 0, none⟩ u k e).trans hk
def Mt (w : World) (t : List UInt8) (b c : Nat) (s : List UInt8) (W : World) : Prop := HB W c s ∧ (∃ acc, acc ++ sessF s = sessF t ∧ IsB b acc W) ∧ s.length ≤ 3000 ∧ Below b w W
def Md (w : World) (t : List UInt8) (b c : Nat) (x s : List UInt8) (W : World) : Prop := HB W c s ∧ LineOf x s ∧ (∃ acc, acc ++ ((answerF (Lib.trimSuffix x [10]) ++ [10]) ++ sessF s) = sessF t ∧ IsB b acc W) ∧ x.length + s.length ≤ 3000 ∧ Below b w W
theorem Mt.own {w : World} {t : List UInt8} {b c B : Nat} (hb : b ≤ w.heap.size) (hB : b ≤ B) : OwnFrom B (Mt w t b c) := fun s W W' row h hg hr => by
  obtain ⟨h1, ⟨acc, h2, h3⟩, h4, h5⟩ := h
  have hk := fun k cs T fz (hk : W.heap[k]? = some (Obj.cells cs T fz)) => cells_kept hg (fun r e => (hr r e).2) hk
  exact ⟨hk _ _ _ _ h1, ⟨acc, h2, isb_kept h3 fun k cs T fz h _ => hk _ _ _ _ h⟩, h4, ownFrom_below (β := Unit) hb hB () W W' row h5 hg hr⟩
theorem Md.own {w : World} {t : List UInt8} {b c B : Nat} (hb : b ≤ w.heap.size) (hB : b ≤ B) (x : List UInt8) : OwnFrom B (Md w t b c x) := fun s W W' row h hg hr => by
  obtain ⟨h1, h0, ⟨acc, h2, h3⟩, h4, h5⟩ := h
  have hk := fun k cs T fz (hk : W.heap[k]? = some (Obj.cells cs T fz)) => cells_kept hg (fun r e => (hr r e).2) hk
  exact ⟨hk _ _ _ _ h1, h0, ⟨acc, h2, isb_kept h3 fun k cs T fz h _ => hk _ _ _ _ h⟩, h4, ownFrom_below (β := Unit) hb hB () W W' row h5 hg hr⟩
theorem Mt.off {w : World} {t : List UInt8} {b c : Nat} (hne : c ≠ b) (hbc : b ≤ c) {x s : List UInt8} {W : World} (h : Mt w t b c (x ++ s) W) (hL : LineOf x s) : Md w t b c x s (W.setCell ⟨c, 0, none⟩ (.string ⟨s.toArray⟩)) := by
  obtain ⟨h1, ⟨acc, h2, h3⟩, h4, h5⟩ := h
  exact ⟨h1.set s, hL, ⟨acc, by rw [← line_step hL]; exact h2, isb_set h3 h1 hne _⟩, by rw [List.length_append] at h4; exact h4, h5.setCell (p := ⟨c, 0, none⟩) hbc _⟩
theorem Md.drew {w : World} {t : List UInt8} {b c : Nat} {x s : List UInt8} {W : World} (h : Md w t b c x s W) : Md w t b c x s W.drew := by
  obtain ⟨h1, h0, ⟨acc, h2, h3⟩, h4, h5⟩ := h
  exact ⟨h1, h0, ⟨acc, h2, h3.elim (fun x => .inl x.drew) (fun x => .inr x.drew)⟩, h4, h5.drew⟩
/-- Behind an answer, and what it is written to. -/
theorem Md.wrote {w : World} {t : List UInt8} {b c : Nat} {x s acc : List UInt8} {W W4 W5 : World} {y : List UInt8} (hne : c ≠ b) (hb : b ≤ W.heap.size) (h1 : HB W c s) (h2 : acc ++ ((y ++ [10]) ++ sessF s) = sessF t) (hI : IsB b acc W) (h4 : x.length + s.length ≤ 3000) (h5 : Below b w W)
    (hu : Up W W4) (hA : Lib.BuilderAtF 83 5 b b (.pointer (some ⟨b, 0, none⟩)) (Lib.byteCells acc ++ Lib.byteCells (y ++ [10])) W5) (hBl : Below b W4 W5) (hO : Lib.OthersKept 5 (some b) W4 W5) :
    KeepsOthers W W5 ∧ Mt w t b c s W5 := by
  have k4 : ∀ k o, W.heap[k]? = some o → W4.heap[k]? = some o := fun k o hk => (hu.block k (Array.getElem?_eq_some_iff.1 hk).1).trans hk
  refine ⟨⟨Nat.le_trans hu.le hBl.size, fun k o hk ho => ?_⟩, ?_, ⟨acc ++ (y ++ [10]), ?_, .inr ?_⟩, by omega, ?_⟩
  · refine hO k o (k4 k o hk) (fun e => ?_) (fun cs fz e => by rw [e] at ho; cases ho)
    injection e with e
    subst e
    obtain ⟨cs, hcs⟩ := isb_cells hI
    rw [hcs] at hk
    injection hk with hk
    rw [← hk] at ho
    cases ho
  · refine hO c _ (k4 c _ h1) (fun e => by injection e with e; exact hne e) (fun cs fz e => ?_)
    injection e with e1 e2 e3
    exact absurd e2 (by decide)
  · rw [List.append_assoc]; exact h2
  · rw [← cells_app]; exact hA
  · exact (h5.trans (hu.mono hb)).trans hBl
end Go.Proofs.YtmjcnpolnknkkaaGreatDoor

set_option linter.unusedVariables false
set_option linter.unusedSimpArgs false
namespace Go.Proofs.YtmjcnpolnknkkaaGreatDoor
open Go.RowKit Go.Shelf
attribute [local go_sem] Oper.semAt_some
theorem isb_up {b : Nat} {l : List UInt8} {W W' : World} (h : IsB b l W) (hu : Up W W') : IsB b l W' :=
  isb_kept h fun k _ _ _ hk _ => (hu.block k (Array.getElem?_eq_some_iff.1 hk).1).trans hk

set_option maxRecDepth 100000 in
set_option maxHeartbeats 2000000 in
theorem run_long (t : List UInt8) (w : World) (h : 3000 < t.length) : Calls Tryz.prog 19 #[.string ⟨t.toArray⟩] w (RetX strV [116, 111, 111, 32, 108, 111, 110, 103, 10] w) := by
  have h1 : (3000 : Int) < (t.length : Int) := by omega
  go_enter Tryz.func19, Tryz.ntmps19
  go_wp2
  go_ret
  exact RetX.same (by (repeat (first | (with_reducible exact Up.refl _) | (with_reducible assumption) | (with_reducible refine Up.alloc ?_ _) | (with_reducible refine Up.drew ?_) | ((with_reducible refine Up.set ?_ ?_ _); rotate_left; focus (first | omega | (simp; done) | (simp; omega))) | (with_reducible refine Up.drewN ?_ _) | (with_reducible refine Up.call ?_ (by with_reducible assumption))))) rfl
set_option maxRecDepth 100000 in
set_option maxHeartbeats 4000000 in
theorem run_any (t : List UInt8) (w : World) (ht : t.length ≤ 3000) (hd : DoorR w) : Calls Tryz.prog 19 #[.string ⟨t.toArray⟩] w (RetX strV (sessF t) w) := by
  refine (callsIn_wide (n := 6)).1 ?_
  have h1 : ¬ (3000 : Int) < (t.length : Int) := by omega
  have HD := hid hd; have HT := hid ht
  have HLn := hid (sess_len ht)
  clear hd ht
  refine callsIn_of_wp_marks Tryz.func19 rfl trivial ?_ rfl
  simp only [Tryz.ntmps19, List.size_toArray, List.length_cons, List.length_nil, Nat.reduceAdd, Nat.reduceSub, Array.replicate_succ, Array.replicate_zero, List.push_toArray, List.append_toArray, List.nil_append, List.cons_append]
  gi_wp2_with (first
                        | (refine ⟨trivial, ?_⟩; gi_at_call 49; refine (callsIn_wide.2 (lines_any _ _)).mono ?_; rintro e w2 ⟨rfl, rfl⟩))
  have hu0 : Up w ((w.alloc (Obj.cells #[Value.pointer none, Value.slice none 0 0] 83)).alloc (Obj.cells #[Value.string { data := t.toArray }] 9)) := by (repeat (first | (with_reducible exact Up.refl _) | (with_reducible assumption) | (with_reducible refine Up.alloc ?_ _) | (with_reducible refine Up.drew ?_) | ((with_reducible refine Up.set ?_ ?_ _); rotate_left; focus (first | omega | (simp; done) | (simp; omega))) | (with_reducible refine Up.drewN ?_ _) | (with_reducible refine Up.call ?_ (by with_reducible assumption))))
  refine range_cell (F := Fence.wide) (n := 6) (σ := List UInt8) (α := List UInt8) rfl (by omega) (gf := 88) (lb := #[.pointer (some ⟨w.heap.size + 1, 0, none⟩)]) rfl trivial (enters_of Tryz.func88 (by kernel_rfl) rfl) (encs := fun x => #[.string ⟨x.toArray⟩]) (fun _ => rfl)
    (Mt w t w.heap.size (w.heap.size + 1)) (Md w t w.heap.size (w.heap.size + 1)) t [] (Mt.own (Nat.le_refl _) (by simp; omega)) (fun x => Md.own (Nat.le_refl _) (by simp; omega) x) ?h0 ?hseq
    (fun x => { tmps := #[Value.string { data := t.toArray }, undef, Value.string { data := #[] }, Value.pointer (some { block := w.heap.size, off := 0 }), Value.string { data := x.toArray }, Value.string { data := t.toArray }, Value.int IntKind.i64 (t.length : Int), Value.bool false, Value.string { data := t.toArray }, Value.func (Fn.func 88) #[] #[Value.pointer (some { block := w.heap.size + 1, off := 0 })], Value.string { data := x.toArray }, undef, undef, undef, undef, undef, undef], defers := [] }) ?assign ?body ?done
  case h0 =>
    refine ⟨?_, ⟨[], rfl, ?_⟩, HT.out, hu0⟩
    · unfold HB
      have h := World.alloc_heap_new (w.alloc (Obj.cells #[Value.pointer none, Value.slice none 0 0] 83)) (Obj.cells #[Value.string { data := t.toArray }] 9)
      rw [World.size_alloc] at h
      exact h
    · exact (Lib.IsBuilderF.of (Lib.fresh_isBuilder 83 5 w)).alloc _
  case hseq =>
    intro l X W hX hY h0 hX0
    exact lines1_in l (w.heap.size + 1) (Mt w t w.heap.size (w.heap.size + 1)) (Md w t w.heap.size (w.heap.size + 1)) X t (by have := HT.out; omega) (fun s W h => h.1.cf) (fun x s W h hL => h.off (by omega) (by omega) hL) (fun x s W h => h.drew) hX hY W h0 hX0
  case assign =>
    intro l x W K hK
    gi_wp2
    exact hK
  case body =>
    intro l s x W hm
    obtain ⟨h1, h0, ⟨acc, h2, hI⟩, h4, h5⟩ := hm
    have hW : Up w W := h5
    have hb : w.heap.size ≤ W.heap.size := hW.le
    have hacc : acc.length ≤ 7000000 := by
      have h := congrArg List.length h2
      have := HLn.out
      rw [List.length_append] at h
      omega
    have hsz : (⟨x.toArray⟩ : ByteArray).size ≤ 9223372036854775807 := by simp [ByteArray.size]; omega
    have htl := trim_len x
    have hn : 1 ≤ 4 := by omega
    have HTr := hid (fun W => show Calls Tryz.prog 52 #[.string ⟨x.toArray⟩, .string ⟨#[10]⟩] W fun e w' => e = .returned (.string ⟨(Lib.trimSuffix x [10]).toArray⟩) ∧ w' = W from Tryz.strings_TrimSuffix ⟨x.toArray⟩ ⟨#[10]⟩ W hsz)
    have hal := answer_len (Lib.trimSuffix x [10])
    have HAn := hid (fun W (hu : Up w W) => answer_any (Lib.trimSuffix x [10]) W (by omega) (HD.out.up hu))
    have H1 := hid h1; have H2 := hid h2; have HI := hid hI; have H4 := hid h4
    clear h0 h1 h2 hI h4 hsz htl
    generalize Lib.trimSuffix x [10] = y0 at *
    generalize answerF y0 = y at *
    have q1 : ¬ 9223372036854775807 < y.length + 1 := by omega
    have HLE := hid (show (Lib.byteCells acc).length + ((⟨y.toArray⟩ : ByteArray) ++ ⟨#[10]⟩).size ≤ 140737488355328 by
      rw [Lib.byteCells_length, show ((⟨y.toArray⟩ : ByteArray) ++ ⟨#[10]⟩) = ⟨(y ++ [10]).toArray⟩ from ba_app y [10]]
      simp [ByteArray.size]
      omega)
    have HWS := hid (fun W (hI4 : IsB w.heap.size acc W) (hB4 : w.heap.size ≤ W.heap.size) => show Calls Tryz.prog 50 #[.pointer (some ⟨w.heap.size, 0, none⟩), .string ((⟨y.toArray⟩ : ByteArray) ++ (⟨#[10]⟩ : ByteArray))] W fun e w' => ∃ v, e = .returned v ∧ Lib.BuilderAtF 83 5 w.heap.size w.heap.size (.pointer (some ⟨w.heap.size, 0, none⟩)) (Lib.byteCells acc ++ Lib.byteCells (y ++ [10])) w' ∧ Below w.heap.size W w' ∧ Lib.OthersKept 5 (some w.heap.size) W w' from
      (wstr_any w.heap.size w.heap.size (Lib.byteCells acc) ((⟨y.toArray⟩ : ByteArray) ++ (⟨#[10]⟩ : ByteArray)) W hI4 HLE.out hB4).mono fun e w' ⟨he, hA, hBl, hO⟩ => ⟨_, he, by rw [← str_cells2 y [10]]; exact hA, hBl, hO⟩)
    gi_wp2_with (first
                        | (refine ⟨trivial, ?_⟩; gi_at_call 52; refine (CallsIn.inRound l (callsIn_wide.2 (HTr.out _))).mono ?_; rintro e w3 ⟨rfl, rfl⟩)
                        | (refine ⟨trivial, ?_⟩; gi_at_call 51; refine (CallsIn.inRound l (callsIn_wide.2 (HAn.out _ hW))).mono ?_; rintro e w4 ⟨x4, rfl, rfl, hb4⟩)
                        | (refine ⟨trivial, ?_⟩; gi_at_call 50; refine (CallsIn.inRound l (callsIn_wide.2 (HWS.out _ (isb_up HI.out hb4) (Nat.le_trans hb hb4.le)))).mono ?_; rintro e w5 ⟨v5, rfl, hA, hBl, hO⟩))
    exact Md.wrote (by omega) hb H1.out H2.out HI.out H4.out h5 hb4 hA hBl hO
  case done =>
    intro D W hDw hm hK
    obtain ⟨-, ⟨acc, h2, hI⟩, -, h5⟩ := hm
    have hW : Up w W := h5
    have hacc : sessF t = acc := by
      rw [sess_nil, List.append_nil] at h2
      exact h2.symm
    have HA := hid hacc; have HI := hid hI
    have hDb : w.heap.size ≤ D := by simp at hDw; omega
    clear h2 hI hacc
    gi_wp2_with (first
                        | (refine ⟨trivial, ?_⟩; gi_at_call 53; refine (callsIn_wide.2 (Tryz.Builder_String_any_k w.heap.size w.heap.size acc _ HI.out hW.le)).mono ?_; rintro e w6 ⟨rfl, hI6, hb6, hO6⟩))
    have hU6 : Up w w6 := Below.trans hW hb6
    have hK6 : w6.heap[D]? = some (.deferred (some [])) := hO6 D _ hK (fun e => by
      injection e with e
      subst e
      obtain ⟨cs, hcs⟩ := isb_cells HI.out
      rw [hK] at hcs
      cases hcs) (fun cs fz e => by cases e)
    refine ⟨by simp, .inl ⟨_, _, rfl, run_takeDeferred hK6, ?_⟩⟩
    exact ⟨_, results_tmp rfl _ _ _, RetX.mk acc (hU6.putD hDb hK6) HA.out rfl⟩
end Go.Proofs.YtmjcnpolnknkkaaGreatDoor
