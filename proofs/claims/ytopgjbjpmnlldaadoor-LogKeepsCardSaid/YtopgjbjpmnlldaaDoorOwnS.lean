/- Slices of spans that a call itself makes by appending. Rows of slices that a call itself makes by appending. Slices of ints that a call itself makes by appending. -/
import Derived.Test.YtopgjbjpmnlldaaDoorBox
import Derived.Maps.AppendAt
import Derived.Deep.AppendLies
import Derived.Deep.RegionLaw
import Derived.Test.YtopgjbjpmnlldaaDoorBase
import Derived.Test.YtopgjbjpmnlldaaDoorSpan
import Derived.Laws.OwnMore
set_option linter.unusedVariables false
set_option linter.unusedSimpArgs false
namespace Go.Proofs.YtopgjbjpmnlldaaDoor
open Go.RowKit

theorem Tryd.infoSpan : (Tryd.prog.info? 23).map (fun i => (i.zero, i.size, i.bytes)) = some (some (.agg #[.int .i64 0, .int .i64 0]), 2, 16) := by kernel_rfl
def spans (l : List Sp) : List Value := l.flatMap fun s => [.int .i64 s.lo, .int .i64 s.hi]
theorem spans_snoc (l : List Sp) (lo hi : Int) : spans l ++ [.int .i64 lo, .int .i64 hi] = spans (l ++ [⟨lo, hi⟩]) := by simp [spans]
theorem spans_len (l : List Sp) : (spans l).length = l.length * 2 := by
  induction l with
  | nil => rfl
  | cons s l ih => simp only [spans, List.flatMap_cons, List.length_append, List.length_cons, List.length_nil] at *; omega
theorem spans_at (l : List Sp) : ∀ k, k < l.length → (spans l)[k * 2]? = some (.int .i64 (l[k]?.getD ⟨0, 0⟩).lo) ∧ (spans l)[k * 2 + 1]? = some (.int .i64 (l[k]?.getD ⟨0, 0⟩).hi) := by
  induction l with
  | nil => intro k hk; simp at hk
  | cons s l ih =>
    intro k hk
    match k with
    | 0 => exact ⟨rfl, rfl⟩
    | k + 1 =>
      have := ih k (by simpa using hk)
      have e1 : (k + 1) * 2 = k * 2 + 1 + 1 := by omega
      rw [e1]
      simp only [spans, List.flatMap_cons, List.cons_append, List.nil_append, List.getElem?_cons_succ] at *
      exact this
/-- The call's own row of spans. -/
def OwnS (w : World) (base : Nat) (v : Value) (l : List Sp) : Prop := w.ownsRow base 23 2 v l.length (spans l)
theorem OwnS.nil (w : World) (base : Nat) : OwnS w base (.slice none 0 0) [] := World.ownsRow_nil _ _ _ _
theorem grown_up {w w' : World} (h : Up w w') : w.grownBy w' none := ⟨h.os, h.tape, h.output, h.size, fun k hk _ => h.block k hk⟩
theorem OwnS.up {w w' : World} {base : Nat} {v : Value} {l : List Sp} (h : OwnS w base v l) (hu : Up w w') : OwnS w' base v l :=
  World.ownsRow.kept h (row := none) (grown_up hu) (by cases v.ownBlock <;> simp)
theorem OwnS.lt {w : World} {base : Nat} {v : Value} {l : List Sp} (h : OwnS w base v l) : ∀ k, v.ownBlock = some k → base ≤ k ∧ k < w.heap.size := World.ownsRow.lt h
theorem OwnS.set {w : World} {base : Nat} {v : Value} {l : List Sp} (h : OwnS w base v l) {a : Addr} (hne : v.ownBlock ≠ some a.block) (u : Value) : OwnS (w.setCell a u) base v l :=
  World.ownsRow.kept h (row := some a.block) ⟨rfl, rfl, rfl, by simp, fun k _ hk => Below.heap_setCell w a u k (fun e => hk (by rw [e]))⟩ (.inr hne)
theorem OwnS.snoc {w' : World} {base : Nat} {v' : Value} {l : List Sp} {lo hi : Int} (h : w'.ownsRow base 23 2 v' (l.length + 1) (spans l ++ [.int .i64 lo, .int .i64 hi])) : OwnS w' base v' (l ++ [⟨lo, hi⟩]) := by
  unfold OwnS
  rw [← spans_snoc]
  simpa using h
theorem OwnS.grown {w W w' : World} {v : Value} {l : List Sp} (hU : Up w W) (h : OwnS W w.heap.size v l) (hg : W.grownBy w' v.ownBlock) : Up w w' :=
  Below.grown hU hg hU.le (fun j hj => (World.ownsRow.lt h j hj).1)
/-- A slice of spans that a call hands back. -/
def slR (w : World) (l : List Sp) (v : Value) : Prop := ∃ A c, v = .slice A l.length c ∧ RdS w A l ∧ l.length ≤ c
theorem OwnS.rd {w : World} {base : Nat} {v : Value} {l : List Sp} (h : OwnS w base v l) : slR w l v := by
  have h0 := h
  rcases h.2 with ⟨hv, hn⟩ | ⟨g, cap, cur, hv, hb, hg, hle, hx⟩
  · have : l = [] := List.length_eq_zero_iff.1 hn
    subst this
    exact ⟨none, 0, hv, RdS.nil _ _, Nat.le_refl _⟩
  · refine ⟨_, cap, hv, fun hne => ⟨g, 0, rfl, (Array.getElem?_eq_some_iff.1 hg).1, fun k hk => ?_⟩, by omega⟩
    obtain ⟨e1, e2⟩ := spans_at l k hk
    have c1 := World.ownsRow.cells h0 (g := g) (by rw [hv]; rfl) (k * 2) _ e1
    have c2 := World.ownsRow.cells h0 (g := g) (by rw [hv]; rfl) (k * 2 + 1) _ e2
    have ea : ∀ j, (⟨g, 0, none⟩ : Addr).add j = ⟨g, 0 + j, none⟩ := fun j => by unfold Addr.add; split <;> simp_all
    rw [ea] at c1 c2
    exact ⟨c1, c2⟩
/-- .. in new memory. -/
def slN (base : Nat) (w : World) (l : List Sp) (v : Value) : Prop := ∃ A c, v = .slice A l.length c ∧ RdS w A l ∧ l.length ≤ c ∧ ∀ b o, A = some ⟨b, o, none⟩ → base ≤ b
theorem OwnS.rdN {w : World} {base : Nat} {v : Value} {l : List Sp} (h : OwnS w base v l) : slN base w l v := by
  obtain ⟨A, c, hv, h1, h2⟩ := h.rd
  refine ⟨A, c, hv, h1, h2, fun b o e => ?_⟩
  subst e
  exact (h.lt b (by rw [hv]; rfl)).1
theorem slR.up {w w' : World} {l : List Sp} {v : Value} (h : slR w l v) (hu : Up w w') : slR w' l v := by
  obtain ⟨A, c, rfl, hr, hc⟩ := h
  exact ⟨A, c, rfl, hr.up hu, hc⟩
/-- .. with an error. -/
def slE (w : World) : Except Nat (List Sp) → Value → Prop
  | .ok l, v => ∃ A c, v = .tuple #[.slice A l.length c, .nilIface] ∧ RdS w A l ∧ l.length ≤ c
  | .error n, v => v = .tuple #[.slice none 0 0, .iface 62 (.int .i64 n)]
theorem slE_ok {w : World} {l : List Sp} {v : Value} (h : slE w (.ok l) v) : ∃ A c, v = .tuple #[.slice A l.length c, .nilIface] ∧ RdS w A l ∧ l.length ≤ c := h
theorem slE_error {w : World} {n : Nat} {v : Value} (h : slE w (.error n) v) : v = .tuple #[.slice none 0 0, .iface 62 (.int .i64 n)] := h
theorem bbothF_len {a b : List Sp} (h : a.length = b.length) : (bbothF a b).length = a.length := by simp [bbothF, h]
theorem bbothF_take {a b : List Sp} {k : Nat} (h : a.length = b.length) (hk : k < a.length) : bbothF (a.take (k + 1)) (b.take (k + 1)) = bbothF (a.take k) (b.take k) ++ [bothF (a[k]?.getD ⟨0, 0⟩) (b[k]?.getD ⟨0, 0⟩)] := by
  unfold bbothF
  rw [List.take_succ_eq_append_getElem hk, List.take_succ_eq_append_getElem (show k < b.length by omega), List.zipWith_append (by simp; omega)]
  simp [List.getElem?_eq_getElem hk, List.getElem?_eq_getElem (show k < b.length by omega)]
set_option maxRecDepth 100000 in
set_option maxHeartbeats 1000000 in
theorem bboth_any (A B : Option Addr) (a b : List Sp) (c d : Nat) (w : World) (ha : RdS w A a) (hb : RdS w B b) (hl : a.length = b.length) (hm : a.length ≤ 1000) :
    Calls Tryd.prog 43 #[.slice A a.length c, .slice B b.length d] w (RetR slR (bbothF a b) w) := by
  obtain ⟨i0, hi0, hz0, hz1, hz2⟩ := info_parts Tryd.infoSpan
  have Ha := hid ha; have Hb := hid hb; have Hl := hid hl; clear ha hb
  have hl1 : a.length ≤ b.length := by omega
  have hl2 : b.length ≤ a.length := by omega
  clear hl
  go_enter Tryd.func43, Tryd.ntmps43
  go_wp2
  go_loopw [5, 10] (fun v i wr => ∃ (k : Nat) (L : List Sp), k ≤ a.length ∧ i = .int .i64 k ∧ Hid (L = bbothF (a.take k) (b.take k)) ∧ Hid (L.length = k) ∧ OwnS wr w.heap.size v L ∧ Up w wr) (fun _ i _ => a.length - (intOf i).toNat)
  case atStart => exact ⟨0, [], by omega, rfl, by show _ = _; simp [bbothF], rfl, OwnS.nil _ _, Up.refl _⟩
  case round =>
    obtain ⟨k, L, hk, rfl, H, HL, hown, hU⟩ := hrel
    have gr := (bcell hU).1
    by_cases hlt : k < a.length
    · obtain ⟨b1, o1, rfl, l1, c1⟩ := (Ha.out).at (by omega)
      obtain ⟨b2, o2, rfl, l2, c2⟩ := (Hb.out).at (by omega)
      obtain ⟨k1, k2⟩ := c1 k hlt
      obtain ⟨k3, k4⟩ := c2 k (by omega)
      have Hst := hid (bbothF_take Hl.out hlt)
      have HL4 := hid (show L.length ≤ 1000 by have := HL.out; omega)
      generalize a[k]?.getD ⟨0, 0⟩ = s at *
      generalize b[k]?.getD ⟨0, 0⟩ = t at *
      clear c1 c2
      have hle := hU.le
      have _ : b1 < wr.heap.size := by omega
      have _ : b2 < wr.heap.size := by omega
      have hdk : decide ((k : Int) < (a.length : Int)) = true := by simp; omega
      have hkb : ((k : Int) < (b.length : Int)) := by omega
      have hk0 : (0 : Int) ≤ (k : Int) := by omega
      have Hown := hid hown; clear hown
      go_wp2_with fail
      go_region_law (first
        | (refine step_append_lies _ (by rfl) _ _ _ (by rfl) w.heap.size 23 i0 _ 2 16 Tryd.underlying35 hi0 hz0 hz1 hz2 rfl (by omega) _ _ (spans L) (by rfl) (Hown1.out.up ((Up.refl w1).alloc _)) ⟨w1.heap.size, 0, none⟩ 1 1 [.int .i64 x1.lo, .int .i64 x1.hi] (by rfl) (by rfl) (cell_two_new _ _ _ _) (by simp [Value.oneCell']) (by omega) (by have := HL4.out; unfold maxLen; omega) (by have := HL4.out; omega) (by have := hU1.le; simp; omega) _ rfl ?_; intro gg cap w2 hown2 hgrow hat hlt)
        | (go_simp; go_at_call 63; refine (both_span _ _ _ _ _).mono ?_; rintro e w1 ⟨x1, hx1, rfl, hb1⟩; have Hx1 := hid hx1; clear hx1; have hu1 : Up wr w1 := (by (repeat (first | (with_reducible exact Up.refl _) | (with_reducible assumption) | (with_reducible refine Up.alloc ?_ _) | (with_reducible refine Up.drew ?_) | ((with_reducible refine Up.set ?_ ?_ _); rotate_left; focus (first | omega | (simp; done) | (simp; omega))) | (with_reducible refine Up.drewN ?_ _) | (with_reducible refine Up.call ?_ (by with_reducible assumption))))); have Hown1 := hid (Hown.out.up hu1); have hU1 : Up w w1 := hU.call hu1))
      all_goals go_wp2
      all_goals
        go_roundw
        case rel =>
          refine ⟨k + 1, L ++ [x1], by omega, by go_num, ?_, ?_, ?_, ?_⟩
          · show _ = _
            rw [Hst.out, ← H.out, ← Hx1.out]
          · show _ = _
            have := HL.out; simp; omega
          · have := OwnS.snoc hown2
            exact this
          · exact OwnS.grown (hU1.alloc _) (Hown1.out.up ((Up.refl w1).alloc _)) hgrow
        case measure => simp [intOf]; omega
    · obtain rfl : k = a.length := by omega
      have hrd := hown.rd
      obtain ⟨A', c', hv, hrd1, hc1⟩ := hrd
      subst hv
      have Hrd := hid hrd1
      clear hown hrd1
      go_wp2
      go_ret
      refine RetR.mk L hU ?_ (rel := slR) ⟨A', c', rfl, Hrd.out, hc1⟩
      rw [H.out, List.take_length, Hl.out, List.take_length]
end Go.Proofs.YtopgjbjpmnlldaaDoor

namespace Go.Proofs.YtopgjbjpmnlldaaDoor
open Go.RowKit

/-- A reading of a slice that stays where the block stays. -/
structure Keeps {α : Type} (R : World → Option Addr → List α → Prop) : Prop where
  up : ∀ {w w' : World} {A : Option Addr} {l : List α}, R w A l → Up w w' → R w' A l
  grown : ∀ {w w' : World} {A : Option Addr} {l : List α} {row : Option Nat}, R w A l → w.grownBy w' row → (∀ b o, A = some ⟨b, o, none⟩ → row ≠ some b) → R w' A l
theorem keepsS : Keeps RdS := ⟨fun h hu => h.up hu, fun {w w' A l row} h hg hr hl => by
  obtain ⟨b, o, rfl, hb, hc⟩ := h hl
  have hblk : w'.heap[b]? = w.heap[b]? := hg.block b hb (fun e => hr b o rfl e.symm)
  refine ⟨b, o, rfl, Nat.lt_of_lt_of_le hb hg.size, fun k hk => ?_⟩
  obtain ⟨h0, h1⟩ := hc k hk
  exact ⟨(World.cell?_of_block (a := ⟨b, o + k * 2, none⟩) hblk).trans h0, (World.cell?_of_block (a := ⟨b, o + k * 2 + 1, none⟩) hblk).trans h1⟩⟩
theorem keepsI : Keeps RdI := ⟨fun h hu => h.up hu, fun {w w' A l row} h hg hr hl => by
  obtain ⟨b, o, rfl, hb, hc⟩ := h hl
  have hblk : w'.heap[b]? = w.heap[b]? := hg.block b hb (fun e => hr b o rfl e.symm)
  exact ⟨b, o, rfl, Nat.lt_of_lt_of_le hb hg.size, fun k hk => (World.cell?_of_block (a := ⟨b, o + k, none⟩) hblk).trans (hc k hk)⟩⟩
/-- The call's own row of slices (whose elements' type is T). -/
def OwnR {α : Type} (T : TypeId) (R : World → Option Addr → List α → Prop) (w : World) (base : Nat) (v : Value) (l : List (List α)) : Prop :=
  ∃ vs, w.ownsRow base T 1 v l.length vs ∧ ∀ k, k < l.length → ∃ A c, vs[k]? = some (.slice A (l[k]?.getD []).length c) ∧ (l[k]?.getD []).length ≤ c ∧ R w A (l[k]?.getD []) ∧ ∀ b o, A = some ⟨b, o, none⟩ → b < w.heap.size ∧ v.ownBlock ≠ some b
theorem OwnR.nil {α : Type} (T : TypeId) (R : World → Option Addr → List α → Prop) (w : World) (base : Nat) : OwnR T R w base (.slice none 0 0) [] :=
  ⟨[], World.ownsRow_nil _ _ _ _, fun k hk => by simp at hk⟩
theorem OwnR.up {α : Type} {T : TypeId} {R : World → Option Addr → List α → Prop} (hR : Keeps R) {w w' : World} {base : Nat} {v : Value} {l : List (List α)} (h : OwnR T R w base v l) (hu : Up w w') : OwnR T R w' base v l := by
  obtain ⟨vs, h1, h2⟩ := h
  refine ⟨vs, World.ownsRow.kept h1 (row := none) (grown_up hu) (by cases v.ownBlock <;> simp), fun k hk => ?_⟩
  obtain ⟨A, c, q1, q2, q3, q4⟩ := h2 k hk
  exact ⟨A, c, q1, q2, hR.up q3 hu, fun b o e => ⟨Nat.lt_of_lt_of_le (q4 b o e).1 hu.le, (q4 b o e).2⟩⟩
theorem OwnR.lt {α : Type} {T : TypeId} {R : World → Option Addr → List α → Prop} {w : World} {base : Nat} {v : Value} {l : List (List α)} (h : OwnR T R w base v l) : ∀ k, v.ownBlock = some k → base ≤ k ∧ k < w.heap.size := by
  obtain ⟨vs, h1, -⟩ := h
  exact World.ownsRow.lt h1
theorem OwnR.rd {α : Type} {T : TypeId} {R : World → Option Addr → List α → Prop} {w : World} {base : Nat} {v : Value} {l : List (List α)} (h : OwnR T R w base v l) : ∃ A c, v = .slice A l.length c ∧ RdR R w A l ∧ l.length ≤ c := by
  obtain ⟨vs, h0, hel⟩ := h
  rcases h0.2 with ⟨hv, hn⟩ | ⟨g, cap, cur, hv, hb, hg, hle, hx⟩
  · have : l = [] := List.length_eq_zero_iff.1 hn
    subst this
    exact ⟨none, 0, hv, RdR.nil _ _ _, Nat.le_refl _⟩
  · refine ⟨_, cap, hv, fun hne => ⟨g, 0, rfl, (Array.getElem?_eq_some_iff.1 hg).1, fun k hk => ?_⟩, by omega⟩
    obtain ⟨A, c, q1, q2, q3, -⟩ := hel k hk
    have c1 := World.ownsRow.cells h0 (g := g) (by rw [hv]; rfl) k _ q1
    have ea : ∀ j, (⟨g, 0, none⟩ : Addr).add j = ⟨g, 0 + j, none⟩ := fun j => by unfold Addr.add; split <;> simp_all
    rw [ea] at c1
    exact ⟨A, c, c1, q2, q3⟩
/-- One more. -/
theorem OwnR.snoc {α : Type} {T : TypeId} {R : World → Option Addr → List α → Prop} (hR : Keeps R) {w w' : World} {base : Nat} {v v' : Value} {l : List (List α)} {x : List α} {A : Option Addr} {c : Nat} {vs : List Value}
    (h : ∀ k, k < l.length → ∃ A c, vs[k]? = some (.slice A (l[k]?.getD []).length c) ∧ (l[k]?.getD []).length ≤ c ∧ R w A (l[k]?.getD []) ∧ ∀ b o, A = some ⟨b, o, none⟩ → b < w.heap.size ∧ v.ownBlock ≠ some b)
    (hx : R w A x) (hc : x.length ≤ c) (hb : ∀ b o, A = some ⟨b, o, none⟩ → b < w.heap.size ∧ v.ownBlock ≠ some b)
    (hlen : vs.length = l.length) (hown : w'.ownsRow base T 1 v' (l.length + 1) (vs ++ [.slice A x.length c])) (hg : w.grownBy w' v.ownBlock) (hat : v'.ownBlock = v.ownBlock ∨ v'.ownBlock = some w.heap.size) : OwnR T R w' base v' (l ++ [x]) := by
  have hnew : ∀ b : Nat, b < w.heap.size ∧ v.ownBlock ≠ some b → b < w'.heap.size ∧ v'.ownBlock ≠ some b := by
    intro b hb
    refine ⟨Nat.lt_of_lt_of_le hb.1 hg.size, ?_⟩
    rcases hat with e | e
    · rw [e]; exact hb.2
    · rw [e]; intro e2; injection e2 with e2; omega
  refine ⟨_, by simpa using hown, fun k hk => ?_⟩
  by_cases hkl : k < l.length
  · obtain ⟨A2, c2, q1, q2, q3, q4⟩ := h k hkl
    rw [List.getElem?_append_left hkl, List.getElem?_append_left (by omega)]
    exact ⟨A2, c2, q1, q2, hR.grown q3 hg (fun b o e => (q4 b o e).2), fun b o e => hnew b (q4 b o e)⟩
  · obtain rfl : k = l.length := by simp at hk; omega
    rw [List.getElem?_append_right (by omega), List.getElem?_append_right (by omega), hlen]
    simp only [Nat.sub_self, List.getElem?_cons_zero, Option.getD_some]
    exact ⟨A, c, rfl, hc, hR.grown hx hg (fun b o e => (hb b o e).2), fun b o e => hnew b (hb b o e)⟩
/-- Its values. -/
theorem OwnR.parts {α : Type} {T : TypeId} {R : World → Option Addr → List α → Prop} {w : World} {base : Nat} {v : Value} {l : List (List α)} (h : OwnR T R w base v l) : ∃ vs, w.ownsRow base T 1 v l.length vs ∧ vs.length = l.length ∧
    ∀ k, k < l.length → ∃ A c, vs[k]? = some (.slice A (l[k]?.getD []).length c) ∧ (l[k]?.getD []).length ≤ c ∧ R w A (l[k]?.getD []) ∧ ∀ b o, A = some ⟨b, o, none⟩ → b < w.heap.size ∧ v.ownBlock ≠ some b := by
  obtain ⟨vs, h1, h2⟩ := h
  exact ⟨vs, h1, by have := h1.1; omega, h2⟩
theorem OwnR.grown {α : Type} {T : TypeId} {R : World → Option Addr → List α → Prop} {w W w' : World} {v : Value} {l : List (List α)} (hU : Up w W) (h : OwnR T R W w.heap.size v l) (hg : W.grownBy w' v.ownBlock) : Up w w' :=
  Below.grown hU hg hU.le (fun j hj => (h.lt j hj).1)
/-- A slice of spans in new memory, with an error. -/
def slNE (base : Nat) (w : World) : Except Nat (List Sp) → Value → Prop
  | .ok l, v => ∃ A c, v = .tuple #[.slice A l.length c, .nilIface] ∧ RdS w A l ∧ l.length ≤ c ∧ ∀ b o, A = some ⟨b, o, none⟩ → base ≤ b ∧ b < w.heap.size
  | .error n, v => v = .tuple #[.slice none 0 0, .iface 62 (.int .i64 n)]
theorem slNE_ok {base : Nat} {w : World} {l : List Sp} {v : Value} (h : slNE base w (.ok l) v) : ∃ A c, v = .tuple #[.slice A l.length c, .nilIface] ∧ RdS w A l ∧ l.length ≤ c ∧ ∀ b o, A = some ⟨b, o, none⟩ → base ≤ b ∧ b < w.heap.size := h
theorem slNE_error {base : Nat} {w : World} {n : Nat} {v : Value} (h : slNE base w (.error n) v) : v = .tuple #[.slice none 0 0, .iface 62 (.int .i64 n)] := h
theorem OwnS.rdE {w : World} {base : Nat} {A : Option Addr} {n c : Nat} {l : List Sp} (h : OwnS w base (.slice A n c) l) : slNE base w (.ok l) (.tuple #[.slice A n c, .nilIface]) := by
  obtain ⟨A', c', hv, h1, h2⟩ := h.rd
  injection hv with e1 e2 e3
  subst e1; subst e2; subst e3
  exact ⟨_, _, rfl, h1, h2, fun b o e => h.lt b (by rw [e]; rfl)⟩
theorem OwnS.shape {w : World} {base : Nat} {v : Value} {l : List Sp} (h : OwnS w base v l) : ∃ A c, v = .slice A l.length c := by
  obtain ⟨A, c, hv, -⟩ := h.rd
  exact ⟨A, c, hv⟩
end Go.Proofs.YtopgjbjpmnlldaaDoor

namespace Go.Proofs.YtopgjbjpmnlldaaDoor
open Go.RowKit

/-- The call's own row of ints. -/
def OwnI (w : World) (base : Nat) (v : Value) (l : List Int) : Prop := w.ownsRow base 3 1 v l.length (ints l)
theorem OwnI.nil (w : World) (base : Nat) : OwnI w base (.slice none 0 0) [] := World.ownsRow_nil _ _ _ _
theorem OwnI.up {w w' : World} {base : Nat} {v : Value} {l : List Int} (h : OwnI w base v l) (hu : Up w w') : OwnI w' base v l :=
  World.ownsRow.kept h (row := none) (grown_up hu) (by cases v.ownBlock <;> simp)
theorem OwnI.lt {w : World} {base : Nat} {v : Value} {l : List Int} (h : OwnI w base v l) : ∀ k, v.ownBlock = some k → base ≤ k ∧ k < w.heap.size := World.ownsRow.lt h
theorem OwnI.set {w : World} {base : Nat} {v : Value} {l : List Int} (h : OwnI w base v l) {a : Addr} (hne : v.ownBlock ≠ some a.block) (u : Value) : OwnI (w.setCell a u) base v l :=
  World.ownsRow.kept h (row := some a.block) ⟨rfl, rfl, rfl, by simp, fun k _ hk => Below.heap_setCell w a u k (fun e => hk (by rw [e]))⟩ (.inr hne)
theorem OwnI.snoc {w' : World} {base : Nat} {v' : Value} {l : List Int} {n : Int} (h : w'.ownsRow base 3 1 v' (l.length + 1) (ints l ++ [.int .i64 n])) : OwnI w' base v' (l ++ [n]) := by
  unfold OwnI
  rw [← ints_snoc]
  simpa using h
theorem OwnI.grown {w W w' : World} {v : Value} {l : List Int} (hU : Up w W) (h : OwnI W w.heap.size v l) (hg : W.grownBy w' v.ownBlock) : Up w w' :=
  Below.grown hU hg hU.le (fun j hj => (World.ownsRow.lt h j hj).1)
theorem OwnI.rd {w : World} {base : Nat} {v : Value} {l : List Int} (h : OwnI w base v l) : ∃ A c, v = .slice A l.length c ∧ RdI w A l ∧ l.length ≤ c := by
  have h0 := h
  rcases h.2 with ⟨hv, hn⟩ | ⟨g, cap, cur, hv, hb, hg, hle, hx⟩
  · have : l = [] := List.length_eq_zero_iff.1 hn
    subst this
    exact ⟨none, 0, hv, fun h => absurd rfl h, Nat.le_refl _⟩
  · exact ⟨_, cap, hv, rdi_own h0 hv (Array.getElem?_eq_some_iff.1 hg).1, by omega⟩
/-- A slice of ints in new memory, with an error. -/
def ilNE (base : Nat) (w : World) : Except Nat (List Int) → Value → Prop
  | .ok l, v => ∃ A c, v = .tuple #[.slice A l.length c, .nilIface] ∧ RdI w A l ∧ l.length ≤ c ∧ ∀ b o, A = some ⟨b, o, none⟩ → base ≤ b ∧ b < w.heap.size
  | .error n, v => v = .tuple #[.slice none 0 0, .iface 62 (.int .i64 n)]
theorem ilNE_ok {base : Nat} {w : World} {l : List Int} {v : Value} (h : ilNE base w (.ok l) v) : ∃ A c, v = .tuple #[.slice A l.length c, .nilIface] ∧ RdI w A l ∧ l.length ≤ c ∧ ∀ b o, A = some ⟨b, o, none⟩ → base ≤ b ∧ b < w.heap.size := h
theorem ilNE_error {base : Nat} {w : World} {n : Nat} {v : Value} (h : ilNE base w (.error n) v) : v = .tuple #[.slice none 0 0, .iface 62 (.int .i64 n)] := h
theorem OwnI.rdE {w : World} {base : Nat} {A : Option Addr} {n c : Nat} {l : List Int} (h : OwnI w base (.slice A n c) l) : ilNE base w (.ok l) (.tuple #[.slice A n c, .nilIface]) := by
  obtain ⟨A', c', hv, h1, h2⟩ := h.rd
  injection hv with e1 e2 e3
  subst e1; subst e2; subst e3
  exact ⟨_, _, rfl, h1, h2, fun b o e => h.lt b (by rw [e]; rfl)⟩
theorem OwnI.shape {w : World} {base : Nat} {v : Value} {l : List Int} (h : OwnI w base v l) : ∃ A c, v = .slice A l.length c := by
  obtain ⟨A, c, hv, -⟩ := h.rd
  exact ⟨A, c, hv⟩
/-- A row of slices that begins as a literal of one. -/
theorem OwnR.start {α : Type} {T : TypeId} {R : World → Option Addr → List α → Prop} (hR : Keeps R) {w w2 : World} {base g : Nat} {z : Value} {x : List α} {A : Option Addr} {c : Nat} (hg : g = w.heap.size) (hbase : base ≤ g) (hU : Up (w.alloc (.cells #[z] T)) w2)
    (hx : R w2 A x) (hc : x.length ≤ c) (hb : ∀ b o, A = some ⟨b, o, none⟩ → g < b ∧ b < w2.heap.size) : OwnR T R (w2.setCell ⟨g, 0, none⟩ (.slice A x.length c)) base (.slice (some ⟨g, 0, none⟩) 1 1) [x] := by
  subst hg
  have h1 : (w.alloc (.cells #[z] T)).ownsRow base T 1 (.slice (some ⟨w.heap.size, 0, none⟩) 1 1) 1 [z] := World.ownsRow_lit w #[z] 1 hbase (by decide) rfl
  have h2 : w2.ownsRow base T 1 (.slice (some ⟨w.heap.size, 0, none⟩) 1 1) 1 [z] := World.ownsRow.kept h1 (row := none) (grown_up hU) (.inr (by simp [Value.ownBlock]))
  obtain ⟨h3, h4⟩ := World.ownsRow.stored h2 0 (.slice A x.length c)
  refine ⟨[.slice A x.length c], h3, fun k hk => ?_⟩
  obtain rfl : k = 0 := by simpa using hk
  refine ⟨A, c, rfl, hc, hR.grown hx h4 (fun b o e => by have := (hb b o e).1; intro e2; injection e2 with e2; omega), fun b o e => ⟨?_, ?_⟩⟩
  · have := (hb b o e).2
    simp
    exact this
  · have := (hb b o e).1
    intro e2
    injection e2 with e2
    dsimp only at e2
    omega
/-- A slice of slices in new memory, each in new memory as well, with an error. -/
def rlNE {α : Type} (R : World → Option Addr → List α → Prop) (w : World) : Except Nat (List (List α)) → Value → Prop
  | .ok l, v => ∃ A c, v = .tuple #[.slice A l.length c, .nilIface] ∧ RdR R w A l ∧ l.length ≤ c
  | .error n, v => v = .tuple #[.slice none 0 0, .iface 62 (.int .i64 n)]
theorem rlNE_ok {α : Type} {R : World → Option Addr → List α → Prop} {w : World} {l : List (List α)} {v : Value} (h : rlNE R w (.ok l) v) : ∃ A c, v = .tuple #[.slice A l.length c, .nilIface] ∧ RdR R w A l ∧ l.length ≤ c := h
theorem rlNE_error {α : Type} {R : World → Option Addr → List α → Prop} {w : World} {n : Nat} {v : Value} (h : rlNE R w (.error n) v) : v = .tuple #[.slice none 0 0, .iface 62 (.int .i64 n)] := h
end Go.Proofs.YtopgjbjpmnlldaaDoor
