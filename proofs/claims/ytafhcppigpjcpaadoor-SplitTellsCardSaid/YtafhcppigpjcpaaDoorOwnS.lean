/- Slices of spans that a call itself makes by appending. -/
import Derived.Test.YtafhcppigpjcpaaDoorBoxb
import Derived.Maps.AppendAt
import Derived.Deep.AppendLies
import Derived.Deep.RegionLaw
set_option linter.unusedVariables false
set_option linter.unusedSimpArgs false
namespace Go.Proofs.YtafhcppigpjcpaaDoor
open Go.RowKit

theorem Tryd.infoSpan : (Tryd.prog.info? 23).map (fun i => (i.zero, i.size, i.bytes)) = some (some (.agg #[.int .i64 0, .int .i64 0]), 2, 16) := by kernel_rfl
def spans (l : List Sp) : List Value := l.flatMap fun s => [.int .i64 s.lo, .int .i64 s.hi]
theorem spans_snoc (l : List Sp) (lo hi : Int) : spans l ++ [.int .i64 lo, .int .i64 hi] = spans (l ++ [⟨lo, hi⟩]) := by simp [spans]
theorem spans_len (l : List Sp) : (spans l).length = l.length * 2 := by
  induction l with
  | nil => rfl
  | cons s l ih => simp only [spans, List.flatMap_cons, List.length_append, List.length_cons, List.length_nil] at *; omega
theorem spans_at (l : List Sp) : ∀ k, k < l.length → (spans l)[k * 2]? = some (.int .i64 (l[k]?.getD ⟨0, 0⟩).lo) ∧ (spans l)[k * 2 + 1]? = some (.int .i64 (l[k]?.getD ⟨0, 0⟩).hi) := by
  induction l with
  | nil => intro k hk; simp at hk
  | cons s l ih =>
    intro k hk
    match k with
    | 0 => exact ⟨rfl, rfl⟩
    | k + 1 =>
      have := ih k (by simpa using hk)
      have e1 : (k + 1) * 2 = k * 2 + 1 + 1 := by omega
      rw [e1]
      simp only [spans, List.flatMap_cons, List.cons_append, List.nil_append, List.getElem?_cons_succ] at *
      exact this
/-- The call's own row of spans. -/
def OwnS (w : World) (base : Nat) (v : Value) (l : List Sp) : Prop := w.ownsRow base 23 2 v l.length (spans l)
theorem OwnS.nil (w : World) (base : Nat) : OwnS w base (.slice none 0 0) [] := World.ownsRow_nil _ _ _ _
theorem grown_up {w w' : World} (h : Up w w') : w.grownBy w' none := ⟨h.os, h.tape, h.output, h.size, fun k hk _ => h.block k hk⟩
theorem OwnS.up {w w' : World} {base : Nat} {v : Value} {l : List Sp} (h : OwnS w base v l) (hu : Up w w') : OwnS w' base v l :=
  World.ownsRow.kept h (row := none) (grown_up hu) (by cases v.ownBlock <;> simp)
theorem OwnS.lt {w : World} {base : Nat} {v : Value} {l : List Sp} (h : OwnS w base v l) : ∀ k, v.ownBlock = some k → base ≤ k ∧ k < w.heap.size := World.ownsRow.lt h
theorem OwnS.set {w : World} {base : Nat} {v : Value} {l : List Sp} (h : OwnS w base v l) {a : Addr} (hne : v.ownBlock ≠ some a.block) (u : Value) : OwnS (w.setCell a u) base v l :=
  World.ownsRow.kept h (row := some a.block) ⟨rfl, rfl, rfl, by simp, fun k _ hk => Below.heap_setCell w a u k (fun e => hk (by rw [e]))⟩ (.inr hne)
theorem OwnS.snoc {w' : World} {base : Nat} {v' : Value} {l : List Sp} {lo hi : Int} (h : w'.ownsRow base 23 2 v' (l.length + 1) (spans l ++ [.int .i64 lo, .int .i64 hi])) : OwnS w' base v' (l ++ [⟨lo, hi⟩]) := by
  unfold OwnS
  rw [← spans_snoc]
  simpa using h
theorem OwnS.grown {w W w' : World} {v : Value} {l : List Sp} (hU : Up w W) (h : OwnS W w.heap.size v l) (hg : W.grownBy w' v.ownBlock) : Up w w' :=
  Below.grown hU hg hU.le (fun j hj => (World.ownsRow.lt h j hj).1)
/-- A slice of spans that a call hands back. -/
def slR (w : World) (l : List Sp) (v : Value) : Prop := ∃ A c, v = .slice A l.length c ∧ RdS w A l ∧ l.length ≤ c
theorem OwnS.rd {w : World} {base : Nat} {v : Value} {l : List Sp} (h : OwnS w base v l) : slR w l v := by
  have h0 := h
  rcases h.2 with ⟨hv, hn⟩ | ⟨g, cap, cur, hv, hb, hg, hle, hx⟩
  · have : l = [] := List.length_eq_zero_iff.1 hn
    subst this
    exact ⟨none, 0, hv, RdS.nil _ _, Nat.le_refl _⟩
  · refine ⟨_, cap, hv, fun hne => ⟨g, 0, rfl, (Array.getElem?_eq_some_iff.1 hg).1, fun k hk => ?_⟩, by omega⟩
    obtain ⟨e1, e2⟩ := spans_at l k hk
    have c1 := World.ownsRow.cells h0 (g := g) (by rw [hv]; rfl) (k * 2) _ e1
    have c2 := World.ownsRow.cells h0 (g := g) (by rw [hv]; rfl) (k * 2 + 1) _ e2
    have ea : ∀ j, (⟨g, 0, none⟩ : Addr).add j = ⟨g, 0 + j, none⟩ := fun j => by unfold Addr.add; split <;> simp_all
    rw [ea] at c1 c2
    exact ⟨c1, c2⟩
/-- .. in new memory. -/
def slN (base : Nat) (w : World) (l : List Sp) (v : Value) : Prop := ∃ A c, v = .slice A l.length c ∧ RdS w A l ∧ l.length ≤ c ∧ ∀ b o, A = some ⟨b, o, none⟩ → base ≤ b
theorem OwnS.rdN {w : World} {base : Nat} {v : Value} {l : List Sp} (h : OwnS w base v l) : slN base w l v := by
  obtain ⟨A, c, hv, h1, h2⟩ := h.rd
  refine ⟨A, c, hv, h1, h2, fun b o e => ?_⟩
  subst e
  exact (h.lt b (by rw [hv]; rfl)).1
theorem slR.up {w w' : World} {l : List Sp} {v : Value} (h : slR w l v) (hu : Up w w') : slR w' l v := by
  obtain ⟨A, c, rfl, hr, hc⟩ := h
  exact ⟨A, c, rfl, hr.up hu, hc⟩
/-- .. with an error. -/
def slE (w : World) : Except Nat (List Sp) → Value → Prop
  | .ok l, v => ∃ A c, v = .tuple #[.slice A l.length c, .nilIface] ∧ RdS w A l ∧ l.length ≤ c
  | .error n, v => v = .tuple #[.slice none 0 0, .iface 99 (.int .i64 n)]
theorem slE_ok {w : World} {l : List Sp} {v : Value} (h : slE w (.ok l) v) : ∃ A c, v = .tuple #[.slice A l.length c, .nilIface] ∧ RdS w A l ∧ l.length ≤ c := h
theorem slE_error {w : World} {n : Nat} {v : Value} (h : slE w (.error n) v) : v = .tuple #[.slice none 0 0, .iface 99 (.int .i64 n)] := h
theorem bbothF_len {a b : List Sp} (h : a.length = b.length) : (bbothF a b).length = a.length := by simp [bbothF, h]
theorem bbothF_take {a b : List Sp} {k : Nat} (h : a.length = b.length) (hk : k < a.length) : bbothF (a.take (k + 1)) (b.take (k + 1)) = bbothF (a.take k) (b.take k) ++ [bothF (a[k]?.getD ⟨0, 0⟩) (b[k]?.getD ⟨0, 0⟩)] := by
  unfold bbothF
  rw [List.take_succ_eq_append_getElem hk, List.take_succ_eq_append_getElem (show k < b.length by omega), List.zipWith_append (by simp; omega)]
  simp [List.getElem?_eq_getElem hk, List.getElem?_eq_getElem (show k < b.length by omega)]
set_option maxRecDepth 100000 in
set_option maxHeartbeats 1000000 in
theorem bboth_any (A B : Option Addr) (a b : List Sp) (c d : Nat) (w : World) (ha : RdS w A a) (hb : RdS w B b) (hl : a.length = b.length) (hm : a.length ≤ 1000) :
    Calls Tryd.prog 98 #[.slice A a.length c, .slice B b.length d] w (RetR slR (bbothF a b) w) := by
  obtain ⟨i0, hi0, hz0, hz1, hz2⟩ := info_parts Tryd.infoSpan
  have Ha := hid ha; have Hb := hid hb; have Hl := hid hl; clear ha hb
  have hl1 : a.length ≤ b.length := by omega
  have hl2 : b.length ≤ a.length := by omega
  clear hl
  go_enter Tryd.func98, Tryd.ntmps98
  go_wp2
  go_loopw [5, 10] (fun v i wr => ∃ (k : Nat) (L : List Sp), k ≤ a.length ∧ i = .int .i64 k ∧ Hid (L = bbothF (a.take k) (b.take k)) ∧ Hid (L.length = k) ∧ OwnS wr w.heap.size v L ∧ Up w wr) (fun _ i _ => a.length - (intOf i).toNat)
  case atStart => exact ⟨0, [], by omega, rfl, by show _ = _; simp [bbothF], rfl, OwnS.nil _ _, Up.refl _⟩
  case round =>
    obtain ⟨k, L, hk, rfl, H, HL, hown, hU⟩ := hrel
    have gr := (bcell hU).1
    by_cases hlt : k < a.length
    · obtain ⟨b1, o1, rfl, l1, c1⟩ := (Ha.out).at (by omega)
      obtain ⟨b2, o2, rfl, l2, c2⟩ := (Hb.out).at (by omega)
      obtain ⟨k1, k2⟩ := c1 k hlt
      obtain ⟨k3, k4⟩ := c2 k (by omega)
      have Hst := hid (bbothF_take Hl.out hlt)
      have HL4 := hid (show L.length ≤ 1000 by have := HL.out; omega)
      generalize a[k]?.getD ⟨0, 0⟩ = s at *
      generalize b[k]?.getD ⟨0, 0⟩ = t at *
      clear c1 c2
      have hle := hU.le
      have _ : b1 < wr.heap.size := by omega
      have _ : b2 < wr.heap.size := by omega
      have hdk : decide ((k : Int) < (a.length : Int)) = true := by simp; omega
      have hkb : ((k : Int) < (b.length : Int)) := by omega
      have hk0 : (0 : Int) ≤ (k : Int) := by omega
      have Hown := hid hown; clear hown
      go_wp2_with fail
      go_region_law (first
        | (refine step_append_lies _ (by rfl) _ _ _ (by rfl) w.heap.size 23 i0 _ 2 16 Tryd.underlying37 hi0 hz0 hz1 hz2 rfl (by omega) _ _ (spans L) (by rfl) (Hown1.out.up ((Up.refl w1).alloc _)) ⟨w1.heap.size, 0, none⟩ 1 1 [.int .i64 x1.lo, .int .i64 x1.hi] (by rfl) (by rfl) (cell_two_new _ _ _ _) (by simp [Value.oneCell']) (by omega) (by have := HL4.out; unfold maxLen; omega) (by have := HL4.out; omega) (by have := hU1.le; simp; omega) _ rfl ?_; intro gg cap w2 hown2 hgrow hat hlt)
        | (go_simp; go_at_call 109; refine (both_span _ _ _ _ _).mono ?_; rintro e w1 ⟨x1, hx1, rfl, hb1⟩; have Hx1 := hid hx1; clear hx1; have hu1 : Up wr w1 := (by (repeat (first | (with_reducible exact Up.refl _) | (with_reducible assumption) | (with_reducible refine Up.alloc ?_ _) | (with_reducible refine Up.drew ?_) | ((with_reducible refine Up.set ?_ ?_ _); rotate_left; focus (first | omega | (simp; done) | (simp; omega))) | (with_reducible refine Up.drewN ?_ _) | (with_reducible refine Up.call ?_ (by with_reducible assumption))))); have Hown1 := hid (Hown.out.up hu1); have hU1 : Up w w1 := hU.call hu1))
      all_goals go_wp2
      all_goals
        go_roundw
        case rel =>
          refine ⟨k + 1, L ++ [x1], by omega, by go_num, ?_, ?_, ?_, ?_⟩
          · show _ = _
            rw [Hst.out, ← H.out, ← Hx1.out]
          · show _ = _
            have := HL.out; simp; omega
          · have := OwnS.snoc hown2
            exact this
          · exact OwnS.grown (hU1.alloc _) (Hown1.out.up ((Up.refl w1).alloc _)) hgrow
        case measure => simp [intOf]; omega
    · obtain rfl : k = a.length := by omega
      have hrd := hown.rd
      obtain ⟨A', c', hv, hrd1, hc1⟩ := hrd
      subst hv
      have Hrd := hid hrd1
      clear hown hrd1
      go_wp2
      go_ret
      refine RetR.mk L hU ?_ (rel := slR) ⟨A', c', rfl, Hrd.out, hc1⟩
      rw [H.out, List.take_length, Hl.out, List.take_length]
end Go.Proofs.YtafhcppigpjcpaaDoor
