/- Rows of terms that a call itself makes; the walks of near.steep. -/
import Derived.Test.YtknkpjfoaijaoaaOwnI
import Derived.Test.YtknkpjfoaijaoaaFlowc
import Derived.Test.YtknkpjfoaijaoaaFormd

set_option linter.unusedVariables false
set_option linter.unusedSimpArgs false
namespace Go.Proofs.Ytknkpjfoaijaoaa
open Go.RowKit

theorem Try.infoTerm : (Try.prog.info? 87).map (fun i => (i.zero, i.size, i.bytes)) = some (some (.agg #[.int .i64 0, .int .i64 0, .int .i64 0, .int .i64 0]), 4, 32) := by kernel_rfl
def tmV (t : Tm) : List Value := [.int .i64 t.by_, .int .i64 t.t0, .int .i64 t.t1, .int .i64 t.t2]
def terms (l : List Tm) : List Value := l.flatMap tmV
theorem terms_snoc (l : List Tm) (t : Tm) : terms l ++ tmV t = terms (l ++ [t]) := by simp [terms]
theorem terms_len (l : List Tm) : (terms l).length = l.length * 4 := by
  induction l with
  | nil => rfl
  | cons s l ih => simp only [terms, tmV, List.flatMap_cons, List.length_append, List.length_cons, List.length_nil] at *; omega
theorem terms_at (l : List Tm) : ∀ k, k < l.length → (terms l)[k * 4]? = some (.int .i64 (l[k]?.getD default).by_) ∧ (terms l)[k * 4 + 1]? = some (.int .i64 (l[k]?.getD default).t0) ∧ (terms l)[k * 4 + 2]? = some (.int .i64 (l[k]?.getD default).t1) ∧ (terms l)[k * 4 + 3]? = some (.int .i64 (l[k]?.getD default).t2) := by
  induction l with
  | nil => intro k hk; simp at hk
  | cons s l ih =>
    intro k hk
    match k with
    | 0 => exact ⟨rfl, rfl, rfl, rfl⟩
    | k + 1 =>
      have := ih k (by simpa using hk)
      have e1 : (k + 1) * 4 = k * 4 + 1 + 1 + 1 + 1 := by omega
      rw [e1]
      simp only [terms, tmV, List.flatMap_cons, List.cons_append, List.nil_append, List.getElem?_cons_succ] at *
      exact this
/-- The call's own row of terms. -/
def OwnT (w : World) (base : Nat) (v : Value) (l : List Tm) : Prop := w.ownsRow base 87 4 v l.length (terms l)
theorem OwnT.nil (w : World) (base : Nat) : OwnT w base (.slice none 0 0) [] := World.ownsRow_nil _ _ _ _
theorem OwnT.up {w w' : World} {base : Nat} {v : Value} {l : List Tm} (h : OwnT w base v l) (hu : Up w w') : OwnT w' base v l :=
  World.ownsRow.kept h (row := none) (grown_up hu) (by cases v.ownBlock <;> simp)
theorem OwnT.lt {w : World} {base : Nat} {v : Value} {l : List Tm} (h : OwnT w base v l) : ∀ k, v.ownBlock = some k → base ≤ k ∧ k < w.heap.size := World.ownsRow.lt h
theorem OwnT.snoc {w' : World} {base : Nat} {v' : Value} {l : List Tm} {t : Tm} (h : w'.ownsRow base 87 4 v' (l.length + 1) (terms l ++ tmV t)) : OwnT w' base v' (l ++ [t]) := by
  unfold OwnT
  rw [← terms_snoc]
  simpa using h
theorem OwnT.rd {w : World} {base : Nat} {v : Value} {l : List Tm} (h : OwnT w base v l) : ∃ A c, v = .slice A l.length c ∧ RdT w A l ∧ l.length ≤ c := by
  have h0 := h
  rcases h.2 with ⟨hv, hn⟩ | ⟨g, cap, cur, hv, hb, hg, hle, hx⟩
  · have : l = [] := List.length_eq_zero_iff.1 hn
    subst this
    exact ⟨none, 0, hv, RdT.nil _ _, Nat.le_refl _⟩
  · refine ⟨_, cap, hv, fun hne => ⟨g, 0, rfl, (Array.getElem?_eq_some_iff.1 hg).1, fun k hk => ?_⟩, by omega⟩
    obtain ⟨e1, e2, e3, e4⟩ := terms_at l k hk
    have ea : ∀ j, (⟨g, 0, none⟩ : Addr).add j = ⟨g, 0 + j, none⟩ := fun j => by unfold Addr.add; split <;> simp_all
    have c1 := World.ownsRow.cells h0 (g := g) (by rw [hv]; rfl) (k * 4) _ e1
    have c2 := World.ownsRow.cells h0 (g := g) (by rw [hv]; rfl) (k * 4 + 1) _ e2
    have c3 := World.ownsRow.cells h0 (g := g) (by rw [hv]; rfl) (k * 4 + 2) _ e3
    have c4 := World.ownsRow.cells h0 (g := g) (by rw [hv]; rfl) (k * 4 + 3) _ e4
    rw [ea] at c1 c2 c3 c4
    exact ⟨c1, c2, c3, c4⟩
/-- A slice of terms, with an error. -/
def tlE (w : World) : Except Nat (List Tm) → Value → Prop
  | .ok l, v => ∃ A c, v = .tuple #[.slice A l.length c, .nilIface] ∧ RdT w A l ∧ l.length ≤ c
  | .error n, v => v = .tuple #[.slice none 0 0, .iface 52 (.int .i64 n)]
theorem tlE_ok {w : World} {l : List Tm} {v : Value} (h : tlE w (.ok l) v) : ∃ A c, v = .tuple #[.slice A l.length c, .nilIface] ∧ RdT w A l ∧ l.length ≤ c := h
theorem tlE_error {w : World} {n : Nat} {v : Value} (h : tlE w (.error n) v) : v = .tuple #[.slice none 0 0, .iface 52 (.int .i64 n)] := h
theorem OwnT.rdE {w : World} {base : Nat} {A : Option Addr} {n c : Nat} {l : List Tm} (h : OwnT w base (.slice A n c) l) : tlE w (.ok l) (.tuple #[.slice A n c, .nilIface]) := by
  obtain ⟨A', c', hv, h1, h2⟩ := h.rd
  injection hv with e1 e2 e3
  subst e1; subst e2; subst e3
  exact ⟨_, _, rfl, h1, h2⟩
theorem OwnT.shape {w : World} {base : Nat} {v : Value} {l : List Tm} (h : OwnT w base v l) : ∃ A c, v = .slice A l.length c := by
  obtain ⟨A, c, hv, -⟩ := h.rd
  exact ⟨A, c, hv⟩
def preT (L : List Tm) : Except Nat (List Tm) → Except Nat (List Tm)
  | .error e => .error e
  | .ok l => .ok (L ++ l)
theorem preT_nil (r : Except Nat (List Tm)) : preT [] r = r := by cases r <;> rfl
theorem steepG_skip {k : Nat} {t : Tm} {l L : List Tm} (h : t.time k = 0) : preT L (nsteepG k (t :: l)) = preT L (nsteepG k l) := by
  conv => lhs; unfold nsteepG
  rw [if_pos h]
theorem steepG_bad {k : Nat} {t : Tm} {l L : List Tm} (h : t.time k ≠ 0) (h2 : ¬ M (t.dec k).by_) : preT L (nsteepG k (t :: l)) = .error 4 := by
  unfold nsteepG; rw [if_neg h, if_neg h2]; rfl
theorem steepG_go {k : Nat} {t : Tm} {l L : List Tm} (h : t.time k ≠ 0) (h2 : M (t.dec k).by_) : preT L (nsteepG k (t :: l)) = preT (L ++ [t.dec k]) (nsteepG k l) := by
  conv => lhs; unfold nsteepG
  rw [if_neg h, if_pos h2]
  cases nsteepG k l <;> simp [preT]
theorem cell_four_at (w : World) (x y z u : Value) (t : TypeId) {n : Nat} (hn : n = w.heap.size) : ∀ j v, [x, y, z, u][j]? = some v → (w.alloc (.cells #[x, y, z, u] t)).cell? ((⟨n, 0, none⟩ : Addr).add j) = some v := by
  subst hn
  intro j v hj
  match j, hj with
  | 0, hj => simp at hj; subst hj; simp [Addr.add]
  | 1, hj => simp at hj; subst hj; simp [Addr.add]
  | 2, hj => simp at hj; subst hj; simp [Addr.add]
  | 3, hj => simp at hj; subst hj; simp [Addr.add]
theorem mulT_bd {a b : Int} (ha : M a) (h0 : 0 ≤ b) (h3 : b ≤ 3) : -3000000000 ≤ a * b ∧ a * b ≤ 3000000000 := by
  obtain ⟨a1, a2⟩ := ha
  have : b = 0 ∨ b = 1 ∨ b = 2 ∨ b = 3 := by omega
  rcases this with rfl | rfl | rfl | rfl <;> omega
set_option maxRecDepth 100000 in
set_option maxHeartbeats 4000000 in
theorem steep_any0 (f : List Tm) (A : Option Addr) (c : Nat) (w : World) (hf : RdT w A f) (hm : f.length ≤ 1000) (ht : ∀ t ∈ f, (∀ i, 0 ≤ t.time i ∧ t.time i ≤ 3) ∧ M t.by_) :
    Calls Try.prog 44 #[.slice A f.length c, .int .i64 0] w (RetR tlE (nsteepG 0 f) w) := by
  have Hf := hid hf; have Hm := hid hm; have HT := hid ht
  obtain ⟨i0, hi0, hz0, hz1, hz2⟩ := info_parts Try.infoTerm
  rw [← preT_nil (nsteepG 0 f)]
  clear hf hm ht
  go_enter Try.func44, Try.ntmps44
  go_wp2
  go_loopw [6, 12] (fun v i wr => ∃ (k : Nat) (L : List Tm), k ≤ f.length ∧ i = .int .i64 k ∧ Hid (preT [] (nsteepG 0 f) = preT L (nsteepG 0 (f.drop k))) ∧ Hid (L.length ≤ k) ∧ OwnT wr w.heap.size v L ∧ Up w wr) (fun _ i _ => f.length - (intOf i).toNat)
  case atStart => exact ⟨0, [], by omega, rfl, rfl, Nat.le_refl 0, OwnT.nil _ _, Up.refl _⟩
  case round =>
    obtain ⟨k, L, hk, rfl, H, HL, hown, hU⟩ := hrel
    have gr := (bcell hU).1
    have hle := hU.le
    by_cases hlt : k < f.length
    · obtain ⟨b1, o1, rfl, lb, cc⟩ := (Hf.out).at (by omega)
      obtain ⟨q1, q2, q3, q4⟩ := cc k hlt
      have j1 := (gr _ _ lb).trans q1
      have j2 := (gr _ _ lb).trans q2
      have j3 := (gr _ _ lb).trans q3
      have j4 := (gr _ _ lb).trans q4
      have _ : b1 < wr.heap.size := by omega
      have Hdr := hid (tdrop f k hlt)
      have hT := HT.out (f[k]?.getD default) (by rw [List.getElem?_eq_getElem hlt]; exact List.getElem_mem hlt)
      have Hlt := hid hlt
      have hdk : decide ((k : Int) < (f.length : Int)) = true := by simp; omega
      have hk0 : (0 : Int) ≤ (k : Int) := by omega
      have hkb : (k : Int) < (f.length : Int) := by omega
      have hk9 : (k : Int) < 1000 := by have := Hm.out; omega
      have HL4 := hid (show L.length ≤ 1000 by have := HL.out; have := Hm.out; omega)
      generalize f[k]?.getD default = t at *
      have h0 : 0 ≤ t.t0 := (hT.1 0).1
      have h3 : t.t0 ≤ 3 := (hT.1 0).2
      obtain ⟨hb1, hb2⟩ := mulT_bd hT.2 h0 h3
      have Hown := hid hown
      clear cc q1 q2 q3 q4 gr hlt hown hT
      by_cases hz : t.t0 = 0
      · have Hz := hid hz
        have e0 : (t.t0 == 0) = true := beq_iff_eq.2 hz
        clear hz hb1 hb2
        go_wp2
        go_roundw
        case rel =>
          have hUa : Up wr (wr.alloc (Obj.cells #[.int .i64 t.by_, .int .i64 t.t0, .int .i64 t.t1, .int .i64 t.t2] 87)) := by (repeat (first | (with_reducible exact Up.refl _) | (with_reducible assumption) | (with_reducible refine Up.alloc ?_ _) | (with_reducible refine Up.drew ?_) | ((with_reducible refine Up.set ?_ ?_ _); rotate_left; focus (first | omega | (simp; done) | (simp; omega))) | (with_reducible refine Up.drewN ?_ _) | (with_reducible refine Up.call ?_ (by with_reducible assumption))))
          refine ⟨k + 1, L, by have := Hlt.out; omega, by go_num, ?_, ?_, Hown.out.up hUa, hU.call hUa⟩
          · show _ = _
            rw [H.out, Hdr.out]; exact steepG_skip Hz.out
          · have := HL.out
            show _ ≤ _
            omega
        case measure => have := Hlt.out; simp [intOf]; omega
      · have Hz := hid hz
        have e0 : (t.t0 == 0) = false := beq_false_of_ne hz
        have h1 : 1 ≤ t.t0 := by omega
        clear hz
        cases hmm : mayB (t.by_ * t.t0) with
        | false =>
          have Hmm := hid hmm; clear hmm
          go_wp2_with (first
                        | ((go_at_call 39; refine (may_any _ _).mono ?_; rintro e w' ⟨rfl, rfl⟩); rw [Hmm.out]))
          go_ret2
          refine RetR.mk (.error 4) ?_ ?_ (rel := tlE) rfl
          · (repeat (first | (with_reducible exact Up.refl _) | (with_reducible assumption) | (with_reducible refine Up.alloc ?_ _) | (with_reducible refine Up.drew ?_) | ((with_reducible refine Up.set ?_ ?_ _); rotate_left; focus (first | omega | (simp; done) | (simp; omega))) | (with_reducible refine Up.drewN ?_ _) | (with_reducible refine Up.call ?_ (by with_reducible assumption))))
          · rw [H.out, Hdr.out]; exact steepG_bad Hz.out (mayB_false.1 Hmm.out)
        | true =>
          have Hmm := hid hmm; clear hmm
          go_wp2_with (first
                        | ((go_at_call 39; refine (may_any _ _).mono ?_; rintro e w' ⟨rfl, rfl⟩); rw [Hmm.out])
                        | (at_builtin; go_loud (refine wpList_append_own_at _ rfl (.tmp 39) (.tmp 41) _ rfl w.heap.size 87 i0 (.agg #[.int .i64 0, .int .i64 0, .int .i64 0, .int .i64 0]) 4 32 Try.underlying66 hi0 hz0 hz1 hz2 rfl (by decide) _ _ _ rfl (Hown.out.up (by (repeat (first | (with_reducible exact Up.refl _) | (with_reducible assumption) | (with_reducible refine Up.alloc ?_ _) | (with_reducible refine Up.drew ?_) | ((with_reducible refine Up.set ?_ ?_ _); rotate_left; focus (first | omega | (simp; done) | (simp; omega))) | (with_reducible refine Up.drewN ?_ _) | (with_reducible refine Up.call ?_ (by with_reducible assumption)))))) ⟨wr.heap.size + 1, 0, none⟩ 1 1 [.int .i64 (t.by_ * t.t0), .int .i64 (t.t0 - 1), .int .i64 (t.t1), .int .i64 (t.t2)] rfl rfl (cell_four_at _ _ _ _ _ _ (by simp)) (by simp [Value.oneCell']) (by have := HL4.out; unfold maxLen; omega) (by have := HL4.out; omega) (by simp; omega) ?_); intro v8 w5 own8 g8 _ at8))
          go_roundw
          case rel =>
            refine ⟨k + 1, L ++ [t.dec 0], by have := Hlt.out; omega, by go_num, ?_, ?_, OwnT.snoc own8, ?_⟩
            · show _ = _
              rw [H.out, Hdr.out]; exact steepG_go Hz.out (mayB_true.1 Hmm.out)
            · have := HL.out
              show _ ≤ _
              simp; omega
            · refine Below.grown (a := w) (B := w.heap.size) ?_ g8 ?_ (fun j hj => (Hown.out.lt j hj).1)
              · (show Up w _; (repeat (first | (with_reducible exact Up.refl _) | (with_reducible assumption) | (with_reducible refine Up.alloc ?_ _) | (with_reducible refine Up.drew ?_) | ((with_reducible refine Up.set ?_ ?_ _); rotate_left; focus (first | omega | (simp; done) | (simp; omega))) | (with_reducible refine Up.drewN ?_ _) | (with_reducible refine Up.call ?_ (by with_reducible assumption)))))
              · simp; omega
          case measure => have := Hlt.out; simp [intOf]; omega
    · obtain rfl : k = f.length := by omega
      obtain ⟨A', c', hv⟩ := hown.shape
      subst hv
      have Hown := hid hown
      clear hown gr
      go_wp2
      go_ret2
      refine RetR.mk (.ok L) hU ?_ (rel := tlE) Hown.out.rdE
      rw [H.out, List.drop_length]
      simp [nsteepG, preT]
set_option maxRecDepth 100000 in
set_option maxHeartbeats 4000000 in
theorem steep_any1 (f : List Tm) (A : Option Addr) (c : Nat) (w : World) (hf : RdT w A f) (hm : f.length ≤ 1000) (ht : ∀ t ∈ f, (∀ i, 0 ≤ t.time i ∧ t.time i ≤ 3) ∧ M t.by_) :
    Calls Try.prog 44 #[.slice A f.length c, .int .i64 1] w (RetR tlE (nsteepG 1 f) w) := by
  have Hf := hid hf; have Hm := hid hm; have HT := hid ht
  obtain ⟨i0, hi0, hz0, hz1, hz2⟩ := info_parts Try.infoTerm
  rw [← preT_nil (nsteepG 1 f)]
  clear hf hm ht
  go_enter Try.func44, Try.ntmps44
  go_wp2
  go_loopw [6, 12] (fun v i wr => ∃ (k : Nat) (L : List Tm), k ≤ f.length ∧ i = .int .i64 k ∧ Hid (preT [] (nsteepG 1 f) = preT L (nsteepG 1 (f.drop k))) ∧ Hid (L.length ≤ k) ∧ OwnT wr w.heap.size v L ∧ Up w wr) (fun _ i _ => f.length - (intOf i).toNat)
  case atStart => exact ⟨0, [], by omega, rfl, rfl, Nat.le_refl 0, OwnT.nil _ _, Up.refl _⟩
  case round =>
    obtain ⟨k, L, hk, rfl, H, HL, hown, hU⟩ := hrel
    have gr := (bcell hU).1
    have hle := hU.le
    by_cases hlt : k < f.length
    · obtain ⟨b1, o1, rfl, lb, cc⟩ := (Hf.out).at (by omega)
      obtain ⟨q1, q2, q3, q4⟩ := cc k hlt
      have j1 := (gr _ _ lb).trans q1
      have j2 := (gr _ _ lb).trans q2
      have j3 := (gr _ _ lb).trans q3
      have j4 := (gr _ _ lb).trans q4
      have _ : b1 < wr.heap.size := by omega
      have Hdr := hid (tdrop f k hlt)
      have hT := HT.out (f[k]?.getD default) (by rw [List.getElem?_eq_getElem hlt]; exact List.getElem_mem hlt)
      have Hlt := hid hlt
      have hdk : decide ((k : Int) < (f.length : Int)) = true := by simp; omega
      have hk0 : (0 : Int) ≤ (k : Int) := by omega
      have hkb : (k : Int) < (f.length : Int) := by omega
      have hk9 : (k : Int) < 1000 := by have := Hm.out; omega
      have HL4 := hid (show L.length ≤ 1000 by have := HL.out; have := Hm.out; omega)
      generalize f[k]?.getD default = t at *
      have h0 : 0 ≤ t.t1 := (hT.1 1).1
      have h3 : t.t1 ≤ 3 := (hT.1 1).2
      obtain ⟨hb1, hb2⟩ := mulT_bd hT.2 h0 h3
      have Hown := hid hown
      clear cc q1 q2 q3 q4 gr hlt hown hT
      by_cases hz : t.t1 = 0
      · have Hz := hid hz
        have e0 : (t.t1 == 0) = true := beq_iff_eq.2 hz
        clear hz hb1 hb2
        go_wp2
        go_roundw
        case rel =>
          have hUa : Up wr (wr.alloc (Obj.cells #[.int .i64 t.by_, .int .i64 t.t0, .int .i64 t.t1, .int .i64 t.t2] 87)) := by (repeat (first | (with_reducible exact Up.refl _) | (with_reducible assumption) | (with_reducible refine Up.alloc ?_ _) | (with_reducible refine Up.drew ?_) | ((with_reducible refine Up.set ?_ ?_ _); rotate_left; focus (first | omega | (simp; done) | (simp; omega))) | (with_reducible refine Up.drewN ?_ _) | (with_reducible refine Up.call ?_ (by with_reducible assumption))))
          refine ⟨k + 1, L, by have := Hlt.out; omega, by go_num, ?_, ?_, Hown.out.up hUa, hU.call hUa⟩
          · show _ = _
            rw [H.out, Hdr.out]; exact steepG_skip Hz.out
          · have := HL.out
            show _ ≤ _
            omega
        case measure => have := Hlt.out; simp [intOf]; omega
      · have Hz := hid hz
        have e0 : (t.t1 == 0) = false := beq_false_of_ne hz
        have h1 : 1 ≤ t.t1 := by omega
        clear hz
        cases hmm : mayB (t.by_ * t.t1) with
        | false =>
          have Hmm := hid hmm; clear hmm
          go_wp2_with (first
                        | ((go_at_call 39; refine (may_any _ _).mono ?_; rintro e w' ⟨rfl, rfl⟩); rw [Hmm.out]))
          go_ret2
          refine RetR.mk (.error 4) ?_ ?_ (rel := tlE) rfl
          · (repeat (first | (with_reducible exact Up.refl _) | (with_reducible assumption) | (with_reducible refine Up.alloc ?_ _) | (with_reducible refine Up.drew ?_) | ((with_reducible refine Up.set ?_ ?_ _); rotate_left; focus (first | omega | (simp; done) | (simp; omega))) | (with_reducible refine Up.drewN ?_ _) | (with_reducible refine Up.call ?_ (by with_reducible assumption))))
          · rw [H.out, Hdr.out]; exact steepG_bad Hz.out (mayB_false.1 Hmm.out)
        | true =>
          have Hmm := hid hmm; clear hmm
          go_wp2_with (first
                        | ((go_at_call 39; refine (may_any _ _).mono ?_; rintro e w' ⟨rfl, rfl⟩); rw [Hmm.out])
                        | (at_builtin; go_loud (refine wpList_append_own_at _ rfl (.tmp 39) (.tmp 41) _ rfl w.heap.size 87 i0 (.agg #[.int .i64 0, .int .i64 0, .int .i64 0, .int .i64 0]) 4 32 Try.underlying66 hi0 hz0 hz1 hz2 rfl (by decide) _ _ _ rfl (Hown.out.up (by (repeat (first | (with_reducible exact Up.refl _) | (with_reducible assumption) | (with_reducible refine Up.alloc ?_ _) | (with_reducible refine Up.drew ?_) | ((with_reducible refine Up.set ?_ ?_ _); rotate_left; focus (first | omega | (simp; done) | (simp; omega))) | (with_reducible refine Up.drewN ?_ _) | (with_reducible refine Up.call ?_ (by with_reducible assumption)))))) ⟨wr.heap.size + 1, 0, none⟩ 1 1 [.int .i64 (t.by_ * t.t1), .int .i64 (t.t0), .int .i64 (t.t1 - 1), .int .i64 (t.t2)] rfl rfl (cell_four_at _ _ _ _ _ _ (by simp)) (by simp [Value.oneCell']) (by have := HL4.out; unfold maxLen; omega) (by have := HL4.out; omega) (by simp; omega) ?_); intro v8 w5 own8 g8 _ at8))
          go_roundw
          case rel =>
            refine ⟨k + 1, L ++ [t.dec 1], by have := Hlt.out; omega, by go_num, ?_, ?_, OwnT.snoc own8, ?_⟩
            · show _ = _
              rw [H.out, Hdr.out]; exact steepG_go Hz.out (mayB_true.1 Hmm.out)
            · have := HL.out
              show _ ≤ _
              simp; omega
            · refine Below.grown (a := w) (B := w.heap.size) ?_ g8 ?_ (fun j hj => (Hown.out.lt j hj).1)
              · (show Up w _; (repeat (first | (with_reducible exact Up.refl _) | (with_reducible assumption) | (with_reducible refine Up.alloc ?_ _) | (with_reducible refine Up.drew ?_) | ((with_reducible refine Up.set ?_ ?_ _); rotate_left; focus (first | omega | (simp; done) | (simp; omega))) | (with_reducible refine Up.drewN ?_ _) | (with_reducible refine Up.call ?_ (by with_reducible assumption)))))
              · simp; omega
          case measure => have := Hlt.out; simp [intOf]; omega
    · obtain rfl : k = f.length := by omega
      obtain ⟨A', c', hv⟩ := hown.shape
      subst hv
      have Hown := hid hown
      clear hown gr
      go_wp2
      go_ret2
      refine RetR.mk (.ok L) hU ?_ (rel := tlE) Hown.out.rdE
      rw [H.out, List.drop_length]
      simp [nsteepG, preT]
set_option maxRecDepth 100000 in
set_option maxHeartbeats 4000000 in
theorem steep_any2 (f : List Tm) (A : Option Addr) (c : Nat) (w : World) (hf : RdT w A f) (hm : f.length ≤ 1000) (ht : ∀ t ∈ f, (∀ i, 0 ≤ t.time i ∧ t.time i ≤ 3) ∧ M t.by_) :
    Calls Try.prog 44 #[.slice A f.length c, .int .i64 2] w (RetR tlE (nsteepG 2 f) w) := by
  have Hf := hid hf; have Hm := hid hm; have HT := hid ht
  obtain ⟨i0, hi0, hz0, hz1, hz2⟩ := info_parts Try.infoTerm
  rw [← preT_nil (nsteepG 2 f)]
  clear hf hm ht
  go_enter Try.func44, Try.ntmps44
  go_wp2
  go_loopw [6, 12] (fun v i wr => ∃ (k : Nat) (L : List Tm), k ≤ f.length ∧ i = .int .i64 k ∧ Hid (preT [] (nsteepG 2 f) = preT L (nsteepG 2 (f.drop k))) ∧ Hid (L.length ≤ k) ∧ OwnT wr w.heap.size v L ∧ Up w wr) (fun _ i _ => f.length - (intOf i).toNat)
  case atStart => exact ⟨0, [], by omega, rfl, rfl, Nat.le_refl 0, OwnT.nil _ _, Up.refl _⟩
  case round =>
    obtain ⟨k, L, hk, rfl, H, HL, hown, hU⟩ := hrel
    have gr := (bcell hU).1
    have hle := hU.le
    by_cases hlt : k < f.length
    · obtain ⟨b1, o1, rfl, lb, cc⟩ := (Hf.out).at (by omega)
      obtain ⟨q1, q2, q3, q4⟩ := cc k hlt
      have j1 := (gr _ _ lb).trans q1
      have j2 := (gr _ _ lb).trans q2
      have j3 := (gr _ _ lb).trans q3
      have j4 := (gr _ _ lb).trans q4
      have _ : b1 < wr.heap.size := by omega
      have Hdr := hid (tdrop f k hlt)
      have hT := HT.out (f[k]?.getD default) (by rw [List.getElem?_eq_getElem hlt]; exact List.getElem_mem hlt)
      have Hlt := hid hlt
      have hdk : decide ((k : Int) < (f.length : Int)) = true := by simp; omega
      have hk0 : (0 : Int) ≤ (k : Int) := by omega
      have hkb : (k : Int) < (f.length : Int) := by omega
      have hk9 : (k : Int) < 1000 := by have := Hm.out; omega
      have HL4 := hid (show L.length ≤ 1000 by have := HL.out; have := Hm.out; omega)
      generalize f[k]?.getD default = t at *
      have h0 : 0 ≤ t.t2 := (hT.1 2).1
      have h3 : t.t2 ≤ 3 := (hT.1 2).2
      obtain ⟨hb1, hb2⟩ := mulT_bd hT.2 h0 h3
      have Hown := hid hown
      clear cc q1 q2 q3 q4 gr hlt hown hT
      by_cases hz : t.t2 = 0
      · have Hz := hid hz
        have e0 : (t.t2 == 0) = true := beq_iff_eq.2 hz
        clear hz hb1 hb2
        go_wp2
        go_roundw
        case rel =>
          have hUa : Up wr (wr.alloc (Obj.cells #[.int .i64 t.by_, .int .i64 t.t0, .int .i64 t.t1, .int .i64 t.t2] 87)) := by (repeat (first | (with_reducible exact Up.refl _) | (with_reducible assumption) | (with_reducible refine Up.alloc ?_ _) | (with_reducible refine Up.drew ?_) | ((with_reducible refine Up.set ?_ ?_ _); rotate_left; focus (first | omega | (simp; done) | (simp; omega))) | (with_reducible refine Up.drewN ?_ _) | (with_reducible refine Up.call ?_ (by with_reducible assumption))))
          refine ⟨k + 1, L, by have := Hlt.out; omega, by go_num, ?_, ?_, Hown.out.up hUa, hU.call hUa⟩
          · show _ = _
            rw [H.out, Hdr.out]; exact steepG_skip Hz.out
          · have := HL.out
            show _ ≤ _
            omega
        case measure => have := Hlt.out; simp [intOf]; omega
      · have Hz := hid hz
        have e0 : (t.t2 == 0) = false := beq_false_of_ne hz
        have h1 : 1 ≤ t.t2 := by omega
        clear hz
        cases hmm : mayB (t.by_ * t.t2) with
        | false =>
          have Hmm := hid hmm; clear hmm
          go_wp2_with (first
                        | ((go_at_call 39; refine (may_any _ _).mono ?_; rintro e w' ⟨rfl, rfl⟩); rw [Hmm.out]))
          go_ret2
          refine RetR.mk (.error 4) ?_ ?_ (rel := tlE) rfl
          · (repeat (first | (with_reducible exact Up.refl _) | (with_reducible assumption) | (with_reducible refine Up.alloc ?_ _) | (with_reducible refine Up.drew ?_) | ((with_reducible refine Up.set ?_ ?_ _); rotate_left; focus (first | omega | (simp; done) | (simp; omega))) | (with_reducible refine Up.drewN ?_ _) | (with_reducible refine Up.call ?_ (by with_reducible assumption))))
          · rw [H.out, Hdr.out]; exact steepG_bad Hz.out (mayB_false.1 Hmm.out)
        | true =>
          have Hmm := hid hmm; clear hmm
          go_wp2_with (first
                        | ((go_at_call 39; refine (may_any _ _).mono ?_; rintro e w' ⟨rfl, rfl⟩); rw [Hmm.out])
                        | (at_builtin; go_loud (refine wpList_append_own_at _ rfl (.tmp 39) (.tmp 41) _ rfl w.heap.size 87 i0 (.agg #[.int .i64 0, .int .i64 0, .int .i64 0, .int .i64 0]) 4 32 Try.underlying66 hi0 hz0 hz1 hz2 rfl (by decide) _ _ _ rfl (Hown.out.up (by (repeat (first | (with_reducible exact Up.refl _) | (with_reducible assumption) | (with_reducible refine Up.alloc ?_ _) | (with_reducible refine Up.drew ?_) | ((with_reducible refine Up.set ?_ ?_ _); rotate_left; focus (first | omega | (simp; done) | (simp; omega))) | (with_reducible refine Up.drewN ?_ _) | (with_reducible refine Up.call ?_ (by with_reducible assumption)))))) ⟨wr.heap.size + 1, 0, none⟩ 1 1 [.int .i64 (t.by_ * t.t2), .int .i64 (t.t0), .int .i64 (t.t1), .int .i64 (t.t2 - 1)] rfl rfl (cell_four_at _ _ _ _ _ _ (by simp)) (by simp [Value.oneCell']) (by have := HL4.out; unfold maxLen; omega) (by have := HL4.out; omega) (by simp; omega) ?_); intro v8 w5 own8 g8 _ at8))
          go_roundw
          case rel =>
            refine ⟨k + 1, L ++ [t.dec 2], by have := Hlt.out; omega, by go_num, ?_, ?_, OwnT.snoc own8, ?_⟩
            · show _ = _
              rw [H.out, Hdr.out]; exact steepG_go Hz.out (mayB_true.1 Hmm.out)
            · have := HL.out
              show _ ≤ _
              simp; omega
            · refine Below.grown (a := w) (B := w.heap.size) ?_ g8 ?_ (fun j hj => (Hown.out.lt j hj).1)
              · (show Up w _; (repeat (first | (with_reducible exact Up.refl _) | (with_reducible assumption) | (with_reducible refine Up.alloc ?_ _) | (with_reducible refine Up.drew ?_) | ((with_reducible refine Up.set ?_ ?_ _); rotate_left; focus (first | omega | (simp; done) | (simp; omega))) | (with_reducible refine Up.drewN ?_ _) | (with_reducible refine Up.call ?_ (by with_reducible assumption)))))
              · simp; omega
          case measure => have := Hlt.out; simp [intOf]; omega
    · obtain rfl : k = f.length := by omega
      obtain ⟨A', c', hv⟩ := hown.shape
      subst hv
      have Hown := hid hown
      clear hown gr
      go_wp2
      go_ret2
      refine RetR.mk (.ok L) hU ?_ (rel := tlE) Hown.out.rdE
      rw [H.out, List.drop_length]
      simp [nsteepG, preT]
theorem tsteep_any (f : List Tm) (A : Option Addr) (c k : Nat) (w : World) (hf : RdT w A f) (hm : f.length ≤ 1000) (ht : ∀ t ∈ f, (∀ i, 0 ≤ t.time i ∧ t.time i ≤ 3) ∧ M t.by_) (hk : k < 3) :
    Calls Try.prog 44 #[.slice A f.length c, .int .i64 (k : Int)] w (RetR tlE (nsteepG k f) w) := by
  match k, hk with
  | 0, _ => exact steep_any0 f A c w hf hm ht
  | 1, _ => exact steep_any1 f A c w hf hm ht
  | 2, _ => exact steep_any2 f A c w hf hm ht
end Go.Proofs.Ytknkpjfoaijaoaa
