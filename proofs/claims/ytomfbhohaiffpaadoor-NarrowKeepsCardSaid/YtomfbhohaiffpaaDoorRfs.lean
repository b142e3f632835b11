/- Plain laws in the form in which the statements of polynomials ask them. The walks of the reference's spans: Big, Span, Two, fits, Alone, Zero, Add, Less, Times, By, Hull, Meet. Results read open: a span and an error, or a number, without a look at which it is. -/
import Derived.Test.YtomfbhohaiffpaaDoorHas
import Derived.Test.YtomfbhohaiffpaaDoorBox
import Derived.Test.YtomfbhohaiffpaaDoorTold
set_option linter.unusedVariables false
set_option linter.unusedSimpArgs false
namespace Go.Proofs.YtomfbhohaiffpaaDoor

theorem in_round {s : Sp} {E D : Int} (hD : 0 < D) (h : In s E D) : s.lo ≤ dn E D ∧ up E D ≤ s.hi := ⟨(le_dn hD).2 h.1, (up_le hD).2 h.2⟩
theorem orErr_ok {α : Type} {c : Option Nat} {r : Except Nat α} {s : α} (h : orErr c r = .ok s) : c = none ∧ r = .ok s := by
  cases c with
  | none => exact ⟨rfl, h⟩
  | some e => cases h
theorem horner_has {p : List Int} {x s : Sp} {n : Int} (hs : smallB p n = true) (h1 : x.lo ≤ n) (h2 : n ≤ x.hi) (h : hornerF p x = .ok s) : s.lo ≤ dn (exP n p) 1000000000000 ∧ up (exP n p) 1000000000000 ≤ s.hi :=
  in_round (by decide) (nested_at (smallB_true hs).2.1 (orErr_ok h).2 ⟨h1, h2⟩)
theorem powers_has {p : List Int} {x s : Sp} {n : Int} (hs : smallB p n = true) (h1 : x.lo ≤ n) (h2 : n ≤ x.hi) (h : powersF p x = .ok s) : s.lo ≤ dn (exP n p) 1000000000000 ∧ up (exP n p) 1000000000000 ≤ s.hi :=
  in_round (by decide) (added_at (smallB_true hs).2.1 (orErr_ok h).2 ⟨h1, h2⟩)
theorem crange_has {p : List Int} {x s : Sp} {n : Int} (hs : smallB p n = true) (h1 : x.lo ≤ n) (h2 : n ≤ x.hi) (h : crangeF p x = .ok s) : s.lo ≤ dn (exP n p) 1000000000000 ∧ up (exP n p) 1000000000000 ≤ s.hi :=
  in_round (by decide) (around_at (smallB_true hs).1 (smallB_true hs).2.1 (orErr_ok h).2 ⟨h1, h2⟩)
theorem best_has {p : List Int} {x s : Sp} {n : Int} (hs : smallB p n = true) (h1 : x.lo ≤ n) (h2 : n ≤ x.hi) (h : bestF p x = .ok s) : s.lo ≤ dn (exP n p) 1000000000000 ∧ up (exP n p) 1000000000000 ≤ s.hi :=
  in_round (by decide) (tight_at (smallB_true hs).1 (smallB_true hs).2.1 (orErr_ok h).2 ⟨h1, h2⟩)
theorem mrange_has {p : List Int} {x s : Sp} {n : Int} (hs : smallB p n = true) (h1 : x.lo ≤ n) (h2 : n ≤ x.hi) (h : mrangeF p x = .ok s) : s.lo ≤ dn (exP n p) 1000000000000 ∧ up (exP n p) 1000000000000 ≤ s.hi :=
  in_round (by decide) (over_at (smallB_true hs).1 (smallB_true hs).2.1 (orErr_ok h).2 ⟨h1, h2⟩)
theorem mway_has {p : List Int} {x : Sp} {n m v : Int} (hs : smallB p n = true) (h1 : x.lo ≤ n) (h2 : n ≤ x.hi) (h3 : x.lo ≤ m) (h4 : m ≤ x.hi) (h : mwayF p x = .ok v) :
    v = 0 ∨ (v = 1 ∧ (n ≤ m → exP n p ≤ exP m p) ∧ (m ≤ n → exP m p ≤ exP n p)) ∨ (v = -1 ∧ (n ≤ m → exP m p ≤ exP n p) ∧ (m ≤ n → exP n p ≤ exP m p)) := by
  obtain ⟨g1, g2, -⟩ := smallB_true hs
  unfold mwayF at h
  cases hc : cslopeF p x with
  | error e => rw [hc] at h; cases h
  | ok d =>
    rw [hc] at h
    injection h with h
    have hst := (orErr_ok hc).2
    rcases wayF_cases d with ⟨e, hd⟩ | ⟨e, hd, -⟩ | ⟨e, -, -⟩
    · rw [e] at h
      exact .inr (.inl ⟨h.symm, fun hh => way_up g1 g2 hst hd ⟨h3, h4⟩ ⟨h1, h2⟩ hh, fun hh => way_up g1 g2 hst hd ⟨h1, h2⟩ ⟨h3, h4⟩ hh⟩)
    · rw [e] at h
      exact .inr (.inr ⟨h.symm, fun hh => way_down g1 g2 hst hd ⟨h3, h4⟩ ⟨h1, h2⟩ hh, fun hh => way_down g1 g2 hst hd ⟨h1, h2⟩ ⟨h3, h4⟩ hh⟩)
    · rw [e] at h
      exact .inl h.symm
/-- Best of three is told only where each of the three is, and lies in each. -/
theorem best_parts {p : List Int} {x t : Sp} (h : bestF p x = .ok t) : ∃ a b c, crangeF p x = .ok a ∧ hornerF p x = .ok b ∧ powersF p x = .ok c ∧
    a.lo ≤ t.lo ∧ t.hi ≤ a.hi ∧ b.lo ≤ t.lo ∧ t.hi ≤ b.hi ∧ c.lo ≤ t.lo ∧ t.hi ≤ c.hi ∧ t.lo ≤ t.hi := by
  obtain ⟨hp, ht⟩ := orErr_ok h
  unfold tightF at ht
  split at ht
  · cases ht
  · rename_i a h1
    split at ht
    · cases ht
    · rename_i b h2
      split at ht
      · cases ht
      · rename_i ab h3
        split at ht
        · cases ht
        · rename_i c h4
          have k1 := com_within h3
          have k2 := com_within ht
          refine ⟨c, a, b, by simp [crangeF, hp, orErr, h4], by simp [hornerF, hp, orErr, h1], by simp [powersF, hp, orErr, h2], ?_⟩
          omega
end Go.Proofs.YtomfbhohaiffpaaDoor

namespace Go.Proofs.YtomfbhohaiffpaaDoor
open Go.RowKit

def got (r : Except Nat Sp) : Sp := match r with
  | .ok s => s
  | .error _ => ⟨0, 0⟩
def eO {α : Type} (r : Except Nat α) : Option Nat := match r with
  | .ok _ => none
  | .error n => some n
theorem got_ok (s : Sp) : got (.ok s) = s := rfl
theorem got_error (n : Nat) : got (.error n) = ⟨0, 0⟩ := rfl
theorem eO_ok {α : Type} (s : α) : eO (.ok s : Except Nat α) = none := rfl
theorem eO_error {α : Type} (n : Nat) : eO (.error n : Except Nat α) = some n := rfl
theorem spR_open (r : Except Nat Sp) : spR r = .tuple #[.agg #[.int .i64 (got r).lo, .int .i64 (got r).hi], errV (eO r)] := by cases r <;> rfl
/-- What a reference's function hands back: the span, and the number of the fault. -/
def rfR : Except Nat Sp → Value
  | .ok s => .tuple #[.agg #[.int .i64 s.lo, .int .i64 s.hi], .int .i64 0]
  | .error n => .tuple #[.agg #[.int .i64 0, .int .i64 0], .int .i64 n]
theorem rfR_ok (s : Sp) : rfR (.ok s) = .tuple #[.agg #[.int .i64 s.lo, .int .i64 s.hi], .int .i64 0] := rfl
theorem rfR_error (n : Nat) : rfR (.error n) = .tuple #[.agg #[.int .i64 0, .int .i64 0], .int .i64 n] := rfl
theorem rfR_open (r : Except Nat Sp) : rfR r = .tuple #[.agg #[.int .i64 (got r).lo, .int .i64 (got r).hi], .int .i64 (numO (eO r))] := by cases r <;> rfl
attribute [go_sem] rfR_ok rfR_error got_ok got_error eO_ok eO_error
def numV (x : Option Nat) : Value := .int .i64 (numO x)
theorem numV_none : numV none = .int .i64 0 := rfl
theorem numV_some (n : Nat) : numV (some n) = .int .i64 n := rfl
attribute [go_sem] numV_none numV_some

theorem check_num {a : Sp} {n : Nat} (h : checkF a = some n) : n = 1 ∨ n = 3 := by
  unfold checkF at h
  split at h
  · injection h with h; exact .inl h.symm
  · split at h
    · injection h with h; exact .inr h.symm
    · cases h
theorem sum_err {a b : Sp} {e : Nat} (h : sumF a b = .error e) : e = 4 := fits_err h
theorem rest_err {a b : Sp} {e : Nat} (h : restF a b = .error e) : e = 4 := fits_err h
theorem prod_err {a b : Sp} {e : Nat} (h : prodF a b = .error e) : e = 4 := fits_err h
theorem com_err {a b : Sp} {e : Nat} (h : comF a b = .error e) : e = 5 := by
  unfold comF at h
  split at h
  · injection h with h; exact h.symm
  · cases h

theorem rmay_any (n : Int) (w : World) :
    Calls Tryd.prog 30 #[.int .i64 n] w fun e w' => e = .returned (.bool (mayB n)) ∧ w = w' := by
  unfold mayB
  go_enter Tryd.func30, Tryd.ntmps30
  go_wp2
  all_goals go_ret
  all_goals simp [*]
  omega
theorem rbig_any (lo hi : Int) (w : World) :
    Calls Tryd.prog 17 #[.agg #[.int .i64 lo, .int .i64 hi]] w (RetX boolV (!mayB lo || !mayB hi) w) := by
  cases e1 : mayB lo <;> cases e2 : mayB hi
  all_goals
    have E1 := hid e1
    have E2 := hid e2
    clear e1 e2
    go_enter Tryd.func17, Tryd.ntmps17
    go_wp2_with (first
      | ((go_at_call 30; (with_reducible refine (rmay_any lo _).mono ?_); rintro e wq ⟨rfl, rfl⟩); rw [E1.out])
      | ((go_at_call 30; (with_reducible refine (rmay_any hi _).mono ?_); rintro e wq ⟨rfl, rfl⟩); rw [E2.out]))
    go_ret
    refine RetX.mk _ ?_ rfl rfl
    (repeat (first | (with_reducible exact Up.refl _) | (with_reducible assumption) | (with_reducible refine Up.alloc ?_ _) | (with_reducible refine Up.drew ?_) | ((with_reducible refine Up.set ?_ ?_ _); rotate_left; focus (first | omega | (simp; done) | (simp; omega))) | (with_reducible refine Up.drewN ?_ _) | (with_reducible refine Up.call ?_ (by with_reducible assumption))))
theorem rspan_any (lo hi : Int) (w : World) :
    Calls Tryd.prog 6 #[.agg #[.int .i64 lo, .int .i64 hi]] w (RetX numV (checkF ⟨lo, hi⟩) w) := by
  cases hb : (!mayB lo || !mayB hi) with
  | true =>
    have Hb := hid hb
    have Hc := hid (show checkF ⟨lo, hi⟩ = some 1 by
      unfold checkF
      rw [if_pos]
      rintro ⟨h1, h2⟩
      dsimp only at h1 h2
      rw [mayB_true.2 h1, mayB_true.2 h2] at hb
      cases hb)
    clear hb
    go_enter Tryd.func6, Tryd.ntmps6
    go_wp2_with (first
      | ((go_at_call 17; refine (rbig_any _ _ _).mono ?_; rintro e w1 ⟨x, hx, rfl, hb1⟩); rw [Hb.out] at hx; subst hx; obtain ⟨hc1, hf1⟩ := bcell hb1))
    go_ret
    refine RetX.mk (some 1) ?_ Hc.out rfl
    (repeat (first | (with_reducible exact Up.refl _) | (with_reducible assumption) | (with_reducible refine Up.alloc ?_ _) | (with_reducible refine Up.drew ?_) | ((with_reducible refine Up.set ?_ ?_ _); rotate_left; focus (first | omega | (simp; done) | (simp; omega))) | (with_reducible refine Up.drewN ?_ _) | (with_reducible refine Up.call ?_ (by with_reducible assumption))))
  | false =>
    have Hb := hid hb
    have hm : M lo ∧ M hi := by
      simp at hb
      exact ⟨mayB_true.1 hb.1, mayB_true.1 hb.2⟩
    clear hb
    by_cases h3 : hi < lo
    · have Hc := hid (show checkF ⟨lo, hi⟩ = some 3 by unfold checkF; rw [if_neg (fun h => h hm), if_pos h3])
      clear hm
      go_enter Tryd.func6, Tryd.ntmps6
      go_wp2_with (first
        | ((go_at_call 17; refine (rbig_any _ _ _).mono ?_; rintro e w1 ⟨x, hx, rfl, hb1⟩); rw [Hb.out] at hx; subst hx; obtain ⟨hc1, hf1⟩ := bcell hb1; have _ : w.heap.size < w1.heap.size := (by have hle := Up.le hb1; first | omega | (simp at hle; omega) | (simp at hle; done))))
      go_ret
      refine RetX.mk (some 3) ?_ Hc.out rfl
      (repeat (first | (with_reducible exact Up.refl _) | (with_reducible assumption) | (with_reducible refine Up.alloc ?_ _) | (with_reducible refine Up.drew ?_) | ((with_reducible refine Up.set ?_ ?_ _); rotate_left; focus (first | omega | (simp; done) | (simp; omega))) | (with_reducible refine Up.drewN ?_ _) | (with_reducible refine Up.call ?_ (by with_reducible assumption))))
    · have Hc := hid (show checkF ⟨lo, hi⟩ = none by unfold checkF; rw [if_neg (fun h => h hm), if_neg h3])
      clear hm
      go_enter Tryd.func6, Tryd.ntmps6
      go_wp2_with (first
        | ((go_at_call 17; refine (rbig_any _ _ _).mono ?_; rintro e w1 ⟨x, hx, rfl, hb1⟩); rw [Hb.out] at hx; subst hx; obtain ⟨hc1, hf1⟩ := bcell hb1; have _ : w.heap.size < w1.heap.size := (by have hle := Up.le hb1; first | omega | (simp at hle; omega) | (simp at hle; done))))
      go_ret
      refine RetX.mk none ?_ Hc.out rfl
      (repeat (first | (with_reducible exact Up.refl _) | (with_reducible assumption) | (with_reducible refine Up.alloc ?_ _) | (with_reducible refine Up.drew ?_) | ((with_reducible refine Up.set ?_ ?_ _); rotate_left; focus (first | omega | (simp; done) | (simp; omega))) | (with_reducible refine Up.drewN ?_ _) | (with_reducible refine Up.call ?_ (by with_reducible assumption))))
def twoE (a b : Sp) : Option Nat := match checkF a with
  | some e => some e
  | none => checkF b
theorem two_eq (f : Sp → Sp → Except Nat Sp) (a b : Sp) : twoF f a b = orErr (twoE a b) (f a b) := by
  unfold twoF twoE orErr
  cases checkF a with
  | some e => rfl
  | none => cases checkF b <;> rfl
theorem two_rt {a b : Sp} (h : twoE a b = none) : Rt a ∧ Rt b := by
  unfold twoE at h
  split at h
  · cases h
  · rename_i ha
    exact ⟨checkF_none.1 ha, checkF_none.1 h⟩
theorem two_num {a b : Sp} {n : Nat} (h : twoE a b = some n) : n = 1 ∨ n = 3 := by
  unfold twoE at h
  split at h
  · rename_i k hk
    injection h with h
    subst h
    exact check_num hk
  · exact check_num h
theorem rtwo_any (lo hi lo' hi' : Int) (w : World) :
    Calls Tryd.prog 5 #[.agg #[.int .i64 lo, .int .i64 hi], .agg #[.int .i64 lo', .int .i64 hi']] w (RetX numV (twoE ⟨lo, hi⟩ ⟨lo', hi'⟩) w) := by
  cases ha : checkF ⟨lo, hi⟩ with
  | some n =>
    have Ha := hid ha
    have Hr := hid (show twoE ⟨lo, hi⟩ ⟨lo', hi'⟩ = some n by unfold twoE; rw [ha])
    have hn : ((n : Int) == 0) = false := beq_eq_false_iff_ne.2 (by rcases check_num ha with rfl | rfl <;> omega)
    clear ha
    go_enter Tryd.func5, Tryd.ntmps5
    go_wp2_with (first
      | ((go_at_call 6; refine (rspan_any _ _ _).mono ?_; rintro e w1 ⟨x, hx, rfl, hb1⟩); rw [Ha.out] at hx; subst hx; obtain ⟨hc1, hf1⟩ := bcell hb1))
    go_ret
    refine RetX.mk (some n) ?_ Hr.out rfl
    (repeat (first | (with_reducible exact Up.refl _) | (with_reducible assumption) | (with_reducible refine Up.alloc ?_ _) | (with_reducible refine Up.drew ?_) | ((with_reducible refine Up.set ?_ ?_ _); rotate_left; focus (first | omega | (simp; done) | (simp; omega))) | (with_reducible refine Up.drewN ?_ _) | (with_reducible refine Up.call ?_ (by with_reducible assumption))))
  | none =>
    have Ha := hid ha
    have Hr := hid (show twoE ⟨lo, hi⟩ ⟨lo', hi'⟩ = checkF ⟨lo', hi'⟩ by unfold twoE; rw [ha])
    clear ha
    cases hb0 : checkF ⟨lo', hi'⟩ with
    | some n =>
      have Hb := hid hb0; clear hb0
      go_enter Tryd.func5, Tryd.ntmps5
      go_wp2_with (first
        | ((go_at_call 6; (with_reducible refine (rspan_any lo hi _).mono ?_); rintro e w1 ⟨x, hx, rfl, hb1⟩); rw [Ha.out] at hx; subst hx; obtain ⟨hc1, hf1⟩ := bcell hb1; obtain ⟨_, _⟩ : w.heap.size < w1.heap.size ∧ w.heap.size + 1 < w1.heap.size := (by have hle := Up.le hb1; first | omega | (simp at hle; omega) | (simp at hle; done)))
        | ((go_at_call 6; (with_reducible refine (rspan_any lo' hi' _).mono ?_); rintro e w2 ⟨x, hx, rfl, hb2⟩); rw [Hb.out] at hx; subst hx; obtain ⟨hc2, hf2⟩ := bcell hb2))
      go_ret
      refine RetX.mk (some n) ?_ (Hr.out.trans Hb.out) rfl
      (repeat (first | (with_reducible exact Up.refl _) | (with_reducible assumption) | (with_reducible refine Up.alloc ?_ _) | (with_reducible refine Up.drew ?_) | ((with_reducible refine Up.set ?_ ?_ _); rotate_left; focus (first | omega | (simp; done) | (simp; omega))) | (with_reducible refine Up.drewN ?_ _) | (with_reducible refine Up.call ?_ (by with_reducible assumption))))
    | none =>
      have Hb := hid hb0; clear hb0
      go_enter Tryd.func5, Tryd.ntmps5
      go_wp2_with (first
        | ((go_at_call 6; (with_reducible refine (rspan_any lo hi _).mono ?_); rintro e w1 ⟨x, hx, rfl, hb1⟩); rw [Ha.out] at hx; subst hx; obtain ⟨hc1, hf1⟩ := bcell hb1; obtain ⟨_, _⟩ : w.heap.size < w1.heap.size ∧ w.heap.size + 1 < w1.heap.size := (by have hle := Up.le hb1; first | omega | (simp at hle; omega) | (simp at hle; done)))
        | ((go_at_call 6; (with_reducible refine (rspan_any lo' hi' _).mono ?_); rintro e w2 ⟨x, hx, rfl, hb2⟩); rw [Hb.out] at hx; subst hx; obtain ⟨hc2, hf2⟩ := bcell hb2))
      go_ret
      refine RetX.mk none ?_ (Hr.out.trans Hb.out) rfl
      (repeat (first | (with_reducible exact Up.refl _) | (with_reducible assumption) | (with_reducible refine Up.alloc ?_ _) | (with_reducible refine Up.drew ?_) | ((with_reducible refine Up.set ?_ ?_ _); rotate_left; focus (first | omega | (simp; done) | (simp; omega))) | (with_reducible refine Up.drewN ?_ _) | (with_reducible refine Up.call ?_ (by with_reducible assumption))))
theorem rfits_any (lo hi : Int) (w : World) :
    Calls Tryd.prog 18 #[.agg #[.int .i64 lo, .int .i64 hi]] w (RetX rfR (fitsF ⟨lo, hi⟩) w) := by
  cases hb : (!mayB lo || !mayB hi) with
  | true =>
    have Hb := hid hb
    have Hc := hid (show fitsF ⟨lo, hi⟩ = .error 4 by
      unfold fitsF
      rw [if_neg]
      rintro ⟨h1, h2⟩
      dsimp only at h1 h2
      rw [mayB_true.2 h1, mayB_true.2 h2] at hb
      cases hb)
    clear hb
    go_enter Tryd.func18, Tryd.ntmps18
    go_wp2_with (first
      | ((go_at_call 17; refine (rbig_any _ _ _).mono ?_; rintro e w1 ⟨x, hx, rfl, hb1⟩); rw [Hb.out] at hx; subst hx; obtain ⟨hc1, hf1⟩ := bcell hb1; obtain ⟨_, _⟩ : w.heap.size < w1.heap.size ∧ w.heap.size + 1 < w1.heap.size := (by have hle := Up.le hb1; first | omega | (simp at hle; omega) | (simp at hle; done))))
    all_goals
      (refine bodyPost_res rfl ?_; simp only [results, Tryd.results18]; go_simp; refine resPost_ok ?_)
      refine RetX.mk (.error 4) ?_ Hc.out rfl
      (repeat (first | (with_reducible exact Up.refl _) | (with_reducible assumption) | (with_reducible refine Up.alloc ?_ _) | (with_reducible refine Up.drew ?_) | ((with_reducible refine Up.set ?_ ?_ _); rotate_left; focus (first | omega | (simp; done) | (simp; omega))) | (with_reducible refine Up.drewN ?_ _) | (with_reducible refine Up.call ?_ (by with_reducible assumption))))
  | false =>
    have Hb := hid hb
    have hm : M lo ∧ M hi := by
      simp at hb
      exact ⟨mayB_true.1 hb.1, mayB_true.1 hb.2⟩
    have Hc := hid (show fitsF ⟨lo, hi⟩ = .ok ⟨lo, hi⟩ by unfold fitsF; rw [if_pos hm])
    clear hb hm
    go_enter Tryd.func18, Tryd.ntmps18
    go_wp2_with (first
      | ((go_at_call 17; refine (rbig_any _ _ _).mono ?_; rintro e w1 ⟨x, hx, rfl, hb1⟩); rw [Hb.out] at hx; subst hx; obtain ⟨hc1, hf1⟩ := bcell hb1; obtain ⟨_, _⟩ : w.heap.size < w1.heap.size ∧ w.heap.size + 1 < w1.heap.size := (by have hle := Up.le hb1; first | omega | (simp at hle; omega) | (simp at hle; done))))
    all_goals
      (refine bodyPost_res rfl ?_; simp only [results, Tryd.results18]; go_simp; refine resPost_ok ?_)
      refine RetX.mk (.ok ⟨lo, hi⟩) ?_ Hc.out rfl
      (repeat (first | (with_reducible exact Up.refl _) | (with_reducible assumption) | (with_reducible refine Up.alloc ?_ _) | (with_reducible refine Up.drew ?_) | ((with_reducible refine Up.set ?_ ?_ _); rotate_left; focus (first | omega | (simp; done) | (simp; omega))) | (with_reducible refine Up.drewN ?_ _) | (with_reducible refine Up.call ?_ (by with_reducible assumption))))
theorem rzero_any (lo hi : Int) (w : World) :
    Calls Tryd.prog 13 #[.agg #[.int .i64 lo, .int .i64 hi]] w (RetX boolV (zeroF ⟨lo, hi⟩) w) := by
  go_enter Tryd.func13, Tryd.ntmps13
  go_wp2
  all_goals
    go_ret
    refine RetX.mk _ ?_ rfl (by simp_all [zeroF, boolV]; try omega)
    (repeat (first | (with_reducible exact Up.refl _) | (with_reducible assumption) | (with_reducible refine Up.alloc ?_ _) | (with_reducible refine Up.drew ?_) | ((with_reducible refine Up.set ?_ ?_ _); rotate_left; focus (first | omega | (simp; done) | (simp; omega))) | (with_reducible refine Up.drewN ?_ _) | (with_reducible refine Up.call ?_ (by with_reducible assumption))))
theorem radd_any (lo hi lo' hi' : Int) (w : World) (h1 : M lo) (h2 : M hi) (h3 : M lo') (h4 : M hi') :
    Calls Tryd.prog 7 #[.agg #[.int .i64 lo, .int .i64 hi], .agg #[.int .i64 lo', .int .i64 hi']] w (RetX rfR (sumF ⟨lo, hi⟩ ⟨lo', hi'⟩) w) := by
  obtain ⟨_, _⟩ := h1; obtain ⟨_, _⟩ := h2; obtain ⟨_, _⟩ := h3; obtain ⟨_, _⟩ := h4
  go_enter Tryd.func7, Tryd.ntmps7
  go_wp2_with ((go_at_call 18; refine (rfits_any _ _ _).mono ?_; rintro e w' ⟨(n|s), hx, rfl, hb⟩) <;> obtain ⟨hc, hf⟩ := bcell hb)
  all_goals
    (refine bodyPost_res rfl ?_; simp only [results, Tryd.results7]; go_simp; refine resPost_ok ?_)
    first
      | refine RetX.mk (.error n) ?_ hx rfl
      | refine RetX.mk (.ok s) ?_ hx rfl
    (repeat (first | (with_reducible exact Up.refl _) | (with_reducible assumption) | (with_reducible refine Up.alloc ?_ _) | (with_reducible refine Up.drew ?_) | ((with_reducible refine Up.set ?_ ?_ _); rotate_left; focus (first | omega | (simp; done) | (simp; omega))) | (with_reducible refine Up.drewN ?_ _) | (with_reducible refine Up.call ?_ (by with_reducible assumption))))
theorem rless_any (lo hi lo' hi' : Int) (w : World) (h1 : M lo) (h2 : M hi) (h3 : M lo') (h4 : M hi') :
    Calls Tryd.prog 9 #[.agg #[.int .i64 lo, .int .i64 hi], .agg #[.int .i64 lo', .int .i64 hi']] w (RetX rfR (restF ⟨lo, hi⟩ ⟨lo', hi'⟩) w) := by
  obtain ⟨_, _⟩ := h1; obtain ⟨_, _⟩ := h2; obtain ⟨_, _⟩ := h3; obtain ⟨_, _⟩ := h4
  go_enter Tryd.func9, Tryd.ntmps9
  go_wp2_with ((go_at_call 18; refine (rfits_any _ _ _).mono ?_; rintro e w' ⟨(n|s), hx, rfl, hb⟩) <;> obtain ⟨hc, hf⟩ := bcell hb)
  all_goals
    (refine bodyPost_res rfl ?_; simp only [results, Tryd.results9]; go_simp; refine resPost_ok ?_)
    first
      | refine RetX.mk (.error n) ?_ hx rfl
      | refine RetX.mk (.ok s) ?_ hx rfl
    (repeat (first | (with_reducible exact Up.refl _) | (with_reducible assumption) | (with_reducible refine Up.alloc ?_ _) | (with_reducible refine Up.drew ?_) | ((with_reducible refine Up.set ?_ ?_ _); rotate_left; focus (first | omega | (simp; done) | (simp; omega))) | (with_reducible refine Up.drewN ?_ _) | (with_reducible refine Up.call ?_ (by with_reducible assumption))))
theorem rmeet_any (lo hi lo' hi' : Int) (w : World) :
    Calls Tryd.prog 8 #[.agg #[.int .i64 lo, .int .i64 hi], .agg #[.int .i64 lo', .int .i64 hi']] w (RetX rfR (comF ⟨lo, hi⟩ ⟨lo', hi'⟩) w) := by
  have Hc := hid (show ∀ s : Sp, s.lo = max lo lo' → s.hi = min hi hi' → comF ⟨lo, hi⟩ ⟨lo', hi'⟩ = if s.hi < s.lo then .error 5 else .ok s from by
    intro s h1 h2
    cases s
    dsimp only at h1 h2
    subst h1 h2
    rfl)
  rcases Int.lt_or_le lo lo' with q1 | q1 <;> rcases Int.lt_or_le hi' hi with q2 | q2
  all_goals
    go_enter Tryd.func8, Tryd.ntmps8
    go_wp2
    all_goals
      (refine bodyPost_res rfl ?_; simp only [results, Tryd.results8]; go_simp; refine resPost_ok ?_)
      first
        | (refine RetX.mk (.error 5) ?_ ?_ rfl
           · (repeat (first | (with_reducible exact Up.refl _) | (with_reducible assumption) | (with_reducible refine Up.alloc ?_ _) | (with_reducible refine Up.drew ?_) | ((with_reducible refine Up.set ?_ ?_ _); rotate_left; focus (first | omega | (simp; done) | (simp; omega))) | (with_reducible refine Up.drewN ?_ _) | (with_reducible refine Up.call ?_ (by with_reducible assumption))))
           · first
               | (rw [Hc.out ⟨lo', hi'⟩ (by dsimp only; omega) (by dsimp only; omega)]; exact if_pos (by assumption))
               | (rw [Hc.out ⟨lo', hi⟩ (by dsimp only; omega) (by dsimp only; omega)]; exact if_pos (by assumption))
               | (rw [Hc.out ⟨lo, hi'⟩ (by dsimp only; omega) (by dsimp only; omega)]; exact if_pos (by assumption))
               | (rw [Hc.out ⟨lo, hi⟩ (by dsimp only; omega) (by dsimp only; omega)]; exact if_pos (by assumption)))
        | (refine RetX.mk (.ok ⟨lo', hi'⟩) ?_ ?_ rfl
           · (repeat (first | (with_reducible exact Up.refl _) | (with_reducible assumption) | (with_reducible refine Up.alloc ?_ _) | (with_reducible refine Up.drew ?_) | ((with_reducible refine Up.set ?_ ?_ _); rotate_left; focus (first | omega | (simp; done) | (simp; omega))) | (with_reducible refine Up.drewN ?_ _) | (with_reducible refine Up.call ?_ (by with_reducible assumption))))
           · rw [Hc.out ⟨lo', hi'⟩ (by dsimp only; omega) (by dsimp only; omega)]; exact if_neg (by dsimp only; omega))
        | (refine RetX.mk (.ok ⟨lo', hi⟩) ?_ ?_ rfl
           · (repeat (first | (with_reducible exact Up.refl _) | (with_reducible assumption) | (with_reducible refine Up.alloc ?_ _) | (with_reducible refine Up.drew ?_) | ((with_reducible refine Up.set ?_ ?_ _); rotate_left; focus (first | omega | (simp; done) | (simp; omega))) | (with_reducible refine Up.drewN ?_ _) | (with_reducible refine Up.call ?_ (by with_reducible assumption))))
           · rw [Hc.out ⟨lo', hi⟩ (by dsimp only; omega) (by dsimp only; omega)]; exact if_neg (by dsimp only; omega))
        | (refine RetX.mk (.ok ⟨lo, hi'⟩) ?_ ?_ rfl
           · (repeat (first | (with_reducible exact Up.refl _) | (with_reducible assumption) | (with_reducible refine Up.alloc ?_ _) | (with_reducible refine Up.drew ?_) | ((with_reducible refine Up.set ?_ ?_ _); rotate_left; focus (first | omega | (simp; done) | (simp; omega))) | (with_reducible refine Up.drewN ?_ _) | (with_reducible refine Up.call ?_ (by with_reducible assumption))))
           · rw [Hc.out ⟨lo, hi'⟩ (by dsimp only; omega) (by dsimp only; omega)]; exact if_neg (by dsimp only; omega))
        | (refine RetX.mk (.ok ⟨lo, hi⟩) ?_ ?_ rfl
           · (repeat (first | (with_reducible exact Up.refl _) | (with_reducible assumption) | (with_reducible refine Up.alloc ?_ _) | (with_reducible refine Up.drew ?_) | ((with_reducible refine Up.set ?_ ?_ _); rotate_left; focus (first | omega | (simp; done) | (simp; omega))) | (with_reducible refine Up.drewN ?_ _) | (with_reducible refine Up.call ?_ (by with_reducible assumption))))
           · rw [Hc.out ⟨lo, hi⟩ (by dsimp only; omega) (by dsimp only; omega)]; exact if_neg (by dsimp only; omega))
end Go.Proofs.YtomfbhohaiffpaaDoor

namespace Go.Proofs.YtomfbhohaiffpaaDoor
open Go.RowKit

theorem RetX.val {α : Type} {enc : α → Value} {r : α} {w w' : World} {e : Ending} (h : RetX enc r w e w') : e = .returned (enc r) ∧ Up w w' := by
  obtain ⟨x, rfl, h1, h2⟩ := h
  exact ⟨h1, h2⟩
/-- A program's result, read open. -/
theorem spX {f : FuncId} {ar : Array Value} {w : World} {r : Except Nat Sp} (h : Calls Tryd.prog f ar w (RetX spR r w)) :
    Calls Tryd.prog f ar w fun e w' => e = .returned (.tuple #[.agg #[.int .i64 (got r).lo, .int .i64 (got r).hi], errV (eO r)]) ∧ Up w w' :=
  h.mono fun e w' h => by rw [← spR_open]; exact h.val
/-- A reference's result, read open. -/
theorem rfX {f : FuncId} {ar : Array Value} {w : World} {r : Except Nat Sp} (h : Calls Tryd.prog f ar w (RetX rfR r w)) :
    Calls Tryd.prog f ar w fun e w' => e = .returned (.tuple #[.agg #[.int .i64 (got r).lo, .int .i64 (got r).hi], .int .i64 (numO (eO r))]) ∧ Up w w' :=
  h.mono fun e w' h => by rw [← rfR_open]; exact h.val
theorem nmX {f : FuncId} {ar : Array Value} {w : World} {x : Option Nat} (h : Calls Tryd.prog f ar w (RetX numV x w)) :
    Calls Tryd.prog f ar w fun e w' => e = .returned (.int .i64 (numO x)) ∧ Up w w' := h.mono fun e w' h => h.val
theorem erX {f : FuncId} {ar : Array Value} {w : World} {x : Option Nat} (h : Calls Tryd.prog f ar w (RetX errV x w)) :
    Calls Tryd.prog f ar w fun e w' => e = .returned (errV x) ∧ Up w w' := h.mono fun e w' h => h.val
end Go.Proofs.YtomfbhohaiffpaaDoor
