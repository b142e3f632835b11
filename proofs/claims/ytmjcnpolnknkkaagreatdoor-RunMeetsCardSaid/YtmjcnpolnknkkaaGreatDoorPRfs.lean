/- Plain laws in the form in which the statements of polynomials ask them. The walks of the reference's spans: Big, Span, Two, fits, Alone, Zero, Add, Less, Times, By, Hull, Meet. Results read open: a span and an error, or a number, without a look at which it is. -/
import Derived.Test.YtmjcnpolnknkkaaGreatDoorPHas
import Derived.Test.YtmjcnpolnknkkaaGreatDoorPBox
import Derived.Test.YtmjcnpolnknkkaaGreatDoorPTold
set_option linter.unusedVariables false
set_option linter.unusedSimpArgs false
namespace Go.Proofs.YtmjcnpolnknkkaaGreatDoor

end Go.Proofs.YtmjcnpolnknkkaaGreatDoor

namespace Go.Proofs.YtmjcnpolnknkkaaGreatDoor
open Go.RowKit

def got (r : Except Nat Sp) : Sp := match r with
  | .ok s => s
  | .error _ => ⟨0, 0⟩
def eO {α : Type} (r : Except Nat α) : Option Nat := match r with
  | .ok _ => none
  | .error n => some n
theorem got_ok (s : Sp) : got (.ok s) = s := rfl
theorem got_error (n : Nat) : got (.error n) = ⟨0, 0⟩ := rfl
theorem eO_ok {α : Type} (s : α) : eO (.ok s : Except Nat α) = none := rfl
theorem eO_error {α : Type} (n : Nat) : eO (.error n : Except Nat α) = some n := rfl
/-- What a reference's function hands back: the span, and the number of the fault. -/
def rfR : Except Nat Sp → Value
  | .ok s => .tuple #[.agg #[.int .i64 s.lo, .int .i64 s.hi], .int .i64 0]
  | .error n => .tuple #[.agg #[.int .i64 0, .int .i64 0], .int .i64 n]
theorem rfR_ok (s : Sp) : rfR (.ok s) = .tuple #[.agg #[.int .i64 s.lo, .int .i64 s.hi], .int .i64 0] := rfl
theorem rfR_error (n : Nat) : rfR (.error n) = .tuple #[.agg #[.int .i64 0, .int .i64 0], .int .i64 n] := rfl
theorem rfR_open (r : Except Nat Sp) : rfR r = .tuple #[.agg #[.int .i64 (got r).lo, .int .i64 (got r).hi], .int .i64 (numO (eO r))] := by cases r <;> rfl
attribute [go_sem] rfR_ok rfR_error got_ok got_error eO_ok eO_error
def numV (x : Option Nat) : Value := .int .i64 (numO x)
theorem numV_none : numV none = .int .i64 0 := rfl
theorem numV_some (n : Nat) : numV (some n) = .int .i64 n := rfl
attribute [go_sem] numV_none numV_some

theorem sum_err {a b : Sp} {e : Nat} (h : sumF a b = .error e) : e = 4 := fits_err h
theorem rest_err {a b : Sp} {e : Nat} (h : restF a b = .error e) : e = 4 := fits_err h
theorem prod_err {a b : Sp} {e : Nat} (h : prodF a b = .error e) : e = 4 := fits_err h
theorem com_err {a b : Sp} {e : Nat} (h : comF a b = .error e) : e = 5 := by
  unfold comF at h
  split at h
  · injection h with h; exact h.symm
  · cases h

theorem rmay_any (n : Int) (w : World) :
    Calls Tryz.prog 8 #[.int .i64 n] w fun e w' => e = .returned (.bool (mayB n)) ∧ w = w' := by
  unfold mayB
  go_enter Tryz.func8, Tryz.ntmps8
  go_wp2
  all_goals go_ret
  all_goals simp [*]
  omega
theorem rbig_any (lo hi : Int) (w : World) :
    Calls Tryz.prog 80 #[.agg #[.int .i64 lo, .int .i64 hi]] w (RetX boolV (!mayB lo || !mayB hi) w) := by
  cases e1 : mayB lo <;> cases e2 : mayB hi
  all_goals
    have E1 := hid e1
    have E2 := hid e2
    clear e1 e2
    go_enter Tryz.func80, Tryz.ntmps80
    go_wp2_with (first
      | ((go_at_call 8; (with_reducible refine (rmay_any lo _).mono ?_); rintro e wq ⟨rfl, rfl⟩); rw [E1.out])
      | ((go_at_call 8; (with_reducible refine (rmay_any hi _).mono ?_); rintro e wq ⟨rfl, rfl⟩); rw [E2.out]))
    go_ret
    refine RetX.mk _ ?_ rfl rfl
    (repeat (first | (with_reducible exact Up.refl _) | (with_reducible assumption) | (with_reducible refine Up.alloc ?_ _) | (with_reducible refine Up.drew ?_) | ((with_reducible refine Up.set ?_ ?_ _); rotate_left; focus (first | omega | (simp; done) | (simp; omega))) | (with_reducible refine Up.drewN ?_ _) | (with_reducible refine Up.call ?_ (by with_reducible assumption))))
theorem rfits_any (lo hi : Int) (w : World) :
    Calls Tryz.prog 36 #[.agg #[.int .i64 lo, .int .i64 hi]] w (RetX rfR (fitsF ⟨lo, hi⟩) w) := by
  cases hb : (!mayB lo || !mayB hi) with
  | true =>
    have Hb := hid hb
    have Hc := hid (show fitsF ⟨lo, hi⟩ = .error 4 by
      unfold fitsF
      rw [if_neg]
      rintro ⟨h1, h2⟩
      dsimp only at h1 h2
      rw [mayB_true.2 h1, mayB_true.2 h2] at hb
      cases hb)
    clear hb
    go_enter Tryz.func36, Tryz.ntmps36
    go_wp2_with (first
      | ((go_at_call 80; refine (rbig_any _ _ _).mono ?_; rintro e w1 ⟨x, hx, rfl, hb1⟩); rw [Hb.out] at hx; subst hx; obtain ⟨hc1, hf1⟩ := bcell hb1; obtain ⟨_, _⟩ : w.heap.size < w1.heap.size ∧ w.heap.size + 1 < w1.heap.size := (by have hle := Up.le hb1; first | omega | (simp at hle; omega) | (simp at hle; done))))
    all_goals
      (refine bodyPost_res rfl ?_; simp only [results, Tryz.results36]; go_simp; refine resPost_ok ?_)
      refine RetX.mk (.error 4) ?_ Hc.out rfl
      (repeat (first | (with_reducible exact Up.refl _) | (with_reducible assumption) | (with_reducible refine Up.alloc ?_ _) | (with_reducible refine Up.drew ?_) | ((with_reducible refine Up.set ?_ ?_ _); rotate_left; focus (first | omega | (simp; done) | (simp; omega))) | (with_reducible refine Up.drewN ?_ _) | (with_reducible refine Up.call ?_ (by with_reducible assumption))))
  | false =>
    have Hb := hid hb
    have hm : M lo ∧ M hi := by
      simp at hb
      exact ⟨mayB_true.1 hb.1, mayB_true.1 hb.2⟩
    have Hc := hid (show fitsF ⟨lo, hi⟩ = .ok ⟨lo, hi⟩ by unfold fitsF; rw [if_pos hm])
    clear hb hm
    go_enter Tryz.func36, Tryz.ntmps36
    go_wp2_with (first
      | ((go_at_call 80; refine (rbig_any _ _ _).mono ?_; rintro e w1 ⟨x, hx, rfl, hb1⟩); rw [Hb.out] at hx; subst hx; obtain ⟨hc1, hf1⟩ := bcell hb1; obtain ⟨_, _⟩ : w.heap.size < w1.heap.size ∧ w.heap.size + 1 < w1.heap.size := (by have hle := Up.le hb1; first | omega | (simp at hle; omega) | (simp at hle; done))))
    all_goals
      (refine bodyPost_res rfl ?_; simp only [results, Tryz.results36]; go_simp; refine resPost_ok ?_)
      refine RetX.mk (.ok ⟨lo, hi⟩) ?_ Hc.out rfl
      (repeat (first | (with_reducible exact Up.refl _) | (with_reducible assumption) | (with_reducible refine Up.alloc ?_ _) | (with_reducible refine Up.drew ?_) | ((with_reducible refine Up.set ?_ ?_ _); rotate_left; focus (first | omega | (simp; done) | (simp; omega))) | (with_reducible refine Up.drewN ?_ _) | (with_reducible refine Up.call ?_ (by with_reducible assumption))))
theorem ralone_any (n : Int) (w : World) :
    Calls Tryz.prog 10 #[.int .i64 n] w (RetX spV ⟨n, n⟩ w) := by
  go_enter Tryz.func10, Tryz.ntmps10
  go_wp2
  all_goals
    (refine bodyPost_res rfl ?_; simp only [results, Tryz.results10]; go_simp; refine resPost_ok ?_)
    refine RetX.same ?_ rfl
    (repeat (first | (with_reducible exact Up.refl _) | (with_reducible assumption) | (with_reducible refine Up.alloc ?_ _) | (with_reducible refine Up.drew ?_) | ((with_reducible refine Up.set ?_ ?_ _); rotate_left; focus (first | omega | (simp; done) | (simp; omega))) | (with_reducible refine Up.drewN ?_ _) | (with_reducible refine Up.call ?_ (by with_reducible assumption))))
theorem rzero_any (lo hi : Int) (w : World) :
    Calls Tryz.prog 43 #[.agg #[.int .i64 lo, .int .i64 hi]] w (RetX boolV (zeroF ⟨lo, hi⟩) w) := by
  go_enter Tryz.func43, Tryz.ntmps43
  go_wp2
  all_goals
    go_ret
    refine RetX.mk _ ?_ rfl (by simp_all [zeroF, boolV]; try omega)
    (repeat (first | (with_reducible exact Up.refl _) | (with_reducible assumption) | (with_reducible refine Up.alloc ?_ _) | (with_reducible refine Up.drew ?_) | ((with_reducible refine Up.set ?_ ?_ _); rotate_left; focus (first | omega | (simp; done) | (simp; omega))) | (with_reducible refine Up.drewN ?_ _) | (with_reducible refine Up.call ?_ (by with_reducible assumption))))
theorem radd_any (lo hi lo' hi' : Int) (w : World) (h1 : M lo) (h2 : M hi) (h3 : M lo') (h4 : M hi') :
    Calls Tryz.prog 56 #[.agg #[.int .i64 lo, .int .i64 hi], .agg #[.int .i64 lo', .int .i64 hi']] w (RetX rfR (sumF ⟨lo, hi⟩ ⟨lo', hi'⟩) w) := by
  obtain ⟨_, _⟩ := h1; obtain ⟨_, _⟩ := h2; obtain ⟨_, _⟩ := h3; obtain ⟨_, _⟩ := h4
  go_enter Tryz.func56, Tryz.ntmps56
  go_wp2_with ((go_at_call 36; refine (rfits_any _ _ _).mono ?_; rintro e w' ⟨(n|s), hx, rfl, hb⟩) <;> obtain ⟨hc, hf⟩ := bcell hb)
  all_goals
    (refine bodyPost_res rfl ?_; simp only [results, Tryz.results56]; go_simp; refine resPost_ok ?_)
    first
      | refine RetX.mk (.error n) ?_ hx rfl
      | refine RetX.mk (.ok s) ?_ hx rfl
    (repeat (first | (with_reducible exact Up.refl _) | (with_reducible assumption) | (with_reducible refine Up.alloc ?_ _) | (with_reducible refine Up.drew ?_) | ((with_reducible refine Up.set ?_ ?_ _); rotate_left; focus (first | omega | (simp; done) | (simp; omega))) | (with_reducible refine Up.drewN ?_ _) | (with_reducible refine Up.call ?_ (by with_reducible assumption))))
theorem rless_any (lo hi lo' hi' : Int) (w : World) (h1 : M lo) (h2 : M hi) (h3 : M lo') (h4 : M hi') :
    Calls Tryz.prog 57 #[.agg #[.int .i64 lo, .int .i64 hi], .agg #[.int .i64 lo', .int .i64 hi']] w (RetX rfR (restF ⟨lo, hi⟩ ⟨lo', hi'⟩) w) := by
  obtain ⟨_, _⟩ := h1; obtain ⟨_, _⟩ := h2; obtain ⟨_, _⟩ := h3; obtain ⟨_, _⟩ := h4
  go_enter Tryz.func57, Tryz.ntmps57
  go_wp2_with ((go_at_call 36; refine (rfits_any _ _ _).mono ?_; rintro e w' ⟨(n|s), hx, rfl, hb⟩) <;> obtain ⟨hc, hf⟩ := bcell hb)
  all_goals
    (refine bodyPost_res rfl ?_; simp only [results, Tryz.results57]; go_simp; refine resPost_ok ?_)
    first
      | refine RetX.mk (.error n) ?_ hx rfl
      | refine RetX.mk (.ok s) ?_ hx rfl
    (repeat (first | (with_reducible exact Up.refl _) | (with_reducible assumption) | (with_reducible refine Up.alloc ?_ _) | (with_reducible refine Up.drew ?_) | ((with_reducible refine Up.set ?_ ?_ _); rotate_left; focus (first | omega | (simp; done) | (simp; omega))) | (with_reducible refine Up.drewN ?_ _) | (with_reducible refine Up.call ?_ (by with_reducible assumption))))
theorem rhull_any (lo hi lo' hi' : Int) (w : World) :
    Calls Tryz.prog 59 #[.agg #[.int .i64 lo, .int .i64 hi], .agg #[.int .i64 lo', .int .i64 hi']] w (RetX spV (bothF ⟨lo, hi⟩ ⟨lo', hi'⟩) w) := by
  rcases Int.lt_or_le lo' lo with q1 | q1 <;> rcases Int.lt_or_le hi hi' with q2 | q2
  all_goals
    go_enter Tryz.func59, Tryz.ntmps59
    go_wp2
    all_goals
      (refine bodyPost_res rfl ?_; simp only [results, Tryz.results59]; go_simp; refine resPost_ok ?_)
      refine RetX.same ?_ (by simp [bothF, spV]; omega)
      (repeat (first | (with_reducible exact Up.refl _) | (with_reducible assumption) | (with_reducible refine Up.alloc ?_ _) | (with_reducible refine Up.drew ?_) | ((with_reducible refine Up.set ?_ ?_ _); rotate_left; focus (first | omega | (simp; done) | (simp; omega))) | (with_reducible refine Up.drewN ?_ _) | (with_reducible refine Up.call ?_ (by with_reducible assumption))))
theorem rmeet_any (lo hi lo' hi' : Int) (w : World) :
    Calls Tryz.prog 58 #[.agg #[.int .i64 lo, .int .i64 hi], .agg #[.int .i64 lo', .int .i64 hi']] w (RetX rfR (comF ⟨lo, hi⟩ ⟨lo', hi'⟩) w) := by
  have Hc := hid (show ∀ s : Sp, s.lo = max lo lo' → s.hi = min hi hi' → comF ⟨lo, hi⟩ ⟨lo', hi'⟩ = if s.hi < s.lo then .error 5 else .ok s from by
    intro s h1 h2
    cases s
    dsimp only at h1 h2
    subst h1 h2
    rfl)
  rcases Int.lt_or_le lo lo' with q1 | q1 <;> rcases Int.lt_or_le hi' hi with q2 | q2
  all_goals
    go_enter Tryz.func58, Tryz.ntmps58
    go_wp2
    all_goals
      (refine bodyPost_res rfl ?_; simp only [results, Tryz.results58]; go_simp; refine resPost_ok ?_)
      first
        | (refine RetX.mk (.error 5) ?_ ?_ rfl
           · (repeat (first | (with_reducible exact Up.refl _) | (with_reducible assumption) | (with_reducible refine Up.alloc ?_ _) | (with_reducible refine Up.drew ?_) | ((with_reducible refine Up.set ?_ ?_ _); rotate_left; focus (first | omega | (simp; done) | (simp; omega))) | (with_reducible refine Up.drewN ?_ _) | (with_reducible refine Up.call ?_ (by with_reducible assumption))))
           · first
               | (rw [Hc.out ⟨lo', hi'⟩ (by dsimp only; omega) (by dsimp only; omega)]; exact if_pos (by assumption))
               | (rw [Hc.out ⟨lo', hi⟩ (by dsimp only; omega) (by dsimp only; omega)]; exact if_pos (by assumption))
               | (rw [Hc.out ⟨lo, hi'⟩ (by dsimp only; omega) (by dsimp only; omega)]; exact if_pos (by assumption))
               | (rw [Hc.out ⟨lo, hi⟩ (by dsimp only; omega) (by dsimp only; omega)]; exact if_pos (by assumption)))
        | (refine RetX.mk (.ok ⟨lo', hi'⟩) ?_ ?_ rfl
           · (repeat (first | (with_reducible exact Up.refl _) | (with_reducible assumption) | (with_reducible refine Up.alloc ?_ _) | (with_reducible refine Up.drew ?_) | ((with_reducible refine Up.set ?_ ?_ _); rotate_left; focus (first | omega | (simp; done) | (simp; omega))) | (with_reducible refine Up.drewN ?_ _) | (with_reducible refine Up.call ?_ (by with_reducible assumption))))
           · rw [Hc.out ⟨lo', hi'⟩ (by dsimp only; omega) (by dsimp only; omega)]; exact if_neg (by dsimp only; omega))
        | (refine RetX.mk (.ok ⟨lo', hi⟩) ?_ ?_ rfl
           · (repeat (first | (with_reducible exact Up.refl _) | (with_reducible assumption) | (with_reducible refine Up.alloc ?_ _) | (with_reducible refine Up.drew ?_) | ((with_reducible refine Up.set ?_ ?_ _); rotate_left; focus (first | omega | (simp; done) | (simp; omega))) | (with_reducible refine Up.drewN ?_ _) | (with_reducible refine Up.call ?_ (by with_reducible assumption))))
           · rw [Hc.out ⟨lo', hi⟩ (by dsimp only; omega) (by dsimp only; omega)]; exact if_neg (by dsimp only; omega))
        | (refine RetX.mk (.ok ⟨lo, hi'⟩) ?_ ?_ rfl
           · (repeat (first | (with_reducible exact Up.refl _) | (with_reducible assumption) | (with_reducible refine Up.alloc ?_ _) | (with_reducible refine Up.drew ?_) | ((with_reducible refine Up.set ?_ ?_ _); rotate_left; focus (first | omega | (simp; done) | (simp; omega))) | (with_reducible refine Up.drewN ?_ _) | (with_reducible refine Up.call ?_ (by with_reducible assumption))))
           · rw [Hc.out ⟨lo, hi'⟩ (by dsimp only; omega) (by dsimp only; omega)]; exact if_neg (by dsimp only; omega))
        | (refine RetX.mk (.ok ⟨lo, hi⟩) ?_ ?_ rfl
           · (repeat (first | (with_reducible exact Up.refl _) | (with_reducible assumption) | (with_reducible refine Up.alloc ?_ _) | (with_reducible refine Up.drew ?_) | ((with_reducible refine Up.set ?_ ?_ _); rotate_left; focus (first | omega | (simp; done) | (simp; omega))) | (with_reducible refine Up.drewN ?_ _) | (with_reducible refine Up.call ?_ (by with_reducible assumption))))
           · rw [Hc.out ⟨lo, hi⟩ (by dsimp only; omega) (by dsimp only; omega)]; exact if_neg (by dsimp only; omega))
end Go.Proofs.YtmjcnpolnknkkaaGreatDoor

namespace Go.Proofs.YtmjcnpolnknkkaaGreatDoor
open Go.RowKit

theorem RetX.val {α : Type} {enc : α → Value} {r : α} {w w' : World} {e : Ending} (h : RetX enc r w e w') : e = .returned (enc r) ∧ Up w w' := by
  obtain ⟨x, rfl, h1, h2⟩ := h
  exact ⟨h1, h2⟩
end Go.Proofs.YtmjcnpolnknkkaaGreatDoor
